/-
  ImageSpoiltSaid: part Pao of its proof.
-/
import Derived.Test.YtchnpgddpaonhaaPan
set_option linter.unusedVariables false
set_option linter.unusedSimpArgs false
set_option maxRecDepth 100000
section
namespace Go.Am
section
variable{P:Program}{E:m6}{R:Fz}{S:b7}{H0:AHeap}
theorem a1S{x:D}{v:AV}(h:Rp E R x v){y n:Nat}(hb:E3 x y=some n):a0j v y=some n∧n≤y:=by
 cases x<;>simp only[E3]at hb<;>try (cases hb;done)
 simp only[Rp]at h
 subst h
 split at hb
 ·rename_i hn
  cases hb
  exact⟨by simp only[a0j];rw[if_pos hn],by omega⟩
 ·cases hb
def RpO(E:m6)(R:Fz):Option D→Option AV→Prop
 |none,none=>True
 |some d,some v=>Rp E R d v
 |_,_=>False
theorem a7Y{lo hi mx:Option D}{vlo vhi vmx:Option AV}(h1:RpO E R lo vlo)(h2:RpO E R hi vhi)(h3:RpO E R mx vmx){len cap cap' l h m:Nat}(hlc:len≤cap)
  (e:N5 len cap lo hi mx=some (l,h,m)) (hc:cap≤cap') (hx:mx=none→hi=none∨True):
  ∃m',a3T len cap' vlo vhi vmx=some (l,h,m')∧l≤h∧h≤cap∧h≤m'∧(m'=m∨(mx=none∧m'=cap'∧m=cap)):=by
 unfold N5 at e
 cases ht:c4E cap mx with
 |none=>rw[ht]at e;cases e
 |some m0=>
  rw[ht,Option.bind_some]at e
  cases hh:b1n len m0 hi mx with
  |none=>rw[hh]at e;cases e
  |some h0=>
   rw[hh,Option.bind_some]at e
   cases hl:b8t h0 lo with
   |none=>rw[hl]at e;cases e
   |some l0=>
    rw[hl,Option.bind_some]at e
    cases e
    have low:c7w h vlo=some l∧l≤h:=by
     cases lo with
     |none=>
      cases vlo with
      |none=>cases hl;exact⟨rfl,Nat.zero_le _⟩
      |some v=>exact h1.elim
     |some d=>
      cases vlo with
      |none=>exact h1.elim
      |some v=>exact a1S h1 hl
    cases mx with
    |none=>
     cases vmx with
     |some v=>exact h3.elim
     |none=>
      cases ht
      have high:b3q len cap' vhi none=some h∧h≤cap:=by
       cases hi with
       |none=>
        cases vhi with
        |some v=>exact h2.elim
        |none=>cases hh;exact⟨rfl,hlc⟩
       |some d=>
        cases vhi with
        |none=>exact h2.elim
        |some v=>
         have hh':E3 d cap=some h:=hh
         obtain⟨a,b⟩:=a1S h2 hh'
         refine⟨?_,b⟩
         show a0j v cap'=some h
         cases v<;>simp only[a0j]at a ⊢ <;>try (cases a;done)
         split at a
         ·cases a;rw[if_pos (by omega)]
         ·cases a
      refine⟨cap', ?_,low.2,high.2,by omega, .inr ⟨rfl,rfl,rfl⟩⟩
      simp only[a3T,c5S,Option.bind_some,high.1,low.1]
    |some dm=>
     cases vmx with
     |none=>exact h3.elim
     |some vm=>
      have ht':E3 dm cap=some m:=ht
      obtain⟨a,b⟩:=a1S h3 ht'
      have a':a0j vm cap'=some m:=by
       cases vm<;>simp only[a0j]at a ⊢ <;>try (cases a;done)
       split at a
       ·cases a;rw[if_pos (by omega)]
       ·cases a
      cases hi with
      |none=>cases hh
      |some d=>
       cases vhi with
       |none=>exact h2.elim
       |some v=>
        obtain⟨c,d'⟩:=a1S h2 (show E3 d m=some h from hh)
        refine⟨m, ?_,low.2,by omega,d', .inl rfl⟩
        show(c5S cap' (some vm)).bind _=_
        rw[show c5S cap' (some vm)=some m from a',Option.bind_some,show b3q len m (some v) (some vm)=some h from c,Option.bind_some,low.1,Option.bind_some]
theorem c0f{lo hi mx:Option D}{len cap l h m:Nat}(e:N5 len cap lo hi mx=some (l,h,m)):m≤cap:=by
 unfold N5 at e
 cases ht:c4E cap mx with
 |none=>rw[ht]at e;cases e
 |some m0=>
  rw[ht,Option.bind_some]at e
  have hm:m0≤cap:=by
   cases mx with
   |none=>cases ht;exact Nat.le_refl _
   |some d=>
    replace ht:E3 d cap=some m0:=ht
    unfold E3 at ht
    split at ht
    ·split at ht
     ·cases ht;omega
     ·cases ht
    ·cases ht
  cases hh:b1n len m0 hi mx with
  |none=>rw[hh]at e;cases e
  |some h0=>
   rw[hh,Option.bind_some]at e
   cases hl:b8t h0 lo with
   |none=>rw[hl]at e;cases e
   |some l0=>rw[hl,Option.bind_some]at e;cases e;exact hm
theorem b6x{rows:List (List D)}{sz:Nat}(h:∀row∈rows,row.length=sz){all:List AV}{j:Nat}(hr:a2u E R rows ((all.drop j).take (rows.length*sz)))(hs:((all.drop j).take (rows.length*sz)).all w8=true)(l n:Nat)(hn:l+n≤rows.length):
  a2u E R ((rows.drop l).take n) ((all.drop (j+l*sz)).take (((rows.drop l).take n).length*sz))∧((all.drop (j+l*sz)).take (((rows.drop l).take n).length*sz)).all w8=true:=by
 have hlen:((rows.drop l).take n).length=n:=by rw[List.length_take,List.length_drop];omega
 have hle:l*sz+n*sz≤rows.length*sz:=by rw[←Nat.add_mul];exact Nat.mul_le_mul_right _ hn
 have e:(all.drop (j+l*sz)).take (n*sz)=(((all.drop j).take (rows.length*sz)).drop (l*sz)).take (n*sz):=a8p hle
 have hd:∀row∈rows.drop l,row.length=sz:=fun row hx=>h row (List.mem_of_mem_drop hx)
 rw[hlen,e]
 refine⟨?_,O9 (a1U hs _) _⟩
 rw[P4, ←a3J hd, ←a5k h]
 exact((P4.1 hr).drop _).take _
theorem c9e{rows:List (List D)}{sz:Nat}(h:∀row∈rows,row.length=sz){o:Id}{all:List AV}{j z:Nat}(ho:rdE E R o=some all)(hf:d2c o z sz)(hr:a2u E R rows ((all.drop j).take (rows.length*sz)))(hs:((all.drop j).take (rows.length*sz)).all w8=true)
  {l hh m m':Nat} (h1:l≤hh) (h2:hh≤m) (h3:m≤rows.length) (h4:m≤m') (ex:Bool):
  Rp E R (b8C ((rows.drop l).take (hh - l)) ((rows.drop hh).take (m - hh)) sz) (.slc o (j+l*sz) (hh - l) (m' - l) ex z):=by
 have hl':((rows.drop l).take (hh - l)).length=hh - l:=by rw[List.length_take,List.length_drop];omega
 have hm':((rows.drop hh).take (m - hh)).length=m - hh:=by rw[List.length_take,List.length_drop];omega
 have hrl:∀row∈(rows.drop l).take (hh - l),row.length=sz:=fun row hr=>h row (List.mem_of_mem_drop (List.mem_of_mem_take hr))
 have hrm:∀row∈(rows.drop hh).take (m - hh),row.length=sz:=fun row hr=>h row (List.mem_of_mem_drop (List.mem_of_mem_take hr))
 have p1:=b6x h hr hs l (hh - l) (by omega)
 have p2:=b6x h hr hs hh (m - hh) (by omega)
 have p3:=b6x h hr hs l (m - l) (by omega)
 unfold b8C
 split
 ·simp only[Rp]
  exact .inr ⟨o,j+l*sz,m' - l,ex,z,by rw[hl'],hf,by rw[hl'];omega,hrl, .inr ⟨all,ho,p1⟩⟩
 ·skip
  simp only[Rp]
  refine⟨o,j+l*sz,m' - l,ex,z,all,by rw[hl'],hf,by rw[hl',hm'];omega,hrl,hrm, .inl ho,p1.1, ?_, ?_⟩
  ·have e:j+l*sz+((rows.drop l).take (hh - l)).length*sz=j+hh*sz:=by rw[hl',Nat.add_assoc, ←Nat.add_mul];congr 2;omega
   rw[e];exact p2.1
  ·have e:((rows.drop l).take (hh - l)).length+((rows.drop hh).take (m - hh)).length=((rows.drop l).take (m - l)).length:=by
    rw[hl',hm',List.length_take,List.length_drop];omega
   rw[e];exact p3.2
theorem d1d{rows more:List (List D)}{sz:Nat}{all:List AV}{j:Nat}(h1:a2u E R rows ((all.drop j).take (rows.length*sz)))(h2:a2u E R more ((all.drop (j+rows.length*sz)).take (more.length*sz))):a2u E R (rows++more) ((all.drop j).take ((rows++more).length*sz)):=by
 rw[P4]at*
 rw[List.flatten_append,List.length_append,Nat.add_mul,List.take_add]
 refine h1.append ?_
 rw[List.drop_drop]
 exact h2
theorem d1v{t:TypeId}{x:D}{v:AV}(hx:Rp E R x v){lo hi mx:Option D}{vlo vhi vmx:Option AV}(h1:RpO E R lo vlo)(h2:RpO E R hi vhi)(h3:RpO E R mx vmx){d:D}(h:c7J P t x lo hi mx=some d):
  ∃y,Rp E R d y∧∀H,a2e P H t v vlo vhi vmx=some y:=by
 unfold c7J at h
 split at h
 ·rename_i hu
  cases mx with
  |some m=>cases h
  |none=>
   cases vmx with
   |some m=>exact h3.elim
   |none=>
    cases x<;>simp only[b9H]at h<;>try (cases h;done)
    rename_i s
    simp only[Rp]at hx
    subst hx
    cases hb:N5 s.length s.length lo hi none with
    |none=>rw[hb]at h;cases h
    |some r=>
     obtain⟨l,hh,m⟩:=r
     rw[hb]at h
     cases h
     obtain⟨m',e,_⟩:=a7Y h1 h2 h3 (Nat.le_refl _) hb (Nat.le_refl _) (fun _=> .inr trivial)
     refine⟨.str ((s.drop l).take (hh - l)),by simp only[Rp],fun H=> ?_⟩
     simp only[a2e,hu,e,Option.isSome_none,Bool.false_eq_true,if_false,Option.bind_eq_bind,Option.bind_some]
 ·rename_i el hu
  split at h
  ·rename_i sz hsz
   cases x<;>simp only[Q1]at h<;>try (cases h;done)
   ·
    simp only[Rp]at hx
    subst hx
    cases hb:N5 0 0 lo hi mx with
    |none=>rw[hb]at h;cases h
    |some r=>
     obtain⟨l,hh,m⟩:=r
     rw[hb]at h
     cases h
     obtain⟨m',e,_⟩:=a7Y h1 h2 h3 (Nat.le_refl _) hb (Nat.le_refl _) (fun _=> .inr trivial)
     refine⟨.nilSlc,by simp only[Rp],fun H=> ?_⟩
     simp only[a2e,hu,hsz,e,Option.bind_eq_bind,Option.bind_some]
   ·
    rename_i rows z
    split at h
    ·rename_i hz
     subst hz
     simp only[Rp]at hx
     rcases hx with ⟨rfl,rfl⟩|⟨o,j,cap,ex,z',rfl,f1,f2,f3,f4⟩
     ·cases hb:N5 0 0 lo hi mx with
      |none=>simp only[List.length_nil,hb]at h;cases h
      |some r=>
       obtain⟨l,hh,m⟩:=r
       simp only[List.length_nil,hb,Option.map_some,List.drop_nil,List.take_nil,b8C]at h
       cases h
       obtain⟨m',e,_⟩:=a7Y h1 h2 h3 (Nat.le_refl _) hb (Nat.le_refl _) (fun _=> .inr trivial)
       refine⟨.nilSlc,by simp only[Rp];exact .inl ⟨by trivial,by trivial⟩,fun H=> ?_⟩
       simp only[a2e,hu,hsz,e,Option.bind_eq_bind,Option.bind_some]
     cases hb:N5 rows.length rows.length lo hi mx with
     |none=>rw[hb]at h;cases h
     |some r=>
      obtain⟨l,hh,m⟩:=r
      rw[hb]at h
      cases h
      obtain⟨m',e,g1,g2,g3,g4⟩:=a7Y h1 h2 h3 (Nat.le_refl _) hb f2 (fun _=> .inr trivial)
      have hf:a6i o z' z=true:=by
       cases o with
       |old b=>rfl
       |new k=>have:z'=z:=f1;simp[a6i,this]
      have hm:m≤rows.length∧hh≤m∧m≤m':=by
       have:=c0f hb
       rcases g4 with g4|⟨_,g4,g5⟩<;>omega
      refine⟨.slc o (j+l*z) (hh - l) (m' - l) (ex||vmx.isSome) z', ?_,fun H=> ?_⟩
      ·rcases f4 with rfl|⟨all,k1,k2,k3⟩
       ·simp only[List.drop_nil,List.take_nil,b8C,Rp]
        have:hh=0:=by simpa using g2
        exact .inr ⟨o,j+l*z,m' - l,ex||vmx.isSome,z',by simp[this],f1,Nat.zero_le _,fun row hr=>(by cases hr), .inl (by trivial)⟩
       ·exact c9e f3 k1 f1 k2 k3 g1 hm.2.1 hm.1 hm.2.2 _
      ·simp only[a2e,hu,hsz,e,Option.bind_eq_bind,Option.bind_some,hf,if_true]
    ·cases h
   ·
    rename_i rows more z
    split at h
    ·rename_i hz
     subst hz
     simp only[Rp]at hx
     obtain⟨o,j,cap,ex,z',all,rfl,f1,f2,f3,f4,f5,f6,f7,f8⟩:=hx
     cases hb:N5 rows.length (rows++more).length lo hi mx with
     |none=>rw[hb]at h;cases h
     |some r=>
      obtain⟨l,hh,m⟩:=r
      rw[hb]at h
      cases h
      obtain⟨m',e,g1,g2,g3,g4⟩:=a7Y h1 h2 h3 (cap:=(rows++more).length) (by rw[List.length_append];omega) hb (cap':=cap) (by rw[List.length_append];omega) (fun _=> .inr trivial)
      have hf:a6i o z' z=true:=by
       cases o with
       |old b=>rfl
       |new k=>have:z'=z:=f1;simp[a6i,this]
      have hm:m≤(rows++more).length∧hh≤m∧m≤m':=by
       have:=c0f hb
       rw[List.length_append]at*
       rcases g4 with g4|⟨_,g4,g5⟩<;>omega
      refine⟨.slc o (j+l*z) (hh - l) (m' - l) (ex||vmx.isSome) z', ?_,fun H=> ?_⟩
      ·rcases f5 with f5|⟨rfl,rfl⟩
       rotate_left
       ·simp only[List.append_nil,List.drop_nil,List.take_nil,List.length_nil]at hm ⊢
        show Rp E R (.lst [] z) _
        simp only[Rp]
        have e0:hh - l=0:=by omega
        exact .inr ⟨o,j+l*z,m' - l,ex||vmx.isSome,z',by rw[e0];rfl,f1,Nat.zero_le _,fun row hr=>(by cases hr), .inl trivial⟩
       refine c9e (rows:=rows++more) (fun row hr=>(List.mem_append.1 hr).elim (f3 row) (f4 row)) f5 f1 (d1d f6 f7) ?_ g1 hm.2.1 hm.1 hm.2.2 _
       rw[List.length_append];exact f8
      ·simp only[a2e,hu,hsz,e,Option.bind_eq_bind,Option.bind_some,hf,if_true]
    ·cases h
   ·
    rename_i k i len cap ex z
    split at h
    ·rename_i hz
     subst hz
     simp only[Rp]at hx
     subst hx
     cases hb:N5 len cap lo hi mx with
     |none=>rw[hb]at h;cases h
     |some r=>
      obtain⟨l,hh,m⟩:=r
      rw[hb]at h
      cases h
      have key:a3T len cap vlo vhi vmx=some (l,hh,m)∧(mx.isSome=vmx.isSome):=by
       refine⟨?_, ?_⟩
       ·unfold N5 at hb
        unfold a3T
        cases mx with
        |none=>
         cases vmx with
         |some v=>exact h3.elim
         |none=>
          rw[show c4E cap none=some cap from rfl,Option.bind_some]at hb
          rw[show c5S cap none=some cap from rfl,Option.bind_some]
          cases hi with
          |none=>
           cases vhi with
           |some v=>exact h2.elim
           |none=>
            rw[show b1n len cap none none=some len from rfl,Option.bind_some]at hb
            rw[show b3q len cap none none=some len from rfl,Option.bind_some]
            cases lo with
            |none=>
             cases vlo with
             |some v=>exact h1.elim
             |none=>exact hb
            |some dl=>
             cases vlo with
             |none=>exact h1.elim
             |some v=>
              cases hq:E3 dl len with
              |none=>rw[show b8t len (some dl)=E3 dl len from rfl,hq]at hb;cases hb
              |some q=>
               rw[show b8t len (some dl)=E3 dl len from rfl,hq]at hb
               rw[show c7w len (some v)=a0j v len from rfl,(a1S h1 hq).1]
               exact hb
          |some dh=>
           cases vhi with
           |none=>exact h2.elim
           |some vh=>
            cases hq:E3 dh cap with
            |none=>rw[show b1n len cap (some dh) none=E3 dh cap from rfl,hq]at hb;cases hb
            |some q=>
             rw[show b1n len cap (some dh) none=E3 dh cap from rfl,hq,Option.bind_some]at hb
             rw[show b3q len cap (some vh) none=a0j vh cap from rfl,(a1S h2 hq).1,Option.bind_some]
             cases lo with
             |none=>
              cases vlo with
              |some v=>exact h1.elim
              |none=>exact hb
             |some dl=>
              cases vlo with
              |none=>exact h1.elim
              |some v=>
               cases hq2:E3 dl q with
               |none=>rw[show b8t q (some dl)=E3 dl q from rfl,hq2]at hb;cases hb
               |some q2=>
                rw[show b8t q (some dl)=E3 dl q from rfl,hq2]at hb
                rw[show c7w q (some v)=a0j v q from rfl,(a1S h1 hq2).1]
                exact hb
        |some dm=>
         cases vmx with
         |none=>exact h3.elim
         |some vm=>
          cases hqm:E3 dm cap with
          |none=>rw[show c4E cap (some dm)=E3 dm cap from rfl,hqm]at hb;cases hb
          |some qm=>
           rw[show c4E cap (some dm)=E3 dm cap from rfl,hqm,Option.bind_some]at hb
           rw[show c5S cap (some vm)=a0j vm cap from rfl,(a1S h3 hqm).1,Option.bind_some]
           cases hi with
           |none=>cases hb
           |some dh=>
            cases vhi with
            |none=>exact h2.elim
            |some vh=>
             cases hq:E3 dh qm with
             |none=>rw[show b1n len qm (some dh) (some dm)=E3 dh qm from rfl,hq]at hb;cases hb
             |some q=>
              rw[show b1n len qm (some dh) (some dm)=E3 dh qm from rfl,hq,Option.bind_some]at hb
              rw[show b3q len qm (some vh) (some vm)=a0j vh qm from rfl,(a1S h2 hq).1,Option.bind_some]
              cases lo with
              |none=>
               cases vlo with
               |some v=>exact h1.elim
               |none=>exact hb
              |some dl=>
               cases vlo with
               |none=>exact h1.elim
               |some v=>
                cases hq2:E3 dl q with
                |none=>rw[show b8t q (some dl)=E3 dl q from rfl,hq2]at hb;cases hb
                |some q2=>
                 rw[show b8t q (some dl)=E3 dl q from rfl,hq2]at hb
                 rw[show c7w q (some v)=a0j v q from rfl,(a1S h1 hq2).1]
                 exact hb
       ·cases mx<;>cases vmx<;>first|rfl|exact h3.elim
      refine⟨.slc (.new k) (i*z+l*z) (hh - l) (m - l) (ex||vmx.isSome) z, ?_,fun H=> ?_⟩
      ·simp only[Rp]
       rw[key.2,Nat.add_mul]
      ·simp only[a2e,hu,hsz,key.1,Option.bind_eq_bind,Option.bind_some,a6i,beq_self_eq_true,if_true]
    ·cases h
  ·cases h
 ·cases h
theorem d0L{x:D}{v:AV}(hx:Rp E R x v){off:Nat}{d:D}(h:m8 off x=some d):∃o i,v= .ptr o i∧Rp E R d (.ptr o (i+off)):=by
 cases x<;>simp only[m8]at h<;>try (cases h;done)
 all_goals
  cases h
  simp only[Rp]at hx ⊢
 ·subst hx;exact⟨_,_,rfl,rfl⟩
 ·subst hx;exact⟨_,_,rfl,by rw[Nat.add_assoc]⟩
 ·obtain⟨o,j,all,rfl,e2,e3⟩:=hx
  exact⟨_,_,rfl,o,j,all,by rw[Nat.add_assoc],e2,e3⟩
theorem c8x{s:TypeId}{x:D}{v:AV}(hx:Rp E R x v){f:Nat}{d:D}(h:c1k P s x f=some d):∃y,Rp E R d y∧a5w P s v f=some y:=by
 unfold c1k at h
 cases hf:a4X P s f with
 |none=>rw[hf]at h;cases h
 |some fl=>
  simp only[hf]at h
  split at h
  ·rename_i n hs
   obtain⟨o,i,rfl,h1⟩:=d0L hx h
   refine⟨_,h1, ?_⟩
   simp only[a5w,hf,hs,Option.bind_eq_bind,Option.bind_some,Option.isSome_some,true_and]
   rw[if_pos (by simp)]
  ·cases h
theorem c8E{t:TypeId}{x:D}{v:AV}(hx:Rp E R x v){off:Nat}{d:D}(h:c6z P t off x=some d):∃cs y,v= .agg cs∧Rp E R d y∧b3z P t cs off=some y:=by
 unfold c6z at h
 cases hg:a8F P t with
 |none=>rw[hg]at h;cases h
 |some b=>
  simp only[hg]at h
  cases b with
  |true=>
   cases hs:D7 P t with
   |none=>rw[hs]at h;cases h
   |some n=>
    simp only[hs]at h
    cases x<;>simp only[c4J]at h<;>try (cases h;done)
    cases h
    simp only[Rp]at hx
    obtain⟨vs,rfl,h1,h2⟩:=hx
    refine⟨vs, .agg ((vs.drop off).take n),rfl, ?_,by simp only[b3z,hg,hs,Option.pure_def,Option.bind_eq_bind,Option.bind_some,if_true]⟩
    simp only[Rp]
    exact⟨_,rfl,(h1.drop off).take n,O9 (a1U h2 off) n⟩
  |false=>
   simp only at h
   cases x<;>simp only[c4L]at h<;>try (cases h;done)
   simp only[Rp]at hx
   obtain⟨vs,rfl,h1,h2⟩:=hx
   obtain⟨y,e1,e2⟩:=a5h h1 h
   exact⟨vs,y,rfl,e2,by simp only[b3z,hg,Option.bind_eq_bind,Option.bind_some,Bool.false_eq_true,if_false,e1]⟩
theorem d1C{s:TypeId}{x:D}{v:AV}(hx:Rp E R x v){f:Nat}{d:D}(h:c7Q P s x f=some d):∃y,Rp E R d y∧b3J P s v f=some y:=by
 unfold c7Q at h
 cases hf:a4X P s f with
 |none=>rw[hf]at h;cases h
 |some fl=>
  simp only[hf]at h
  obtain⟨cs,y,rfl,h1,h2⟩:=c8E hx h
  exact⟨y,h1,by simp only[b3J,hf,Option.bind_eq_bind,Option.bind_some,h2]⟩
theorem c7f{t:TypeId}{x ix:D}{v vi:AV}(hx:Rp E R x v)(hi:Rp E R ix vi){d:D}(h:c0Q P t x ix=some d):∃y,Rp E R d y∧a1N P t v vi=some y:=by
 unfold c0Q at h
 split at h
 ·rename_i e hu
  split at h
  ·rename_i sz hs
   cases ix<;>simp only[A7]at h<;>try (cases h;done)
   rename_i k n
   simp only[Rp]at hi
   subst hi
   cases x<;>simp only at h<;>try (cases h;done)
   ·rename_i rows z
    split at h
    ·rename_i hz
     obtain⟨rfl,h0⟩:=hz
     split at h
     ·rename_i row hrow
      cases h
      simp only[Rp]at hx
      rcases hx with ⟨rfl,_⟩|⟨o,j,cap,ex,z',rfl,f1,f2,f3,f4⟩
      ·cases hrow
      have hlt:=(List.getElem?_eq_some_iff.1 hrow).1
      have hrl:=f3 row (List.mem_of_getElem? hrow)
      rcases f4 with rfl|⟨all,k1,k2,k3⟩
      ·cases hrow
      refine⟨.ptr o (j+n.toNat*z), ?_, ?_⟩
      ·simp only[Rp]
       refine⟨o,j+n.toNat*z,all,rfl,k1, ?_⟩
       have hle:n.toNat*z+z≤rows.length*z:=by rw[←Nat.succ_mul];exact Nat.mul_le_mul_right _ hlt
       rw[hrl,a8p (L:=rows.length*z) hle]
       refine⟨?_,O9 (a1U k3 _) _⟩
       have:=((P4.1 k2).drop (n.toNat*z)).take z
       rw[b2k f3 hrow]at this
       exact this
      ·simp only[a1N,a0I,hu,hs,Option.bind_eq_bind,Option.bind_some]
       rw[if_pos (by omega)]
     ·cases h
    ·cases h
   ·rename_i rows more z
    split at h
    ·rename_i hz
     obtain⟨rfl,h0⟩:=hz
     split at h
     ·rename_i row hrow
      cases h
      simp only[Rp]at hx
      obtain⟨o,j,cap,ex,z',all,rfl,f1,f2,f3,f4,k1,k2,f7,k3⟩:=hx
      have hlt:=(List.getElem?_eq_some_iff.1 hrow).1
      have k1:=k1.resolve_right fun h=>by rw[h.1]at hlt;simp at hlt
      have hrl:=f3 row (List.mem_of_getElem? hrow)
      refine⟨.ptr o (j+n.toNat*z), ?_, ?_⟩
      ·simp only[Rp]
       refine⟨o,j+n.toNat*z,all,rfl,k1, ?_⟩
       have hle:n.toNat*z+z≤rows.length*z:=by rw[←Nat.succ_mul];exact Nat.mul_le_mul_right _ hlt
       have hle':rows.length*z≤(rows.length+more.length)*z:=Nat.mul_le_mul_right _ (by omega)
       rw[hrl]
       refine⟨?_,by rw[a8p (L:=(rows.length+more.length)*z) (by omega)];exact O9 (a1U k3 _) _⟩
       rw[a8p (L:=rows.length*z) hle]
       have:=((P4.1 k2).drop (n.toNat*z)).take z
       rw[b2k f3 hrow]at this
       exact this
      ·simp only[a1N,a0I,hu,hs,Option.bind_eq_bind,Option.bind_some]
       rw[if_pos (by omega)]
     ·cases h
    ·cases h
   ·rename_i k i len cap ex z
    split at h
    ·rename_i hz
     obtain⟨rfl,h0,h1⟩:=hz
     cases h
     simp only[Rp]at hx
     subst hx
     refine⟨_,by simp only[Rp];rfl, ?_⟩
     simp only[a1N,a0I,hu,hs,Option.bind_eq_bind,Option.bind_some]
     rw[if_pos ⟨h0,h1⟩,Nat.add_mul,Nat.add_zero]
    ·cases h
  ·cases h
 ·rename_i len e hu
  split at h
  ·rename_i sz hs
   cases ix<;>simp only[d0W]at h<;>try (cases h;done)
   rename_i k n
   simp only[Rp]at hi
   subst hi
   split at h
   ·rename_i hn
    obtain⟨o,i,rfl,h1⟩:=d0L hx h
    refine⟨_,h1, ?_⟩
    simp only[a1N,a0I,hu,hs,Option.bind_eq_bind,Option.bind_some]
    rw[if_pos hn]
   ·cases h
  ·cases h
 ·cases h
theorem c0A{t:TypeId}{x ix:D}{v vi:AV}(hx:Rp E R x v)(hi:Rp E R ix vi){d:D}(h:c7s P t x ix=some d):∃y,Rp E R d y∧b1N P t v vi=some y:=by
 unfold c7s at h
 split at h
 ·rename_i hu
  cases ix<;>simp only[c5i]at h<;>try (cases h;done)
  rename_i k n
  cases x<;>simp only at h<;>try (cases h;done)
  rename_i s
  simp only[Rp]at hi hx
  subst hi hx
  split at h
  ·rename_i h0
   split at h
   ·rename_i b hb
    cases h
    refine⟨_,by simp only[Rp];rfl, ?_⟩
    simp only[b1N,a0I,hu,Option.bind_eq_bind,Option.bind_some,hb]
    rw[if_pos h0]
    rfl
   ·cases h
  ·cases h
 ·rename_i len e hu
  split at h
  ·rename_i sz ag hs hag
   cases ix<;>simp only[d0T]at h<;>try (cases h;done)
   rename_i kk n
   simp only[Rp]at hi
   subst hi
   split at h
   ·rename_i hn
    have hp:c6z P e (n.toNat*sz) x=some d:=by
     unfold c6z
     rw[hag]
     cases ag with
     |true=>simp only[hs];exact h
     |false=>exact h
    obtain⟨cs,y,rfl,h1,h2⟩:=c8E hx hp
    refine⟨y,h1, ?_⟩
    simp only[b1N,a0I,hu,hs,Option.bind_eq_bind,Option.bind_some]
    rw[if_pos hn]
    exact h2
   ·cases h
  ·cases h
 ·cases h
theorem d4d{t:TypeId}{x:D}{v:AV}(hx:Rp E R x v){d:D}(h:d3P P t x=some d):∃y,Rp E R d y∧∀H,d1Y P H t v=some y:=by
 unfold d3P at h
 have go:∀ {n:Nat},b6R P t v=some n→d= .int .i64 n→∃y,Rp E R d y∧∀H,d1Y P H t v=some y:=by
  intro n e1 e2
  subst e2
  exact⟨.int .i64 n,by simp only[Rp],fun H=>by simp only[d1Y,e1]⟩
 split at h
 ·rename_i hu
  cases x<;>simp only[a3M]at h<;>try (cases h;done)
  cases h
  simp only[Rp]at hx
  subst hx
  exact go (by simp only[b6R,hu]) rfl
 ·rename_i e hu
  cases x<;>simp only[r6]at h<;>try (cases h;done)
  all_goals
   cases h
   simp only[Rp]at hx
  ·subst hx;exact go (n:=0) (by simp only[b6R,hu]) rfl
  ·rcases hx with ⟨rfl,rfl⟩|⟨o,j,cap,ex,z',rfl,_⟩
   ·exact go (n:=0) (by simp only[b6R,hu]) rfl
   ·exact go (by simp only[b6R,hu]) rfl
  ·obtain⟨o,j,cap,ex,z',all,rfl,_⟩:=hx;exact go (by simp only[b6R,hu]) rfl
  ·subst hx;exact go (by simp only[b6R,hu]) rfl
 ·rename_i n e hu
  cases h
  exact go (by simp only[b6R,hu]) rfl
 ·cases h
theorem d4v{t:TypeId}{x:D}{v:AV}(hx:Rp E R x v){d:D}(h:d4c P t x=some d):∃y,Rp E R d y∧((c5b P t v).map fun(n:Nat)=>AV.int .i64 n)=some y:=by
 unfold d4c at h
 split at h
 ·rename_i e hu
  cases x<;>simp only[c6f]at h<;>try (cases h;done)
  ·cases h
   simp only[Rp]at hx
   subst hx
   exact⟨.int .i64 (0:Nat),by simp only[Rp];rfl,by simp only[c5b,hu];rfl⟩
  ·rename_i k i len cap ex z
   cases ex<;>simp only at h<;>try (cases h;done)
   cases h
   simp only[Rp]at hx
   subst hx
   exact⟨.int .i64 cap,by simp only[Rp],by simp only[c5b,hu];rfl⟩
 ·rename_i n e hu
  cases h
  exact⟨.int .i64 n,by simp only[Rp],by simp only[c5b,hu];rfl⟩
 ·cases h
theorem c9o{m:Bool}:∀ {l:List D} {vs:List AV} {x:D} {v:AV} {d:D},Rp E R x v→A3 E R l vs→l.foldlM (mmD m) x=some d→∃y,Rp E R d y∧vs.foldlM (fun x y=>match x,y with
  | .int k a, .int _ b=>some (AV.int k (if m then(if b>a then b else a) else(if b<a then b else a)))
  |_,_=>none) v=some y
 | [],vs,x,v,d,hx,hl,h=>by
  simp only[A3]at hl
  subst hl
  cases h
  exact⟨v,hx,rfl⟩
 |a::l,vs,x,v,d,hx,hl,h=>by
  simp only[A3]at hl
  obtain⟨w,ws,rfl,h1,h2⟩:=hl
  simp only[List.foldlM_cons,Option.bind_eq_bind]at h ⊢
  cases x<;>simp only[mmD,Option.bind_none]at h<;>try (cases h;done)
  cases a<;>simp only[Option.bind_none]at h<;>try (cases h;done)
  simp only[Option.bind_some]at h
  simp only[Rp]at hx h1
  subst hx h1
  exact c9o (by simp only[Rp]) h2 h
theorem c2T{m:Bool}{l:List D}{vs:List AV}(hl:A3 E R l vs){d:D}(h:b4Q m l=some d):∃y,Rp E R d y∧a3W m vs=some y:=by
 cases l with
 |nil=>cases h
 |cons x l=>
  simp only[A3]at hl
  obtain⟨v,ws,rfl,h1,h2⟩:=hl
  exact c9o h1 h2 h
theorem d2l{t:TypeId}{x:D}{v:AV}(hx:Rp E R x v){d:D}(h:c7S P t x=some d):∃y,Rp E R d y∧c3S P t v=some y:=by
 unfold c7S at h
 unfold c3S
 split at h
 ·cases h
 ·rename_i u hn hu
  cases h
  rw[hu]
  refine⟨.ifc t v,by simp only[Rp];exact⟨v,rfl,hx⟩, ?_⟩
  split
  ·rename_i e h1;cases h1;exact(hn _ rfl).elim
  ·rfl
  ·rename_i h1;cases h1
 ·cases h
theorem c9D{x:D}{v:AV}(hx:Rp E R x v){t:TypeId}{ok:Bool}{d:D}(h:c5e P x t ok=some d):∃y,Rp E R d y∧a8W P v t ok=some y:=by
 unfold c5e at h
 split at h
 ·cases h
 ·rename_i u hn hu
  split at h
  ·rename_i z hz
   have fails:ok=true→d= .tup [d0B z, .bool false]→∃y,Rp E R d y∧(if ok=true then(P5 P t).map fun z=>AV.tup [z, .bool false]else none)=some y:=by
    intro hok hd
    subst hd
    refine⟨.tup [z, .bool false], ?_,by rw[if_pos hok,hz];rfl⟩
    simp only[Rp]
    exact⟨_,rfl,A2 c3y (A2 (by simp only[Rp]) G4)⟩
   unfold a8W
   rw[hu]
   split
   ·rename_i e h1;cases h1;exact(hn _ rfl).elim
   ·cases x<;>simp only[asD]at h<;>try (cases h;done)
    ·split at h
     ·rename_i hok
      cases h
      simp only[Rp]at hx
      subst hx
      exact fails hok rfl
     ·cases h
    ·rename_i t' d'
     simp only[Rp]at hx
     obtain⟨v',rfl,hv⟩:=hx
     split at h
     ·rename_i ht
      cases h
      simp only[if_pos ht]
      cases ok with
      |true=>
       refine⟨.tup [v', .bool true], ?_,rfl⟩
       simp only[if_true,Rp]
       exact⟨_,rfl,A2 hv (A2 (by simp only[Rp]) G4)⟩
      |false=>exact⟨v',by simpa using hv,rfl⟩
     ·rename_i ht
      split at h
      ·rename_i hok
       cases h
       simp only[if_neg ht]
       exact fails hok rfl
      ·cases h
   ·rename_i h1;cases h1
  ·cases h
 ·cases h
theorem a4f:∀ {ds:List D} {vs:List AV} {cs:List D} {ws:List AV} {i:Nat},A3 E R cs ws→A3 E R ds vs→A3 E R (o8 cs i ds) (E4 ws i vs)
 | [],vs,cs,ws,i,h,hd=>by simp only[A3]at hd;subst hd;exact h
 |d::ds,vs,cs,ws,i,h,hd=>by
  simp only[A3]at hd
  obtain⟨v,vs,rfl,h1,h2⟩:=hd
  show A3 E R (o8 (cs.set i d) (i+1) ds) (E4 (ws.set i v) (i+1) vs)
  exact a4f (h.set i h1) h2
theorem a0s:∀(ds cs:List D) (i:Nat),(o8 cs i ds).length=cs.length
 | [],cs,i=>rfl
 |d::ds,cs,i=>by rw[o8,a0s ds,List.length_set]
theorem a1k:∀ {vs ws:List AV} {i:Nat},ws.all w8=true→vs.all w8=true→(E4 ws i vs).all w8=true
 | [],ws,i,h,_=>h
 |v::vs,ws,i,h,hv=>by
  simp only[List.all_cons,Bool.and_eq_true]at hv
  show(E4 (ws.set i v) (i+1) vs).all w8=true
  refine a1k ?_ hv.2
  refine List.all_eq_true.2 fun x hx=> ?_
  rcases List.mem_or_eq_of_mem_set hx with hx|rfl
  ·exact List.all_eq_true.1 h x hx
  ·exact hv.1
def RpP(E:m6)(R:Fz):List (Nat×D)→List (Nat×AV)→Prop
 | [],l=>l=[]
 |(i,d)::ds,l=>∃v vs,l=(i,v)::vs∧Rp E R d v∧RpP E R ds vs
theorem b9Z{T:List D}{avs:List AV}(h:A3 E R T avs):∀l:List (Nat×Operand),RpP E R (l.map fun p=>(p.1,B0 T p.2)) (l.map fun p=>(p.1,o0 avs p.2))
 | []=>rfl
 |(i,x)::l=>⟨_,_,rfl,A1 h x,b9Z h l⟩
theorem c8y{place:Nat→Option (Nat×Nat)}:∀ {parts:List (Nat×D)} {ps:List (Nat×AV)} {cs:List D} {ws:List AV} {l:List (Nat×Nat×D)} {r:List D},RpP E R parts ps→A3 E R cs ws→ws.all w8=true→b2L place parts=some l→w6 cs l=some r→
  ∃us,A3 E R r us∧us.all w8=true∧us.length=ws.length∧a7I place ws ps=some us
 | [],ps,cs,ws,l,r,hp,hc,hs,h1,h2=>by
  have hp':ps=[]:=hp
  subst hp'
  cases h1
  cases h2
  exact⟨ws,hc,hs,rfl,rfl⟩
 |(i,d)::parts,ps,cs,ws,l,r,hp,hc,hs,h1,h2=>by
  obtain⟨v,vs,rfl,hd,hp⟩:=hp
  simp only[b2L]at h1
  split at h1
  ·rename_i off size hpl
   split at h1
   ·rename_i l' hl'
    cases h1
    simp only[w6]at h2
    split at h2
    ·rename_i ds hds
     split at h2
     ·rename_i hsz
      obtain⟨g1,g2⟩:=b1T hd hds
      obtain⟨us,k1,k2,k3,k4⟩:=c8y hp (a4f (i:=off) hc g1) (a1k hs g2) hl' h2
      refine⟨us,k1,k2,by rw[k3,b1k], ?_⟩
      simp only[a7I,hpl]
      rw[if_pos,k4]
      rw[g1.length, ←hc.length]at*
      exact⟨hsz.1,by omega⟩
     ·cases h2
    ·cases h2
   ·cases h1
  ·cases h1
theorem d4m{r:Option (List D)}{d:D}(h:E6 r=some d):∃cs,r=some cs∧d= .agg cs:=by
 cases r with
 |none=>cases h
 |some cs=>cases h;exact⟨cs,rfl,rfl⟩
theorem d1c{t:TypeId}{parts:List (Nat×D)}{ps:List (Nat×AV)}(hp:RpP E R parts ps){d:D}(h:c7v P t parts=some d):∃y,Rp E R d y∧b2n P t ps=some y:=by
 unfold c7v at h
 split at h
 ·rename_i z hz
  split at h
  ·rename_i hsc
   have fin:∀ {place:Nat→Option (Nat×Nat)} {l:List (Nat×Nat×D)},b2L place parts=some l→E6 (w6 (z.map a0P) l)=some d→∃y,Rp E R d y∧(a7I place (AV.agg z).cells ps).map AV.agg=some y:=by
    intro place l h1 h2
    obtain⟨cs,e1,rfl⟩:=d4m h2
    obtain⟨us,k1,k2,k3,k4⟩:=c8y hp (b7e z) hsc h1 e1
    refine⟨.agg us,by simp only[Rp];exact⟨us,rfl,k1,k2⟩, ?_⟩
    show(a7I place z ps).map AV.agg=_
    rw[k4];rfl
   split at h
   ·rename_i fields hu
    split at h
    ·rename_i places hpl
     split at h
     ·rename_i l hl
      obtain⟨y,e1,e2⟩:=fin hl h
      refine⟨y,e1, ?_⟩
      simp only[b2n,hz,hu,hpl,Option.bind_eq_bind,Option.bind_some]
      exact e2
     ·cases h
    ·cases h
   ·rename_i n e hu
    split at h
    ·rename_i size hs
     split at h
     ·rename_i l hl
      obtain⟨y,e1,e2⟩:=fin hl h
      refine⟨y,e1, ?_⟩
      simp only[b2n,hz,hu,hs,Option.bind_eq_bind,Option.bind_some]
      exact e2
     ·cases h
    ·cases h
   ·cases h
  ·cases h
 ·cases h
theorem c3w(hC:D5 E R S H0){sz:Nat}{x:D}{v:AV}(hx:Rp E R x v){rows:List (List D)}(h:J5 S sz x=some rows):
  (∀row∈rows,row.length=sz)∧a3v v=some rows.length∧∃cs,A3 E R rows.flatten cs∧cs.all w8=true∧∀H,Agr R S (b6h x) H→a0L E H sz rows.length v=some cs∧(∀o i len cap ex z,v= .slc o i len cap ex z→K4 E H o i (len*sz)=some cs):=by
 cases x<;>simp only[J5]at h<;>try (cases h;done)
 ·cases h
  simp only[Rp]at hx
  subst hx
  exact⟨fun row hr=>(by cases hr),rfl,[],G4,rfl,fun H _=>⟨rfl,fun _ _ _ _ _ _ e=>(by cases e)⟩⟩
 ·rename_i rows' z
  split at h
  ·rename_i hz
   cases h
   subst hz
   simp only[Rp]at hx
   rcases hx with ⟨rfl,rfl⟩|⟨o,j,cap,ex,z',rfl,f1,f2,f3,f4⟩
   ·exact⟨fun row hr=>(by cases hr),rfl,[],G4,rfl,fun H _=>⟨rfl,fun _ _ _ _ _ _ e=>(by cases e)⟩⟩
   refine⟨f3,rfl, ?_⟩
   rcases f4 with rfl|⟨all,k1,k2,k3⟩
   ·refine⟨[],G4,rfl,fun H _=>⟨?_,fun _ _ _ _ _ _ e=> ?_⟩⟩
    ·simp only[a0L,K4,List.length_nil,Nat.zero_mul,if_true]
    ·cases e;simp only[K4,List.length_nil,Nat.zero_mul,if_true]
   ·have key:∀H,Agr R S (b6h (.lst rows z)) H→K4 E H o j (rows.length*z)=some ((all.drop j).take (rows.length*z)):=by
     intro H hA
     have hc:=b7o k1 hA
     unfold K4
     split
     ·rename_i e0;rw[e0,List.take_zero]
     ·rename_i e0
      have hl:=(P4.1 k2).length
      rw[C5 f3,List.length_take,List.length_drop]at hl
      simp only[F0,hc]
      rw[if_pos (by omega)]
    exact⟨_,P4.1 k2,k3,fun H hA=>⟨key H hA,fun _ _ _ _ _ _ e=>by cases e;exact key H hA⟩⟩
  ·cases h
 ·rename_i rows' more z
  split at h
  ·rename_i hz
   cases h
   subst hz
   simp only[Rp]at hx
   obtain⟨o,j,cap,ex,z',all,rfl,f1,f2,f3,f4,k1,k2,f7,k3⟩:=hx
   refine⟨f3,rfl, ?_⟩
   have hle':rows.length*z≤(rows.length+more.length)*z:=Nat.mul_le_mul_right _ (by omega)
   have k3':((all.drop j).take (rows.length*z)).all w8=true:=by
    have:=O9 k3 (rows.length*z)
    rw[List.take_take,Nat.min_eq_left hle']at this
    exact this
   have key:∀H,Agr R S (b6h (.ext rows more z)) H→K4 E H o j (rows.length*z)=some ((all.drop j).take (rows.length*z)):=by
    intro H hA
    unfold K4
    split
    ·rename_i e0;rw[e0,List.take_zero]
    ·rename_i e0
     have hc:=b7o (k1.resolve_right fun h=>e0 (by rw[h.1];simp)) hA
     have hl:=(P4.1 k2).length
     rw[C5 f3,List.length_take,List.length_drop]at hl
     simp only[F0,hc]
     rw[if_pos (by omega)]
   exact⟨_,P4.1 k2,k3',fun H hA=>⟨key H hA,fun _ _ _ _ _ _ e=>by cases e;exact key H hA⟩⟩
  ·cases h
 ·rename_i k i len cap ex z
  cases hk:S k with
  |none=>rw[hk]at h;cases h
  |some o=>
   simp only[hk]at h
   split at h
   ·rename_i hz
    obtain⟨rfl,hsz,hlen⟩:=hz
    cases h
    simp only[Rp]at hx
    subst hx
    obtain⟨h1,⟨pre,h2⟩,h3,h4,h5⟩:=hC.own k o hk
    rw[hsz]at h4
    have hd:∀row∈o.rows.drop i,row.length=z:=fun row hr=>h4 row (List.mem_of_mem_drop hr)
    have hl:((o.rows.drop i).take len).length=len:=by rw[List.length_take,List.length_drop];omega
    have hll:=h5.length
    rw[C5 h4]at hll
    have hle:i*z+len*z≤o.acs.length:=by rw[hll, ←Nat.add_mul];exact Nat.mul_le_mul_right _ hlen
    refine⟨fun row hr=>hd row (List.mem_of_mem_take hr),by rw[hl];rfl,(o.acs.drop (i*z)).take (len*z), ?_,O9 (a1U h3 _) _,fun H hA=> ?_⟩
    ·rw[←a3J hd, ←a5k h4]
     exact(h5.drop _).take _
    ·have key:K4 E H (.new k) (i*z) (len*z)=some ((o.acs.drop (i*z)).take (len*z)):=by
      obtain⟨w,p,g⟩:=hA.st k o rfl hk
      exact c5r E g _ _ hle
     refine⟨by rw[hl];exact key,fun _ _ _ _ _ _ e=>by cases e;exact key⟩
   ·cases h
theorem c8T:∀ {rows:List (List D)} {bs:List UInt8} {cs:List AV},(∀row∈rows,row.length=1)→A3 E R rows.flatten cs→rows.mapM c0R=some bs→cs.mapM c4W=some bs
 | [],bs,cs,_,h,e=>by
  simp only[List.flatten_nil,A3]at h
  subst h
  exact e
 |row::rows,bs,cs,hl,h,e=>by
  rw[List.mapM_cons]at e
  cases hb:c0R row with
  |none=>rw[hb]at e;cases e
  |some b=>
   rw[hb]at e
   simp only[Option.bind_eq_bind,Option.bind_some]at e
   cases hm:rows.mapM c0R with
   |none=>rw[hm]at e;cases e
   |some l=>
    rw[hm]at e
    cases e
    unfold c0R at hb
    split at hb
    ·rename_i n
     cases hb
     simp only[List.flatten_cons,List.cons_append,List.nil_append,A3]at h
     obtain⟨v,vs,rfl,h1,h2⟩:=h
     simp only[Rp]at h1
     subst h1
     have ih:=c8T (fun row hr=>hl row (List.mem_cons_of_mem _ hr)) h2 hm
     rw[List.mapM_cons,ih]
     rfl
    ·cases hb
theorem d2D(hC:D5 E R S H0){s t:TypeId}{x:D}{v:AV}(hx:Rp E R x v){d:D}(h:d1i P S s t x=some d):∃y,Rp E R d y∧∀H,Agr R S (b6h x) H→(P3 P E H s t v).map (·.1)=some y:=by
 unfold d1i at h
 split at h
 ·rename_i hu1 hu2
  cases x<;>simp only[I6]at h<;>try (cases h;done)
  cases h
  simp only[Rp]at hx
  subst hx
  rename_i k' n
  exact⟨.int _ (IntKind.wrap _ n),by simp only[Rp];rfl,fun H _=>by simp only[P3,hu1,hu2];rfl⟩
 ·rename_i hu1 hu2
  cases x<;>simp only[c4g]at h<;>try (cases h;done)
  cases h
  simp only[Rp]at hx
  subst hx
  rename_i s
  exact⟨.str s,by simp only[Rp],fun H _=>by simp only[P3,hu1,hu2];rfl⟩
 ·rename_i e hu1 hu2
  split at h
  ·rename_i hue
   unfold b3I at h
   split at h
   ·rename_i rows hrows
    obtain⟨g1,g2,cs,g3,g4,g5⟩:=c3w hC hx hrows
    cases hm:rows.mapM c0R with
    |none=>rw[hm]at h;cases h
    |some bs=>
     rw[hm]at h
     cases h
     have hb:=c8T g1 g3 hm
     refine⟨.str bs,by simp only[Rp],fun H hA=> ?_⟩
     obtain⟨k1,k2⟩:=g5 H hA
     cases v<;>simp only[a3v,Option.some.injEq]at g2<;>try (cases g2;done)
     ·
      cases x<;>simp only[J5]at hrows<;>try (cases hrows;done)
      ·simp only[Rp]at hx;cases hx
      ·simp only[Rp]at hx;rcases hx with ⟨_,hx⟩|⟨_,_,_,_,_,hx,_⟩<;>cases hx
      ·simp only[Rp]at hx;obtain⟨_,_,_,_,_,_,hx,_⟩:=hx;cases hx
      ·simp only[Rp]at hx;cases hx
     ·have hr:rows=[]:=List.length_eq_zero_iff.1 g2.symm
      subst hr
      cases hm
      simp only[P3,hu1,hu2,hue]
      rfl
     ·have:=k2 _ _ _ _ _ _ rfl
      rw[Nat.mul_one]at this
      simp only[P3,hu1,hu2,hue,this,hb]
      rfl
   ·cases h
  ·cases h
 ·cases h
theorem c4Y{T:List D}{avs:List AV}(h:A3 E R T avs):∀x:Option Operand,RpO E R (x.map (B0 T)) (x.map (o0 avs))
 |none=>trivial
 |some x=>A1 h x
theorem d2T{T:List D}{avs:List AV}(hT:A3 E R T avs)(hC:D5 E R S H0){o:Oper}{d:D}(h:d4p P T S o=some d):
  ∃v,Rp E R d v∧∀H,Agr R S (b7n T o) H→opV P E avs H o=some v:=by
 obtain⟨dst,op,type,pos,after,guard⟩:=o
 have plain:∀ {r:Option AV},(∃v,Rp E R d v∧r=some v)→∃v,Rp E R d v∧∀H,Agr R S (b7n T ⟨dst,op,type,pos,after,guard⟩) H→r=some v:=fun⟨v,a,b⟩=>⟨v,a,fun _ _=>b⟩
 cases op<;>simp only[d4p]at h<;>try (cases h;done)
 case move x=>cases h;exact⟨_,A1 hT x,fun _ _=>rfl⟩
 case assign x=>cases h;exact⟨_,A1 hT x,fun _ _=>rfl⟩
 case pick c a b=>exact plain (d3n (A1 hT c) (A1 hT a) (A1 hT b) h)
 case build t parts=>exact plain (d1c (b9Z hT _) h)
 case load t a=>
  obtain⟨v,h1,h2⟩:=c8I hC (A1 hT a) h
  exact⟨v,h1,fun H hA=>h2 H hA⟩
 case nilCheck x=>
  obtain⟨h1,h2⟩:=d4k (A1 hT x) h
  exact⟨_,h1,fun _ _=>h2⟩
 case binOp op t x y yt=>exact plain (d4x (A1 hT x) (A1 hT y) h)
 case unOp op t x=>exact plain (d4Z (A1 hT x) h)
 case convert s t x=>
  obtain⟨v,h1,h2⟩:=d2D hC (A1 hT x) h
  exact⟨v,h1,fun H hA=>h2 H hA⟩
 case makeInterface t x=>exact plain (d2l (A1 hT x) h)
 case makeFunc fn a b=>
  cases h
  refine⟨_, ?_,fun _ _=>rfl⟩
  simp only[Rp]
  exact⟨_,_,rfl,a4m hT _,a4m hT _⟩
 case slice t x lo hi mx=>
  obtain⟨v,h1,h2⟩:=d1v (A1 hT x) (c4Y hT lo) (c4Y hT hi) (c4Y hT mx) h
  exact⟨v,h1,fun H _=>h2 H⟩
 case fieldAddr s x f=>exact plain (c8x (A1 hT x) h)
 case field s x f=>exact plain (d1C (A1 hT x) h)
 case indexAddr t x ix=>exact plain (c7f (A1 hT x) (A1 hT ix) h)
 case index t x ix=>exact plain (c0A (A1 hT x) (A1 hT ix) h)
 case typeAssert x a t ok=>exact plain (c9D (A1 hT x) h)
 case extract t ix=>exact plain (c8s (A1 hT t) h)
 case call c=>
  cases hc:c.callee with
  |value f=>rw[hc]at h;cases h
  |invoke r m=>rw[hc]at h;cases h
  |builtin b=>
   simp only[hc]at h
   have ha:=a4m hT c.args.toList
   simp only[opV,hc]
   generalize c.args.toList.map (B0 T)=ds at h ha
   generalize c.args.toList.map (o0 avs)=vs at ha
   generalize c.argTypes.toList=ts at h
   cases b<;>(try simp only at h)<;>try (cases h;done)
   case len=>
    rcases ds with _|⟨x,_|⟨y,ds⟩⟩<;>(try simp only at h)<;>try (cases h;done)
    rcases ts with _|⟨t,_|⟨u,ts⟩⟩<;>(try simp only at h)<;>try (cases h;done)
    simp only[A3]at ha
    obtain⟨v,vs,rfl,h1,rfl⟩:=ha
    obtain⟨y,g1,g2⟩:=d4d h1 h
    exact⟨y,g1,fun H _=>g2 H⟩
   case cap=>
    rcases ds with _|⟨x,_|⟨y,ds⟩⟩<;>(try simp only at h)<;>try (cases h;done)
    rcases ts with _|⟨t,_|⟨u,ts⟩⟩<;>(try simp only at h)<;>try (cases h;done)
    simp only[A3]at ha
    obtain⟨v,vs,rfl,h1,rfl⟩:=ha
    obtain⟨y,g1,g2⟩:=d4v h1 h
    exact⟨y,g1,fun H _=>g2⟩
   case min=>
    obtain⟨y,g1,g2⟩:=c2T ha h
    exact⟨y,g1,fun H _=>g2⟩
   case max=>
    obtain⟨y,g1,g2⟩:=c2T ha h
    exact⟨y,g1,fun H _=>g2⟩
end
end Go.Am
end
