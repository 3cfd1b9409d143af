/-
  BlocksCutsSaid: part Pao of its proof.
-/
import Derived.Test.YtdkidgkiplcggaaPan
set_option linter.unusedVariables false
set_option linter.unusedSimpArgs false
set_option maxRecDepth 100000
section
namespace Go.Am
section
variable{P:Program}{E:g8}{R:Fz}{S:b5}{H0:AHeap}
theorem a0m{x:D}{v:AV}(h:Rp E R x v){y n:Nat}(hb:C6 x y=some n):P1 v y=some n∧n≤y:=by
 cases x<;>simp only[C6]at hb<;>try (cases hb;done)
 simp only[Rp]at h
 subst h
 split at hb
 ·rename_i hn
  cases hb
  exact⟨by simp only[P1];rw[if_pos hn],by omega⟩
 ·cases hb
def RpO(E:g8)(R:Fz):Option D→Option AV→Prop
 |none,none=>True
 |some d,some v=>Rp E R d v
 |_,_=>False
theorem a5y{lo hi mx:Option D}{vlo vhi vmx:Option AV}(h1:RpO E R lo vlo)(h2:RpO E R hi vhi)(h3:RpO E R mx vmx){len cap cap' l h m:Nat}(hlc:len≤cap)
  (e:G4 len cap lo hi mx=some (l,h,m)) (hc:cap≤cap') (hx:mx=none→hi=none∨True):
  ∃m',a1O len cap' vlo vhi vmx=some (l,h,m')∧l≤h∧h≤cap∧h≤m'∧(m'=m∨(mx=none∧m'=cap'∧m=cap)):=by
 unfold G4 at e
 cases ht:b7E cap mx with
 |none=>rw[ht]at e;cases e
 |some m0=>
  rw[ht,Option.bind_some]at e
  cases hh:a6Q len m0 hi mx with
  |none=>rw[hh]at e;cases e
  |some h0=>
   rw[hh,Option.bind_some]at e
   cases hl:b2Q h0 lo with
   |none=>rw[hl]at e;cases e
   |some l0=>
    rw[hl,Option.bind_some]at e
    cases e
    have low:c3X h vlo=some l∧l≤h:=by
     cases lo with
     |none=>
      cases vlo with
      |none=>cases hl;exact⟨rfl,Nat.zero_le _⟩
      |some v=>exact h1.elim
     |some d=>
      cases vlo with
      |none=>exact h1.elim
      |some v=>exact a0m h1 hl
    cases mx with
    |none=>
     cases vmx with
     |some v=>exact h3.elim
     |none=>
      cases ht
      have high:a9p len cap' vhi none=some h∧h≤cap:=by
       cases hi with
       |none=>
        cases vhi with
        |some v=>exact h2.elim
        |none=>cases hh;exact⟨rfl,hlc⟩
       |some d=>
        cases vhi with
        |none=>exact h2.elim
        |some v=>
         have hh':C6 d cap=some h:=hh
         obtain⟨a,b⟩:=a0m h2 hh'
         refine⟨?_,b⟩
         show P1 v cap'=some h
         cases v<;>simp only[P1]at a ⊢ <;>try (cases a;done)
         split at a
         ·cases a;rw[if_pos (by omega)]
         ·cases a
      refine⟨cap', ?_,low.2,high.2,by omega, .inr ⟨rfl,rfl,rfl⟩⟩
      simp only[a1O,c2M,Option.bind_some,high.1,low.1]
    |some dm=>
     cases vmx with
     |none=>exact h3.elim
     |some vm=>
      have ht':C6 dm cap=some m:=ht
      obtain⟨a,b⟩:=a0m h3 ht'
      have a':P1 vm cap'=some m:=by
       cases vm<;>simp only[P1]at a ⊢ <;>try (cases a;done)
       split at a
       ·cases a;rw[if_pos (by omega)]
       ·cases a
      cases hi with
      |none=>cases hh
      |some d=>
       cases vhi with
       |none=>exact h2.elim
       |some v=>
        obtain⟨c,d'⟩:=a0m h2 (show C6 d m=some h from hh)
        refine⟨m, ?_,low.2,by omega,d', .inl rfl⟩
        show(c2M cap' (some vm)).bind _=_
        rw[show c2M cap' (some vm)=some m from a',Option.bind_some,show a9p len m (some v) (some vm)=some h from c,Option.bind_some,low.1,Option.bind_some]
theorem b5P{lo hi mx:Option D}{len cap l h m:Nat}(e:G4 len cap lo hi mx=some (l,h,m)):m≤cap:=by
 unfold G4 at e
 cases ht:b7E cap mx with
 |none=>rw[ht]at e;cases e
 |some m0=>
  rw[ht,Option.bind_some]at e
  have hm:m0≤cap:=by
   cases mx with
   |none=>cases ht;exact Nat.le_refl _
   |some d=>
    replace ht:C6 d cap=some m0:=ht
    unfold C6 at ht
    split at ht
    ·split at ht
     ·cases ht;omega
     ·cases ht
    ·cases ht
  cases hh:a6Q len m0 hi mx with
  |none=>rw[hh]at e;cases e
  |some h0=>
   rw[hh,Option.bind_some]at e
   cases hl:b2Q h0 lo with
   |none=>rw[hl]at e;cases e
   |some l0=>rw[hl,Option.bind_some]at e;cases e;exact hm
theorem b2V{rows:List (List D)}{sz:Nat}(h:∀row∈rows,row.length=sz){all:List AV}{j:Nat}(hr:a0b E R rows ((all.drop j).take (rows.length*sz)))(hs:((all.drop j).take (rows.length*sz)).all m9=true)(l n:Nat)(hn:l+n≤rows.length):
  a0b E R ((rows.drop l).take n) ((all.drop (j+l*sz)).take (((rows.drop l).take n).length*sz))∧((all.drop (j+l*sz)).take (((rows.drop l).take n).length*sz)).all m9=true:=by
 have hlen:((rows.drop l).take n).length=n:=by rw[List.length_take,List.length_drop];omega
 have hle:l*sz+n*sz≤rows.length*sz:=by rw[←Nat.add_mul];exact Nat.mul_le_mul_right _ hn
 have e:(all.drop (j+l*sz)).take (n*sz)=(((all.drop j).take (rows.length*sz)).drop (l*sz)).take (n*sz):=a5Q hle
 have hd:∀row∈rows.drop l,row.length=sz:=fun row hx=>h row (List.mem_of_mem_drop hx)
 rw[hlen,e]
 refine⟨?_,G8 (W5 hs _) _⟩
 rw[E5, ←Z1 hd, ←a0T h]
 exact((E5.1 hr).drop _).take _
theorem c5b{rows:List (List D)}{sz:Nat}(h:∀row∈rows,row.length=sz){o:Id}{all:List AV}{j z:Nat}(ho:rdE E R o=some all)(hf:c6H o z sz)(hr:a0b E R rows ((all.drop j).take (rows.length*sz)))(hs:((all.drop j).take (rows.length*sz)).all m9=true)
  {l hh m m':Nat} (h1:l≤hh) (h2:hh≤m) (h3:m≤rows.length) (h4:m≤m') (ex:Bool):
  Rp E R (b8u ((rows.drop l).take (hh - l)) ((rows.drop hh).take (m - hh)) sz) (.slc o (j+l*sz) (hh - l) (m' - l) ex z):=by
 have hl':((rows.drop l).take (hh - l)).length=hh - l:=by rw[List.length_take,List.length_drop];omega
 have hm':((rows.drop hh).take (m - hh)).length=m - hh:=by rw[List.length_take,List.length_drop];omega
 have hrl:∀row∈(rows.drop l).take (hh - l),row.length=sz:=fun row hr=>h row (List.mem_of_mem_drop (List.mem_of_mem_take hr))
 have hrm:∀row∈(rows.drop hh).take (m - hh),row.length=sz:=fun row hr=>h row (List.mem_of_mem_drop (List.mem_of_mem_take hr))
 have p1:=b2V h hr hs l (hh - l) (by omega)
 have p2:=b2V h hr hs hh (m - hh) (by omega)
 have p3:=b2V h hr hs l (m - l) (by omega)
 unfold b8u
 split
 ·simp only[Rp]
  exact .inr ⟨o,j+l*sz,m' - l,ex,z,by rw[hl'],hf,by rw[hl'];omega,hrl, .inr ⟨all,ho,p1⟩⟩
 ·skip
  simp only[Rp]
  refine⟨o,j+l*sz,m' - l,ex,z,all,by rw[hl'],hf,by rw[hl',hm'];omega,hrl,hrm, .inl ho,p1.1, ?_, ?_⟩
  ·have e:j+l*sz+((rows.drop l).take (hh - l)).length*sz=j+hh*sz:=by rw[hl',Nat.add_assoc, ←Nat.add_mul];congr 2;omega
   rw[e];exact p2.1
  ·have e:((rows.drop l).take (hh - l)).length+((rows.drop hh).take (m - hh)).length=((rows.drop l).take (m - l)).length:=by
    rw[hl',hm',List.length_take,List.length_drop];omega
   rw[e];exact p3.2
theorem c6S{rows more:List (List D)}{sz:Nat}{all:List AV}{j:Nat}(h1:a0b E R rows ((all.drop j).take (rows.length*sz)))(h2:a0b E R more ((all.drop (j+rows.length*sz)).take (more.length*sz))):a0b E R (rows++more) ((all.drop j).take ((rows++more).length*sz)):=by
 rw[E5]at*
 rw[List.flatten_append,List.length_append,Nat.add_mul,List.take_add]
 refine h1.append ?_
 rw[List.drop_drop]
 exact h2
theorem c6T{t:TypeId}{x:D}{v:AV}(hx:Rp E R x v){lo hi mx:Option D}{vlo vhi vmx:Option AV}(h1:RpO E R lo vlo)(h2:RpO E R hi vhi)(h3:RpO E R mx vmx){d:D}(h:c3y P t x lo hi mx=some d):
  ∃y,Rp E R d y∧∀H,a0G P H t v vlo vhi vmx=some y:=by
 unfold c3y at h
 split at h
 ·rename_i hu
  cases mx with
  |some m=>cases h
  |none=>
   cases vmx with
   |some m=>exact h3.elim
   |none=>
    cases x<;>simp only[c1F]at h<;>try (cases h;done)
    rename_i s
    simp only[Rp]at hx
    subst hx
    cases hb:G4 s.length s.length lo hi none with
    |none=>rw[hb]at h;cases h
    |some r=>
     obtain⟨l,hh,m⟩:=r
     rw[hb]at h
     cases h
     obtain⟨m',e,_⟩:=a5y h1 h2 h3 (Nat.le_refl _) hb (Nat.le_refl _) (fun _=> .inr trivial)
     refine⟨.str ((s.drop l).take (hh - l)),by simp only[Rp],fun H=> ?_⟩
     simp only[a0G,hu,e,Option.isSome_none,Bool.false_eq_true,if_false,Option.bind_eq_bind,Option.bind_some]
 ·rename_i el hu
  split at h
  ·rename_i sz hsz
   cases x<;>simp only[V2]at h<;>try (cases h;done)
   ·
    simp only[Rp]at hx
    subst hx
    cases hb:G4 0 0 lo hi mx with
    |none=>rw[hb]at h;cases h
    |some r=>
     obtain⟨l,hh,m⟩:=r
     rw[hb]at h
     cases h
     obtain⟨m',e,_⟩:=a5y h1 h2 h3 (Nat.le_refl _) hb (Nat.le_refl _) (fun _=> .inr trivial)
     refine⟨.nilSlc,by simp only[Rp],fun H=> ?_⟩
     simp only[a0G,hu,hsz,e,Option.bind_eq_bind,Option.bind_some]
   ·
    rename_i rows z
    split at h
    ·rename_i hz
     subst hz
     simp only[Rp]at hx
     rcases hx with ⟨rfl,rfl⟩|⟨o,j,cap,ex,z',rfl,f1,f2,f3,f4⟩
     ·cases hb:G4 0 0 lo hi mx with
      |none=>simp only[List.length_nil,hb]at h;cases h
      |some r=>
       obtain⟨l,hh,m⟩:=r
       simp only[List.length_nil,hb,Option.map_some,List.drop_nil,List.take_nil,b8u]at h
       cases h
       obtain⟨m',e,_⟩:=a5y h1 h2 h3 (Nat.le_refl _) hb (Nat.le_refl _) (fun _=> .inr trivial)
       refine⟨.nilSlc,by simp only[Rp];exact .inl ⟨by trivial,by trivial⟩,fun H=> ?_⟩
       simp only[a0G,hu,hsz,e,Option.bind_eq_bind,Option.bind_some]
     cases hb:G4 rows.length rows.length lo hi mx with
     |none=>rw[hb]at h;cases h
     |some r=>
      obtain⟨l,hh,m⟩:=r
      rw[hb]at h
      cases h
      obtain⟨m',e,g1,g2,g3,g4⟩:=a5y h1 h2 h3 (Nat.le_refl _) hb f2 (fun _=> .inr trivial)
      have hf:a3P o z' z=true:=by
       cases o with
       |old b=>rfl
       |new k=>have:z'=z:=f1;simp[a3P,this]
      have hm:m≤rows.length∧hh≤m∧m≤m':=by
       have:=b5P hb
       rcases g4 with g4|⟨_,g4,g5⟩<;>omega
      refine⟨.slc o (j+l*z) (hh - l) (m' - l) (ex||vmx.isSome) z', ?_,fun H=> ?_⟩
      ·rcases f4 with rfl|⟨all,k1,k2,k3⟩
       ·simp only[List.drop_nil,List.take_nil,b8u,Rp]
        have:hh=0:=by simpa using g2
        exact .inr ⟨o,j+l*z,m' - l,ex||vmx.isSome,z',by simp[this],f1,Nat.zero_le _,fun row hr=>(by cases hr), .inl (by trivial)⟩
       ·exact c5b f3 k1 f1 k2 k3 g1 hm.2.1 hm.1 hm.2.2 _
      ·simp only[a0G,hu,hsz,e,Option.bind_eq_bind,Option.bind_some,hf,if_true]
    ·cases h
   ·
    rename_i rows more z
    split at h
    ·rename_i hz
     subst hz
     simp only[Rp]at hx
     obtain⟨o,j,cap,ex,z',all,rfl,f1,f2,f3,f4,f5,f6,f7,f8⟩:=hx
     cases hb:G4 rows.length (rows++more).length lo hi mx with
     |none=>rw[hb]at h;cases h
     |some r=>
      obtain⟨l,hh,m⟩:=r
      rw[hb]at h
      cases h
      obtain⟨m',e,g1,g2,g3,g4⟩:=a5y h1 h2 h3 (cap:=(rows++more).length) (by rw[List.length_append];omega) hb (cap':=cap) (by rw[List.length_append];omega) (fun _=> .inr trivial)
      have hf:a3P o z' z=true:=by
       cases o with
       |old b=>rfl
       |new k=>have:z'=z:=f1;simp[a3P,this]
      have hm:m≤(rows++more).length∧hh≤m∧m≤m':=by
       have:=b5P hb
       rw[List.length_append]at*
       rcases g4 with g4|⟨_,g4,g5⟩<;>omega
      refine⟨.slc o (j+l*z) (hh - l) (m' - l) (ex||vmx.isSome) z', ?_,fun H=> ?_⟩
      ·rcases f5 with f5|⟨rfl,rfl⟩
       rotate_left
       ·simp only[List.append_nil,List.drop_nil,List.take_nil,List.length_nil]at hm ⊢
        show Rp E R (.lst [] z) _
        simp only[Rp]
        have e0:hh - l=0:=by omega
        exact .inr ⟨o,j+l*z,m' - l,ex||vmx.isSome,z',by rw[e0];rfl,f1,Nat.zero_le _,fun row hr=>(by cases hr), .inl trivial⟩
       refine c5b (rows:=rows++more) (fun row hr=>(List.mem_append.1 hr).elim (f3 row) (f4 row)) f5 f1 (c6S f6 f7) ?_ g1 hm.2.1 hm.1 hm.2.2 _
       rw[List.length_append];exact f8
      ·simp only[a0G,hu,hsz,e,Option.bind_eq_bind,Option.bind_some,hf,if_true]
    ·cases h
   ·
    rename_i k i len cap ex z
    split at h
    ·rename_i hz
     subst hz
     simp only[Rp]at hx
     obtain⟨hmz,rfl⟩:=hx
     cases hb:G4 len cap lo hi mx with
     |none=>rw[hb]at h;cases h
     |some r=>
      obtain⟨l,hh,m⟩:=r
      rw[hb]at h
      cases h
      have key:a1O len cap vlo vhi vmx=some (l,hh,m)∧(mx.isSome=vmx.isSome):=by
       refine⟨?_, ?_⟩
       ·unfold G4 at hb
        unfold a1O
        cases mx with
        |none=>
         cases vmx with
         |some v=>exact h3.elim
         |none=>
          rw[show b7E cap none=some cap from rfl,Option.bind_some]at hb
          rw[show c2M cap none=some cap from rfl,Option.bind_some]
          cases hi with
          |none=>
           cases vhi with
           |some v=>exact h2.elim
           |none=>
            rw[show a6Q len cap none none=some len from rfl,Option.bind_some]at hb
            rw[show a9p len cap none none=some len from rfl,Option.bind_some]
            cases lo with
            |none=>
             cases vlo with
             |some v=>exact h1.elim
             |none=>exact hb
            |some dl=>
             cases vlo with
             |none=>exact h1.elim
             |some v=>
              cases hq:C6 dl len with
              |none=>rw[show b2Q len (some dl)=C6 dl len from rfl,hq]at hb;cases hb
              |some q=>
               rw[show b2Q len (some dl)=C6 dl len from rfl,hq]at hb
               rw[show c3X len (some v)=P1 v len from rfl,(a0m h1 hq).1]
               exact hb
          |some dh=>
           cases vhi with
           |none=>exact h2.elim
           |some vh=>
            cases hq:C6 dh cap with
            |none=>rw[show a6Q len cap (some dh) none=C6 dh cap from rfl,hq]at hb;cases hb
            |some q=>
             rw[show a6Q len cap (some dh) none=C6 dh cap from rfl,hq,Option.bind_some]at hb
             rw[show a9p len cap (some vh) none=P1 vh cap from rfl,(a0m h2 hq).1,Option.bind_some]
             cases lo with
             |none=>
              cases vlo with
              |some v=>exact h1.elim
              |none=>exact hb
             |some dl=>
              cases vlo with
              |none=>exact h1.elim
              |some v=>
               cases hq2:C6 dl q with
               |none=>rw[show b2Q q (some dl)=C6 dl q from rfl,hq2]at hb;cases hb
               |some q2=>
                rw[show b2Q q (some dl)=C6 dl q from rfl,hq2]at hb
                rw[show c3X q (some v)=P1 v q from rfl,(a0m h1 hq2).1]
                exact hb
        |some dm=>
         cases vmx with
         |none=>exact h3.elim
         |some vm=>
          cases hqm:C6 dm cap with
          |none=>rw[show b7E cap (some dm)=C6 dm cap from rfl,hqm]at hb;cases hb
          |some qm=>
           rw[show b7E cap (some dm)=C6 dm cap from rfl,hqm,Option.bind_some]at hb
           rw[show c2M cap (some vm)=P1 vm cap from rfl,(a0m h3 hqm).1,Option.bind_some]
           cases hi with
           |none=>cases hb
           |some dh=>
            cases vhi with
            |none=>exact h2.elim
            |some vh=>
             cases hq:C6 dh qm with
             |none=>rw[show a6Q len qm (some dh) (some dm)=C6 dh qm from rfl,hq]at hb;cases hb
             |some q=>
              rw[show a6Q len qm (some dh) (some dm)=C6 dh qm from rfl,hq,Option.bind_some]at hb
              rw[show a9p len qm (some vh) (some vm)=P1 vh qm from rfl,(a0m h2 hq).1,Option.bind_some]
              cases lo with
              |none=>
               cases vlo with
               |some v=>exact h1.elim
               |none=>exact hb
              |some dl=>
               cases vlo with
               |none=>exact h1.elim
               |some v=>
                cases hq2:C6 dl q with
                |none=>rw[show b2Q q (some dl)=C6 dl q from rfl,hq2]at hb;cases hb
                |some q2=>
                 rw[show b2Q q (some dl)=C6 dl q from rfl,hq2]at hb
                 rw[show c3X q (some v)=P1 v q from rfl,(a0m h1 hq2).1]
                 exact hb
       ·cases mx<;>cases vmx<;>first|rfl|exact h3.elim
      refine⟨.slc (.new k) (i*z+l*z) (hh - l) (m - l) (ex||vmx.isSome) z, ?_,fun H=> ?_⟩
      ·simp only[Rp]
       exact⟨hmz,by rw[key.2,Nat.add_mul]⟩
      ·simp only[a0G,hu,hsz,key.1,Option.bind_eq_bind,Option.bind_some,a3P,beq_self_eq_true,if_true]
    ·cases h
  ·cases h
 ·cases h
theorem c7z{x:D}{v:AV}(hx:Rp E R x v){off:Nat}{d:D}(h:p9 off x=some d):∃o i,v= .ptr o i∧Rp E R d (.ptr o (i+off)):=by
 cases x<;>simp only[p9]at h<;>try (cases h;done)
 all_goals
  cases h
  simp only[Rp]at hx ⊢
 ·subst hx;exact⟨_,_,rfl,rfl⟩
 ·obtain⟨hmz,rfl⟩:=hx;exact⟨_,_,rfl,hmz,by rw[Nat.add_assoc]⟩
 ·obtain⟨o,j,all,rfl,e2,e3⟩:=hx
  exact⟨_,_,rfl,o,j,all,by rw[Nat.add_assoc],e2,e3⟩
theorem c3Q{s:TypeId}{x:D}{v:AV}(hx:Rp E R x v){f:Nat}{d:D}(h:b7e P s x f=some d):∃y,Rp E R d y∧a3E P s v f=some y:=by
 unfold b7e at h
 cases hf:a2M P s f with
 |none=>rw[hf]at h;cases h
 |some fl=>
  simp only[hf]at h
  split at h
  ·rename_i n hs
   obtain⟨o,i,rfl,h1⟩:=c7z hx h
   refine⟨_,h1, ?_⟩
   simp only[a3E,hf,hs,Option.bind_eq_bind,Option.bind_some,Option.isSome_some,true_and]
   rw[if_pos (by simp)]
  ·cases h
theorem c4x{t:TypeId}{x:D}{v:AV}(hx:Rp E R x v){off:Nat}{d:D}(h:c1J P t off x=some d):∃cs y,v= .agg cs∧Rp E R d y∧a9J P t cs off=some y:=by
 unfold c1J at h
 cases hg:a6j P t with
 |none=>rw[hg]at h;cases h
 |some b=>
  simp only[hg]at h
  cases b with
  |true=>
   cases hs:A4 P t with
   |none=>rw[hs]at h;cases h
   |some n=>
    simp only[hs]at h
    cases x<;>simp only[b9P]at h<;>try (cases h;done)
    cases h
    simp only[Rp]at hx
    obtain⟨vs,rfl,h1,h2⟩:=hx
    refine⟨vs, .agg ((vs.drop off).take n),rfl, ?_,by simp only[a9J,hg,hs,Option.pure_def,Option.bind_eq_bind,Option.bind_some,if_true]⟩
    simp only[Rp]
    exact⟨_,rfl,(h1.drop off).take n,G8 (W5 h2 off) n⟩
  |false=>
   simp only at h
   cases x<;>simp only[c0u]at h<;>try (cases h;done)
   simp only[Rp]at hx
   obtain⟨vs,rfl,h1,h2⟩:=hx
   obtain⟨y,e1,e2⟩:=a2N h1 h
   exact⟨vs,y,rfl,e2,by simp only[a9J,hg,Option.bind_eq_bind,Option.bind_some,Bool.false_eq_true,if_false,e1]⟩
theorem c6V{s:TypeId}{x:D}{v:AV}(hx:Rp E R x v){f:Nat}{d:D}(h:c3f P s x f=some d):∃y,Rp E R d y∧b0b P s v f=some y:=by
 unfold c3f at h
 cases hf:a2M P s f with
 |none=>rw[hf]at h;cases h
 |some fl=>
  simp only[hf]at h
  obtain⟨cs,y,rfl,h1,h2⟩:=c4x hx h
  exact⟨y,h1,by simp only[b0b,hf,Option.bind_eq_bind,Option.bind_some,h2]⟩
theorem c4b{t:TypeId}{x ix:D}{v vi:AV}(hx:Rp E R x v)(hi:Rp E R ix vi){d:D}(h:b6A P t x ix=some d):∃y,Rp E R d y∧a0o P t v vi=some y:=by
 unfold b6A at h
 split at h
 ·rename_i e hu
  split at h
  ·rename_i sz hs
   cases ix<;>simp only[j5]at h<;>try (cases h;done)
   rename_i k n
   simp only[Rp]at hi
   subst hi
   cases x<;>simp only at h<;>try (cases h;done)
   ·rename_i rows z
    split at h
    ·rename_i hz
     obtain⟨rfl,h0⟩:=hz
     split at h
     ·rename_i row hrow
      cases h
      simp only[Rp]at hx
      rcases hx with ⟨rfl,_⟩|⟨o,j,cap,ex,z',rfl,f1,f2,f3,f4⟩
      ·cases hrow
      have hlt:=(List.getElem?_eq_some_iff.1 hrow).1
      have hrl:=f3 row (List.mem_of_getElem? hrow)
      rcases f4 with rfl|⟨all,k1,k2,k3⟩
      ·cases hrow
      refine⟨.ptr o (j+n.toNat*z), ?_, ?_⟩
      ·simp only[Rp]
       refine⟨o,j+n.toNat*z,all,rfl,k1, ?_⟩
       have hle:n.toNat*z+z≤rows.length*z:=by rw[←Nat.succ_mul];exact Nat.mul_le_mul_right _ hlt
       rw[hrl,a5Q (L:=rows.length*z) hle]
       refine⟨?_,G8 (W5 k3 _) _⟩
       have:=((E5.1 k2).drop (n.toNat*z)).take z
       rw[a8j f3 hrow]at this
       exact this
      ·simp only[a0o,R7,hu,hs,Option.bind_eq_bind,Option.bind_some]
       rw[if_pos (by omega)]
     ·cases h
    ·cases h
   ·rename_i rows more z
    split at h
    ·rename_i hz
     obtain⟨rfl,h0⟩:=hz
     split at h
     ·rename_i row hrow
      cases h
      simp only[Rp]at hx
      obtain⟨o,j,cap,ex,z',all,rfl,f1,f2,f3,f4,k1,k2,f7,k3⟩:=hx
      have hlt:=(List.getElem?_eq_some_iff.1 hrow).1
      have k1:=k1.resolve_right fun h=>by rw[h.1]at hlt;simp at hlt
      have hrl:=f3 row (List.mem_of_getElem? hrow)
      refine⟨.ptr o (j+n.toNat*z), ?_, ?_⟩
      ·simp only[Rp]
       refine⟨o,j+n.toNat*z,all,rfl,k1, ?_⟩
       have hle:n.toNat*z+z≤rows.length*z:=by rw[←Nat.succ_mul];exact Nat.mul_le_mul_right _ hlt
       have hle':rows.length*z≤(rows.length+more.length)*z:=Nat.mul_le_mul_right _ (by omega)
       rw[hrl]
       refine⟨?_,by rw[a5Q (L:=(rows.length+more.length)*z) (by omega)];exact G8 (W5 k3 _) _⟩
       rw[a5Q (L:=rows.length*z) hle]
       have:=((E5.1 k2).drop (n.toNat*z)).take z
       rw[a8j f3 hrow]at this
       exact this
      ·simp only[a0o,R7,hu,hs,Option.bind_eq_bind,Option.bind_some]
       rw[if_pos (by omega)]
     ·cases h
    ·cases h
   ·rename_i k i len cap ex z
    split at h
    ·rename_i hz
     obtain⟨rfl,h0,h1⟩:=hz
     cases h
     simp only[Rp]at hx
     obtain⟨hmz,rfl⟩:=hx
     refine⟨.ptr (.new k) ((i+n.toNat)*z+0),by simp only[Rp];exact⟨hmz,by trivial⟩, ?_⟩
     simp only[a0o,R7,hu,hs,Option.bind_eq_bind,Option.bind_some]
     rw[if_pos ⟨h0,h1⟩,Nat.add_mul,Nat.add_zero]
    ·cases h
  ·cases h
 ·rename_i len e hu
  split at h
  ·rename_i sz hs
   cases ix<;>simp only[c7n]at h<;>try (cases h;done)
   rename_i k n
   simp only[Rp]at hi
   subst hi
   split at h
   ·rename_i hn
    obtain⟨o,i,rfl,h1⟩:=c7z hx h
    refine⟨_,h1, ?_⟩
    simp only[a0o,R7,hu,hs,Option.bind_eq_bind,Option.bind_some]
    rw[if_pos hn]
   ·cases h
  ·cases h
 ·cases h
theorem c1b{t:TypeId}{x ix:D}{v vi:AV}(hx:Rp E R x v)(hi:Rp E R ix vi){d:D}(h:c3a P t x ix=some d):∃y,Rp E R d y∧a7n P t v vi=some y:=by
 unfold c3a at h
 split at h
 ·rename_i hu
  cases ix<;>simp only[c7m]at h<;>try (cases h;done)
  rename_i k n
  cases x<;>simp only at h<;>try (cases h;done)
  rename_i s
  simp only[Rp]at hi hx
  subst hi hx
  split at h
  ·rename_i h0
   split at h
   ·rename_i b hb
    cases h
    refine⟨_,by simp only[Rp];rfl, ?_⟩
    simp only[a7n,R7,hu,Option.bind_eq_bind,Option.bind_some,hb]
    rw[if_pos h0]
    rfl
   ·cases h
  ·cases h
 ·rename_i len e hu
  split at h
  ·rename_i sz ag hs hag
   cases ix<;>simp only[c6q]at h<;>try (cases h;done)
   rename_i kk n
   simp only[Rp]at hi
   subst hi
   split at h
   ·rename_i hn
    have hp:c1J P e (n.toNat*sz) x=some d:=by
     unfold c1J
     rw[hag]
     cases ag with
     |true=>simp only[hs];exact h
     |false=>exact h
    obtain⟨cs,y,rfl,h1,h2⟩:=c4x hx hp
    refine⟨y,h1, ?_⟩
    simp only[a7n,R7,hu,hs,Option.bind_eq_bind,Option.bind_some]
    rw[if_pos hn]
    exact h2
   ·cases h
  ·cases h
 ·cases h
theorem c4j:∀ {rows:List (List D)} {es:List (AV×AV×Nat)},RpE E R rows es→es.length=rows.length
 | [],es,h=>by simp only[RpE]at h;rw[h];rfl
 |row::rows,es,h=>by obtain⟨_,_,e,es',_,rfl,_,_,h⟩:=h;rw[List.length_cons,List.length_cons,c4j h]
theorem c7p{es es':List (AV×AV×Nat)}(h:es.map b7T=es'.map b7T):es=es':=by
 induction es generalizing es' with
 |nil=>cases es' with|nil=>rfl|cons e es'=>cases h
 |cons e es ih=>
  cases es' with
  |nil=>cases h
  |cons e' es'=>
   simp only[List.map_cons,List.cons.injEq,b7T,AV.tup.injEq,AV.int.injEq,true_and,and_true,Int.natCast_inj]at h
   obtain⟨⟨h1,h2,h3⟩,h4⟩:=h
   rw[ih h4]
   congr 1
   exact Prod.ext h1 (Prod.ext h2 h3)
theorem c7o(hC:s0 E R S H0){x:D}{v:AV}(hx:Rp E R x v){rows:List (List D)}(h:c3D S x=some rows):∃es,RpE E R rows es∧∀H,Agr R S (b0X x) H→a2b H v=some es:=by
 cases x<;>simp only[c3D]at h<;>try (cases h;done)
 ·cases h
  simp only[Rp]at hx
  subst hx
  exact⟨[],by simp only[RpE],fun H _=>rfl⟩
 ·rename_i k
  simp only[Rp]at hx
  subst hx
  split at h
  ·rename_i o hk
   obtain⟨_,es,cl,a,g,r,_⟩:=hC.mapAt hk h
   refine⟨es,r,fun H hA=> ?_⟩
   obtain⟨es',cl',a',g'⟩:=hA.mp k o rows rfl hk h
   rw[a]at a'
   simp only[a2b,g',c7p a']
  ·cases h
theorem b6d{a b:D}{va vb:AV}(ha:Rp E R a va)(hb:Rp E R b vb){r:Bool}(h:b9R a b=some r):b8U va vb=some r:=by
 cases a<;>simp only[b9R]at h<;>try (cases h;done)
 all_goals
  cases b<;>simp only at h<;>try (cases h;done)
  all_goals
   simp only[Rp]at ha hb
   subst ha hb
   exact h
theorem a8B{k:D}{vk:AV}(hk:Rp E R k vk):∀ {rows:List (List D)} {es:List (AV×AV×Nat)} {i:Nat} {r:Option (Nat×D×D)},RpE E R rows es→a9q k rows i=some r→
  match r with
  |none=>a5L vk es i=some none
  |some (j,v,n)=>∃(e:AV×AV×Nat) (kd:D),i≤j∧es[j - i]? =some e∧rows[j - i]? =some [kd,v,n]∧n= .int .i64 e.2.2∧Rp E R kd e.1∧Rp E R v e.2.1∧a5L vk es i=some (some (j,e.2.1,e.2.2))
 | [],es,i,r,he,h=>by
  simp only[RpE]at he
  subst he
  cases h
  rfl
 |row::rows,es,i,r,he,h=>by
  obtain⟨kd,vd,⟨ek,ev,en⟩,es',rfl,rfl,h1,h2,h3⟩:=he
  simp only[a9q]at h
  split at h
  ·rename_i hq
   cases h
   refine⟨(ek,ev,en),kd,Nat.le_refl _,by rw[Nat.sub_self];rfl,by rw[Nat.sub_self];rfl,rfl,h1,h2, ?_⟩
   simp only[a5L,b6d hk h1 hq]
  ·rename_i hq
   have ih:=a8B hk h3 h
   cases r with
   |none=>simp only[a5L,b6d hk h1 hq];exact ih
   |some r=>
    obtain⟨j,v,n⟩:=r
    obtain⟨e,kd',a,b,c,d,f,g,q⟩:=ih
    have hj:j - i=(j - (i+1))+1:=by omega
    refine⟨e,kd',by omega,by rw[hj];exact b,by rw[hj];exact c,d,f,g, ?_⟩
    simp only[a5L,b6d hk h1 hq]
    exact q
  ·cases h
theorem b5z{t:TypeId}{kk:Nat}(h:b1A P t=some kk){d:D}{v:AV}(hd:Rp E R d v)(hi:b1N kk d=true):a4e P t v=true:=by
 unfold b1A at h
 unfold a4e
 cases d<;>simp only[b1N,beq_iff_eq]at hi<;>try (cases hi;done)
 all_goals
  subst hi
  simp only[Rp]at hd
  subst hd
  split at h<;>simp_all
theorem c5O(hC:s0 E R S H0){t:TypeId}{x ix:D}{v vi:AV}(hx:Rp E R x v)(hi:Rp E R ix vi){ok:Bool}{d:D}(h:c0g P S t x ix ok=some d):∃y,Rp E R d y∧∀H,Agr R S (b0X x) H→a1g P H t v vi ok=some y:=by
 unfold c0g at h
 split at h
 ·rename_i kt e hu
  split at h
  ·rename_i kk z hkk hz
   unfold a7O at h
   split at h
   ·rename_i hki
    split at h
    ·rename_i rows hent
     obtain⟨es,h1,h2⟩:=c7o hC hx hent
     have hf:=b5z hkk hi hki
     have fin:∀ {w:AV} {b:Bool},b9z P e (a5L vi es 0)=some (w,b)→∀H,Agr R S (b0X x) H→a1g P H t v vi ok=some (if ok then .tup [w, .bool b]else w):=by
      intro w b hw H hA
      unfold a1g
      rw[hu]
      simp only[hf,if_true,h2 H hA,Option.bind_some,hw]
     have tupR:∀ {d:D} {w:AV} {b:Bool},Rp E R d w→Rp E R (if ok then .tup [d, .bool b]else d) (if ok then .tup [w, .bool b]else w):=by
      intro d w b hd
      cases ok
      ·exact hd
      ·simp only[if_true,Rp]
       exact⟨_,rfl,q9 hd (q9 (by simp only[Rp]) A7)⟩
     cases hfd:a9q ix rows 0 with
     |none=>rw[hfd]at h;cases h
     |some r=>
      rw[hfd]at h
      have g:=a8B hi h1 hfd
      cases r with
      |none=>
       cases h
       exact⟨_,tupR (a8I (v:=z)),fin (by rw[g];simp only[b9z,hz,Option.map_some])⟩
      |some r=>
       obtain⟨j,vd,n⟩:=r
       obtain⟨en,kd,_,_,_,_,_,g2,g3⟩:=g
       cases h
       exact⟨_,tupR g2,fin (by rw[g3];rfl)⟩
    ·cases h
   ·cases h
  ·cases h
 ·cases h
theorem c9D(hC:s0 E R S H0){t:TypeId}{x:D}{v:AV}(hx:Rp E R x v){d:D}(h:c9m P S t x=some d):∃y,Rp E R d y∧∀H,Agr R S (if b2C P t then b0X x else none) H→c3W P H t v=some y:=by
 unfold c9m at h
 have go:∀ {n:Nat},b0D P t v=some n→d= .int .i64 n→∃y,Rp E R d y∧∀H,Agr R S (if b2C P t then b0X x else none) H→c3W P H t v=some y:=by
  intro n e1 e2
  subst e2
  exact⟨.int .i64 n,by simp only[Rp],fun H _=>by simp only[c3W,e1]⟩
 split at h
 ·rename_i hu
  cases x<;>simp only[c3B]at h<;>try (cases h;done)
  cases h
  simp only[Rp]at hx
  subst hx
  exact go (by simp only[b0D,hu]) rfl
 ·rename_i kt e hu
  unfold d0o at h
  split at h
  ·rename_i rows hent
   cases h
   obtain⟨es,h1,h2⟩:=c7o hC hx hent
   refine⟨.int .i64 rows.length,by simp only[Rp],fun H hA=> ?_⟩
   have hm:b2C P t=true:=by unfold b2C;rw[hu]
   rw[hm,if_pos rfl]at hA
   have he:=h2 H hA
   have hl:=c4j h1
   cases x<;>simp only[c3D]at hent<;>try (cases hent;done)
   ·simp only[Rp]at hx
    subst hx
    cases he
    rw[←hl]
    simp only[c3W,b0D,hu,a1P]
    rfl
   ·simp only[Rp]at hx
    subst hx
    simp only[a2b]at he
    split at he
    ·rename_i es' cl hg
     cases he
     simp only[c3W,b0D,hu,a1P,hg, ←hl]
     rfl
    ·cases he
  ·cases h
 ·rename_i e hu
  cases x<;>simp only[j9]at h<;>try (cases h;done)
  all_goals
   cases h
   simp only[Rp]at hx
  ·subst hx;exact go (n:=0) (by simp only[b0D,hu]) rfl
  ·rcases hx with ⟨rfl,rfl⟩|⟨o,j,cap,ex,z',rfl,_⟩
   ·exact go (n:=0) (by simp only[b0D,hu]) rfl
   ·exact go (by simp only[b0D,hu]) rfl
  ·obtain⟨o,j,cap,ex,z',all,rfl,_⟩:=hx;exact go (by simp only[b0D,hu]) rfl
  ·obtain⟨_,rfl⟩:=hx;exact go (by simp only[b0D,hu]) rfl
 ·rename_i n e hu
  cases h
  exact go (by simp only[b0D,hu]) rfl
 ·cases h
theorem c8T{t:TypeId}{x:D}{v:AV}(hx:Rp E R x v){d:D}(h:c9r P t x=some d):∃y,Rp E R d y∧((b9w P t v).map fun(n:Nat)=>AV.int .i64 n)=some y:=by
 unfold c9r at h
 split at h
 ·rename_i e hu
  cases x<;>simp only[c8K]at h<;>try (cases h;done)
  ·cases h
   simp only[Rp]at hx
   subst hx
   exact⟨.int .i64 (0:Nat),by simp only[Rp];rfl,by simp only[b9w,hu];rfl⟩
  ·rename_i k i len cap ex z
   cases ex<;>simp only at h<;>try (cases h;done)
   cases h
   simp only[Rp]at hx
   obtain⟨_,rfl⟩:=hx
   exact⟨.int .i64 cap,by simp only[Rp],by simp only[b9w,hu];rfl⟩
 ·rename_i n e hu
  cases h
  exact⟨.int .i64 n,by simp only[Rp],by simp only[b9w,hu];rfl⟩
 ·cases h
theorem c4F{m:Bool}:∀ {l:List D} {vs:List AV} {x:D} {v:AV} {d:D},Rp E R x v→s7 E R l vs→l.foldlM (mmD m) x=some d→∃y,Rp E R d y∧vs.foldlM (fun x y=>match x,y with
  | .int k a, .int _ b=>some (AV.int k (if m then(if b>a then b else a) else(if b<a then b else a)))
  |_,_=>none) v=some y
 | [],vs,x,v,d,hx,hl,h=>by
  simp only[s7]at hl
  subst hl
  cases h
  exact⟨v,hx,rfl⟩
 |a::l,vs,x,v,d,hx,hl,h=>by
  simp only[s7]at hl
  obtain⟨w,ws,rfl,h1,h2⟩:=hl
  simp only[List.foldlM_cons,Option.bind_eq_bind]at h ⊢
  cases x<;>simp only[mmD,Option.bind_none]at h<;>try (cases h;done)
  cases a<;>simp only[Option.bind_none]at h<;>try (cases h;done)
  simp only[Option.bind_some]at h
  simp only[Rp]at hx h1
  subst hx h1
  exact c4F (by simp only[Rp]) h2 h
theorem b8P{m:Bool}{l:List D}{vs:List AV}(hl:s7 E R l vs){d:D}(h:b0W m l=some d):∃y,Rp E R d y∧a1W m vs=some y:=by
 cases l with
 |nil=>cases h
 |cons x l=>
  simp only[s7]at hl
  obtain⟨v,ws,rfl,h1,h2⟩:=hl
  exact c4F h1 h2 h
theorem c6k{t:TypeId}{x:D}{v:AV}(hx:Rp E R x v){d:D}(h:c3K P t x=some d):∃y,Rp E R d y∧b9X P t v=some y:=by
 unfold c3K at h
 unfold b9X
 split at h
 ·cases h
 ·rename_i u hn hu
  cases h
  rw[hu]
  refine⟨.ifc t v,by simp only[Rp];exact⟨v,rfl,hx⟩, ?_⟩
  split
  ·rename_i e h1;cases h1;exact(hn _ rfl).elim
  ·rfl
  ·rename_i h1;cases h1
 ·cases h
theorem c5z{x:D}{v:AV}(hx:Rp E R x v){t:TypeId}{ok:Bool}{d:D}(h:c0y P x t ok=some d):∃y,Rp E R d y∧a6k P v t ok=some y:=by
 unfold c0y at h
 split at h
 ·cases h
 ·rename_i u hn hu
  split at h
  ·rename_i z hz
   have fails:ok=true→d= .tup [c1A z, .bool false]→∃y,Rp E R d y∧(if ok=true then(G7 P t).map fun z=>AV.tup [z, .bool false]else none)=some y:=by
    intro hok hd
    subst hd
    refine⟨.tup [z, .bool false], ?_,by rw[if_pos hok,hz];rfl⟩
    simp only[Rp]
    exact⟨_,rfl,q9 a8I (q9 (by simp only[Rp]) A7)⟩
   unfold a6k
   rw[hu]
   split
   ·rename_i e h1;cases h1;exact(hn _ rfl).elim
   ·cases x<;>simp only[asD]at h<;>try (cases h;done)
    ·split at h
     ·rename_i hok
      cases h
      simp only[Rp]at hx
      subst hx
      exact fails hok rfl
     ·cases h
    ·rename_i t' d'
     simp only[Rp]at hx
     obtain⟨v',rfl,hv⟩:=hx
     split at h
     ·rename_i ht
      cases h
      simp only[if_pos ht]
      cases ok with
      |true=>
       refine⟨.tup [v', .bool true], ?_,rfl⟩
       simp only[if_true,Rp]
       exact⟨_,rfl,q9 hv (q9 (by simp only[Rp]) A7)⟩
      |false=>exact⟨v',by simpa using hv,rfl⟩
     ·rename_i ht
      split at h
      ·rename_i hok
       cases h
       simp only[if_neg ht]
       exact fails hok rfl
      ·cases h
   ·rename_i h1;cases h1
  ·cases h
 ·cases h
theorem a0V:∀ {ds:List D} {vs:List AV} {cs:List D} {ws:List AV} {i:Nat},s7 E R cs ws→s7 E R ds vs→s7 E R (j4 cs i ds) (z7 ws i vs)
 | [],vs,cs,ws,i,h,hd=>by simp only[s7]at hd;subst hd;exact h
 |d::ds,vs,cs,ws,i,h,hd=>by
  simp only[s7]at hd
  obtain⟨v,vs,rfl,h1,h2⟩:=hd
  show s7 E R (j4 (cs.set i d) (i+1) ds) (z7 (ws.set i v) (i+1) vs)
  exact a0V (h.set i h1) h2
theorem Q4:∀(ds cs:List D) (i:Nat),(j4 cs i ds).length=cs.length
 | [],cs,i=>rfl
 |d::ds,cs,i=>by rw[j4,Q4 ds,List.length_set]
theorem O0:∀ {vs ws:List AV} {i:Nat},ws.all m9=true→vs.all m9=true→(z7 ws i vs).all m9=true
 | [],ws,i,h,_=>h
 |v::vs,ws,i,h,hv=>by
  simp only[List.all_cons,Bool.and_eq_true]at hv
  show(z7 (ws.set i v) (i+1) vs).all m9=true
  refine O0 ?_ hv.2
  refine List.all_eq_true.2 fun x hx=> ?_
  rcases List.mem_or_eq_of_mem_set hx with hx|rfl
  ·exact List.all_eq_true.1 h x hx
  ·exact hv.1
def RpP(E:g8)(R:Fz):List (Nat×D)→List (Nat×AV)→Prop
 | [],l=>l=[]
 |(i,d)::ds,l=>∃v vs,l=(i,v)::vs∧Rp E R d v∧RpP E R ds vs
theorem b6F{T:List D}{avs:List AV}(h:s7 E R T avs):∀l:List (Nat×Operand),RpP E R (l.map fun p=>(p.1,q7 T p.2)) (l.map fun p=>(p.1,i4 avs p.2))
 | []=>rfl
 |(i,x)::l=>⟨_,_,rfl,j8 h x,b6F h l⟩
theorem c5g{place:Nat→Option (Nat×Nat)}:∀ {parts:List (Nat×D)} {ps:List (Nat×AV)} {cs:List D} {ws:List AV} {l:List (Nat×Nat×D)} {r:List D},RpP E R parts ps→s7 E R cs ws→ws.all m9=true→a8R place parts=some l→l8 cs l=some r→
  ∃us,s7 E R r us∧us.all m9=true∧us.length=ws.length∧a5H place ws ps=some us
 | [],ps,cs,ws,l,r,hp,hc,hs,h1,h2=>by
  have hp':ps=[]:=hp
  subst hp'
  cases h1
  cases h2
  exact⟨ws,hc,hs,rfl,rfl⟩
 |(i,d)::parts,ps,cs,ws,l,r,hp,hc,hs,h1,h2=>by
  obtain⟨v,vs,rfl,hd,hp⟩:=hp
  simp only[a8R]at h1
  split at h1
  ·rename_i off size hpl
   split at h1
   ·rename_i l' hl'
    cases h1
    simp only[l8]at h2
    split at h2
    ·rename_i ds hds
     split at h2
     ·rename_i hsz
      obtain⟨g1,g2⟩:=a7o hd hds
      obtain⟨us,k1,k2,k3,k4⟩:=c5g hp (a0V (i:=off) hc g1) (O0 hs g2) hl' h2
      refine⟨us,k1,k2,by rw[k3,a8q], ?_⟩
      simp only[a5H,hpl]
      rw[if_pos,k4]
      rw[g1.length, ←hc.length]at*
      exact⟨hsz.1,by omega⟩
     ·cases h2
    ·cases h2
   ·cases h1
  ·cases h1
theorem c8W{r:Option (List D)}{d:D}(h:B3 r=some d):∃cs,r=some cs∧d= .agg cs:=by
 cases r with
 |none=>cases h
 |some cs=>cases h;exact⟨cs,rfl,rfl⟩
theorem c6t{t:TypeId}{parts:List (Nat×D)}{ps:List (Nat×AV)}(hp:RpP E R parts ps){d:D}(h:c3r P t parts=some d):∃y,Rp E R d y∧a7Y P t ps=some y:=by
 unfold c3r at h
 split at h
 ·rename_i z hz
  split at h
  ·rename_i hsc
   have fin:∀ {place:Nat→Option (Nat×Nat)} {l:List (Nat×Nat×D)},a8R place parts=some l→B3 (l8 (z.map W9) l)=some d→∃y,Rp E R d y∧(a5H place (AV.agg z).cells ps).map AV.agg=some y:=by
    intro place l h1 h2
    obtain⟨cs,e1,rfl⟩:=c8W h2
    obtain⟨us,k1,k2,k3,k4⟩:=c5g hp (b2M z) hsc h1 e1
    refine⟨.agg us,by simp only[Rp];exact⟨us,rfl,k1,k2⟩, ?_⟩
    show(a5H place z ps).map AV.agg=_
    rw[k4];rfl
   split at h
   ·rename_i fields hu
    split at h
    ·rename_i places hpl
     split at h
     ·rename_i l hl
      obtain⟨y,e1,e2⟩:=fin hl h
      refine⟨y,e1, ?_⟩
      simp only[a7Y,hz,hu,hpl,Option.bind_eq_bind,Option.bind_some]
      exact e2
     ·cases h
    ·cases h
   ·rename_i n e hu
    split at h
    ·rename_i size hs
     split at h
     ·rename_i l hl
      obtain⟨y,e1,e2⟩:=fin hl h
      refine⟨y,e1, ?_⟩
      simp only[a7Y,hz,hu,hs,Option.bind_eq_bind,Option.bind_some]
      exact e2
     ·cases h
    ·cases h
   ·cases h
  ·cases h
 ·cases h
theorem b8D(hC:s0 E R S H0){sz:Nat}{x:D}{v:AV}(hx:Rp E R x v){rows:List (List D)}(h:C1 S sz x=some rows):
  (∀row∈rows,row.length=sz)∧a1J v=some rows.length∧∃cs,s7 E R rows.flatten cs∧cs.all m9=true∧∀H,Agr R S (b2i x) H→U5 E H sz rows.length v=some cs∧(∀o i len cap ex z,v= .slc o i len cap ex z→F4 E H o i (len*sz)=some cs):=by
 cases x<;>simp only[C1]at h<;>try (cases h;done)
 ·cases h
  simp only[Rp]at hx
  subst hx
  exact⟨fun row hr=>(by cases hr),rfl,[],A7,rfl,fun H _=>⟨rfl,fun _ _ _ _ _ _ e=>(by cases e)⟩⟩
 ·rename_i rows' z
  split at h
  ·rename_i hz
   cases h
   subst hz
   simp only[Rp]at hx
   rcases hx with ⟨rfl,rfl⟩|⟨o,j,cap,ex,z',rfl,f1,f2,f3,f4⟩
   ·exact⟨fun row hr=>(by cases hr),rfl,[],A7,rfl,fun H _=>⟨rfl,fun _ _ _ _ _ _ e=>(by cases e)⟩⟩
   refine⟨f3,rfl, ?_⟩
   rcases f4 with rfl|⟨all,k1,k2,k3⟩
   ·refine⟨[],A7,rfl,fun H _=>⟨?_,fun _ _ _ _ _ _ e=> ?_⟩⟩
    ·simp only[U5,F4,List.length_nil,Nat.zero_mul,if_true]
    ·cases e;simp only[F4,List.length_nil,Nat.zero_mul,if_true]
   ·have key:∀H,Agr R S (b2i (.lst rows z)) H→F4 E H o j (rows.length*z)=some ((all.drop j).take (rows.length*z)):=by
     intro H hA
     have hc:=b3z k1 hA
     unfold F4
     split
     ·rename_i e0;rw[e0,List.take_zero]
     ·rename_i e0
      have hl:=(E5.1 k2).length
      rw[r6 f3,List.length_take,List.length_drop]at hl
      simp only[B5,hc]
      rw[if_pos (by omega)]
    exact⟨_,E5.1 k2,k3,fun H hA=>⟨key H hA,fun _ _ _ _ _ _ e=>by cases e;exact key H hA⟩⟩
  ·cases h
 ·rename_i rows' more z
  split at h
  ·rename_i hz
   cases h
   subst hz
   simp only[Rp]at hx
   obtain⟨o,j,cap,ex,z',all,rfl,f1,f2,f3,f4,k1,k2,f7,k3⟩:=hx
   refine⟨f3,rfl, ?_⟩
   have hle':rows.length*z≤(rows.length+more.length)*z:=Nat.mul_le_mul_right _ (by omega)
   have k3':((all.drop j).take (rows.length*z)).all m9=true:=by
    have:=G8 k3 (rows.length*z)
    rw[List.take_take,Nat.min_eq_left hle']at this
    exact this
   have key:∀H,Agr R S (b2i (.ext rows more z)) H→F4 E H o j (rows.length*z)=some ((all.drop j).take (rows.length*z)):=by
    intro H hA
    unfold F4
    split
    ·rename_i e0;rw[e0,List.take_zero]
    ·rename_i e0
     have hc:=b3z (k1.resolve_right fun h=>e0 (by rw[h.1];simp)) hA
     have hl:=(E5.1 k2).length
     rw[r6 f3,List.length_take,List.length_drop]at hl
     simp only[B5,hc]
     rw[if_pos (by omega)]
   exact⟨_,E5.1 k2,k3',fun H hA=>⟨key H hA,fun _ _ _ _ _ _ e=>by cases e;exact key H hA⟩⟩
  ·cases h
 ·rename_i k i len cap ex z
  cases hk:S k with
  |none=>rw[hk]at h;cases h
  |some o=>
   simp only[hk]at h
   split at h
   ·rename_i hz
    obtain⟨rfl,hsz,hlen⟩:=hz
    cases h
    simp only[Rp]at hx
    obtain⟨hmz,rfl⟩:=hx
    have hom:o.sz<H3:=by rw[hsz];exact hmz
    obtain⟨h1,⟨pre,h2⟩,h3,h4,h5⟩:=hC.cells hk (.inl hom)
    rw[hsz]at h4
    have hd:∀row∈o.rows.drop i,row.length=z:=fun row hr=>h4 row (List.mem_of_mem_drop hr)
    have hl:((o.rows.drop i).take len).length=len:=by rw[List.length_take,List.length_drop];omega
    have hll:=h5.length
    rw[r6 h4]at hll
    have hle:i*z+len*z≤o.acs.length:=by rw[hll, ←Nat.add_mul];exact Nat.mul_le_mul_right _ hlen
    refine⟨fun row hr=>hd row (List.mem_of_mem_take hr),by rw[hl];rfl,(o.acs.drop (i*z)).take (len*z), ?_,G8 (W5 h3 _) _,fun H hA=> ?_⟩
    ·rw[←Z1 hd, ←a0T h4]
     exact(h5.drop _).take _
    ·have key:F4 E H (.new k) (i*z) (len*z)=some ((o.acs.drop (i*z)).take (len*z)):=by
      obtain⟨w,p,g⟩:=hA.st k o rfl hk (.inl hom)
      exact c1K E g _ _ hle
     refine⟨by rw[hl];exact key,fun _ _ _ _ _ _ e=>by cases e;exact key⟩
   ·cases h
theorem c5e:∀ {rows:List (List D)} {bs:List UInt8} {cs:List AV},(∀row∈rows,row.length=1)→s7 E R rows.flatten cs→rows.mapM b6G=some bs→cs.mapM b9E=some bs
 | [],bs,cs,_,h,e=>by
  simp only[List.flatten_nil,s7]at h
  subst h
  exact e
 |row::rows,bs,cs,hl,h,e=>by
  rw[List.mapM_cons]at e
  cases hb:b6G row with
  |none=>rw[hb]at e;cases e
  |some b=>
   rw[hb]at e
   simp only[Option.bind_eq_bind,Option.bind_some]at e
   cases hm:rows.mapM b6G with
   |none=>rw[hm]at e;cases e
   |some l=>
    rw[hm]at e
    cases e
    unfold b6G at hb
    split at hb
    ·rename_i n
     cases hb
     simp only[List.flatten_cons,List.cons_append,List.nil_append,s7]at h
     obtain⟨v,vs,rfl,h1,h2⟩:=h
     simp only[Rp]at h1
     subst h1
     have ih:=c5e (fun row hr=>hl row (List.mem_cons_of_mem _ hr)) h2 hm
     rw[List.mapM_cons,ih]
     rfl
    ·cases hb
theorem c8n(hC:s0 E R S H0){s t:TypeId}{x:D}{v:AV}(hx:Rp E R x v){d:D}(h:c6N P S s t x=some d):∃y,Rp E R d y∧∀H,Agr R S (b2i x) H→(J3 P E H s t v).map (·.1)=some y:=by
 unfold c6N at h
 split at h
 ·rename_i hu1 hu2
  cases x<;>simp only[Q9]at h<;>try (cases h;done)
  cases h
  simp only[Rp]at hx
  subst hx
  rename_i k' n
  exact⟨.int _ (IntKind.wrap _ n),by simp only[Rp];rfl,fun H _=>by simp only[J3,hu1,hu2];rfl⟩
 ·rename_i hu1 hu2
  cases x<;>simp only[b9D]at h<;>try (cases h;done)
  cases h
  simp only[Rp]at hx
  subst hx
  rename_i s
  exact⟨.str s,by simp only[Rp],fun H _=>by simp only[J3,hu1,hu2];rfl⟩
 ·rename_i e hu1 hu2
  split at h
  ·rename_i hue
   unfold a7K at h
   split at h
   ·rename_i rows hrows
    obtain⟨g1,g2,cs,g3,g4,g5⟩:=b8D hC hx hrows
    cases hm:rows.mapM b6G with
    |none=>rw[hm]at h;cases h
    |some bs=>
     rw[hm]at h
     cases h
     have hb:=c5e g1 g3 hm
     refine⟨.str bs,by simp only[Rp],fun H hA=> ?_⟩
     obtain⟨k1,k2⟩:=g5 H hA
     cases v<;>simp only[a1J,Option.some.injEq]at g2<;>try (cases g2;done)
     ·
      cases x<;>simp only[C1]at hrows<;>try (cases hrows;done)
      ·simp only[Rp]at hx;cases hx
      ·simp only[Rp]at hx;rcases hx with ⟨_,hx⟩|⟨_,_,_,_,_,hx,_⟩<;>cases hx
      ·simp only[Rp]at hx;obtain⟨_,_,_,_,_,_,hx,_⟩:=hx;cases hx
      ·simp only[Rp]at hx;cases hx.2
     ·have hr:rows=[]:=List.length_eq_zero_iff.1 g2.symm
      subst hr
      cases hm
      simp only[J3,hu1,hu2,hue]
      rfl
     ·have:=k2 _ _ _ _ _ _ rfl
      rw[Nat.mul_one]at this
      simp only[J3,hu1,hu2,hue,this,hb]
      rfl
   ·cases h
  ·cases h
 ·cases h
theorem c0J{T:List D}{avs:List AV}(h:s7 E R T avs):∀x:Option Operand,RpO E R (x.map (q7 T)) (x.map (i4 avs))
 |none=>trivial
 |some x=>j8 h x
theorem c8w{T:List D}{avs:List AV}(hT:s7 E R T avs)(hC:s0 E R S H0){o:Oper}{d:D}(h:c8X P T S o=some d):
  ∃v,Rp E R d v∧∀H,Agr R S (a7V P T o) H→opV P E avs H o=some v:=by
 obtain⟨dst,op,type,pos,after,guard⟩:=o
 have plain:∀ {r:Option AV},(∃v,Rp E R d v∧r=some v)→∃v,Rp E R d v∧∀H,Agr R S (a7V P T ⟨dst,op,type,pos,after,guard⟩) H→r=some v:=fun⟨v,a,b⟩=>⟨v,a,fun _ _=>b⟩
 cases op<;>simp only[c8X]at h<;>try (cases h;done)
 case move x=>cases h;exact⟨_,j8 hT x,fun _ _=>rfl⟩
 case assign x=>cases h;exact⟨_,j8 hT x,fun _ _=>rfl⟩
 case pick c a b=>exact plain (c7S (j8 hT c) (j8 hT a) (j8 hT b) h)
 case build t parts=>exact plain (c6t (b6F hT _) h)
 case load t a=>
  obtain⟨v,h1,h2⟩:=c4q hC (j8 hT a) h
  exact⟨v,h1,fun H hA=>h2 H hA⟩
 case nilCheck x=>
  obtain⟨h1,h2⟩:=c9t (j8 hT x) h
  exact⟨_,h1,fun _ _=>h2⟩
 case binOp op t x y yt=>exact plain (c9a (j8 hT x) (j8 hT y) h)
 case unOp op t x=>exact plain (d0r (j8 hT x) h)
 case convert s t x=>
  obtain⟨v,h1,h2⟩:=c8n hC (j8 hT x) h
  exact⟨v,h1,fun H hA=>h2 H hA⟩
 case makeInterface t x=>exact plain (c6k (j8 hT x) h)
 case makeFunc fn a b=>
  cases h
  refine⟨_, ?_,fun _ _=>rfl⟩
  simp only[Rp]
  exact⟨_,_,rfl,a3y hT _,a3y hT _⟩
 case slice t x lo hi mx=>
  obtain⟨v,h1,h2⟩:=c6T (j8 hT x) (c0J hT lo) (c0J hT hi) (c0J hT mx) h
  exact⟨v,h1,fun H _=>h2 H⟩
 case fieldAddr s x f=>exact plain (c3Q (j8 hT x) h)
 case field s x f=>exact plain (c6V (j8 hT x) h)
 case indexAddr t x ix=>exact plain (c4b (j8 hT x) (j8 hT ix) h)
 case index t x ix=>exact plain (c1b (j8 hT x) (j8 hT ix) h)
 case lookup t x ix ok=>
  obtain⟨y,h1,h2⟩:=c5O hC (j8 hT x) (j8 hT ix) h
  exact⟨y,h1,fun H hA=>h2 H hA⟩
 case typeAssert x a t ok=>exact plain (c5z (j8 hT x) h)
 case extract t ix=>exact plain (c3k (j8 hT t) h)
 case call c=>
  cases hc:c.callee with
  |value f=>rw[hc]at h;cases h
  |invoke r m=>rw[hc]at h;cases h
  |builtin b=>
   simp only[hc]at h
   have ha:=a3y hT c.args.toList
   simp only[opV,hc]
   generalize hds:c.args.toList.map (q7 T)=ds at h ha
   generalize c.args.toList.map (i4 avs)=vs at ha
   generalize hts:c.argTypes.toList=ts at h
   cases b<;>(try simp only at h)<;>try (cases h;done)
   case len=>
    rcases ds with _|⟨x,_|⟨y,ds⟩⟩<;>(try simp only at h)<;>try (cases h;done)
    rcases ts with _|⟨t,_|⟨u,ts⟩⟩<;>(try simp only at h)<;>try (cases h;done)
    simp only[s7]at ha
    obtain⟨v,vs,rfl,h1,rfl⟩:=ha
    obtain⟨y,g1,g2⟩:=c9D hC h1 h
    refine⟨y,g1,fun H hA=>g2 H ?_⟩
    have e:a7V P T ⟨dst, .call c,type,pos,after,guard⟩=if b2C P t then b0X x else none:=by
     simp only[a7V,c7L,b5R,hc,hts,hds]
    rw[e]at hA
    exact hA
   case cap=>
    rcases ds with _|⟨x,_|⟨y,ds⟩⟩<;>(try simp only at h)<;>try (cases h;done)
    rcases ts with _|⟨t,_|⟨u,ts⟩⟩<;>(try simp only at h)<;>try (cases h;done)
    simp only[s7]at ha
    obtain⟨v,vs,rfl,h1,rfl⟩:=ha
    obtain⟨y,g1,g2⟩:=c8T h1 h
    exact⟨y,g1,fun H _=>g2⟩
   case min=>
    obtain⟨y,g1,g2⟩:=b8P ha h
    exact⟨y,g1,fun H _=>g2⟩
   case max=>
    obtain⟨y,g1,g2⟩:=b8P ha h
    exact⟨y,g1,fun H _=>g2⟩
end
end Go.Am
end
