/-
  TransferRisesSaid: part Qao of its proof.
-/
import Derived.Test.YtdkidgkiplcggaaGreatQan
set_option linter.unusedVariables false
set_option linter.unusedSimpArgs false
set_option maxRecDepth 100000
section
namespace Go.Am
section
variable{P:Program}{E:j2}{R:Fz}{S:b8}{H0:AHeap}
theorem a2j{x:D}{v:AV}(h:Rp E R x v){y n:Nat}(hb:F4 x y=some n):Z7 v y=some n∧n≤y:=by
 cases x<;>simp only[F4]at hb<;>try (cases hb;done)
 simp only[Rp]at h
 subst h
 split at hb
 ·rename_i hn
  cases hb
  exact⟨by simp only[Z7];rw[if_pos hn],by omega⟩
 ·cases hb
def RpO(E:j2)(R:Fz):Option D→Option AV→Prop
 |none,none=>True
 |some d,some v=>Rp E R d v
 |_,_=>False
theorem a8G{lo hi mx:Option D}{vlo vhi vmx:Option AV}(h1:RpO E R lo vlo)(h2:RpO E R hi vhi)(h3:RpO E R mx vmx){len cap cap' l h m:Nat}(hlc:len≤cap)
  (e:M9 len cap lo hi mx=some (l,h,m)) (hc:cap≤cap') (hx:mx=none→hi=none∨True):
  ∃m',a4w len cap' vlo vhi vmx=some (l,h,m')∧l≤h∧h≤cap∧h≤m'∧(m'=m∨(mx=none∧m'=cap'∧m=cap)):=by
 unfold M9 at e
 cases ht:c7o cap mx with
 |none=>rw[ht]at e;cases e
 |some m0=>
  rw[ht,Option.bind_some]at e
  cases hh:b2O len m0 hi mx with
  |none=>rw[hh]at e;cases e
  |some h0=>
   rw[hh,Option.bind_some]at e
   cases hl:c0K h0 lo with
   |none=>rw[hl]at e;cases e
   |some l0=>
    rw[hl,Option.bind_some]at e
    cases e
    have low:d0I h vlo=some l∧l≤h:=by
     cases lo with
     |none=>
      cases vlo with
      |none=>cases hl;exact⟨rfl,Nat.zero_le _⟩
      |some v=>exact h1.elim
     |some d=>
      cases vlo with
      |none=>exact h1.elim
      |some v=>exact a2j h1 hl
    cases mx with
    |none=>
     cases vmx with
     |some v=>exact h3.elim
     |none=>
      cases ht
      have high:b4y len cap' vhi none=some h∧h≤cap:=by
       cases hi with
       |none=>
        cases vhi with
        |some v=>exact h2.elim
        |none=>cases hh;exact⟨rfl,hlc⟩
       |some d=>
        cases vhi with
        |none=>exact h2.elim
        |some v=>
         have hh':F4 d cap=some h:=hh
         obtain⟨a,b⟩:=a2j h2 hh'
         refine⟨?_,b⟩
         show Z7 v cap'=some h
         cases v<;>simp only[Z7]at a ⊢ <;>try (cases a;done)
         split at a
         ·cases a;rw[if_pos (by omega)]
         ·cases a
      refine⟨cap', ?_,low.2,high.2,by omega, .inr ⟨rfl,rfl,rfl⟩⟩
      simp only[a4w,c8t,Option.bind_some,high.1,low.1]
    |some dm=>
     cases vmx with
     |none=>exact h3.elim
     |some vm=>
      have ht':F4 dm cap=some m:=ht
      obtain⟨a,b⟩:=a2j h3 ht'
      have a':Z7 vm cap'=some m:=by
       cases vm<;>simp only[Z7]at a ⊢ <;>try (cases a;done)
       split at a
       ·cases a;rw[if_pos (by omega)]
       ·cases a
      cases hi with
      |none=>cases hh
      |some d=>
       cases vhi with
       |none=>exact h2.elim
       |some v=>
        obtain⟨c,d'⟩:=a2j h2 (show F4 d m=some h from hh)
        refine⟨m, ?_,low.2,by omega,d', .inl rfl⟩
        show(c8t cap' (some vm)).bind _=_
        rw[show c8t cap' (some vm)=some m from a',Option.bind_some,show b4y len m (some v) (some vm)=some h from c,Option.bind_some,low.1,Option.bind_some]
theorem c2R{lo hi mx:Option D}{len cap l h m:Nat}(e:M9 len cap lo hi mx=some (l,h,m)):m≤cap:=by
 unfold M9 at e
 cases ht:c7o cap mx with
 |none=>rw[ht]at e;cases e
 |some m0=>
  rw[ht,Option.bind_some]at e
  have hm:m0≤cap:=by
   cases mx with
   |none=>cases ht;exact Nat.le_refl _
   |some d=>
    replace ht:F4 d cap=some m0:=ht
    unfold F4 at ht
    split at ht
    ·split at ht
     ·cases ht;omega
     ·cases ht
    ·cases ht
  cases hh:b2O len m0 hi mx with
  |none=>rw[hh]at e;cases e
  |some h0=>
   rw[hh,Option.bind_some]at e
   cases hl:c0K h0 lo with
   |none=>rw[hl]at e;cases e
   |some l0=>rw[hl,Option.bind_some]at e;cases e;exact hm
theorem b9k{rows:List (List D)}{sz:Nat}(h:∀row∈rows,row.length=sz){all:List AV}{j:Nat}(hr:a2e E R rows ((all.drop j).take (rows.length*sz)))(hs:((all.drop j).take (rows.length*sz)).all s0=true)(l n:Nat)(hn:l+n≤rows.length):
  a2e E R ((rows.drop l).take n) ((all.drop (j+l*sz)).take (((rows.drop l).take n).length*sz))∧((all.drop (j+l*sz)).take (((rows.drop l).take n).length*sz)).all s0=true:=by
 have hlen:((rows.drop l).take n).length=n:=by rw[List.length_take,List.length_drop];omega
 have hle:l*sz+n*sz≤rows.length*sz:=by rw[←Nat.add_mul];exact Nat.mul_le_mul_right _ hn
 have e:(all.drop (j+l*sz)).take (n*sz)=(((all.drop j).take (rows.length*sz)).drop (l*sz)).take (n*sz):=a8F hle
 have hd:∀row∈rows.drop l,row.length=sz:=fun row hx=>h row (List.mem_of_mem_drop hx)
 rw[hlen,e]
 refine⟨?_,M2 (a1y hs _) _⟩
 rw[I4, ←a1L hd, ←a2D h]
 exact((I4.1 hr).drop _).take _
theorem d1U{rows:List (List D)}{sz:Nat}(h:∀row∈rows,row.length=sz){o:Id}{all:List AV}{j z:Nat}(ho:rdE E R o=some all)(hf:d4F o z sz)(hr:a2e E R rows ((all.drop j).take (rows.length*sz)))(hs:((all.drop j).take (rows.length*sz)).all s0=true)
  {l hh m m':Nat} (h1:l≤hh) (h2:hh≤m) (h3:m≤rows.length) (h4:m≤m') (ex:Bool):
  Rp E R (d2s ((rows.drop l).take (hh - l)) ((rows.drop hh).take (m - hh)) sz) (.slc o (j+l*sz) (hh - l) (m' - l) ex z):=by
 have hl':((rows.drop l).take (hh - l)).length=hh - l:=by rw[List.length_take,List.length_drop];omega
 have hm':((rows.drop hh).take (m - hh)).length=m - hh:=by rw[List.length_take,List.length_drop];omega
 have hrl:∀row∈(rows.drop l).take (hh - l),row.length=sz:=fun row hr=>h row (List.mem_of_mem_drop (List.mem_of_mem_take hr))
 have hrm:∀row∈(rows.drop hh).take (m - hh),row.length=sz:=fun row hr=>h row (List.mem_of_mem_drop (List.mem_of_mem_take hr))
 have p1:=b9k h hr hs l (hh - l) (by omega)
 have p2:=b9k h hr hs hh (m - hh) (by omega)
 have p3:=b9k h hr hs l (m - l) (by omega)
 unfold d2s
 split
 ·simp only[Rp]
  exact .inr ⟨o,j+l*sz,m' - l,ex,z,by rw[hl'],hf,by rw[hl'];omega,hrl, .inr ⟨all,ho,p1⟩⟩
 ·skip
  simp only[Rp]
  refine⟨o,j+l*sz,m' - l,ex,z,all,by rw[hl'],hf,by rw[hl',hm'];omega,hrl,hrm, .inl ho,p1.1, ?_, ?_⟩
  ·have e:j+l*sz+((rows.drop l).take (hh - l)).length*sz=j+hh*sz:=by rw[hl',Nat.add_assoc, ←Nat.add_mul];congr 2;omega
   rw[e];exact p2.1
  ·have e:((rows.drop l).take (hh - l)).length+((rows.drop hh).take (m - hh)).length=((rows.drop l).take (m - l)).length:=by
    rw[hl',hm',List.length_take,List.length_drop];omega
   rw[e];exact p3.2
theorem d3L{rows more:List (List D)}{sz:Nat}{all:List AV}{j:Nat}(h1:a2e E R rows ((all.drop j).take (rows.length*sz)))(h2:a2e E R more ((all.drop (j+rows.length*sz)).take (more.length*sz))):a2e E R (rows++more) ((all.drop j).take ((rows++more).length*sz)):=by
 rw[I4]at*
 rw[List.flatten_append,List.length_append,Nat.add_mul,List.take_add]
 refine h1.append ?_
 rw[List.drop_drop]
 exact h2
theorem d4I{t:TypeId}{x:D}{v:AV}(hx:Rp E R x v){lo hi mx:Option D}{vlo vhi vmx:Option AV}(h1:RpO E R lo vlo)(h2:RpO E R hi vhi)(h3:RpO E R mx vmx){d:D}(h:d0J P t x lo hi mx=some d):
  ∃y,Rp E R d y∧∀H,a2w P H t v vlo vhi vmx=some y:=by
 unfold d0J at h
 split at h
 ·rename_i hu
  cases mx with
  |some m=>cases h
  |none=>
   cases vmx with
   |some m=>exact h3.elim
   |none=>
    cases x<;>simp only[c3I]at h<;>try (cases h;done)
    rename_i s
    simp only[Rp]at hx
    subst hx
    cases hb:M9 s.length s.length lo hi none with
    |none=>rw[hb]at h;cases h
    |some r=>
     obtain⟨l,hh,m⟩:=r
     rw[hb]at h
     cases h
     obtain⟨m',e,_⟩:=a8G h1 h2 h3 (Nat.le_refl _) hb (Nat.le_refl _) (fun _=> .inr trivial)
     refine⟨.str ((s.drop l).take (hh - l)),by simp only[Rp],fun H=> ?_⟩
     simp only[a2w,hu,e,Option.isSome_none,Bool.false_eq_true,if_false,Option.bind_eq_bind,Option.bind_some]
 ·rename_i el hu
  split at h
  ·rename_i sz hsz
   cases x<;>simp only[a1a]at h<;>try (cases h;done)
   ·
    simp only[Rp]at hx
    subst hx
    cases hb:M9 0 0 lo hi mx with
    |none=>rw[hb]at h;cases h
    |some r=>
     obtain⟨l,hh,m⟩:=r
     rw[hb]at h
     cases h
     obtain⟨m',e,_⟩:=a8G h1 h2 h3 (Nat.le_refl _) hb (Nat.le_refl _) (fun _=> .inr trivial)
     refine⟨.nilSlc,by simp only[Rp],fun H=> ?_⟩
     simp only[a2w,hu,hsz,e,Option.bind_eq_bind,Option.bind_some]
   ·
    rename_i rows z
    split at h
    ·rename_i hz
     subst hz
     simp only[Rp]at hx
     rcases hx with ⟨rfl,rfl⟩|⟨o,j,cap,ex,z',rfl,f1,f2,f3,f4⟩
     ·cases hb:M9 0 0 lo hi mx with
      |none=>simp only[List.length_nil,hb]at h;cases h
      |some r=>
       obtain⟨l,hh,m⟩:=r
       simp only[List.length_nil,hb,Option.map_some,List.drop_nil,List.take_nil,d2s]at h
       cases h
       obtain⟨m',e,_⟩:=a8G h1 h2 h3 (Nat.le_refl _) hb (Nat.le_refl _) (fun _=> .inr trivial)
       refine⟨.nilSlc,by simp only[Rp];exact .inl ⟨by trivial,by trivial⟩,fun H=> ?_⟩
       simp only[a2w,hu,hsz,e,Option.bind_eq_bind,Option.bind_some]
     cases hb:M9 rows.length rows.length lo hi mx with
     |none=>rw[hb]at h;cases h
     |some r=>
      obtain⟨l,hh,m⟩:=r
      rw[hb]at h
      cases h
      obtain⟨m',e,g1,g2,g3,g4⟩:=a8G h1 h2 h3 (Nat.le_refl _) hb f2 (fun _=> .inr trivial)
      have hf:a7j o z' z=true:=by
       cases o with
       |old b=>rfl
       |new k=>have:z'=z:=f1;simp[a7j,this]
      have hm:m≤rows.length∧hh≤m∧m≤m':=by
       have:=c2R hb
       rcases g4 with g4|⟨_,g4,g5⟩<;>omega
      refine⟨.slc o (j+l*z) (hh - l) (m' - l) (ex||vmx.isSome) z', ?_,fun H=> ?_⟩
      ·rcases f4 with rfl|⟨all,k1,k2,k3⟩
       ·simp only[List.drop_nil,List.take_nil,d2s,Rp]
        have:hh=0:=by simpa using g2
        exact .inr ⟨o,j+l*z,m' - l,ex||vmx.isSome,z',by simp[this],f1,Nat.zero_le _,fun row hr=>(by cases hr), .inl (by trivial)⟩
       ·exact d1U f3 k1 f1 k2 k3 g1 hm.2.1 hm.1 hm.2.2 _
      ·simp only[a2w,hu,hsz,e,Option.bind_eq_bind,Option.bind_some,hf,if_true]
    ·cases h
   ·
    rename_i rows more z
    split at h
    ·rename_i hz
     subst hz
     simp only[Rp]at hx
     obtain⟨o,j,cap,ex,z',all,rfl,f1,f2,f3,f4,f5,f6,f7,f8⟩:=hx
     cases hb:M9 rows.length (rows++more).length lo hi mx with
     |none=>rw[hb]at h;cases h
     |some r=>
      obtain⟨l,hh,m⟩:=r
      rw[hb]at h
      cases h
      obtain⟨m',e,g1,g2,g3,g4⟩:=a8G h1 h2 h3 (cap:=(rows++more).length) (by rw[List.length_append];omega) hb (cap':=cap) (by rw[List.length_append];omega) (fun _=> .inr trivial)
      have hf:a7j o z' z=true:=by
       cases o with
       |old b=>rfl
       |new k=>have:z'=z:=f1;simp[a7j,this]
      have hm:m≤(rows++more).length∧hh≤m∧m≤m':=by
       have:=c2R hb
       rw[List.length_append]at*
       rcases g4 with g4|⟨_,g4,g5⟩<;>omega
      refine⟨.slc o (j+l*z) (hh - l) (m' - l) (ex||vmx.isSome) z', ?_,fun H=> ?_⟩
      ·rcases f5 with f5|⟨rfl,rfl⟩
       rotate_left
       ·simp only[List.append_nil,List.drop_nil,List.take_nil,List.length_nil]at hm ⊢
        show Rp E R (.lst [] z) _
        simp only[Rp]
        have e0:hh - l=0:=by omega
        exact .inr ⟨o,j+l*z,m' - l,ex||vmx.isSome,z',by rw[e0];rfl,f1,Nat.zero_le _,fun row hr=>(by cases hr), .inl trivial⟩
       refine d1U (rows:=rows++more) (fun row hr=>(List.mem_append.1 hr).elim (f3 row) (f4 row)) f5 f1 (d3L f6 f7) ?_ g1 hm.2.1 hm.1 hm.2.2 _
       rw[List.length_append];exact f8
      ·simp only[a2w,hu,hsz,e,Option.bind_eq_bind,Option.bind_some,hf,if_true]
    ·cases h
   ·
    rename_i k i len cap ex z
    split at h
    ·rename_i hz
     subst hz
     simp only[Rp]at hx
     obtain⟨hmz,rfl⟩:=hx
     cases hb:M9 len cap lo hi mx with
     |none=>rw[hb]at h;cases h
     |some r=>
      obtain⟨l,hh,m⟩:=r
      rw[hb]at h
      cases h
      have key:a4w len cap vlo vhi vmx=some (l,hh,m)∧(mx.isSome=vmx.isSome):=by
       refine⟨?_, ?_⟩
       ·unfold M9 at hb
        unfold a4w
        cases mx with
        |none=>
         cases vmx with
         |some v=>exact h3.elim
         |none=>
          rw[show c7o cap none=some cap from rfl,Option.bind_some]at hb
          rw[show c8t cap none=some cap from rfl,Option.bind_some]
          cases hi with
          |none=>
           cases vhi with
           |some v=>exact h2.elim
           |none=>
            rw[show b2O len cap none none=some len from rfl,Option.bind_some]at hb
            rw[show b4y len cap none none=some len from rfl,Option.bind_some]
            cases lo with
            |none=>
             cases vlo with
             |some v=>exact h1.elim
             |none=>exact hb
            |some dl=>
             cases vlo with
             |none=>exact h1.elim
             |some v=>
              cases hq:F4 dl len with
              |none=>rw[show c0K len (some dl)=F4 dl len from rfl,hq]at hb;cases hb
              |some q=>
               rw[show c0K len (some dl)=F4 dl len from rfl,hq]at hb
               rw[show d0I len (some v)=Z7 v len from rfl,(a2j h1 hq).1]
               exact hb
          |some dh=>
           cases vhi with
           |none=>exact h2.elim
           |some vh=>
            cases hq:F4 dh cap with
            |none=>rw[show b2O len cap (some dh) none=F4 dh cap from rfl,hq]at hb;cases hb
            |some q=>
             rw[show b2O len cap (some dh) none=F4 dh cap from rfl,hq,Option.bind_some]at hb
             rw[show b4y len cap (some vh) none=Z7 vh cap from rfl,(a2j h2 hq).1,Option.bind_some]
             cases lo with
             |none=>
              cases vlo with
              |some v=>exact h1.elim
              |none=>exact hb
             |some dl=>
              cases vlo with
              |none=>exact h1.elim
              |some v=>
               cases hq2:F4 dl q with
               |none=>rw[show c0K q (some dl)=F4 dl q from rfl,hq2]at hb;cases hb
               |some q2=>
                rw[show c0K q (some dl)=F4 dl q from rfl,hq2]at hb
                rw[show d0I q (some v)=Z7 v q from rfl,(a2j h1 hq2).1]
                exact hb
        |some dm=>
         cases vmx with
         |none=>exact h3.elim
         |some vm=>
          cases hqm:F4 dm cap with
          |none=>rw[show c7o cap (some dm)=F4 dm cap from rfl,hqm]at hb;cases hb
          |some qm=>
           rw[show c7o cap (some dm)=F4 dm cap from rfl,hqm,Option.bind_some]at hb
           rw[show c8t cap (some vm)=Z7 vm cap from rfl,(a2j h3 hqm).1,Option.bind_some]
           cases hi with
           |none=>cases hb
           |some dh=>
            cases vhi with
            |none=>exact h2.elim
            |some vh=>
             cases hq:F4 dh qm with
             |none=>rw[show b2O len qm (some dh) (some dm)=F4 dh qm from rfl,hq]at hb;cases hb
             |some q=>
              rw[show b2O len qm (some dh) (some dm)=F4 dh qm from rfl,hq,Option.bind_some]at hb
              rw[show b4y len qm (some vh) (some vm)=Z7 vh qm from rfl,(a2j h2 hq).1,Option.bind_some]
              cases lo with
              |none=>
               cases vlo with
               |some v=>exact h1.elim
               |none=>exact hb
              |some dl=>
               cases vlo with
               |none=>exact h1.elim
               |some v=>
                cases hq2:F4 dl q with
                |none=>rw[show c0K q (some dl)=F4 dl q from rfl,hq2]at hb;cases hb
                |some q2=>
                 rw[show c0K q (some dl)=F4 dl q from rfl,hq2]at hb
                 rw[show d0I q (some v)=Z7 v q from rfl,(a2j h1 hq2).1]
                 exact hb
       ·cases mx<;>cases vmx<;>first|rfl|exact h3.elim
      refine⟨.slc (.new k) (i*z+l*z) (hh - l) (m - l) (ex||vmx.isSome) z, ?_,fun H=> ?_⟩
      ·simp only[Rp]
       exact⟨hmz,by rw[key.2,Nat.add_mul]⟩
      ·simp only[a2w,hu,hsz,key.1,Option.bind_eq_bind,Option.bind_some,a7j,beq_self_eq_true,if_true]
    ·cases h
  ·cases h
 ·cases h
theorem d4f{x:D}{v:AV}(hx:Rp E R x v){off:Nat}{d:D}(h:j4 off x=some d):∃o i,v= .ptr o i∧Rp E R d (.ptr o (i+off)):=by
 cases x<;>simp only[j4]at h<;>try (cases h;done)
 all_goals
  cases h
  simp only[Rp]at hx ⊢
 ·subst hx;exact⟨_,_,rfl,rfl⟩
 ·obtain⟨hmz,rfl⟩:=hx;exact⟨_,_,rfl,hmz,by rw[Nat.add_assoc]⟩
 ·obtain⟨o,j,all,rfl,e2,e3⟩:=hx
  exact⟨_,_,rfl,o,j,all,by rw[Nat.add_assoc],e2,e3⟩
theorem d0i{s:TypeId}{x:D}{v:AV}(hx:Rp E R x v){f:Nat}{d:D}(h:c1F P s x f=some d):∃y,Rp E R d y∧a6j P s v f=some y:=by
 unfold c1F at h
 cases hf:a5K P s f with
 |none=>rw[hf]at h;cases h
 |some fl=>
  simp only[hf]at h
  split at h
  ·rename_i n hs
   obtain⟨o,i,rfl,h1⟩:=d4f hx h
   refine⟨_,h1, ?_⟩
   simp only[a6j,hf,hs,Option.bind_eq_bind,Option.bind_some,Option.isSome_some,true_and]
   rw[if_pos (by simp)]
  ·cases h
theorem d1q{t:TypeId}{x:D}{v:AV}(hx:Rp E R x v){off:Nat}{d:D}(h:c8q P t off x=some d):∃cs y,v= .agg cs∧Rp E R d y∧b4N P t cs off=some y:=by
 unfold c8q at h
 cases hg:b0o P t with
 |none=>rw[hg]at h;cases h
 |some b=>
  simp only[hg]at h
  cases b with
  |true=>
   cases hs:D0 P t with
   |none=>rw[hs]at h;cases h
   |some n=>
    simp only[hs]at h
    cases x<;>simp only[c5V]at h<;>try (cases h;done)
    cases h
    simp only[Rp]at hx
    obtain⟨vs,rfl,h1,h2⟩:=hx
    refine⟨vs, .agg ((vs.drop off).take n),rfl, ?_,by simp only[b4N,hg,hs,Option.pure_def,Option.bind_eq_bind,Option.bind_some,if_true]⟩
    simp only[Rp]
    exact⟨_,rfl,(h1.drop off).take n,M2 (a1y h2 off) n⟩
  |false=>
   simp only at h
   cases x<;>simp only[c6y]at h<;>try (cases h;done)
   simp only[Rp]at hx
   obtain⟨vs,rfl,h1,h2⟩:=hx
   obtain⟨y,e1,e2⟩:=a5M h1 h
   exact⟨vs,y,rfl,e2,by simp only[b4N,hg,Option.bind_eq_bind,Option.bind_some,Bool.false_eq_true,if_false,e1]⟩
theorem d3u{s:TypeId}{x:D}{v:AV}(hx:Rp E R x v){f:Nat}{d:D}(h:d0y P s x f=some d):∃y,Rp E R d y∧b5S P s v f=some y:=by
 unfold d0y at h
 cases hf:a5K P s f with
 |none=>rw[hf]at h;cases h
 |some fl=>
  simp only[hf]at h
  obtain⟨cs,y,rfl,h1,h2⟩:=d1q hx h
  exact⟨y,h1,by simp only[b5S,hf,Option.bind_eq_bind,Option.bind_some,h2]⟩
theorem d0X{t:TypeId}{x ix:D}{v vi:AV}(hx:Rp E R x v)(hi:Rp E R ix vi){d:D}(h:c3U P t x ix=some d):∃y,Rp E R d y∧a2m P t v vi=some y:=by
 unfold c3U at h
 split at h
 ·rename_i e hu
  split at h
  ·rename_i sz hs
   cases ix<;>simp only[o6]at h<;>try (cases h;done)
   rename_i k n
   simp only[Rp]at hi
   subst hi
   cases x<;>simp only at h<;>try (cases h;done)
   ·rename_i rows z
    split at h
    ·rename_i hz
     obtain⟨rfl,h0⟩:=hz
     split at h
     ·rename_i row hrow
      cases h
      simp only[Rp]at hx
      rcases hx with ⟨rfl,_⟩|⟨o,j,cap,ex,z',rfl,f1,f2,f3,f4⟩
      ·cases hrow
      have hlt:=(List.getElem?_eq_some_iff.1 hrow).1
      have hrl:=f3 row (List.mem_of_getElem? hrow)
      rcases f4 with rfl|⟨all,k1,k2,k3⟩
      ·cases hrow
      refine⟨.ptr o (j+n.toNat*z), ?_, ?_⟩
      ·simp only[Rp]
       refine⟨o,j+n.toNat*z,all,rfl,k1, ?_⟩
       have hle:n.toNat*z+z≤rows.length*z:=by rw[←Nat.succ_mul];exact Nat.mul_le_mul_right _ hlt
       rw[hrl,a8F (L:=rows.length*z) hle]
       refine⟨?_,M2 (a1y k3 _) _⟩
       have:=((I4.1 k2).drop (n.toNat*z)).take z
       rw[b3k f3 hrow]at this
       exact this
      ·simp only[a2m,a0U,hu,hs,Option.bind_eq_bind,Option.bind_some]
       rw[if_pos (by omega)]
     ·cases h
    ·cases h
   ·rename_i rows more z
    split at h
    ·rename_i hz
     obtain⟨rfl,h0⟩:=hz
     split at h
     ·rename_i row hrow
      cases h
      simp only[Rp]at hx
      obtain⟨o,j,cap,ex,z',all,rfl,f1,f2,f3,f4,k1,k2,f7,k3⟩:=hx
      have hlt:=(List.getElem?_eq_some_iff.1 hrow).1
      have k1:=k1.resolve_right fun h=>by rw[h.1]at hlt;simp at hlt
      have hrl:=f3 row (List.mem_of_getElem? hrow)
      refine⟨.ptr o (j+n.toNat*z), ?_, ?_⟩
      ·simp only[Rp]
       refine⟨o,j+n.toNat*z,all,rfl,k1, ?_⟩
       have hle:n.toNat*z+z≤rows.length*z:=by rw[←Nat.succ_mul];exact Nat.mul_le_mul_right _ hlt
       have hle':rows.length*z≤(rows.length+more.length)*z:=Nat.mul_le_mul_right _ (by omega)
       rw[hrl]
       refine⟨?_,by rw[a8F (L:=(rows.length+more.length)*z) (by omega)];exact M2 (a1y k3 _) _⟩
       rw[a8F (L:=rows.length*z) hle]
       have:=((I4.1 k2).drop (n.toNat*z)).take z
       rw[b3k f3 hrow]at this
       exact this
      ·simp only[a2m,a0U,hu,hs,Option.bind_eq_bind,Option.bind_some]
       rw[if_pos (by omega)]
     ·cases h
    ·cases h
   ·rename_i k i len cap ex z
    split at h
    ·rename_i hz
     obtain⟨rfl,h0,h1⟩:=hz
     cases h
     simp only[Rp]at hx
     obtain⟨hmz,rfl⟩:=hx
     refine⟨.ptr (.new k) ((i+n.toNat)*z+0),by simp only[Rp];exact⟨hmz,by trivial⟩, ?_⟩
     simp only[a2m,a0U,hu,hs,Option.bind_eq_bind,Option.bind_some]
     rw[if_pos ⟨h0,h1⟩,Nat.add_mul,Nat.add_zero]
    ·cases h
  ·cases h
 ·rename_i len e hu
  split at h
  ·rename_i sz hs
   cases ix<;>simp only[b4S]at h<;>try (cases h;done)
   rename_i k n
   simp only[Rp]at hi
   subst hi
   split at h
   ·rename_i hn
    obtain⟨o,i,rfl,h1⟩:=d4f hx h
    refine⟨_,h1, ?_⟩
    simp only[a2m,a0U,hu,hs,Option.bind_eq_bind,Option.bind_some]
    rw[if_pos hn]
   ·cases h
  ·cases h
 ·cases h
theorem c1L{t:TypeId}{x ix:D}{v vi:AV}(hx:Rp E R x v)(hi:Rp E R ix vi){d:D}(h:d0d P t x ix=some d):∃y,Rp E R d y∧b1R P t v vi=some y:=by
 unfold d0d at h
 split at h
 ·rename_i hu
  cases ix<;>simp only[c7u]at h<;>try (cases h;done)
  rename_i k n
  cases x<;>simp only at h<;>try (cases h;done)
  rename_i s
  simp only[Rp]at hi hx
  subst hi hx
  split at h
  ·rename_i h0
   split at h
   ·rename_i b hb
    cases h
    refine⟨_,by simp only[Rp];rfl, ?_⟩
    simp only[b1R,a0U,hu,Option.bind_eq_bind,Option.bind_some,hb]
    rw[if_pos h0]
    rfl
   ·cases h
  ·cases h
 ·rename_i len e hu
  split at h
  ·rename_i sz ag hs hag
   cases ix<;>simp only[d4e]at h<;>try (cases h;done)
   rename_i kk n
   simp only[Rp]at hi
   subst hi
   split at h
   ·rename_i hn
    have hp:c8q P e (n.toNat*sz) x=some d:=by
     unfold c8q
     rw[hag]
     cases ag with
     |true=>simp only[hs];exact h
     |false=>exact h
    obtain⟨cs,y,rfl,h1,h2⟩:=d1q hx hp
    refine⟨y,h1, ?_⟩
    simp only[b1R,a0U,hu,hs,Option.bind_eq_bind,Option.bind_some]
    rw[if_pos hn]
    exact h2
   ·cases h
  ·cases h
 ·cases h
theorem d1B:∀ {rows:List (List D)} {es:List (AV×AV×Nat)},RpE E R rows es→es.length=rows.length
 | [],es,h=>by simp only[RpE]at h;rw[h];rfl
 |row::rows,es,h=>by obtain⟨_,_,e,es',_,rfl,_,_,h⟩:=h;rw[List.length_cons,List.length_cons,d1B h]
theorem d4i{es es':List (AV×AV×Nat)}(h:es.map c4q=es'.map c4q):es=es':=by
 induction es generalizing es' with
 |nil=>cases es' with|nil=>rfl|cons e es'=>cases h
 |cons e es ih=>
  cases es' with
  |nil=>cases h
  |cons e' es'=>
   simp only[List.map_cons,List.cons.injEq,c4q,AV.tup.injEq,AV.int.injEq,true_and,and_true,Int.natCast_inj]at h
   obtain⟨⟨h1,h2,h3⟩,h4⟩:=h
   rw[ih h4]
   congr 1
   exact Prod.ext h1 (Prod.ext h2 h3)
theorem d4L(hC:z7 E R S H0){x:D}{v:AV}(hx:Rp E R x v){rows:List (List D)}(h:d4U S x=some rows):∃es,RpE E R rows es∧∀H,Agr R S (b6D x) H→a4V H v=some es:=by
 cases x<;>simp only[d4U]at h<;>try (cases h;done)
 ·cases h
  simp only[Rp]at hx
  subst hx
  exact⟨[],by simp only[RpE],fun H _=>rfl⟩
 ·rename_i k
  simp only[Rp]at hx
  subst hx
  split at h
  ·rename_i o hk
   obtain⟨_,es,cl,a,g,r,_⟩:=hC.mapAt hk h
   refine⟨es,r,fun H hA=> ?_⟩
   obtain⟨es',cl',a',g'⟩:=hA.mp k o rows rfl hk h
   rw[a]at a'
   simp only[a4V,g',d4i a']
  ·cases h
theorem c3Q{a b:D}{va vb:AV}(ha:Rp E R a va)(hb:Rp E R b vb){r:Bool}(h:c9N a b=some r):c5v va vb=some r:=by
 cases a<;>simp only[c9N]at h<;>try (cases h;done)
 all_goals
  cases b<;>simp only at h<;>try (cases h;done)
  all_goals
   simp only[Rp]at ha hb
   subst ha hb
   exact h
theorem b3D{k:D}{vk:AV}(hk:Rp E R k vk):∀ {rows:List (List D)} {es:List (AV×AV×Nat)} {i:Nat} {r:Option (Nat×D×D)},RpE E R rows es→c3c k rows i=some r→
  match r with
  |none=>a9a vk es i=some none
  |some (j,v,n)=>∃(e:AV×AV×Nat) (kd:D),i≤j∧es[j - i]? =some e∧rows[j - i]? =some [kd,v,n]∧n= .int .i64 e.2.2∧Rp E R kd e.1∧Rp E R v e.2.1∧a9a vk es i=some (some (j,e.2.1,e.2.2))
 | [],es,i,r,he,h=>by
  simp only[RpE]at he
  subst he
  cases h
  rfl
 |row::rows,es,i,r,he,h=>by
  obtain⟨kd,vd,⟨ek,ev,en⟩,es',rfl,rfl,h1,h2,h3⟩:=he
  simp only[c3c]at h
  split at h
  ·rename_i hq
   cases h
   refine⟨(ek,ev,en),kd,Nat.le_refl _,by rw[Nat.sub_self];rfl,by rw[Nat.sub_self];rfl,rfl,h1,h2, ?_⟩
   simp only[a9a,c3Q hk h1 hq]
  ·rename_i hq
   have ih:=b3D hk h3 h
   cases r with
   |none=>simp only[a9a,c3Q hk h1 hq];exact ih
   |some r=>
    obtain⟨j,v,n⟩:=r
    obtain⟨e,kd',a,b,c,d,f,g,q⟩:=ih
    have hj:j - i=(j - (i+1))+1:=by omega
    refine⟨e,kd',by omega,by rw[hj];exact b,by rw[hj];exact c,d,f,g, ?_⟩
    simp only[a9a,c3Q hk h1 hq]
    exact q
  ·cases h
theorem c2q{t:TypeId}{kk:Nat}(h:b6J P t=some kk){d:D}{v:AV}(hd:Rp E R d v)(hi:c9o kk d=true):a7F P t v=true:=by
 unfold b6J at h
 unfold a7F
 cases d<;>simp only[c9o,beq_iff_eq]at hi<;>try (cases hi;done)
 all_goals
  subst hi
  simp only[Rp]at hd
  subst hd
  split at h<;>simp_all
theorem d2Z(hC:z7 E R S H0){t:TypeId}{x ix:D}{v vi:AV}(hx:Rp E R x v)(hi:Rp E R ix vi){ok:Bool}{d:D}(h:c6p P S t x ix ok=some d):∃y,Rp E R d y∧∀H,Agr R S (b6D x) H→a3z P H t v vi ok=some y:=by
 unfold c6p at h
 split at h
 ·rename_i kt e hu
  split at h
  ·rename_i kk z hkk hz
   unfold d6k at h
   split at h
   ·rename_i hki
    split at h
    ·rename_i rows hent
     obtain⟨es,h1,h2⟩:=d4L hC hx hent
     have hf:=c2q hkk hi hki
     have fin:∀ {w:AV} {b:Bool},c6A P e (a9a vi es 0)=some (w,b)→∀H,Agr R S (b6D x) H→a3z P H t v vi ok=some (if ok then .tup [w, .bool b]else w):=by
      intro w b hw H hA
      unfold a3z
      rw[hu]
      simp only[hf,if_true,h2 H hA,Option.bind_some,hw]
     have tupR:∀ {d:D} {w:AV} {b:Bool},Rp E R d w→Rp E R (if ok then .tup [d, .bool b]else d) (if ok then .tup [w, .bool b]else w):=by
      intro d w b hd
      cases ok
      ·exact hd
      ·simp only[if_true,Rp]
       exact⟨_,rfl,s9 hd (s9 (by simp only[Rp]) D6)⟩
     cases hfd:c3c ix rows 0 with
     |none=>rw[hfd]at h;cases h
     |some r=>
      rw[hfd]at h
      have g:=b3D hi h1 hfd
      cases r with
      |none=>
       cases h
       exact⟨_,tupR (b3v (v:=z)),fin (by rw[g];simp only[c6A,hz,Option.map_some])⟩
      |some r=>
       obtain⟨j,vd,n⟩:=r
       obtain⟨en,kd,_,_,_,_,_,g2,g3⟩:=g
       cases h
       exact⟨_,tupR g2,fin (by rw[g3];rfl)⟩
    ·cases h
   ·cases h
  ·cases h
 ·cases h
theorem d7s(hC:z7 E R S H0){t:TypeId}{x:D}{v:AV}(hx:Rp E R x v){d:D}(h:d7C P S t x=some d):∃y,Rp E R d y∧∀H,Agr R S (if b8E P t then b6D x else none) H→d0w P H t v=some y:=by
 unfold d7C at h
 have go:∀ {n:Nat},b5G P t v=some n→d= .int .i64 n→∃y,Rp E R d y∧∀H,Agr R S (if b8E P t then b6D x else none) H→d0w P H t v=some y:=by
  intro n e1 e2
  subst e2
  exact⟨.int .i64 n,by simp only[Rp],fun H _=>by simp only[d0w,e1]⟩
 split at h
 ·rename_i hu
  cases x<;>simp only[a4b]at h<;>try (cases h;done)
  cases h
  simp only[Rp]at hx
  subst hx
  exact go (by simp only[b5G,hu]) rfl
 ·rename_i kt e hu
  unfold d8e at h
  split at h
  ·rename_i rows hent
   cases h
   obtain⟨es,h1,h2⟩:=d4L hC hx hent
   refine⟨.int .i64 rows.length,by simp only[Rp],fun H hA=> ?_⟩
   have hm:b8E P t=true:=by unfold b8E;rw[hu]
   rw[hm,if_pos rfl]at hA
   have he:=h2 H hA
   have hl:=d1B h1
   cases x<;>simp only[d4U]at hent<;>try (cases hent;done)
   ·simp only[Rp]at hx
    subst hx
    cases he
    rw[←hl]
    simp only[d0w,b5G,hu,a4r]
    rfl
   ·simp only[Rp]at hx
    subst hx
    simp only[a4V]at he
    split at he
    ·rename_i es' cl hg
     cases he
     simp only[d0w,b5G,hu,a4r,hg, ←hl]
     rfl
    ·cases he
  ·cases h
 ·rename_i e hu
  cases x<;>simp only[m9]at h<;>try (cases h;done)
  all_goals
   cases h
   simp only[Rp]at hx
  ·subst hx;exact go (n:=0) (by simp only[b5G,hu]) rfl
  ·rcases hx with ⟨rfl,rfl⟩|⟨o,j,cap,ex,z',rfl,_⟩
   ·exact go (n:=0) (by simp only[b5G,hu]) rfl
   ·exact go (by simp only[b5G,hu]) rfl
  ·obtain⟨o,j,cap,ex,z',all,rfl,_⟩:=hx;exact go (by simp only[b5G,hu]) rfl
  ·obtain⟨_,rfl⟩:=hx;exact go (by simp only[b5G,hu]) rfl
 ·rename_i n e hu
  cases h
  exact go (by simp only[b5G,hu]) rfl
 ·cases h
theorem d6W{t:TypeId}{x:D}{v:AV}(hx:Rp E R x v){d:D}(h:d6L P t x=some d):∃y,Rp E R d y∧((c6U P t v).map fun(n:Nat)=>AV.int .i64 n)=some y:=by
 unfold d6L at h
 split at h
 ·rename_i e hu
  cases x<;>simp only[c8w]at h<;>try (cases h;done)
  ·cases h
   simp only[Rp]at hx
   subst hx
   exact⟨.int .i64 (0:Nat),by simp only[Rp];rfl,by simp only[c6U,hu];rfl⟩
  ·rename_i k i len cap ex z
   cases ex<;>simp only at h<;>try (cases h;done)
   cases h
   simp only[Rp]at hx
   obtain⟨_,rfl⟩:=hx
   exact⟨.int .i64 cap,by simp only[Rp],by simp only[c6U,hu];rfl⟩
 ·rename_i n e hu
  cases h
  exact⟨.int .i64 n,by simp only[Rp],by simp only[c6U,hu];rfl⟩
 ·cases h
theorem d1R{m:Bool}:∀ {l:List D} {vs:List AV} {x:D} {v:AV} {d:D},Rp E R x v→A7 E R l vs→l.foldlM (mmD m) x=some d→∃y,Rp E R d y∧vs.foldlM (fun x y=>match x,y with
  | .int k a, .int _ b=>some (AV.int k (if m then(if b>a then b else a) else(if b<a then b else a)))
  |_,_=>none) v=some y
 | [],vs,x,v,d,hx,hl,h=>by
  simp only[A7]at hl
  subst hl
  cases h
  exact⟨v,hx,rfl⟩
 |a::l,vs,x,v,d,hx,hl,h=>by
  simp only[A7]at hl
  obtain⟨w,ws,rfl,h1,h2⟩:=hl
  simp only[List.foldlM_cons,Option.bind_eq_bind]at h ⊢
  cases x<;>simp only[mmD,Option.bind_none]at h<;>try (cases h;done)
  cases a<;>simp only[Option.bind_none]at h<;>try (cases h;done)
  simp only[Option.bind_some]at h
  simp only[Rp]at hx h1
  subst hx h1
  exact d1R (by simp only[Rp]) h2 h
theorem c5f{m:Bool}{l:List D}{vs:List AV}(hl:A7 E R l vs){d:D}(h:b6G m l=some d):∃y,Rp E R d y∧a4q m vs=some y:=by
 cases l with
 |nil=>cases h
 |cons x l=>
  simp only[A7]at hl
  obtain⟨v,ws,rfl,h1,h2⟩:=hl
  exact d1R h1 h2 h
theorem d3H{t:TypeId}{x:D}{v:AV}(hx:Rp E R x v){d:D}(h:d0k P t x=some d):∃y,Rp E R d y∧c6J P t v=some y:=by
 unfold d0k at h
 unfold c6J
 split at h
 ·cases h
 ·rename_i u hn hu
  cases h
  rw[hu]
  refine⟨.ifc t v,by simp only[Rp];exact⟨v,rfl,hx⟩, ?_⟩
  split
  ·rename_i e h1;cases h1;exact(hn _ rfl).elim
  ·rfl
  ·rename_i h1;cases h1
 ·cases h
theorem d2x{x:D}{v:AV}(hx:Rp E R x v){t:TypeId}{ok:Bool}{d:D}(h:c7G P x t ok=some d):∃y,Rp E R d y∧b0B P v t ok=some y:=by
 unfold c7G at h
 split at h
 ·cases h
 ·rename_i u hn hu
  split at h
  ·rename_i z hz
   have fails:ok=true→d= .tup [c8h z, .bool false]→∃y,Rp E R d y∧(if ok=true then(L6 P t).map fun z=>AV.tup [z, .bool false]else none)=some y:=by
    intro hok hd
    subst hd
    refine⟨.tup [z, .bool false], ?_,by rw[if_pos hok,hz];rfl⟩
    simp only[Rp]
    exact⟨_,rfl,s9 b3v (s9 (by simp only[Rp]) D6)⟩
   unfold b0B
   rw[hu]
   split
   ·rename_i e h1;cases h1;exact(hn _ rfl).elim
   ·cases x<;>simp only[asD]at h<;>try (cases h;done)
    ·split at h
     ·rename_i hok
      cases h
      simp only[Rp]at hx
      subst hx
      exact fails hok rfl
     ·cases h
    ·rename_i t' d'
     simp only[Rp]at hx
     obtain⟨v',rfl,hv⟩:=hx
     split at h
     ·rename_i ht
      cases h
      simp only[if_pos ht]
      cases ok with
      |true=>
       refine⟨.tup [v', .bool true], ?_,rfl⟩
       simp only[if_true,Rp]
       exact⟨_,rfl,s9 hv (s9 (by simp only[Rp]) D6)⟩
      |false=>exact⟨v',by simpa using hv,rfl⟩
     ·rename_i ht
      split at h
      ·rename_i hok
       cases h
       simp only[if_neg ht]
       exact fails hok rfl
      ·cases h
   ·rename_i h1;cases h1
  ·cases h
 ·cases h
theorem a2Q:∀ {ds:List D} {vs:List AV} {cs:List D} {ws:List AV} {i:Nat},A7 E R cs ws→A7 E R ds vs→A7 E R (l7 cs i ds) (B5 ws i vs)
 | [],vs,cs,ws,i,h,hd=>by simp only[A7]at hd;subst hd;exact h
 |d::ds,vs,cs,ws,i,h,hd=>by
  simp only[A7]at hd
  obtain⟨v,vs,rfl,h1,h2⟩:=hd
  show A7 E R (l7 (cs.set i d) (i+1) ds) (B5 (ws.set i v) (i+1) vs)
  exact a2Q (h.set i h1) h2
theorem L2:∀(ds cs:List D) (i:Nat),(l7 cs i ds).length=cs.length
 | [],cs,i=>rfl
 |d::ds,cs,i=>by rw[l7,L2 ds,List.length_set]
theorem Y9:∀ {vs ws:List AV} {i:Nat},ws.all s0=true→vs.all s0=true→(B5 ws i vs).all s0=true
 | [],ws,i,h,_=>h
 |v::vs,ws,i,h,hv=>by
  simp only[List.all_cons,Bool.and_eq_true]at hv
  show(B5 (ws.set i v) (i+1) vs).all s0=true
  refine Y9 ?_ hv.2
  refine List.all_eq_true.2 fun x hx=> ?_
  rcases List.mem_or_eq_of_mem_set hx with hx|rfl
  ·exact List.all_eq_true.1 h x hx
  ·exact hv.1
def RpP(E:j2)(R:Fz):List (Nat×D)→List (Nat×AV)→Prop
 | [],l=>l=[]
 |(i,d)::ds,l=>∃v vs,l=(i,v)::vs∧Rp E R d v∧RpP E R ds vs
theorem c3m{T:List D}{avs:List AV}(h:A7 E R T avs):∀l:List (Nat×Operand),RpP E R (l.map fun p=>(p.1,t7 T p.2)) (l.map fun p=>(p.1,l9 avs p.2))
 | []=>rfl
 |(i,x)::l=>⟨_,_,rfl,q7 h x,c3m h l⟩
theorem d1e{place:Nat→Option (Nat×Nat)}:∀ {parts:List (Nat×D)} {ps:List (Nat×AV)} {cs:List D} {ws:List AV} {l:List (Nat×Nat×D)} {r:List D},RpP E R parts ps→A7 E R cs ws→ws.all s0=true→b3I place parts=some l→r6 cs l=some r→
  ∃us,A7 E R r us∧us.all s0=true∧us.length=ws.length∧a8P place ws ps=some us
 | [],ps,cs,ws,l,r,hp,hc,hs,h1,h2=>by
  have hp':ps=[]:=hp
  subst hp'
  cases h1
  cases h2
  exact⟨ws,hc,hs,rfl,rfl⟩
 |(i,d)::parts,ps,cs,ws,l,r,hp,hc,hs,h1,h2=>by
  obtain⟨v,vs,rfl,hd,hp⟩:=hp
  simp only[b3I]at h1
  split at h1
  ·rename_i off size hpl
   split at h1
   ·rename_i l' hl'
    cases h1
    simp only[r6]at h2
    split at h2
    ·rename_i ds hds
     split at h2
     ·rename_i hsz
      obtain⟨g1,g2⟩:=b2Y hd hds
      obtain⟨us,k1,k2,k3,k4⟩:=d1e hp (a2Q (i:=off) hc g1) (Y9 hs g2) hl' h2
      refine⟨us,k1,k2,by rw[k3,b2D], ?_⟩
      simp only[a8P,hpl]
      rw[if_pos,k4]
      rw[g1.length, ←hc.length]at*
      exact⟨hsz.1,by omega⟩
     ·cases h2
    ·cases h2
   ·cases h1
  ·cases h1
theorem d7F{r:Option (List D)}{d:D}(h:E1 r=some d):∃cs,r=some cs∧d= .agg cs:=by
 cases r with
 |none=>cases h
 |some cs=>cases h;exact⟨cs,rfl,rfl⟩
theorem d3z{t:TypeId}{parts:List (Nat×D)}{ps:List (Nat×AV)}(hp:RpP E R parts ps){d:D}(h:d0s P t parts=some d):∃y,Rp E R d y∧b3i P t ps=some y:=by
 unfold d0s at h
 split at h
 ·rename_i z hz
  split at h
  ·rename_i hsc
   have fin:∀ {place:Nat→Option (Nat×Nat)} {l:List (Nat×Nat×D)},b3I place parts=some l→E1 (r6 (z.map a1D) l)=some d→∃y,Rp E R d y∧(a8P place (AV.agg z).cells ps).map AV.agg=some y:=by
    intro place l h1 h2
    obtain⟨cs,e1,rfl⟩:=d7F h2
    obtain⟨us,k1,k2,k3,k4⟩:=d1e hp (b8O z) hsc h1 e1
    refine⟨.agg us,by simp only[Rp];exact⟨us,rfl,k1,k2⟩, ?_⟩
    show(a8P place z ps).map AV.agg=_
    rw[k4];rfl
   split at h
   ·rename_i fields hu
    split at h
    ·rename_i places hpl
     split at h
     ·rename_i l hl
      obtain⟨y,e1,e2⟩:=fin hl h
      refine⟨y,e1, ?_⟩
      simp only[b3i,hz,hu,hpl,Option.bind_eq_bind,Option.bind_some]
      exact e2
     ·cases h
    ·cases h
   ·rename_i n e hu
    split at h
    ·rename_i size hs
     split at h
     ·rename_i l hl
      obtain⟨y,e1,e2⟩:=fin hl h
      refine⟨y,e1, ?_⟩
      simp only[b3i,hz,hu,hs,Option.bind_eq_bind,Option.bind_some]
      exact e2
     ·cases h
    ·cases h
   ·cases h
  ·cases h
 ·cases h
theorem c4Y(hC:z7 E R S H0){sz:Nat}{x:D}{v:AV}(hx:Rp E R x v){rows:List (List D)}(h:L5 S sz x=some rows):
  (∀row∈rows,row.length=sz)∧a4h v=some rows.length∧∃cs,A7 E R rows.flatten cs∧cs.all s0=true∧∀H,Agr R S (b7v x) H→a0X E H sz rows.length v=some cs∧(∀o i len cap ex z,v= .slc o i len cap ex z→J8 E H o i (len*sz)=some cs):=by
 cases x<;>simp only[L5]at h<;>try (cases h;done)
 ·cases h
  simp only[Rp]at hx
  subst hx
  exact⟨fun row hr=>(by cases hr),rfl,[],D6,rfl,fun H _=>⟨rfl,fun _ _ _ _ _ _ e=>(by cases e)⟩⟩
 ·rename_i rows' z
  split at h
  ·rename_i hz
   cases h
   subst hz
   simp only[Rp]at hx
   rcases hx with ⟨rfl,rfl⟩|⟨o,j,cap,ex,z',rfl,f1,f2,f3,f4⟩
   ·exact⟨fun row hr=>(by cases hr),rfl,[],D6,rfl,fun H _=>⟨rfl,fun _ _ _ _ _ _ e=>(by cases e)⟩⟩
   refine⟨f3,rfl, ?_⟩
   rcases f4 with rfl|⟨all,k1,k2,k3⟩
   ·refine⟨[],D6,rfl,fun H _=>⟨?_,fun _ _ _ _ _ _ e=> ?_⟩⟩
    ·simp only[a0X,J8,List.length_nil,Nat.zero_mul,if_true]
    ·cases e;simp only[J8,List.length_nil,Nat.zero_mul,if_true]
   ·have key:∀H,Agr R S (b7v (.lst rows z)) H→J8 E H o j (rows.length*z)=some ((all.drop j).take (rows.length*z)):=by
     intro H hA
     have hc:=b8b k1 hA
     unfold J8
     split
     ·rename_i e0;rw[e0,List.take_zero]
     ·rename_i e0
      have hl:=(I4.1 k2).length
      rw[u5 f3,List.length_take,List.length_drop]at hl
      simp only[E4,hc]
      rw[if_pos (by omega)]
    exact⟨_,I4.1 k2,k3,fun H hA=>⟨key H hA,fun _ _ _ _ _ _ e=>by cases e;exact key H hA⟩⟩
  ·cases h
 ·rename_i rows' more z
  split at h
  ·rename_i hz
   cases h
   subst hz
   simp only[Rp]at hx
   obtain⟨o,j,cap,ex,z',all,rfl,f1,f2,f3,f4,k1,k2,f7,k3⟩:=hx
   refine⟨f3,rfl, ?_⟩
   have hle':rows.length*z≤(rows.length+more.length)*z:=Nat.mul_le_mul_right _ (by omega)
   have k3':((all.drop j).take (rows.length*z)).all s0=true:=by
    have:=M2 k3 (rows.length*z)
    rw[List.take_take,Nat.min_eq_left hle']at this
    exact this
   have key:∀H,Agr R S (b7v (.ext rows more z)) H→J8 E H o j (rows.length*z)=some ((all.drop j).take (rows.length*z)):=by
    intro H hA
    unfold J8
    split
    ·rename_i e0;rw[e0,List.take_zero]
    ·rename_i e0
     have hc:=b8b (k1.resolve_right fun h=>e0 (by rw[h.1];simp)) hA
     have hl:=(I4.1 k2).length
     rw[u5 f3,List.length_take,List.length_drop]at hl
     simp only[E4,hc]
     rw[if_pos (by omega)]
   exact⟨_,I4.1 k2,k3',fun H hA=>⟨key H hA,fun _ _ _ _ _ _ e=>by cases e;exact key H hA⟩⟩
  ·cases h
 ·rename_i k i len cap ex z
  cases hk:S k with
  |none=>rw[hk]at h;cases h
  |some o=>
   simp only[hk]at h
   split at h
   ·rename_i hz
    obtain⟨rfl,hsz,hlen⟩:=hz
    cases h
    simp only[Rp]at hx
    obtain⟨hmz,rfl⟩:=hx
    have hom:o.sz<Q3:=by rw[hsz];exact hmz
    obtain⟨h1,⟨pre,h2⟩,h3,h4,h5⟩:=hC.cells hk (.inl hom)
    rw[hsz]at h4
    have hd:∀row∈o.rows.drop i,row.length=z:=fun row hr=>h4 row (List.mem_of_mem_drop hr)
    have hl:((o.rows.drop i).take len).length=len:=by rw[List.length_take,List.length_drop];omega
    have hll:=h5.length
    rw[u5 h4]at hll
    have hle:i*z+len*z≤o.acs.length:=by rw[hll, ←Nat.add_mul];exact Nat.mul_le_mul_right _ hlen
    refine⟨fun row hr=>hd row (List.mem_of_mem_take hr),by rw[hl];rfl,(o.acs.drop (i*z)).take (len*z), ?_,M2 (a1y h3 _) _,fun H hA=> ?_⟩
    ·rw[←a1L hd, ←a2D h4]
     exact(h5.drop _).take _
    ·have key:J8 E H (.new k) (i*z) (len*z)=some ((o.acs.drop (i*z)).take (len*z)):=by
      obtain⟨w,p,g⟩:=hA.st k o rfl hk (.inl hom)
      exact c8a E g _ _ hle
     refine⟨by rw[hl];exact key,fun _ _ _ _ _ _ e=>by cases e;exact key⟩
   ·cases h
theorem d1M:∀ {rows:List (List D)} {bs:List UInt8} {cs:List AV},(∀row∈rows,row.length=1)→A7 E R rows.flatten cs→rows.mapM c3t=some bs→cs.mapM c7A=some bs
 | [],bs,cs,_,h,e=>by
  simp only[List.flatten_nil,A7]at h
  subst h
  exact e
 |row::rows,bs,cs,hl,h,e=>by
  rw[List.mapM_cons]at e
  cases hb:c3t row with
  |none=>rw[hb]at e;cases e
  |some b=>
   rw[hb]at e
   simp only[Option.bind_eq_bind,Option.bind_some]at e
   cases hm:rows.mapM c3t with
   |none=>rw[hm]at e;cases e
   |some l=>
    rw[hm]at e
    cases e
    unfold c3t at hb
    split at hb
    ·rename_i n
     cases hb
     simp only[List.flatten_cons,List.cons_append,List.nil_append,A7]at h
     obtain⟨v,vs,rfl,h1,h2⟩:=h
     simp only[Rp]at h1
     subst h1
     have ih:=d1M (fun row hr=>hl row (List.mem_cons_of_mem _ hr)) h2 hm
     rw[List.mapM_cons,ih]
     rfl
    ·cases hb
theorem d5U(hC:z7 E R S H0){s t:TypeId}{x:D}{v:AV}(hx:Rp E R x v){d:D}(h:d4r P S s t x=some d):∃y,Rp E R d y∧∀H,Agr R S (b7v x) H→(P0 P E H s t v).map (·.1)=some y:=by
 unfold d4r at h
 split at h
 ·rename_i hu1 hu2
  cases x<;>simp only[J9]at h<;>try (cases h;done)
  cases h
  simp only[Rp]at hx
  subst hx
  rename_i k' n
  exact⟨.int _ (IntKind.wrap _ n),by simp only[Rp];rfl,fun H _=>by simp only[P0,hu1,hu2];rfl⟩
 ·rename_i hu1 hu2
  cases x<;>simp only[c6t]at h<;>try (cases h;done)
  cases h
  simp only[Rp]at hx
  subst hx
  rename_i s
  exact⟨.str s,by simp only[Rp],fun H _=>by simp only[P0,hu1,hu2];rfl⟩
 ·rename_i e hu1 hu2
  split at h
  ·rename_i hue
   unfold c2g at h
   split at h
   ·rename_i rows hrows
    obtain⟨g1,g2,cs,g3,g4,g5⟩:=c4Y hC hx hrows
    cases hm:rows.mapM c3t with
    |none=>rw[hm]at h;cases h
    |some bs=>
     rw[hm]at h
     cases h
     have hb:=d1M g1 g3 hm
     refine⟨.str bs,by simp only[Rp],fun H hA=> ?_⟩
     obtain⟨k1,k2⟩:=g5 H hA
     cases v<;>simp only[a4h,Option.some.injEq]at g2<;>try (cases g2;done)
     ·
      cases x<;>simp only[L5]at hrows<;>try (cases hrows;done)
      ·simp only[Rp]at hx;cases hx
      ·simp only[Rp]at hx;rcases hx with ⟨_,hx⟩|⟨_,_,_,_,_,hx,_⟩<;>cases hx
      ·simp only[Rp]at hx;obtain⟨_,_,_,_,_,_,hx,_⟩:=hx;cases hx
      ·simp only[Rp]at hx;cases hx.2
     ·have hr:rows=[]:=List.length_eq_zero_iff.1 g2.symm
      subst hr
      cases hm
      simp only[P0,hu1,hu2,hue]
      rfl
     ·have:=k2 _ _ _ _ _ _ rfl
      rw[Nat.mul_one]at this
      simp only[P0,hu1,hu2,hue,this,hb]
      rfl
   ·cases h
  ·cases h
 ·cases h
theorem c6q{T:List D}{avs:List AV}(h:A7 E R T avs):∀x:Option Operand,RpO E R (x.map (t7 T)) (x.map (l9 avs))
 |none=>trivial
 |some x=>q7 h x
theorem d5K{T:List D}{avs:List AV}(hT:A7 E R T avs)(hC:z7 E R S H0){o:Oper}{d:D}(h:d6B P T S o=some d):
  ∃v,Rp E R d v∧∀H,Agr R S (b1G P T o) H→opV P E avs H o=some v:=by
 obtain⟨dst,op,type,pos,after,guard⟩:=o
 have plain:∀ {r:Option AV},(∃v,Rp E R d v∧r=some v)→∃v,Rp E R d v∧∀H,Agr R S (b1G P T ⟨dst,op,type,pos,after,guard⟩) H→r=some v:=fun⟨v,a,b⟩=>⟨v,a,fun _ _=>b⟩
 cases op<;>simp only[d6B]at h<;>try (cases h;done)
 case move x=>cases h;exact⟨_,q7 hT x,fun _ _=>rfl⟩
 case assign x=>cases h;exact⟨_,q7 hT x,fun _ _=>rfl⟩
 case pick c a b=>exact plain (d5H (q7 hT c) (q7 hT a) (q7 hT b) h)
 case build t parts=>exact plain (d3z (c3m hT _) h)
 case load t a=>
  obtain⟨v,h1,h2⟩:=d1Y hC (q7 hT a) h
  exact⟨v,h1,fun H hA=>h2 H hA⟩
 case nilCheck x=>
  obtain⟨h1,h2⟩:=d6R (q7 hT x) h
  exact⟨_,h1,fun _ _=>h2⟩
 case binOp op t x y yt=>exact plain (d6P (q7 hT x) (q7 hT y) h)
 case unOp op t x=>exact plain (d8u (q7 hT x) h)
 case convert s t x=>
  obtain⟨v,h1,h2⟩:=d5U hC (q7 hT x) h
  exact⟨v,h1,fun H hA=>h2 H hA⟩
 case makeInterface t x=>exact plain (d3H (q7 hT x) h)
 case makeFunc fn a b=>
  cases h
  refine⟨_, ?_,fun _ _=>rfl⟩
  simp only[Rp]
  exact⟨_,_,rfl,a6m hT _,a6m hT _⟩
 case slice t x lo hi mx=>
  obtain⟨v,h1,h2⟩:=d4I (q7 hT x) (c6q hT lo) (c6q hT hi) (c6q hT mx) h
  exact⟨v,h1,fun H _=>h2 H⟩
 case fieldAddr s x f=>exact plain (d0i (q7 hT x) h)
 case field s x f=>exact plain (d3u (q7 hT x) h)
 case indexAddr t x ix=>exact plain (d0X (q7 hT x) (q7 hT ix) h)
 case index t x ix=>exact plain (c1L (q7 hT x) (q7 hT ix) h)
 case lookup t x ix ok=>
  obtain⟨y,h1,h2⟩:=d2Z hC (q7 hT x) (q7 hT ix) h
  exact⟨y,h1,fun H hA=>h2 H hA⟩
 case typeAssert x a t ok=>exact plain (d2x (q7 hT x) h)
 case extract t ix=>exact plain (c9W (q7 hT t) h)
 case call c=>
  cases hc:c.callee with
  |value f=>rw[hc]at h;cases h
  |invoke r m=>rw[hc]at h;cases h
  |builtin b=>
   simp only[hc]at h
   have ha:=a6m hT c.args.toList
   simp only[opV,hc]
   generalize hds:c.args.toList.map (t7 T)=ds at h ha
   generalize c.args.toList.map (l9 avs)=vs at ha
   generalize hts:c.argTypes.toList=ts at h
   cases b<;>(try simp only at h)<;>try (cases h;done)
   case len=>
    rcases ds with _|⟨x,_|⟨y,ds⟩⟩<;>(try simp only at h)<;>try (cases h;done)
    rcases ts with _|⟨t,_|⟨u,ts⟩⟩<;>(try simp only at h)<;>try (cases h;done)
    simp only[A7]at ha
    obtain⟨v,vs,rfl,h1,rfl⟩:=ha
    obtain⟨y,g1,g2⟩:=d7s hC h1 h
    refine⟨y,g1,fun H hA=>g2 H ?_⟩
    have e:b1G P T ⟨dst, .call c,type,pos,after,guard⟩=if b8E P t then b6D x else none:=by
     simp only[b1G,d5m,c2B,hc,hts,hds]
    rw[e]at hA
    exact hA
   case cap=>
    rcases ds with _|⟨x,_|⟨y,ds⟩⟩<;>(try simp only at h)<;>try (cases h;done)
    rcases ts with _|⟨t,_|⟨u,ts⟩⟩<;>(try simp only at h)<;>try (cases h;done)
    simp only[A7]at ha
    obtain⟨v,vs,rfl,h1,rfl⟩:=ha
    obtain⟨y,g1,g2⟩:=d6W h1 h
    exact⟨y,g1,fun H _=>g2⟩
   case min=>
    obtain⟨y,g1,g2⟩:=c5f ha h
    exact⟨y,g1,fun H _=>g2⟩
   case max=>
    obtain⟨y,g1,g2⟩:=c5f ha h
    exact⟨y,g1,fun H _=>g2⟩
end
end Go.Am
end
