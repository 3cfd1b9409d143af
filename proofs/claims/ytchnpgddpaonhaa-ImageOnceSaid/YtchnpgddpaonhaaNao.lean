/-
  ImageOnceSaid: part Nao of its proof.
-/
import Derived.Test.YtchnpgddpaonhaaNan
set_option linter.unusedVariables false
set_option linter.unusedSimpArgs false
set_option maxRecDepth 100000
section
namespace Go.Am
section
variable{P:Program}{E:l9}{R:Fz}{S:b7}{H0:AHeap}
theorem a1A{x:D}{v:AV}(h:Rp E R x v){y n:Nat}(hb:D7 x y=some n):Z5 v y=some n∧n≤y:=by
 cases x<;>simp only[D7]at hb<;>try (cases hb;done)
 simp only[Rp]at h
 subst h
 split at hb
 ·rename_i hn
  cases hb
  exact⟨by simp only[Z5];rw[if_pos hn],by omega⟩
 ·cases hb
def RpO(E:l9)(R:Fz):Option D→Option AV→Prop
 |none,none=>True
 |some d,some v=>Rp E R d v
 |_,_=>False
theorem a7t{lo hi mx:Option D}{vlo vhi vmx:Option AV}(h1:RpO E R lo vlo)(h2:RpO E R hi vhi)(h3:RpO E R mx vmx){len cap cap' l h m:Nat}(hlc:len≤cap)
  (e:M0 len cap lo hi mx=some (l,h,m)) (hc:cap≤cap') (hx:mx=none→hi=none∨True):
  ∃m',a3v len cap' vlo vhi vmx=some (l,h,m')∧l≤h∧h≤cap∧h≤m'∧(m'=m∨(mx=none∧m'=cap'∧m=cap)):=by
 unfold M0 at e
 cases ht:c3c cap mx with
 |none=>rw[ht]at e;cases e
 |some m0=>
  rw[ht,Option.bind_some]at e
  cases hh:b1k len m0 hi mx with
  |none=>rw[hh]at e;cases e
  |some h0=>
   rw[hh,Option.bind_some]at e
   cases hl:b8h h0 lo with
   |none=>rw[hl]at e;cases e
   |some l0=>
    rw[hl,Option.bind_some]at e
    cases e
    have low:c6G h vlo=some l∧l≤h:=by
     cases lo with
     |none=>
      cases vlo with
      |none=>cases hl;exact⟨rfl,Nat.zero_le _⟩
      |some v=>exact h1.elim
     |some d=>
      cases vlo with
      |none=>exact h1.elim
      |some v=>exact a1A h1 hl
    cases mx with
    |none=>
     cases vmx with
     |some v=>exact h3.elim
     |none=>
      cases ht
      have high:b2K len cap' vhi none=some h∧h≤cap:=by
       cases hi with
       |none=>
        cases vhi with
        |some v=>exact h2.elim
        |none=>cases hh;exact⟨rfl,hlc⟩
       |some d=>
        cases vhi with
        |none=>exact h2.elim
        |some v=>
         have hh':D7 d cap=some h:=hh
         obtain⟨a,b⟩:=a1A h2 hh'
         refine⟨?_,b⟩
         show Z5 v cap'=some h
         cases v<;>simp only[Z5]at a ⊢ <;>try (cases a;done)
         split at a
         ·cases a;rw[if_pos (by omega)]
         ·cases a
      refine⟨cap', ?_,low.2,high.2,by omega, .inr ⟨rfl,rfl,rfl⟩⟩
      simp only[a3v,c4Y,Option.bind_some,high.1,low.1]
    |some dm=>
     cases vmx with
     |none=>exact h3.elim
     |some vm=>
      have ht':D7 dm cap=some m:=ht
      obtain⟨a,b⟩:=a1A h3 ht'
      have a':Z5 vm cap'=some m:=by
       cases vm<;>simp only[Z5]at a ⊢ <;>try (cases a;done)
       split at a
       ·cases a;rw[if_pos (by omega)]
       ·cases a
      cases hi with
      |none=>cases hh
      |some d=>
       cases vhi with
       |none=>exact h2.elim
       |some v=>
        obtain⟨c,d'⟩:=a1A h2 (show D7 d m=some h from hh)
        refine⟨m, ?_,low.2,by omega,d', .inl rfl⟩
        show(c4Y cap' (some vm)).bind _=_
        rw[show c4Y cap' (some vm)=some m from a',Option.bind_some,show b2K len m (some v) (some vm)=some h from c,Option.bind_some,low.1,Option.bind_some]
theorem b9V{lo hi mx:Option D}{len cap l h m:Nat}(e:M0 len cap lo hi mx=some (l,h,m)):m≤cap:=by
 unfold M0 at e
 cases ht:c3c cap mx with
 |none=>rw[ht]at e;cases e
 |some m0=>
  rw[ht,Option.bind_some]at e
  have hm:m0≤cap:=by
   cases mx with
   |none=>cases ht;exact Nat.le_refl _
   |some d=>
    replace ht:D7 d cap=some m0:=ht
    unfold D7 at ht
    split at ht
    ·split at ht
     ·cases ht;omega
     ·cases ht
    ·cases ht
  cases hh:b1k len m0 hi mx with
  |none=>rw[hh]at e;cases e
  |some h0=>
   rw[hh,Option.bind_some]at e
   cases hl:b8h h0 lo with
   |none=>rw[hl]at e;cases e
   |some l0=>rw[hl,Option.bind_some]at e;cases e;exact hm
theorem b6w{rows:List (List D)}{sz:Nat}(h:∀row∈rows,row.length=sz){all:List AV}{j:Nat}(hr:a2f E R rows ((all.drop j).take (rows.length*sz)))(hs:((all.drop j).take (rows.length*sz)).all u9=true)(l n:Nat)(hn:l+n≤rows.length):
  a2f E R ((rows.drop l).take n) ((all.drop (j+l*sz)).take (((rows.drop l).take n).length*sz))∧((all.drop (j+l*sz)).take (((rows.drop l).take n).length*sz)).all u9=true:=by
 have hlen:((rows.drop l).take n).length=n:=by rw[List.length_take,List.length_drop];omega
 have hle:l*sz+n*sz≤rows.length*sz:=by rw[←Nat.add_mul];exact Nat.mul_le_mul_right _ hn
 have e:(all.drop (j+l*sz)).take (n*sz)=(((all.drop j).take (rows.length*sz)).drop (l*sz)).take (n*sz):=a7P hle
 have hd:∀row∈rows.drop l,row.length=sz:=fun row hx=>h row (List.mem_of_mem_drop hx)
 rw[hlen,e]
 refine⟨?_,N9 (a1z hs _) _⟩
 rw[N4, ←a3i hd, ←a4P h]
 exact((N4.1 hr).drop _).take _
theorem c7m{rows:List (List D)}{sz:Nat}(h:∀row∈rows,row.length=sz){o:Id}{all:List AV}{j z:Nat}(ho:rdE E R o=some all)(hf:c9Y o z sz)(hr:a2f E R rows ((all.drop j).take (rows.length*sz)))(hs:((all.drop j).take (rows.length*sz)).all u9=true)
  {l hh m m':Nat} (h1:l≤hh) (h2:hh≤m) (h3:m≤rows.length) (h4:m≤m') (ex:Bool):
  Rp E R (b7t ((rows.drop l).take (hh - l)) ((rows.drop hh).take (m - hh)) sz) (.slc o (j+l*sz) (hh - l) (m' - l) ex z):=by
 have hl':((rows.drop l).take (hh - l)).length=hh - l:=by rw[List.length_take,List.length_drop];omega
 have hm':((rows.drop hh).take (m - hh)).length=m - hh:=by rw[List.length_take,List.length_drop];omega
 have hrl:∀row∈(rows.drop l).take (hh - l),row.length=sz:=fun row hr=>h row (List.mem_of_mem_drop (List.mem_of_mem_take hr))
 have hrm:∀row∈(rows.drop hh).take (m - hh),row.length=sz:=fun row hr=>h row (List.mem_of_mem_drop (List.mem_of_mem_take hr))
 have p1:=b6w h hr hs l (hh - l) (by omega)
 have p2:=b6w h hr hs hh (m - hh) (by omega)
 have p3:=b6w h hr hs l (m - l) (by omega)
 unfold b7t
 split
 ·simp only[Rp]
  exact .inr ⟨o,j+l*sz,m' - l,ex,z,by rw[hl'],hf,by rw[hl'];omega,hrl, .inr ⟨all,ho,p1⟩⟩
 ·skip
  simp only[Rp]
  refine⟨o,j+l*sz,m' - l,ex,z,all,by rw[hl'],hf,by rw[hl',hm'];omega,hrl,hrm, .inl ho,p1.1, ?_, ?_⟩
  ·have e:j+l*sz+((rows.drop l).take (hh - l)).length*sz=j+hh*sz:=by rw[hl',Nat.add_assoc, ←Nat.add_mul];congr 2;omega
   rw[e];exact p2.1
  ·have e:((rows.drop l).take (hh - l)).length+((rows.drop hh).take (m - hh)).length=((rows.drop l).take (m - l)).length:=by
    rw[hl',hm',List.length_take,List.length_drop];omega
   rw[e];exact p3.2
theorem c9M{rows more:List (List D)}{sz:Nat}{all:List AV}{j:Nat}(h1:a2f E R rows ((all.drop j).take (rows.length*sz)))(h2:a2f E R more ((all.drop (j+rows.length*sz)).take (more.length*sz))):a2f E R (rows++more) ((all.drop j).take ((rows++more).length*sz)):=by
 rw[N4]at*
 rw[List.flatten_append,List.length_append,Nat.add_mul,List.take_add]
 refine h1.append ?_
 rw[List.drop_drop]
 exact h2
theorem d0m{t:TypeId}{x:D}{v:AV}(hx:Rp E R x v){lo hi mx:Option D}{vlo vhi vmx:Option AV}(h1:RpO E R lo vlo)(h2:RpO E R hi vhi)(h3:RpO E R mx vmx){d:D}(h:c5L P t x lo hi mx=some d):
  ∃y,Rp E R d y∧∀H,a1P P H t v vlo vhi vmx=some y:=by
 unfold c5L at h
 split at h
 ·rename_i hu
  cases mx with
  |some m=>cases h
  |none=>
   cases vmx with
   |some m=>exact h3.elim
   |none=>
    cases x<;>simp only[c0o]at h<;>try (cases h;done)
    rename_i s
    simp only[Rp]at hx
    subst hx
    cases hb:M0 s.length s.length lo hi none with
    |none=>rw[hb]at h;cases h
    |some r=>
     obtain⟨l,hh,m⟩:=r
     rw[hb]at h
     cases h
     obtain⟨m',e,_⟩:=a7t h1 h2 h3 (Nat.le_refl _) hb (Nat.le_refl _) (fun _=> .inr trivial)
     refine⟨.str ((s.drop l).take (hh - l)),by simp only[Rp],fun H=> ?_⟩
     simp only[a1P,hu,e,Option.isSome_none,Bool.false_eq_true,if_false,Option.bind_eq_bind,Option.bind_some]
 ·rename_i el hu
  split at h
  ·rename_i sz hsz
   cases x<;>simp only[V0]at h<;>try (cases h;done)
   ·
    simp only[Rp]at hx
    subst hx
    cases hb:M0 0 0 lo hi mx with
    |none=>rw[hb]at h;cases h
    |some r=>
     obtain⟨l,hh,m⟩:=r
     rw[hb]at h
     cases h
     obtain⟨m',e,_⟩:=a7t h1 h2 h3 (Nat.le_refl _) hb (Nat.le_refl _) (fun _=> .inr trivial)
     refine⟨.nilSlc,by simp only[Rp],fun H=> ?_⟩
     simp only[a1P,hu,hsz,e,Option.bind_eq_bind,Option.bind_some]
   ·
    rename_i rows z
    split at h
    ·rename_i hz
     subst hz
     simp only[Rp]at hx
     rcases hx with ⟨rfl,rfl⟩|⟨o,j,cap,ex,z',rfl,f1,f2,f3,f4⟩
     ·cases hb:M0 0 0 lo hi mx with
      |none=>simp only[List.length_nil,hb]at h;cases h
      |some r=>
       obtain⟨l,hh,m⟩:=r
       simp only[List.length_nil,hb,Option.map_some,List.drop_nil,List.take_nil,b7t]at h
       cases h
       obtain⟨m',e,_⟩:=a7t h1 h2 h3 (Nat.le_refl _) hb (Nat.le_refl _) (fun _=> .inr trivial)
       refine⟨.nilSlc,by simp only[Rp];exact .inl ⟨by trivial,by trivial⟩,fun H=> ?_⟩
       simp only[a1P,hu,hsz,e,Option.bind_eq_bind,Option.bind_some]
     cases hb:M0 rows.length rows.length lo hi mx with
     |none=>rw[hb]at h;cases h
     |some r=>
      obtain⟨l,hh,m⟩:=r
      rw[hb]at h
      cases h
      obtain⟨m',e,g1,g2,g3,g4⟩:=a7t h1 h2 h3 (Nat.le_refl _) hb f2 (fun _=> .inr trivial)
      have hf:a6b o z' z=true:=by
       cases o with
       |old b=>rfl
       |new k=>have:z'=z:=f1;simp[a6b,this]
      have hm:m≤rows.length∧hh≤m∧m≤m':=by
       have:=b9V hb
       rcases g4 with g4|⟨_,g4,g5⟩<;>omega
      refine⟨.slc o (j+l*z) (hh - l) (m' - l) (ex||vmx.isSome) z', ?_,fun H=> ?_⟩
      ·rcases f4 with rfl|⟨all,k1,k2,k3⟩
       ·simp only[List.drop_nil,List.take_nil,b7t,Rp]
        have:hh=0:=by simpa using g2
        exact .inr ⟨o,j+l*z,m' - l,ex||vmx.isSome,z',by simp[this],f1,Nat.zero_le _,fun row hr=>(by cases hr), .inl (by trivial)⟩
       ·exact c7m f3 k1 f1 k2 k3 g1 hm.2.1 hm.1 hm.2.2 _
      ·simp only[a1P,hu,hsz,e,Option.bind_eq_bind,Option.bind_some,hf,if_true]
    ·cases h
   ·
    rename_i rows more z
    split at h
    ·rename_i hz
     subst hz
     simp only[Rp]at hx
     obtain⟨o,j,cap,ex,z',all,rfl,f1,f2,f3,f4,f5,f6,f7,f8⟩:=hx
     cases hb:M0 rows.length (rows++more).length lo hi mx with
     |none=>rw[hb]at h;cases h
     |some r=>
      obtain⟨l,hh,m⟩:=r
      rw[hb]at h
      cases h
      obtain⟨m',e,g1,g2,g3,g4⟩:=a7t h1 h2 h3 (cap:=(rows++more).length) (by rw[List.length_append];omega) hb (cap':=cap) (by rw[List.length_append];omega) (fun _=> .inr trivial)
      have hf:a6b o z' z=true:=by
       cases o with
       |old b=>rfl
       |new k=>have:z'=z:=f1;simp[a6b,this]
      have hm:m≤(rows++more).length∧hh≤m∧m≤m':=by
       have:=b9V hb
       rw[List.length_append]at*
       rcases g4 with g4|⟨_,g4,g5⟩<;>omega
      refine⟨.slc o (j+l*z) (hh - l) (m' - l) (ex||vmx.isSome) z', ?_,fun H=> ?_⟩
      ·rcases f5 with f5|⟨rfl,rfl⟩
       rotate_left
       ·simp only[List.append_nil,List.drop_nil,List.take_nil,List.length_nil]at hm ⊢
        show Rp E R (.lst [] z) _
        simp only[Rp]
        have e0:hh - l=0:=by omega
        exact .inr ⟨o,j+l*z,m' - l,ex||vmx.isSome,z',by rw[e0];rfl,f1,Nat.zero_le _,fun row hr=>(by cases hr), .inl trivial⟩
       refine c7m (rows:=rows++more) (fun row hr=>(List.mem_append.1 hr).elim (f3 row) (f4 row)) f5 f1 (c9M f6 f7) ?_ g1 hm.2.1 hm.1 hm.2.2 _
       rw[List.length_append];exact f8
      ·simp only[a1P,hu,hsz,e,Option.bind_eq_bind,Option.bind_some,hf,if_true]
    ·cases h
   ·
    rename_i k i len cap ex z
    split at h
    ·rename_i hz
     subst hz
     simp only[Rp]at hx
     subst hx
     cases hb:M0 len cap lo hi mx with
     |none=>rw[hb]at h;cases h
     |some r=>
      obtain⟨l,hh,m⟩:=r
      rw[hb]at h
      cases h
      have key:a3v len cap vlo vhi vmx=some (l,hh,m)∧(mx.isSome=vmx.isSome):=by
       refine⟨?_, ?_⟩
       ·unfold M0 at hb
        unfold a3v
        cases mx with
        |none=>
         cases vmx with
         |some v=>exact h3.elim
         |none=>
          rw[show c3c cap none=some cap from rfl,Option.bind_some]at hb
          rw[show c4Y cap none=some cap from rfl,Option.bind_some]
          cases hi with
          |none=>
           cases vhi with
           |some v=>exact h2.elim
           |none=>
            rw[show b1k len cap none none=some len from rfl,Option.bind_some]at hb
            rw[show b2K len cap none none=some len from rfl,Option.bind_some]
            cases lo with
            |none=>
             cases vlo with
             |some v=>exact h1.elim
             |none=>exact hb
            |some dl=>
             cases vlo with
             |none=>exact h1.elim
             |some v=>
              cases hq:D7 dl len with
              |none=>rw[show b8h len (some dl)=D7 dl len from rfl,hq]at hb;cases hb
              |some q=>
               rw[show b8h len (some dl)=D7 dl len from rfl,hq]at hb
               rw[show c6G len (some v)=Z5 v len from rfl,(a1A h1 hq).1]
               exact hb
          |some dh=>
           cases vhi with
           |none=>exact h2.elim
           |some vh=>
            cases hq:D7 dh cap with
            |none=>rw[show b1k len cap (some dh) none=D7 dh cap from rfl,hq]at hb;cases hb
            |some q=>
             rw[show b1k len cap (some dh) none=D7 dh cap from rfl,hq,Option.bind_some]at hb
             rw[show b2K len cap (some vh) none=Z5 vh cap from rfl,(a1A h2 hq).1,Option.bind_some]
             cases lo with
             |none=>
              cases vlo with
              |some v=>exact h1.elim
              |none=>exact hb
             |some dl=>
              cases vlo with
              |none=>exact h1.elim
              |some v=>
               cases hq2:D7 dl q with
               |none=>rw[show b8h q (some dl)=D7 dl q from rfl,hq2]at hb;cases hb
               |some q2=>
                rw[show b8h q (some dl)=D7 dl q from rfl,hq2]at hb
                rw[show c6G q (some v)=Z5 v q from rfl,(a1A h1 hq2).1]
                exact hb
        |some dm=>
         cases vmx with
         |none=>exact h3.elim
         |some vm=>
          cases hqm:D7 dm cap with
          |none=>rw[show c3c cap (some dm)=D7 dm cap from rfl,hqm]at hb;cases hb
          |some qm=>
           rw[show c3c cap (some dm)=D7 dm cap from rfl,hqm,Option.bind_some]at hb
           rw[show c4Y cap (some vm)=Z5 vm cap from rfl,(a1A h3 hqm).1,Option.bind_some]
           cases hi with
           |none=>cases hb
           |some dh=>
            cases vhi with
            |none=>exact h2.elim
            |some vh=>
             cases hq:D7 dh qm with
             |none=>rw[show b1k len qm (some dh) (some dm)=D7 dh qm from rfl,hq]at hb;cases hb
             |some q=>
              rw[show b1k len qm (some dh) (some dm)=D7 dh qm from rfl,hq,Option.bind_some]at hb
              rw[show b2K len qm (some vh) (some vm)=Z5 vh qm from rfl,(a1A h2 hq).1,Option.bind_some]
              cases lo with
              |none=>
               cases vlo with
               |some v=>exact h1.elim
               |none=>exact hb
              |some dl=>
               cases vlo with
               |none=>exact h1.elim
               |some v=>
                cases hq2:D7 dl q with
                |none=>rw[show b8h q (some dl)=D7 dl q from rfl,hq2]at hb;cases hb
                |some q2=>
                 rw[show b8h q (some dl)=D7 dl q from rfl,hq2]at hb
                 rw[show c6G q (some v)=Z5 v q from rfl,(a1A h1 hq2).1]
                 exact hb
       ·cases mx<;>cases vmx<;>first|rfl|exact h3.elim
      refine⟨.slc (.new k) (i*z+l*z) (hh - l) (m - l) (ex||vmx.isSome) z, ?_,fun H=> ?_⟩
      ·simp only[Rp]
       rw[key.2,Nat.add_mul]
      ·simp only[a1P,hu,hsz,key.1,Option.bind_eq_bind,Option.bind_some,a6b,beq_self_eq_true,if_true]
    ·cases h
  ·cases h
 ·cases h
theorem c9U{x:D}{v:AV}(hx:Rp E R x v){off:Nat}{d:D}(h:m7 off x=some d):∃o i,v= .ptr o i∧Rp E R d (.ptr o (i+off)):=by
 cases x<;>simp only[m7]at h<;>try (cases h;done)
 all_goals
  cases h
  simp only[Rp]at hx ⊢
 ·subst hx;exact⟨_,_,rfl,rfl⟩
 ·subst hx;exact⟨_,_,rfl,by rw[Nat.add_assoc]⟩
 ·obtain⟨o,j,all,rfl,e2,e3⟩:=hx
  exact⟨_,_,rfl,o,j,all,by rw[Nat.add_assoc],e2,e3⟩
theorem c5Z{s:TypeId}{x:D}{v:AV}(hx:Rp E R x v){f:Nat}{d:D}(h:b9p P s x f=some d):∃y,Rp E R d y∧a5U P s v f=some y:=by
 unfold b9p at h
 cases hf:a4w P s f with
 |none=>rw[hf]at h;cases h
 |some fl=>
  simp only[hf]at h
  split at h
  ·rename_i n hs
   obtain⟨o,i,rfl,h1⟩:=c9U hx h
   refine⟨_,h1, ?_⟩
   simp only[a5U,hf,hs,Option.bind_eq_bind,Option.bind_some,Option.isSome_some,true_and]
   rw[if_pos (by simp)]
  ·cases h
theorem c7H{t:TypeId}{x:D}{v:AV}(hx:Rp E R x v){off:Nat}{d:D}(h:c5p P t off x=some d):∃cs y,v= .agg cs∧Rp E R d y∧b2R P t cs off=some y:=by
 unfold c5p at h
 cases hg:a8e P t with
 |none=>rw[hg]at h;cases h
 |some b=>
  simp only[hg]at h
  cases b with
  |true=>
   cases hs:C9 P t with
   |none=>rw[hs]at h;cases h
   |some n=>
    simp only[hs]at h
    cases x<;>simp only[c2L]at h<;>try (cases h;done)
    cases h
    simp only[Rp]at hx
    obtain⟨vs,rfl,h1,h2⟩:=hx
    refine⟨vs, .agg ((vs.drop off).take n),rfl, ?_,by simp only[b2R,hg,hs,Option.pure_def,Option.bind_eq_bind,Option.bind_some,if_true]⟩
    simp only[Rp]
    exact⟨_,rfl,(h1.drop off).take n,N9 (a1z h2 off) n⟩
  |false=>
   simp only at h
   cases x<;>simp only[c3w]at h<;>try (cases h;done)
   simp only[Rp]at hx
   obtain⟨vs,rfl,h1,h2⟩:=hx
   obtain⟨y,e1,e2⟩:=a4D h1 h
   exact⟨vs,y,rfl,e2,by simp only[b2R,hg,Option.bind_eq_bind,Option.bind_some,Bool.false_eq_true,if_false,e1]⟩
theorem c9R{s:TypeId}{x:D}{v:AV}(hx:Rp E R x v){f:Nat}{d:D}(h:c5Q P s x f=some d):∃y,Rp E R d y∧b3a P s v f=some y:=by
 unfold c5Q at h
 cases hf:a4w P s f with
 |none=>rw[hf]at h;cases h
 |some fl=>
  simp only[hf]at h
  obtain⟨cs,y,rfl,h1,h2⟩:=c7H hx h
  exact⟨y,h1,by simp only[b3a,hf,Option.bind_eq_bind,Option.bind_some,h2]⟩
theorem c6a{t:TypeId}{x ix:D}{v vi:AV}(hx:Rp E R x v)(hi:Rp E R ix vi){d:D}(h:b9v P t x ix=some d):∃y,Rp E R d y∧a1y P t v vi=some y:=by
 unfold b9v at h
 split at h
 ·rename_i e hu
  split at h
  ·rename_i sz hs
   cases ix<;>simp only[D1]at h<;>try (cases h;done)
   rename_i k n
   simp only[Rp]at hi
   subst hi
   cases x<;>simp only at h<;>try (cases h;done)
   ·rename_i rows z
    split at h
    ·rename_i hz
     obtain⟨rfl,h0⟩:=hz
     split at h
     ·rename_i row hrow
      cases h
      simp only[Rp]at hx
      rcases hx with ⟨rfl,_⟩|⟨o,j,cap,ex,z',rfl,f1,f2,f3,f4⟩
      ·cases hrow
      have hlt:=(List.getElem?_eq_some_iff.1 hrow).1
      have hrl:=f3 row (List.mem_of_getElem? hrow)
      rcases f4 with rfl|⟨all,k1,k2,k3⟩
      ·cases hrow
      refine⟨.ptr o (j+n.toNat*z), ?_, ?_⟩
      ·simp only[Rp]
       refine⟨o,j+n.toNat*z,all,rfl,k1, ?_⟩
       have hle:n.toNat*z+z≤rows.length*z:=by rw[←Nat.succ_mul];exact Nat.mul_le_mul_right _ hlt
       rw[hrl,a7P (L:=rows.length*z) hle]
       refine⟨?_,N9 (a1z k3 _) _⟩
       have:=((N4.1 k2).drop (n.toNat*z)).take z
       rw[b0l f3 hrow]at this
       exact this
      ·simp only[a1y,a0t,hu,hs,Option.bind_eq_bind,Option.bind_some]
       rw[if_pos (by omega)]
     ·cases h
    ·cases h
   ·rename_i rows more z
    split at h
    ·rename_i hz
     obtain⟨rfl,h0⟩:=hz
     split at h
     ·rename_i row hrow
      cases h
      simp only[Rp]at hx
      obtain⟨o,j,cap,ex,z',all,rfl,f1,f2,f3,f4,k1,k2,f7,k3⟩:=hx
      have hlt:=(List.getElem?_eq_some_iff.1 hrow).1
      have k1:=k1.resolve_right fun h=>by rw[h.1]at hlt;simp at hlt
      have hrl:=f3 row (List.mem_of_getElem? hrow)
      refine⟨.ptr o (j+n.toNat*z), ?_, ?_⟩
      ·simp only[Rp]
       refine⟨o,j+n.toNat*z,all,rfl,k1, ?_⟩
       have hle:n.toNat*z+z≤rows.length*z:=by rw[←Nat.succ_mul];exact Nat.mul_le_mul_right _ hlt
       have hle':rows.length*z≤(rows.length+more.length)*z:=Nat.mul_le_mul_right _ (by omega)
       rw[hrl]
       refine⟨?_,by rw[a7P (L:=(rows.length+more.length)*z) (by omega)];exact N9 (a1z k3 _) _⟩
       rw[a7P (L:=rows.length*z) hle]
       have:=((N4.1 k2).drop (n.toNat*z)).take z
       rw[b0l f3 hrow]at this
       exact this
      ·simp only[a1y,a0t,hu,hs,Option.bind_eq_bind,Option.bind_some]
       rw[if_pos (by omega)]
     ·cases h
    ·cases h
   ·rename_i k i len cap ex z
    split at h
    ·rename_i hz
     obtain⟨rfl,h0,h1⟩:=hz
     cases h
     simp only[Rp]at hx
     subst hx
     refine⟨_,by simp only[Rp];rfl, ?_⟩
     simp only[a1y,a0t,hu,hs,Option.bind_eq_bind,Option.bind_some]
     rw[if_pos ⟨h0,h1⟩,Nat.add_mul,Nat.add_zero]
    ·cases h
  ·cases h
 ·rename_i len e hu
  split at h
  ·rename_i sz hs
   cases ix<;>simp only[d0x]at h<;>try (cases h;done)
   rename_i k n
   simp only[Rp]at hi
   subst hi
   split at h
   ·rename_i hn
    obtain⟨o,i,rfl,h1⟩:=c9U hx h
    refine⟨_,h1, ?_⟩
    simp only[a1y,a0t,hu,hs,Option.bind_eq_bind,Option.bind_some]
    rw[if_pos hn]
   ·cases h
  ·cases h
 ·cases h
theorem b9N{t:TypeId}{x ix:D}{v vi:AV}(hx:Rp E R x v)(hi:Rp E R ix vi){d:D}(h:c6T P t x ix=some d):∃y,Rp E R d y∧b0p P t v vi=some y:=by
 unfold c6T at h
 split at h
 ·rename_i hu
  cases ix<;>simp only[c2W]at h<;>try (cases h;done)
  rename_i k n
  cases x<;>simp only at h<;>try (cases h;done)
  rename_i s
  simp only[Rp]at hi hx
  subst hi hx
  split at h
  ·rename_i h0
   split at h
   ·rename_i b hb
    cases h
    refine⟨_,by simp only[Rp];rfl, ?_⟩
    simp only[b0p,a0t,hu,Option.bind_eq_bind,Option.bind_some,hb]
    rw[if_pos h0]
    rfl
   ·cases h
  ·cases h
 ·rename_i len e hu
  split at h
  ·rename_i sz ag hs hag
   cases ix<;>simp only[d0s]at h<;>try (cases h;done)
   rename_i kk n
   simp only[Rp]at hi
   subst hi
   split at h
   ·rename_i hn
    have hp:c5p P e (n.toNat*sz) x=some d:=by
     unfold c5p
     rw[hag]
     cases ag with
     |true=>simp only[hs];exact h
     |false=>exact h
    obtain⟨cs,y,rfl,h1,h2⟩:=c7H hx hp
    refine⟨y,h1, ?_⟩
    simp only[b0p,a0t,hu,hs,Option.bind_eq_bind,Option.bind_some]
    rw[if_pos hn]
    exact h2
   ·cases h
  ·cases h
 ·cases h
theorem d1R{t:TypeId}{x:D}{v:AV}(hx:Rp E R x v){d:D}(h:d1Z P t x=some d):∃y,Rp E R d y∧∀H,c9I P H t v=some y:=by
 unfold d1Z at h
 have go:∀ {n:Nat},b5C P t v=some n→d= .int .i64 n→∃y,Rp E R d y∧∀H,c9I P H t v=some y:=by
  intro n e1 e2
  subst e2
  exact⟨.int .i64 n,by simp only[Rp],fun H=>by simp only[c9I,e1]⟩
 split at h
 ·rename_i hu
  cases x<;>simp only[a8l]at h<;>try (cases h;done)
  cases h
  simp only[Rp]at hx
  subst hx
  exact go (by simp only[b5C,hu]) rfl
 ·rename_i e hu
  cases x<;>simp only[r6]at h<;>try (cases h;done)
  all_goals
   cases h
   simp only[Rp]at hx
  ·subst hx;exact go (n:=0) (by simp only[b5C,hu]) rfl
  ·rcases hx with ⟨rfl,rfl⟩|⟨o,j,cap,ex,z',rfl,_⟩
   ·exact go (n:=0) (by simp only[b5C,hu]) rfl
   ·exact go (by simp only[b5C,hu]) rfl
  ·obtain⟨o,j,cap,ex,z',all,rfl,_⟩:=hx;exact go (by simp only[b5C,hu]) rfl
  ·subst hx;exact go (by simp only[b5C,hu]) rfl
 ·rename_i n e hu
  cases h
  exact go (by simp only[b5C,hu]) rfl
 ·cases h
theorem d2D{t:TypeId}{x:D}{v:AV}(hx:Rp E R x v){d:D}(h:d2q P t x=some d):∃y,Rp E R d y∧((c2r P t v).map fun(n:Nat)=>AV.int .i64 n)=some y:=by
 unfold d2q at h
 split at h
 ·rename_i e hu
  cases x<;>simp only[c4K]at h<;>try (cases h;done)
  ·cases h
   simp only[Rp]at hx
   subst hx
   exact⟨.int .i64 (0:Nat),by simp only[Rp];rfl,by simp only[c2r,hu];rfl⟩
  ·rename_i k i len cap ex z
   cases ex<;>simp only at h<;>try (cases h;done)
   cases h
   simp only[Rp]at hx
   subst hx
   exact⟨.int .i64 cap,by simp only[Rp],by simp only[c2r,hu];rfl⟩
 ·rename_i n e hu
  cases h
  exact⟨.int .i64 n,by simp only[Rp],by simp only[c2r,hu];rfl⟩
 ·cases h
theorem c7g{m:Bool}:∀ {l:List D} {vs:List AV} {x:D} {v:AV} {d:D},Rp E R x v→A2 E R l vs→l.foldlM (mmD m) x=some d→∃y,Rp E R d y∧vs.foldlM (fun x y=>match x,y with
  | .int k a, .int _ b=>some (AV.int k (if m then(if b>a then b else a) else(if b<a then b else a)))
  |_,_=>none) v=some y
 | [],vs,x,v,d,hx,hl,h=>by
  simp only[A2]at hl
  subst hl
  cases h
  exact⟨v,hx,rfl⟩
 |a::l,vs,x,v,d,hx,hl,h=>by
  simp only[A2]at hl
  obtain⟨w,ws,rfl,h1,h2⟩:=hl
  simp only[List.foldlM_cons,Option.bind_eq_bind]at h ⊢
  cases x<;>simp only[mmD,Option.bind_none]at h<;>try (cases h;done)
  cases a<;>simp only[Option.bind_none]at h<;>try (cases h;done)
  simp only[Option.bind_some]at h
  simp only[Rp]at hx h1
  subst hx h1
  exact c7g (by simp only[Rp]) h2 h
theorem c1W{m:Bool}{l:List D}{vs:List AV}(hl:A2 E R l vs){d:D}(h:b3X m l=some d):∃y,Rp E R d y∧a3C m vs=some y:=by
 cases l with
 |nil=>cases h
 |cons x l=>
  simp only[A2]at hl
  obtain⟨v,ws,rfl,h1,h2⟩:=hl
  exact c7g h1 h2 h
theorem c9r{t:TypeId}{x:D}{v:AV}(hx:Rp E R x v){d:D}(h:c6j P t x=some d):∃y,Rp E R d y∧c2T P t v=some y:=by
 unfold c6j at h
 unfold c2T
 split at h
 ·cases h
 ·rename_i u hn hu
  cases h
  rw[hu]
  refine⟨.ifc t v,by simp only[Rp];exact⟨v,rfl,hx⟩, ?_⟩
  split
  ·rename_i e h1;cases h1;exact(hn _ rfl).elim
  ·rfl
  ·rename_i h1;cases h1
 ·cases h
theorem c8h{x:D}{v:AV}(hx:Rp E R x v){t:TypeId}{ok:Bool}{d:D}(h:c3j P x t ok=some d):∃y,Rp E R d y∧a8V P v t ok=some y:=by
 unfold c3j at h
 split at h
 ·cases h
 ·rename_i u hn hu
  split at h
  ·rename_i z hz
   have fails:ok=true→d= .tup [c8M z, .bool false]→∃y,Rp E R d y∧(if ok=true then(N6 P t).map fun z=>AV.tup [z, .bool false]else none)=some y:=by
    intro hok hd
    subst hd
    refine⟨.tup [z, .bool false], ?_,by rw[if_pos hok,hz];rfl⟩
    simp only[Rp]
    exact⟨_,rfl,A7 c3l (A7 (by simp only[Rp]) F5)⟩
   unfold a8V
   rw[hu]
   split
   ·rename_i e h1;cases h1;exact(hn _ rfl).elim
   ·cases x<;>simp only[asD]at h<;>try (cases h;done)
    ·split at h
     ·rename_i hok
      cases h
      simp only[Rp]at hx
      subst hx
      exact fails hok rfl
     ·cases h
    ·rename_i t' d'
     simp only[Rp]at hx
     obtain⟨v',rfl,hv⟩:=hx
     split at h
     ·rename_i ht
      cases h
      simp only[if_pos ht]
      cases ok with
      |true=>
       refine⟨.tup [v', .bool true], ?_,rfl⟩
       simp only[if_true,Rp]
       exact⟨_,rfl,A7 hv (A7 (by simp only[Rp]) F5)⟩
      |false=>exact⟨v',by simpa using hv,rfl⟩
     ·rename_i ht
      split at h
      ·rename_i hok
       cases h
       simp only[if_neg ht]
       exact fails hok rfl
      ·cases h
   ·rename_i h1;cases h1
  ·cases h
 ·cases h
theorem a3P:∀ {ds:List D} {vs:List AV} {cs:List D} {ws:List AV} {i:Nat},A2 E R cs ws→A2 E R ds vs→A2 E R (o5 cs i ds) (D9 ws i vs)
 | [],vs,cs,ws,i,h,hd=>by simp only[A2]at hd;subst hd;exact h
 |d::ds,vs,cs,ws,i,h,hd=>by
  simp only[A2]at hd
  obtain⟨v,vs,rfl,h1,h2⟩:=hd
  show A2 E R (o5 (cs.set i d) (i+1) ds) (D9 (ws.set i v) (i+1) vs)
  exact a3P (h.set i h1) h2
theorem a0g:∀(ds cs:List D) (i:Nat),(o5 cs i ds).length=cs.length
 | [],cs,i=>rfl
 |d::ds,cs,i=>by rw[o5,a0g ds,List.length_set]
theorem a0P:∀ {vs ws:List AV} {i:Nat},ws.all u9=true→vs.all u9=true→(D9 ws i vs).all u9=true
 | [],ws,i,h,_=>h
 |v::vs,ws,i,h,hv=>by
  simp only[List.all_cons,Bool.and_eq_true]at hv
  show(D9 (ws.set i v) (i+1) vs).all u9=true
  refine a0P ?_ hv.2
  refine List.all_eq_true.2 fun x hx=> ?_
  rcases List.mem_or_eq_of_mem_set hx with hx|rfl
  ·exact List.all_eq_true.1 h x hx
  ·exact hv.1
def RpP(E:l9)(R:Fz):List (Nat×D)→List (Nat×AV)→Prop
 | [],l=>l=[]
 |(i,d)::ds,l=>∃v vs,l=(i,v)::vs∧Rp E R d v∧RpP E R ds vs
theorem b8O{T:List D}{avs:List AV}(h:A2 E R T avs):∀l:List (Nat×Operand),RpP E R (l.map fun p=>(p.1,A5 T p.2)) (l.map fun p=>(p.1,m8 avs p.2))
 | []=>rfl
 |(i,x)::l=>⟨_,_,rfl,z7 h x,b8O h l⟩
theorem c7q{place:Nat→Option (Nat×Nat)}:∀ {parts:List (Nat×D)} {ps:List (Nat×AV)} {cs:List D} {ws:List AV} {l:List (Nat×Nat×D)} {r:List D},RpP E R parts ps→A2 E R cs ws→ws.all u9=true→b1L place parts=some l→u6 cs l=some r→
  ∃us,A2 E R r us∧us.all u9=true∧us.length=ws.length∧a7D place ws ps=some us
 | [],ps,cs,ws,l,r,hp,hc,hs,h1,h2=>by
  have hp':ps=[]:=hp
  subst hp'
  cases h1
  cases h2
  exact⟨ws,hc,hs,rfl,rfl⟩
 |(i,d)::parts,ps,cs,ws,l,r,hp,hc,hs,h1,h2=>by
  obtain⟨v,vs,rfl,hd,hp⟩:=hp
  simp only[b1L]at h1
  split at h1
  ·rename_i off size hpl
   split at h1
   ·rename_i l' hl'
    cases h1
    simp only[u6]at h2
    split at h2
    ·rename_i ds hds
     split at h2
     ·rename_i hsz
      obtain⟨g1,g2⟩:=b1B hd hds
      obtain⟨us,k1,k2,k3,k4⟩:=c7q hp (a3P (i:=off) hc g1) (a0P hs g2) hl' h2
      refine⟨us,k1,k2,by rw[k3,b0x], ?_⟩
      simp only[a7D,hpl]
      rw[if_pos,k4]
      rw[g1.length, ←hc.length]at*
      exact⟨hsz.1,by omega⟩
     ·cases h2
    ·cases h2
   ·cases h1
  ·cases h1
theorem d2u{r:Option (List D)}{d:D}(h:E0 r=some d):∃cs,r=some cs∧d= .agg cs:=by
 cases r with
 |none=>cases h
 |some cs=>cases h;exact⟨cs,rfl,rfl⟩
theorem c9P{t:TypeId}{parts:List (Nat×D)}{ps:List (Nat×AV)}(hp:RpP E R parts ps){d:D}(h:c6f P t parts=some d):∃y,Rp E R d y∧b0s P t ps=some y:=by
 unfold c6f at h
 split at h
 ·rename_i z hz
  split at h
  ·rename_i hsc
   have fin:∀ {place:Nat→Option (Nat×Nat)} {l:List (Nat×Nat×D)},b1L place parts=some l→E0 (u6 (z.map a0N) l)=some d→∃y,Rp E R d y∧(a7D place (AV.agg z).cells ps).map AV.agg=some y:=by
    intro place l h1 h2
    obtain⟨cs,e1,rfl⟩:=d2u h2
    obtain⟨us,k1,k2,k3,k4⟩:=c7q hp (b5W z) hsc h1 e1
    refine⟨.agg us,by simp only[Rp];exact⟨us,rfl,k1,k2⟩, ?_⟩
    show(a7D place z ps).map AV.agg=_
    rw[k4];rfl
   split at h
   ·rename_i fields hu
    split at h
    ·rename_i places hpl
     split at h
     ·rename_i l hl
      obtain⟨y,e1,e2⟩:=fin hl h
      refine⟨y,e1, ?_⟩
      simp only[b0s,hz,hu,hpl,Option.bind_eq_bind,Option.bind_some]
      exact e2
     ·cases h
    ·cases h
   ·rename_i n e hu
    split at h
    ·rename_i size hs
     split at h
     ·rename_i l hl
      obtain⟨y,e1,e2⟩:=fin hl h
      refine⟨y,e1, ?_⟩
      simp only[b0s,hz,hu,hs,Option.bind_eq_bind,Option.bind_some]
      exact e2
     ·cases h
    ·cases h
   ·cases h
  ·cases h
 ·cases h
theorem c1A(hC:C8 E R S H0){sz:Nat}{x:D}{v:AV}(hx:Rp E R x v){rows:List (List D)}(h:K7 S sz x=some rows):
  (∀row∈rows,row.length=sz)∧a3r v=some rows.length∧∃cs,A2 E R rows.flatten cs∧cs.all u9=true∧∀H,Agr R S (b4G x) H→a0p E H sz rows.length v=some cs∧(∀o i len cap ex z,v= .slc o i len cap ex z→J3 E H o i (len*sz)=some cs):=by
 cases x<;>simp only[K7]at h<;>try (cases h;done)
 ·cases h
  simp only[Rp]at hx
  subst hx
  exact⟨fun row hr=>(by cases hr),rfl,[],F5,rfl,fun H _=>⟨rfl,fun _ _ _ _ _ _ e=>(by cases e)⟩⟩
 ·rename_i rows' z
  split at h
  ·rename_i hz
   cases h
   subst hz
   simp only[Rp]at hx
   rcases hx with ⟨rfl,rfl⟩|⟨o,j,cap,ex,z',rfl,f1,f2,f3,f4⟩
   ·exact⟨fun row hr=>(by cases hr),rfl,[],F5,rfl,fun H _=>⟨rfl,fun _ _ _ _ _ _ e=>(by cases e)⟩⟩
   refine⟨f3,rfl, ?_⟩
   rcases f4 with rfl|⟨all,k1,k2,k3⟩
   ·refine⟨[],F5,rfl,fun H _=>⟨?_,fun _ _ _ _ _ _ e=> ?_⟩⟩
    ·simp only[a0p,J3,List.length_nil,Nat.zero_mul,if_true]
    ·cases e;simp only[J3,List.length_nil,Nat.zero_mul,if_true]
   ·have key:∀H,Agr R S (b4G (.lst rows z)) H→J3 E H o j (rows.length*z)=some ((all.drop j).take (rows.length*z)):=by
     intro H hA
     have hc:=b6F k1 hA
     unfold J3
     split
     ·rename_i e0;rw[e0,List.take_zero]
     ·rename_i e0
      have hl:=(N4.1 k2).length
      rw[B7 f3,List.length_take,List.length_drop]at hl
      simp only[E4,hc]
      rw[if_pos (by omega)]
    exact⟨_,N4.1 k2,k3,fun H hA=>⟨key H hA,fun _ _ _ _ _ _ e=>by cases e;exact key H hA⟩⟩
  ·cases h
 ·rename_i rows' more z
  split at h
  ·rename_i hz
   cases h
   subst hz
   simp only[Rp]at hx
   obtain⟨o,j,cap,ex,z',all,rfl,f1,f2,f3,f4,k1,k2,f7,k3⟩:=hx
   refine⟨f3,rfl, ?_⟩
   have hle':rows.length*z≤(rows.length+more.length)*z:=Nat.mul_le_mul_right _ (by omega)
   have k3':((all.drop j).take (rows.length*z)).all u9=true:=by
    have:=N9 k3 (rows.length*z)
    rw[List.take_take,Nat.min_eq_left hle']at this
    exact this
   have key:∀H,Agr R S (b4G (.ext rows more z)) H→J3 E H o j (rows.length*z)=some ((all.drop j).take (rows.length*z)):=by
    intro H hA
    unfold J3
    split
    ·rename_i e0;rw[e0,List.take_zero]
    ·rename_i e0
     have hc:=b6F (k1.resolve_right fun h=>e0 (by rw[h.1];simp)) hA
     have hl:=(N4.1 k2).length
     rw[B7 f3,List.length_take,List.length_drop]at hl
     simp only[E4,hc]
     rw[if_pos (by omega)]
   exact⟨_,N4.1 k2,k3',fun H hA=>⟨key H hA,fun _ _ _ _ _ _ e=>by cases e;exact key H hA⟩⟩
  ·cases h
 ·rename_i k i len cap ex z
  cases hk:S k with
  |none=>rw[hk]at h;cases h
  |some o=>
   simp only[hk]at h
   split at h
   ·rename_i hz
    obtain⟨rfl,hsz,hlen⟩:=hz
    cases h
    simp only[Rp]at hx
    subst hx
    obtain⟨h1,⟨pre,h2⟩,h3,h4,h5⟩:=hC.own k o hk
    rw[hsz]at h4
    have hd:∀row∈o.rows.drop i,row.length=z:=fun row hr=>h4 row (List.mem_of_mem_drop hr)
    have hl:((o.rows.drop i).take len).length=len:=by rw[List.length_take,List.length_drop];omega
    have hll:=h5.length
    rw[B7 h4]at hll
    have hle:i*z+len*z≤o.acs.length:=by rw[hll, ←Nat.add_mul];exact Nat.mul_le_mul_right _ hlen
    refine⟨fun row hr=>hd row (List.mem_of_mem_take hr),by rw[hl];rfl,(o.acs.drop (i*z)).take (len*z), ?_,N9 (a1z h3 _) _,fun H hA=> ?_⟩
    ·rw[←a3i hd, ←a4P h4]
     exact(h5.drop _).take _
    ·have key:J3 E H (.new k) (i*z) (len*z)=some ((o.acs.drop (i*z)).take (len*z)):=by
      obtain⟨w,p,g⟩:=hA.st k o rfl hk
      exact c5D E g _ _ hle
     refine⟨by rw[hl];exact key,fun _ _ _ _ _ _ e=>by cases e;exact key⟩
   ·cases h
theorem c7E:∀ {rows:List (List D)} {bs:List UInt8} {cs:List AV},(∀row∈rows,row.length=1)→A2 E R rows.flatten cs→rows.mapM b8E=some bs→cs.mapM c3h=some bs
 | [],bs,cs,_,h,e=>by
  simp only[List.flatten_nil,A2]at h
  subst h
  exact e
 |row::rows,bs,cs,hl,h,e=>by
  rw[List.mapM_cons]at e
  cases hb:b8E row with
  |none=>rw[hb]at e;cases e
  |some b=>
   rw[hb]at e
   simp only[Option.bind_eq_bind,Option.bind_some]at e
   cases hm:rows.mapM b8E with
   |none=>rw[hm]at e;cases e
   |some l=>
    rw[hm]at e
    cases e
    unfold b8E at hb
    split at hb
    ·rename_i n
     cases hb
     simp only[List.flatten_cons,List.cons_append,List.nil_append,A2]at h
     obtain⟨v,vs,rfl,h1,h2⟩:=h
     simp only[Rp]at h1
     subst h1
     have ih:=c7E (fun row hr=>hl row (List.mem_cons_of_mem _ hr)) h2 hm
     rw[List.mapM_cons,ih]
     rfl
    ·cases hb
theorem d1s(hC:C8 E R S H0){s t:TypeId}{x:D}{v:AV}(hx:Rp E R x v){d:D}(h:c9x P S s t x=some d):∃y,Rp E R d y∧∀H,Agr R S (b4G x) H→(O2 P E H s t v).map (·.1)=some y:=by
 unfold c9x at h
 split at h
 ·rename_i hu1 hu2
  cases x<;>simp only[H7]at h<;>try (cases h;done)
  cases h
  simp only[Rp]at hx
  subst hx
  rename_i k' n
  exact⟨.int _ (IntKind.wrap _ n),by simp only[Rp];rfl,fun H _=>by simp only[O2,hu1,hu2];rfl⟩
 ·rename_i hu1 hu2
  cases x<;>simp only[c2H]at h<;>try (cases h;done)
  cases h
  simp only[Rp]at hx
  subst hx
  rename_i s
  exact⟨.str s,by simp only[Rp],fun H _=>by simp only[O2,hu1,hu2];rfl⟩
 ·rename_i e hu1 hu2
  split at h
  ·rename_i hue
   unfold a8g at h
   split at h
   ·rename_i rows hrows
    obtain⟨g1,g2,cs,g3,g4,g5⟩:=c1A hC hx hrows
    cases hm:rows.mapM b8E with
    |none=>rw[hm]at h;cases h
    |some bs=>
     rw[hm]at h
     cases h
     have hb:=c7E g1 g3 hm
     refine⟨.str bs,by simp only[Rp],fun H hA=> ?_⟩
     obtain⟨k1,k2⟩:=g5 H hA
     cases v<;>simp only[a3r,Option.some.injEq]at g2<;>try (cases g2;done)
     ·
      cases x<;>simp only[K7]at hrows<;>try (cases hrows;done)
      ·simp only[Rp]at hx;cases hx
      ·simp only[Rp]at hx;rcases hx with ⟨_,hx⟩|⟨_,_,_,_,_,hx,_⟩<;>cases hx
      ·simp only[Rp]at hx;obtain⟨_,_,_,_,_,_,hx,_⟩:=hx;cases hx
      ·simp only[Rp]at hx;cases hx
     ·have hr:rows=[]:=List.length_eq_zero_iff.1 g2.symm
      subst hr
      cases hm
      simp only[O2,hu1,hu2,hue]
      rfl
     ·have:=k2 _ _ _ _ _ _ rfl
      rw[Nat.mul_one]at this
      simp only[O2,hu1,hu2,hue,this,hb]
      rfl
   ·cases h
  ·cases h
 ·cases h
theorem c3S{T:List D}{avs:List AV}(h:A2 E R T avs):∀x:Option Operand,RpO E R (x.map (A5 T)) (x.map (m8 avs))
 |none=>trivial
 |some x=>z7 h x
theorem d0Z{T:List D}{avs:List AV}(hT:A2 E R T avs)(hC:C8 E R S H0){o:Oper}{d:D}(h:d2B P T S o=some d):
  ∃v,Rp E R d v∧∀H,Agr R S (b5I T o) H→opV P E avs H o=some v:=by
 obtain⟨dst,op,type,pos,after,guard⟩:=o
 have plain:∀ {r:Option AV},(∃v,Rp E R d v∧r=some v)→∃v,Rp E R d v∧∀H,Agr R S (b5I T ⟨dst,op,type,pos,after,guard⟩) H→r=some v:=fun⟨v,a,b⟩=>⟨v,a,fun _ _=>b⟩
 cases op<;>simp only[d2B]at h<;>try (cases h;done)
 case move x=>cases h;exact⟨_,z7 hT x,fun _ _=>rfl⟩
 case assign x=>cases h;exact⟨_,z7 hT x,fun _ _=>rfl⟩
 case pick c a b=>exact plain (d0H (z7 hT c) (z7 hT a) (z7 hT b) h)
 case build t parts=>exact plain (c9P (b8O hT _) h)
 case load t a=>
  obtain⟨v,h1,h2⟩:=c7C hC (z7 hT a) h
  exact⟨v,h1,fun H hA=>h2 H hA⟩
 case nilCheck x=>
  obtain⟨h1,h2⟩:=d2w (z7 hT x) h
  exact⟨_,h1,fun _ _=>h2⟩
 case binOp op t x y yt=>exact plain (d2h (z7 hT x) (z7 hT y) h)
 case unOp op t x=>exact plain (d2Z (z7 hT x) h)
 case convert s t x=>
  obtain⟨v,h1,h2⟩:=d1s hC (z7 hT x) h
  exact⟨v,h1,fun H hA=>h2 H hA⟩
 case makeInterface t x=>exact plain (c9r (z7 hT x) h)
 case makeFunc fn a b=>
  cases h
  refine⟨_, ?_,fun _ _=>rfl⟩
  simp only[Rp]
  exact⟨_,_,rfl,a3G hT _,a3G hT _⟩
 case slice t x lo hi mx=>
  obtain⟨v,h1,h2⟩:=d0m (z7 hT x) (c3S hT lo) (c3S hT hi) (c3S hT mx) h
  exact⟨v,h1,fun H _=>h2 H⟩
 case fieldAddr s x f=>exact plain (c5Z (z7 hT x) h)
 case field s x f=>exact plain (c9R (z7 hT x) h)
 case indexAddr t x ix=>exact plain (c6a (z7 hT x) (z7 hT ix) h)
 case index t x ix=>exact plain (b9N (z7 hT x) (z7 hT ix) h)
 case typeAssert x a t ok=>exact plain (c8h (z7 hT x) h)
 case extract t ix=>exact plain (c6X (z7 hT t) h)
 case call c=>
  cases hc:c.callee with
  |value f=>rw[hc]at h;cases h
  |invoke r m=>rw[hc]at h;cases h
  |builtin b=>
   simp only[hc]at h
   have ha:=a3G hT c.args.toList
   simp only[opV,hc]
   generalize c.args.toList.map (A5 T)=ds at h ha
   generalize c.args.toList.map (m8 avs)=vs at ha
   generalize c.argTypes.toList=ts at h
   cases b<;>(try simp only at h)<;>try (cases h;done)
   case len=>
    rcases ds with _|⟨x,_|⟨y,ds⟩⟩<;>(try simp only at h)<;>try (cases h;done)
    rcases ts with _|⟨t,_|⟨u,ts⟩⟩<;>(try simp only at h)<;>try (cases h;done)
    simp only[A2]at ha
    obtain⟨v,vs,rfl,h1,rfl⟩:=ha
    obtain⟨y,g1,g2⟩:=d1R h1 h
    exact⟨y,g1,fun H _=>g2 H⟩
   case cap=>
    rcases ds with _|⟨x,_|⟨y,ds⟩⟩<;>(try simp only at h)<;>try (cases h;done)
    rcases ts with _|⟨t,_|⟨u,ts⟩⟩<;>(try simp only at h)<;>try (cases h;done)
    simp only[A2]at ha
    obtain⟨v,vs,rfl,h1,rfl⟩:=ha
    obtain⟨y,g1,g2⟩:=d2D h1 h
    exact⟨y,g1,fun H _=>g2⟩
   case min=>
    obtain⟨y,g1,g2⟩:=c1W ha h
    exact⟨y,g1,fun H _=>g2⟩
   case max=>
    obtain⟨y,g1,g2⟩:=c1W ha h
    exact⟨y,g1,fun H _=>g2⟩
end
end Go.Am
end
