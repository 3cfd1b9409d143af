/- A part of the proof of ImageWrites. -/
import Derived.Test.YtchnpgddpaonhaaGreatWam
set_option linter.unusedVariables false
set_option linter.unusedSimpArgs false
set_option maxRecDepth 100000
section
namespace Go.Am
section
section
variable{P:Program}{E:j6}{R:Fz}{S:b9}{H0:AHeap}
theorem a2w{x:D}{v:AV}(h:Rp E R x v){y n:Nat}(hb:I1 x y=some n):a0o v y=some n∧n≤y:=by
 cases x<;>simp only[I1]at hb<;>try (cases hb;done)
 simp only[Rp]at h
 subst h
 split at hb
 ·rename_i hn
  cases hb
  exact⟨by simp only[a0o];rw[if_pos hn],by omega⟩
 ·cases hb
def RpO(E:j6)(R:Fz):Option D→Option AV→Prop
 |none,none=>True
 |some d,some v=>Rp E R d v
 |_,_=>False
theorem b1M{lo hi mx:Option D}{vlo vhi vmx:Option AV}(h1:RpO E R lo vlo)(h2:RpO E R hi vhi)(h3:RpO E R mx vmx){len cap cap' l h m:Nat}(hlc:len≤cap)
  (e:Q8 len cap lo hi mx=some (l,h,m)) (hc:cap≤cap') (hx:mx=none→hi=none∨True):
  ∃m',a5B len cap' vlo vhi vmx=some (l,h,m')∧l≤h∧h≤cap∧h≤m'∧(m'=m∨(mx=none∧m'=cap'∧m=cap)):=by
 unfold Q8 at e
 cases ht:d1T cap mx with
 |none=>rw[ht]at e;cases e
 |some m0=>
  rw[ht,Option.bind_some]at e
  cases hh:b5N len m0 hi mx with
  |none=>rw[hh]at e;cases e
  |some h0=>
   rw[hh,Option.bind_some]at e
   cases hl:c6d h0 lo with
   |none=>rw[hl]at e;cases e
   |some l0=>
    rw[hl,Option.bind_some]at e
    cases e
    have low:d5R h vlo=some l∧l≤h:=by
     cases lo with
     |none=>
      cases vlo with
      |none=>cases hl;exact⟨rfl,Nat.zero_le _⟩
      |some v=>exact h1.elim
     |some d=>
      cases vlo with
      |none=>exact h1.elim
      |some v=>exact a2w h1 hl
    cases mx with
    |none=>
     cases vmx with
     |some v=>exact h3.elim
     |none=>
      cases ht
      have high:b8q len cap' vhi none=some h∧h≤cap:=by
       cases hi with
       |none=>
        cases vhi with
        |some v=>exact h2.elim
        |none=>cases hh;exact⟨rfl,hlc⟩
       |some d=>
        cases vhi with
        |none=>exact h2.elim
        |some v=>
         have hh':I1 d cap=some h:=hh
         obtain⟨a,b⟩:=a2w h2 hh'
         refine⟨?_,b⟩
         show a0o v cap'=some h
         cases v<;>simp only[a0o]at a ⊢ <;>try (cases a;done)
         split at a
         ·cases a;rw[if_pos (by omega)]
         ·cases a
      refine⟨cap', ?_,low.2,high.2,by omega, .inr ⟨rfl,rfl,rfl⟩⟩
      simp only[a5B,d4c,Option.bind_some,high.1,low.1]
    |some dm=>
     cases vmx with
     |none=>exact h3.elim
     |some vm=>
      have ht':I1 dm cap=some m:=ht
      obtain⟨a,b⟩:=a2w h3 ht'
      have a':a0o vm cap'=some m:=by
       cases vm<;>simp only[a0o]at a ⊢ <;>try (cases a;done)
       split at a
       ·cases a;rw[if_pos (by omega)]
       ·cases a
      cases hi with
      |none=>cases hh
      |some d=>
       cases vhi with
       |none=>exact h2.elim
       |some v=>
        obtain⟨c,d'⟩:=a2w h2 (show I1 d m=some h from hh)
        refine⟨m, ?_,low.2,by omega,d', .inl rfl⟩
        show(d4c cap' (some vm)).bind _=_
        rw[show d4c cap' (some vm)=some m from a',Option.bind_some,show b8q len m (some v) (some vm)=some h from c,Option.bind_some,low.1,Option.bind_some]
theorem c9J{lo hi mx:Option D}{len cap l h m:Nat}(e:Q8 len cap lo hi mx=some (l,h,m)):m≤cap:=by
 unfold Q8 at e
 cases ht:d1T cap mx with
 |none=>rw[ht]at e;cases e
 |some m0=>
  rw[ht,Option.bind_some]at e
  have hm:m0≤cap:=by
   cases mx with
   |none=>cases ht;exact Nat.le_refl _
   |some d=>
    replace ht:I1 d cap=some m0:=ht
    unfold I1 at ht
    split at ht
    ·split at ht
     ·cases ht;omega
     ·cases ht
    ·cases ht
  cases hh:b5N len m0 hi mx with
  |none=>rw[hh]at e;cases e
  |some h0=>
   rw[hh,Option.bind_some]at e
   cases hl:c6d h0 lo with
   |none=>rw[hl]at e;cases e
   |some l0=>rw[hl,Option.bind_some]at e;cases e;exact hm
theorem c2S{rows:List (List D)}{sz:Nat}(h:∀row∈rows,row.length=sz){all:List AV}{j:Nat}(hr:a3G E R rows ((all.drop j).take (rows.length*sz)))(hs:((all.drop j).take (rows.length*sz)).all w7=true)(l n:Nat)(hn:l+n≤rows.length):
  a3G E R ((rows.drop l).take n) ((all.drop (j+l*sz)).take (((rows.drop l).take n).length*sz))∧((all.drop (j+l*sz)).take (((rows.drop l).take n).length*sz)).all w7=true:=by
 have hlen:((rows.drop l).take n).length=n:=by rw[List.length_take,List.length_drop];omega
 have hle:l*sz+n*sz≤rows.length*sz:=by rw[←Nat.add_mul];exact Nat.mul_le_mul_right _ hn
 have e:(all.drop (j+l*sz)).take (n*sz)=(((all.drop j).take (rows.length*sz)).drop (l*sz)).take (n*sz):=b1J hle
 have hd:∀row∈rows.drop l,row.length=sz:=fun row hx=>h row (List.mem_of_mem_drop hx)
 rw[hlen,e]
 refine⟨?_,V4 (W4 hs _) _⟩
 rw[U9, ←a5d hd, ←a7D h]
 exact((U9.1 hr).drop _).take _
theorem d7i{rows:List (List D)}{sz:Nat}(h:∀row∈rows,row.length=sz){o:Id}{all:List AV}{j z:Nat}(ho:rdE E R o=some all)(hf:d9v o z sz)(hr:a3G E R rows ((all.drop j).take (rows.length*sz)))(hs:((all.drop j).take (rows.length*sz)).all w7=true)
  {l hh m m':Nat} (h1:l≤hh) (h2:hh≤m) (h3:m≤rows.length) (h4:m≤m') (ex:Bool):
  Rp E R (c9F ((rows.drop l).take (hh - l)) ((rows.drop hh).take (m - hh)) sz) (.slc o (j+l*sz) (hh - l) (m' - l) ex z):=by
 have hl':((rows.drop l).take (hh - l)).length=hh - l:=by rw[List.length_take,List.length_drop];omega
 have hm':((rows.drop hh).take (m - hh)).length=m - hh:=by rw[List.length_take,List.length_drop];omega
 have hrl:∀row∈(rows.drop l).take (hh - l),row.length=sz:=fun row hr=>h row (List.mem_of_mem_drop (List.mem_of_mem_take hr))
 have hrm:∀row∈(rows.drop hh).take (m - hh),row.length=sz:=fun row hr=>h row (List.mem_of_mem_drop (List.mem_of_mem_take hr))
 have p1:=c2S h hr hs l (hh - l) (by omega)
 have p2:=c2S h hr hs hh (m - hh) (by omega)
 have p3:=c2S h hr hs l (m - l) (by omega)
 unfold c9F
 split
 ·simp only[Rp]
  exact .inr ⟨o,j+l*sz,m' - l,ex,z,by rw[hl'],hf,by rw[hl'];omega,hrl, .inr ⟨all,ho,p1⟩⟩
 ·skip
  simp only[Rp]
  refine⟨o,j+l*sz,m' - l,ex,z,all,by rw[hl'],hf,by rw[hl',hm'];omega,hrl,hrm, .inl ho,p1.1, ?_, ?_⟩
  ·have e:j+l*sz+((rows.drop l).take (hh - l)).length*sz=j+hh*sz:=by rw[hl',Nat.add_assoc, ←Nat.add_mul];congr 2;omega
   rw[e];exact p2.1
  ·have e:((rows.drop l).take (hh - l)).length+((rows.drop hh).take (m - hh)).length=((rows.drop l).take (m - l)).length:=by
    rw[hl',hm',List.length_take,List.length_drop];omega
   rw[e];exact p3.2
theorem d8Z{rows more:List (List D)}{sz:Nat}{all:List AV}{j:Nat}(h1:a3G E R rows ((all.drop j).take (rows.length*sz)))(h2:a3G E R more ((all.drop (j+rows.length*sz)).take (more.length*sz))):a3G E R (rows++more) ((all.drop j).take ((rows++more).length*sz)):=by
 rw[U9]at*
 rw[List.flatten_append,List.length_append,Nat.add_mul,List.take_add]
 refine h1.append ?_
 rw[List.drop_drop]
 exact h2
theorem d9u{t:TypeId}{x:D}{v:AV}(hx:Rp E R x v){lo hi mx:Option D}{vlo vhi vmx:Option AV}(h1:RpO E R lo vlo)(h2:RpO E R hi vhi)(h3:RpO E R mx vmx){d:D}(h:d5n P t x lo hi mx=some d):
  ∃y,Rp E R d y∧∀H,a2N P H t v vlo vhi vmx=some y:=by
 unfold d5n at h
 split at h
 ·rename_i hu
  cases mx with
  |some m=>cases h
  |none=>
   cases vmx with
   |some m=>exact h3.elim
   |none=>
    cases x<;>simp only[c8o]at h<;>try (cases h;done)
    rename_i s
    simp only[Rp]at hx
    subst hx
    cases hb:Q8 s.length s.length lo hi none with
    |none=>rw[hb]at h;cases h
    |some r=>
     obtain⟨l,hh,m⟩:=r
     rw[hb]at h
     cases h
     obtain⟨m',e,_⟩:=b1M h1 h2 h3 (Nat.le_refl _) hb (Nat.le_refl _) (fun _=> .inr trivial)
     refine⟨.str ((s.drop l).take (hh - l)),by simp only[Rp],fun H=> ?_⟩
     simp only[a2N,hu,e,Option.isSome_none,Bool.false_eq_true,if_false,Option.bind_eq_bind,Option.bind_some]
 ·rename_i el hu
  split at h
  ·rename_i sz hsz
   cases x<;>simp only[J1]at h<;>try (cases h;done)
   ·
    simp only[Rp]at hx
    subst hx
    cases hb:Q8 0 0 lo hi mx with
    |none=>rw[hb]at h;cases h
    |some r=>
     obtain⟨l,hh,m⟩:=r
     rw[hb]at h
     cases h
     obtain⟨m',e,_⟩:=b1M h1 h2 h3 (Nat.le_refl _) hb (Nat.le_refl _) (fun _=> .inr trivial)
     refine⟨.nilSlc,by simp only[Rp],fun H=> ?_⟩
     simp only[a2N,hu,hsz,e,Option.bind_eq_bind,Option.bind_some]
   ·
    rename_i rows z
    split at h
    ·rename_i hz
     subst hz
     simp only[Rp]at hx
     rcases hx with ⟨rfl,rfl⟩|⟨o,j,cap,ex,z',rfl,f1,f2,f3,f4⟩
     ·cases hb:Q8 0 0 lo hi mx with
      |none=>simp only[List.length_nil,hb]at h;cases h
      |some r=>
       obtain⟨l,hh,m⟩:=r
       simp only[List.length_nil,hb,Option.map_some,List.drop_nil,List.take_nil,c9F]at h
       cases h
       obtain⟨m',e,_⟩:=b1M h1 h2 h3 (Nat.le_refl _) hb (Nat.le_refl _) (fun _=> .inr trivial)
       refine⟨.nilSlc,by simp only[Rp];exact .inl ⟨by trivial,by trivial⟩,fun H=> ?_⟩
       simp only[a2N,hu,hsz,e,Option.bind_eq_bind,Option.bind_some]
     cases hb:Q8 rows.length rows.length lo hi mx with
     |none=>rw[hb]at h;cases h
     |some r=>
      obtain⟨l,hh,m⟩:=r
      rw[hb]at h
      cases h
      obtain⟨m',e,g1,g2,g3,g4⟩:=b1M h1 h2 h3 (Nat.le_refl _) hb f2 (fun _=> .inr trivial)
      have hf:a7I o z' z=true:=by
       cases o with
       |old b=>rfl
       |new k=>have:z'=z:=f1;simp[a7I,this]
      have hm:m≤rows.length∧hh≤m∧m≤m':=by
       have:=c9J hb
       rcases g4 with g4|⟨_,g4,g5⟩<;>omega
      refine⟨.slc o (j+l*z) (hh - l) (m' - l) (ex||vmx.isSome) z', ?_,fun H=> ?_⟩
      ·rcases f4 with rfl|⟨all,k1,k2,k3⟩
       ·simp only[List.drop_nil,List.take_nil,c9F,Rp]
        have:hh=0:=by simpa using g2
        exact .inr ⟨o,j+l*z,m' - l,ex||vmx.isSome,z',by simp[this],f1,Nat.zero_le _,fun row hr=>(by cases hr), .inl (by trivial)⟩
       ·exact d7i f3 k1 f1 k2 k3 g1 hm.2.1 hm.1 hm.2.2 _
      ·simp only[a2N,hu,hsz,e,Option.bind_eq_bind,Option.bind_some,hf,if_true]
    ·cases h
   ·
    rename_i rows more z
    split at h
    ·rename_i hz
     subst hz
     simp only[Rp]at hx
     obtain⟨o,j,cap,ex,z',all,rfl,f1,f2,f3,f4,f5,f6,f7,f8⟩:=hx
     cases hb:Q8 rows.length (rows++more).length lo hi mx with
     |none=>rw[hb]at h;cases h
     |some r=>
      obtain⟨l,hh,m⟩:=r
      rw[hb]at h
      cases h
      obtain⟨m',e,g1,g2,g3,g4⟩:=b1M h1 h2 h3 (cap:=(rows++more).length) (by rw[List.length_append];omega) hb (cap':=cap) (by rw[List.length_append];omega) (fun _=> .inr trivial)
      have hf:a7I o z' z=true:=by
       cases o with
       |old b=>rfl
       |new k=>have:z'=z:=f1;simp[a7I,this]
      have hm:m≤(rows++more).length∧hh≤m∧m≤m':=by
       have:=c9J hb
       rw[List.length_append]at*
       rcases g4 with g4|⟨_,g4,g5⟩<;>omega
      refine⟨.slc o (j+l*z) (hh - l) (m' - l) (ex||vmx.isSome) z', ?_,fun H=> ?_⟩
      ·rcases f5 with f5|⟨rfl,rfl⟩
       rotate_left
       ·simp only[List.append_nil,List.drop_nil,List.take_nil,List.length_nil]at hm ⊢
        show Rp E R (.lst [] z) _
        simp only[Rp]
        have e0:hh - l=0:=by omega
        exact .inr ⟨o,j+l*z,m' - l,ex||vmx.isSome,z',by rw[e0];rfl,f1,Nat.zero_le _,fun row hr=>(by cases hr), .inl trivial⟩
       refine d7i (rows:=rows++more) (fun row hr=>(List.mem_append.1 hr).elim (f3 row) (f4 row)) f5 f1 (d8Z f6 f7) ?_ g1 hm.2.1 hm.1 hm.2.2 _
       rw[List.length_append];exact f8
      ·simp only[a2N,hu,hsz,e,Option.bind_eq_bind,Option.bind_some,hf,if_true]
    ·cases h
   ·
    rename_i k i len cap ex z
    split at h
    ·rename_i hz
     subst hz
     simp only[Rp]at hx
     subst hx
     cases hb:Q8 len cap lo hi mx with
     |none=>rw[hb]at h;cases h
     |some r=>
      obtain⟨l,hh,m⟩:=r
      rw[hb]at h
      cases h
      have key:a5B len cap vlo vhi vmx=some (l,hh,m)∧(mx.isSome=vmx.isSome):=by
       refine⟨?_, ?_⟩
       ·unfold Q8 at hb
        unfold a5B
        cases mx with
        |none=>
         cases vmx with
         |some v=>exact h3.elim
         |none=>
          rw[show d1T cap none=some cap from rfl,Option.bind_some]at hb
          rw[show d4c cap none=some cap from rfl,Option.bind_some]
          cases hi with
          |none=>
           cases vhi with
           |some v=>exact h2.elim
           |none=>
            rw[show b5N len cap none none=some len from rfl,Option.bind_some]at hb
            rw[show b8q len cap none none=some len from rfl,Option.bind_some]
            cases lo with
            |none=>
             cases vlo with
             |some v=>exact h1.elim
             |none=>exact hb
            |some dl=>
             cases vlo with
             |none=>exact h1.elim
             |some v=>
              cases hq:I1 dl len with
              |none=>rw[show c6d len (some dl)=I1 dl len from rfl,hq]at hb;cases hb
              |some q=>
               rw[show c6d len (some dl)=I1 dl len from rfl,hq]at hb
               rw[show d5R len (some v)=a0o v len from rfl,(a2w h1 hq).1]
               exact hb
          |some dh=>
           cases vhi with
           |none=>exact h2.elim
           |some vh=>
            cases hq:I1 dh cap with
            |none=>rw[show b5N len cap (some dh) none=I1 dh cap from rfl,hq]at hb;cases hb
            |some q=>
             rw[show b5N len cap (some dh) none=I1 dh cap from rfl,hq,Option.bind_some]at hb
             rw[show b8q len cap (some vh) none=a0o vh cap from rfl,(a2w h2 hq).1,Option.bind_some]
             cases lo with
             |none=>
              cases vlo with
              |some v=>exact h1.elim
              |none=>exact hb
             |some dl=>
              cases vlo with
              |none=>exact h1.elim
              |some v=>
               cases hq2:I1 dl q with
               |none=>rw[show c6d q (some dl)=I1 dl q from rfl,hq2]at hb;cases hb
               |some q2=>
                rw[show c6d q (some dl)=I1 dl q from rfl,hq2]at hb
                rw[show d5R q (some v)=a0o v q from rfl,(a2w h1 hq2).1]
                exact hb
        |some dm=>
         cases vmx with
         |none=>exact h3.elim
         |some vm=>
          cases hqm:I1 dm cap with
          |none=>rw[show d1T cap (some dm)=I1 dm cap from rfl,hqm]at hb;cases hb
          |some qm=>
           rw[show d1T cap (some dm)=I1 dm cap from rfl,hqm,Option.bind_some]at hb
           rw[show d4c cap (some vm)=a0o vm cap from rfl,(a2w h3 hqm).1,Option.bind_some]
           cases hi with
           |none=>cases hb
           |some dh=>
            cases vhi with
            |none=>exact h2.elim
            |some vh=>
             cases hq:I1 dh qm with
             |none=>rw[show b5N len qm (some dh) (some dm)=I1 dh qm from rfl,hq]at hb;cases hb
             |some q=>
              rw[show b5N len qm (some dh) (some dm)=I1 dh qm from rfl,hq,Option.bind_some]at hb
              rw[show b8q len qm (some vh) (some vm)=a0o vh qm from rfl,(a2w h2 hq).1,Option.bind_some]
              cases lo with
              |none=>
               cases vlo with
               |some v=>exact h1.elim
               |none=>exact hb
              |some dl=>
               cases vlo with
               |none=>exact h1.elim
               |some v=>
                cases hq2:I1 dl q with
                |none=>rw[show c6d q (some dl)=I1 dl q from rfl,hq2]at hb;cases hb
                |some q2=>
                 rw[show c6d q (some dl)=I1 dl q from rfl,hq2]at hb
                 rw[show d5R q (some v)=a0o v q from rfl,(a2w h1 hq2).1]
                 exact hb
       ·cases mx<;>cases vmx<;>first|rfl|exact h3.elim
      refine⟨.slc (.new k) (i*z+l*z) (hh - l) (m - l) (ex||vmx.isSome) z, ?_,fun H=> ?_⟩
      ·simp only[Rp]
       rw[key.2,Nat.add_mul]
      ·simp only[a2N,hu,hsz,key.1,Option.bind_eq_bind,Option.bind_some,a7I,beq_self_eq_true,if_true]
    ·cases h
  ·cases h
 ·cases h
theorem d8D{x:D}{v:AV}(hx:Rp E R x v){off:Nat}{d:D}(h:i5 off x=some d):∃o i,v= .ptr o i∧Rp E R d (.ptr o (i+off)):=by
 cases x<;>simp only[i5]at h<;>try (cases h;done)
 all_goals
  cases h
  simp only[Rp]at hx ⊢
 ·subst hx;exact⟨_,_,rfl,rfl⟩
 ·subst hx;exact⟨_,_,rfl,by rw[Nat.add_assoc]⟩
 ·obtain⟨o,j,all,rfl,e2,e3⟩:=hx
  exact⟨_,_,rfl,o,j,all,by rw[Nat.add_assoc],e2,e3⟩
theorem d5v{s:TypeId}{x:D}{v:AV}(hx:Rp E R x v){f:Nat}{d:D}(h:c7y P s x f=some d):∃y,Rp E R d y∧a9o P s v f=some y:=by
 unfold c7y at h
 cases hf:a7w P s f with
 |none=>rw[hf]at h;cases h
 |some fl=>
  simp only[hf]at h
  split at h
  ·rename_i n hs
   obtain⟨o,i,rfl,h1⟩:=d8D hx h
   refine⟨_,h1, ?_⟩
   simp only[a9o,hf,hs,Option.bind_eq_bind,Option.bind_some,Option.isSome_some,true_and]
   rw[if_pos (by simp)]
  ·cases h
theorem d6T{t:TypeId}{x:D}{v:AV}(hx:Rp E R x v){off:Nat}{d:D}(h:d3A P t off x=some d):∃cs y,v= .agg cs∧Rp E R d y∧b8P P t cs off=some y:=by
 unfold d3A at h
 cases hg:b3t P t with
 |none=>rw[hg]at h;cases h
 |some b=>
  simp only[hg]at h
  cases b with
  |true=>
   cases hs:E2 P t with
   |none=>rw[hs]at h;cases h
   |some n=>
    simp only[hs]at h
    cases x<;>simp only[d2A]at h<;>try (cases h;done)
    cases h
    simp only[Rp]at hx
    obtain⟨vs,rfl,h1,h2⟩:=hx
    refine⟨vs, .agg ((vs.drop off).take n),rfl, ?_,by simp only[b8P,hg,hs,Option.pure_def,Option.bind_eq_bind,Option.bind_some,if_true]⟩
    simp only[Rp]
    exact⟨_,rfl,(h1.drop off).take n,V4 (W4 h2 off) n⟩
  |false=>
   simp only at h
   cases x<;>simp only[d2l]at h<;>try (cases h;done)
   simp only[Rp]at hx
   obtain⟨vs,rfl,h1,h2⟩:=hx
   obtain⟨y,e1,e2⟩:=a7u h1 h
   exact⟨vs,y,rfl,e2,by simp only[b8P,hg,Option.bind_eq_bind,Option.bind_some,Bool.false_eq_true,if_false,e1]⟩
theorem d8O{s:TypeId}{x:D}{v:AV}(hx:Rp E R x v){f:Nat}{d:D}(h:d6e P s x f=some d):∃y,Rp E R d y∧b9C P s v f=some y:=by
 unfold d6e at h
 cases hf:a7w P s f with
 |none=>rw[hf]at h;cases h
 |some fl=>
  simp only[hf]at h
  obtain⟨cs,y,rfl,h1,h2⟩:=d6T hx h
  exact⟨y,h1,by simp only[b9C,hf,Option.bind_eq_bind,Option.bind_some,h2]⟩
theorem d5x{t:TypeId}{x ix:D}{v vi:AV}(hx:Rp E R x v)(hi:Rp E R ix vi){d:D}(h:c7V P t x ix=some d):∃y,Rp E R d y∧a2p P t v vi=some y:=by
 unfold c7V at h
 split at h
 ·rename_i e hu
  split at h
  ·rename_i sz hs
   cases ix<;>simp only[p6]at h<;>try (cases h;done)
   rename_i k n
   simp only[Rp]at hi
   subst hi
   cases x<;>simp only at h<;>try (cases h;done)
   ·rename_i rows z
    split at h
    ·rename_i hz
     obtain⟨rfl,h0⟩:=hz
     split at h
     ·rename_i row hrow
      cases h
      simp only[Rp]at hx
      rcases hx with ⟨rfl,_⟩|⟨o,j,cap,ex,z',rfl,f1,f2,f3,f4⟩
      ·cases hrow
      have hlt:=(List.getElem?_eq_some_iff.1 hrow).1
      have hrl:=f3 row (List.mem_of_getElem? hrow)
      rcases f4 with rfl|⟨all,k1,k2,k3⟩
      ·cases hrow
      refine⟨.ptr o (j+n.toNat*z), ?_, ?_⟩
      ·simp only[Rp]
       refine⟨o,j+n.toNat*z,all,rfl,k1, ?_⟩
       have hle:n.toNat*z+z≤rows.length*z:=by rw[←Nat.succ_mul];exact Nat.mul_le_mul_right _ hlt
       rw[hrl,b1J (L:=rows.length*z) hle]
       refine⟨?_,V4 (W4 k3 _) _⟩
       have:=((U9.1 k2).drop (n.toNat*z)).take z
       rw[b5V f3 hrow]at this
       exact this
      ·simp only[a2p,a1f,hu,hs,Option.bind_eq_bind,Option.bind_some]
       rw[if_pos (by omega)]
     ·cases h
    ·cases h
   ·rename_i rows more z
    split at h
    ·rename_i hz
     obtain⟨rfl,h0⟩:=hz
     split at h
     ·rename_i row hrow
      cases h
      simp only[Rp]at hx
      obtain⟨o,j,cap,ex,z',all,rfl,f1,f2,f3,f4,k1,k2,f7,k3⟩:=hx
      have hlt:=(List.getElem?_eq_some_iff.1 hrow).1
      have k1:=k1.resolve_right fun h=>by rw[h.1]at hlt;simp at hlt
      have hrl:=f3 row (List.mem_of_getElem? hrow)
      refine⟨.ptr o (j+n.toNat*z), ?_, ?_⟩
      ·simp only[Rp]
       refine⟨o,j+n.toNat*z,all,rfl,k1, ?_⟩
       have hle:n.toNat*z+z≤rows.length*z:=by rw[←Nat.succ_mul];exact Nat.mul_le_mul_right _ hlt
       have hle':rows.length*z≤(rows.length+more.length)*z:=Nat.mul_le_mul_right _ (by omega)
       rw[hrl]
       refine⟨?_,by rw[b1J (L:=(rows.length+more.length)*z) (by omega)];exact V4 (W4 k3 _) _⟩
       rw[b1J (L:=rows.length*z) hle]
       have:=((U9.1 k2).drop (n.toNat*z)).take z
       rw[b5V f3 hrow]at this
       exact this
      ·simp only[a2p,a1f,hu,hs,Option.bind_eq_bind,Option.bind_some]
       rw[if_pos (by omega)]
     ·cases h
    ·cases h
   ·rename_i k i len cap ex z
    split at h
    ·rename_i hz
     obtain⟨rfl,h0,h1⟩:=hz
     cases h
     simp only[Rp]at hx
     subst hx
     refine⟨_,by simp only[Rp];rfl, ?_⟩
     simp only[a2p,a1f,hu,hs,Option.bind_eq_bind,Option.bind_some]
     rw[if_pos ⟨h0,h1⟩,Nat.add_mul,Nat.add_zero]
    ·cases h
  ·cases h
 ·rename_i len e hu
  split at h
  ·rename_i sz hs
   cases ix<;>simp only[d9t]at h<;>try (cases h;done)
   rename_i k n
   simp only[Rp]at hi
   subst hi
   split at h
   ·rename_i hn
    obtain⟨o,i,rfl,h1⟩:=d8D hx h
    refine⟨_,h1, ?_⟩
    simp only[a2p,a1f,hu,hs,Option.bind_eq_bind,Option.bind_some]
    rw[if_pos hn]
   ·cases h
  ·cases h
 ·cases h
theorem c8W{t:TypeId}{x ix:D}{v vi:AV}(hx:Rp E R x v)(hi:Rp E R ix vi){d:D}(h:d5r P t x ix=some d):∃y,Rp E R d y∧b5t P t v vi=some y:=by
 unfold d5r at h
 split at h
 ·rename_i hu
  cases ix<;>simp only[d2q]at h<;>try (cases h;done)
  rename_i k n
  cases x<;>simp only at h<;>try (cases h;done)
  rename_i s
  simp only[Rp]at hi hx
  subst hi hx
  split at h
  ·rename_i h0
   split at h
   ·rename_i b hb
    cases h
    refine⟨_,by simp only[Rp];rfl, ?_⟩
    simp only[b5t,a1f,hu,Option.bind_eq_bind,Option.bind_some,hb]
    rw[if_pos h0]
    rfl
   ·cases h
  ·cases h
 ·rename_i len e hu
  split at h
  ·rename_i sz ag hs hag
   cases ix<;>simp only[d9G]at h<;>try (cases h;done)
   rename_i kk n
   simp only[Rp]at hi
   subst hi
   split at h
   ·rename_i hn
    have hp:d3A P e (n.toNat*sz) x=some d:=by
     unfold d3A
     rw[hag]
     cases ag with
     |true=>simp only[hs];exact h
     |false=>exact h
    obtain⟨cs,y,rfl,h1,h2⟩:=d6T hx hp
    refine⟨y,h1, ?_⟩
    simp only[b5t,a1f,hu,hs,Option.bind_eq_bind,Option.bind_some]
    rw[if_pos hn]
    exact h2
   ·cases h
  ·cases h
 ·cases h
theorem e1n{t:TypeId}{x:D}{v:AV}(hx:Rp E R x v){d:D}(h:e1p P t x=some d):∃y,Rp E R d y∧∀H,d8G P H t v=some y:=by
 unfold e1p at h
 have go:∀ {n:Nat},c4m P t v=some n→d= .int .i64 n→∃y,Rp E R d y∧∀H,d8G P H t v=some y:=by
  intro n e1 e2
  subst e2
  exact⟨.int .i64 n,by simp only[Rp],fun H=>by simp only[d8G,e1]⟩
 split at h
 ·rename_i hu
  cases x<;>simp only[J3]at h<;>try (cases h;done)
  cases h
  simp only[Rp]at hx
  subst hx
  exact go (by simp only[c4m,hu]) rfl
 ·rename_i e hu
  cases x<;>simp only[l9]at h<;>try (cases h;done)
  all_goals
   cases h
   simp only[Rp]at hx
  ·subst hx;exact go (n:=0) (by simp only[c4m,hu]) rfl
  ·rcases hx with ⟨rfl,rfl⟩|⟨o,j,cap,ex,z',rfl,_⟩
   ·exact go (n:=0) (by simp only[c4m,hu]) rfl
   ·exact go (by simp only[c4m,hu]) rfl
  ·obtain⟨o,j,cap,ex,z',all,rfl,_⟩:=hx;exact go (by simp only[c4m,hu]) rfl
  ·subst hx;exact go (by simp only[c4m,hu]) rfl
 ·rename_i n e hu
  cases h
  exact go (by simp only[c4m,hu]) rfl
 ·cases h
theorem e1g{t:TypeId}{x:D}{v:AV}(hx:Rp E R x v){d:D}(h:e1B P t x=some d):∃y,Rp E R d y∧((d1D P t v).map fun(n:Nat)=>AV.int .i64 n)=some y:=by
 unfold e1B at h
 split at h
 ·rename_i e hu
  cases x<;>simp only[d4j]at h<;>try (cases h;done)
  ·cases h
   simp only[Rp]at hx
   subst hx
   exact⟨.int .i64 (0:Nat),by simp only[Rp];rfl,by simp only[d1D,hu];rfl⟩
  ·rename_i k i len cap ex z
   cases ex<;>simp only at h<;>try (cases h;done)
   cases h
   simp only[Rp]at hx
   subst hx
   exact⟨.int .i64 cap,by simp only[Rp],by simp only[d1D,hu];rfl⟩
 ·rename_i n e hu
  cases h
  exact⟨.int .i64 n,by simp only[Rp],by simp only[d1D,hu];rfl⟩
 ·cases h
theorem d7b{m:Bool}:∀ {l:List D} {vs:List AV} {x:D} {v:AV} {d:D},Rp E R x v→C8 E R l vs→l.foldlM (mmD m) x=some d→∃y,Rp E R d y∧vs.foldlM (fun x y=>match x,y with
  | .int k a, .int _ b=>some (AV.int k (if m then(if b>a then b else a) else(if b<a then b else a)))
  |_,_=>none) v=some y
 | [],vs,x,v,d,hx,hl,h=>by
  simp only[C8]at hl
  subst hl
  cases h
  exact⟨v,hx,rfl⟩
 |a::l,vs,x,v,d,hx,hl,h=>by
  simp only[C8]at hl
  obtain⟨w,ws,rfl,h1,h2⟩:=hl
  simp only[List.foldlM_cons,Option.bind_eq_bind]at h ⊢
  cases x<;>simp only[mmD,Option.bind_none]at h<;>try (cases h;done)
  cases a<;>simp only[Option.bind_none]at h<;>try (cases h;done)
  simp only[Option.bind_some]at h
  simp only[Rp]at hx h1
  subst hx h1
  exact d7b (by simp only[Rp]) h2 h
theorem d1c{m:Bool}{l:List D}{vs:List AV}(hl:C8 E R l vs){d:D}(h:c1u m l=some d):∃y,Rp E R d y∧a5D m vs=some y:=by
 cases l with
 |nil=>cases h
 |cons x l=>
  simp only[C8]at hl
  obtain⟨v,ws,rfl,h1,h2⟩:=hl
  exact d7b h1 h2 h
theorem d9E{t:TypeId}{x:D}{v:AV}(hx:Rp E R x v){d:D}(h:d5E P t x=some d):∃y,Rp E R d y∧d1y P t v=some y:=by
 unfold d5E at h
 unfold d1y
 split at h
 ·cases h
 ·rename_i u hn hu
  cases h
  rw[hu]
  refine⟨.ifc t v,by simp only[Rp];exact⟨v,rfl,hx⟩, ?_⟩
  split
  ·rename_i e h1;cases h1;exact(hn _ rfl).elim
  ·rfl
  ·rename_i h1;cases h1
 ·cases h
theorem d8n{x:D}{v:AV}(hx:Rp E R x v){t:TypeId}{ok:Bool}{d:D}(h:d3h P x t ok=some d):∃y,Rp E R d y∧b2C P v t ok=some y:=by
 unfold d3h at h
 split at h
 ·cases h
 ·rename_i u hn hu
  split at h
  ·rename_i z hz
   have fails:ok=true→d= .tup [d8f z, .bool false]→∃y,Rp E R d y∧(if ok=true then(U3 P t).map fun z=>AV.tup [z, .bool false]else none)=some y:=by
    intro hok hd
    subst hd
    refine⟨.tup [z, .bool false], ?_,by rw[if_pos hok,hz];rfl⟩
    simp only[Rp]
    exact⟨_,rfl,D4 d2R (D4 (by simp only[Rp]) K4)⟩
   unfold b2C
   rw[hu]
   split
   ·rename_i e h1;cases h1;exact(hn _ rfl).elim
   ·cases x<;>simp only[asD]at h<;>try (cases h;done)
    ·split at h
     ·rename_i hok
      cases h
      simp only[Rp]at hx
      subst hx
      exact fails hok rfl
     ·cases h
    ·rename_i t' d'
     simp only[Rp]at hx
     obtain⟨v',rfl,hv⟩:=hx
     split at h
     ·rename_i ht
      cases h
      simp only[if_pos ht]
      cases ok with
      |true=>
       refine⟨.tup [v', .bool true], ?_,rfl⟩
       simp only[if_true,Rp]
       exact⟨_,rfl,D4 hv (D4 (by simp only[Rp]) K4)⟩
      |false=>exact⟨v',by simpa using hv,rfl⟩
     ·rename_i ht
      split at h
      ·rename_i hok
       cases h
       simp only[if_neg ht]
       exact fails hok rfl
      ·cases h
   ·rename_i h1;cases h1
  ·cases h
 ·cases h
theorem a5U:∀ {ds:List D} {vs:List AV} {cs:List D} {ws:List AV} {i:Nat},C8 E R cs ws→C8 E R ds vs→C8 E R (o0 cs i ds) (G3 ws i vs)
 | [],vs,cs,ws,i,h,hd=>by simp only[C8]at hd;subst hd;exact h
 |d::ds,vs,cs,ws,i,h,hd=>by
  simp only[C8]at hd
  obtain⟨v,vs,rfl,h1,h2⟩:=hd
  show C8 E R (o0 (cs.set i d) (i+1) ds) (G3 (ws.set i v) (i+1) vs)
  exact a5U (h.set i h1) h2
theorem a0N:∀(ds cs:List D) (i:Nat),(o0 cs i ds).length=cs.length
 | [],cs,i=>rfl
 |d::ds,cs,i=>by rw[o0,a0N ds,List.length_set]
theorem a1K:∀ {vs ws:List AV} {i:Nat},ws.all w7=true→vs.all w7=true→(G3 ws i vs).all w7=true
 | [],ws,i,h,_=>h
 |v::vs,ws,i,h,hv=>by
  simp only[List.all_cons,Bool.and_eq_true]at hv
  show(G3 (ws.set i v) (i+1) vs).all w7=true
  refine a1K ?_ hv.2
  refine List.all_eq_true.2 fun x hx=> ?_
  rcases List.mem_or_eq_of_mem_set hx with hx|rfl
  ·exact List.all_eq_true.1 h x hx
  ·exact hv.1
def RpP(E:j6)(R:Fz):List (Nat×D)→List (Nat×AV)→Prop
 | [],l=>l=[]
 |(i,d)::ds,l=>∃v vs,l=(i,v)::vs∧Rp E R d v∧RpP E R ds vs
theorem c9v{T:List D}{avs:List AV}(h:C8 E R T avs):∀l:List (Nat×Operand),RpP E R (l.map fun p=>(p.1,C7 T p.2)) (l.map fun p=>(p.1,p8 avs p.2))
 | []=>rfl
 |(i,x)::l=>⟨_,_,rfl,A1 h x,c9v h l⟩
theorem d6R{place:Nat→Option (Nat×Nat)}:∀ {parts:List (Nat×D)} {ps:List (Nat×AV)} {cs:List D} {ws:List AV} {l:List (Nat×Nat×D)} {r:List D},RpP E R parts ps→C8 E R cs ws→ws.all w7=true→b7p place parts=some l→s5 cs l=some r→
  ∃us,C8 E R r us∧us.all w7=true∧us.length=ws.length∧b2s place ws ps=some us
 | [],ps,cs,ws,l,r,hp,hc,hs,h1,h2=>by
  have hp':ps=[]:=hp
  subst hp'
  cases h1
  cases h2
  exact⟨ws,hc,hs,rfl,rfl⟩
 |(i,d)::parts,ps,cs,ws,l,r,hp,hc,hs,h1,h2=>by
  obtain⟨v,vs,rfl,hd,hp⟩:=hp
  simp only[b7p]at h1
  split at h1
  ·rename_i off size hpl
   split at h1
   ·rename_i l' hl'
    cases h1
    simp only[s5]at h2
    split at h2
    ·rename_i ds hds
     split at h2
     ·rename_i hsz
      obtain⟨g1,g2⟩:=b5M hd hds
      obtain⟨us,k1,k2,k3,k4⟩:=d6R hp (a5U (i:=off) hc g1) (a1K hs g2) hl' h2
      refine⟨us,k1,k2,by rw[k3,b6i], ?_⟩
      simp only[b2s,hpl]
      rw[if_pos,k4]
      rw[g1.length, ←hc.length]at*
      exact⟨hsz.1,by omega⟩
     ·cases h2
    ·cases h2
   ·cases h1
  ·cases h1
theorem e1v{r:Option (List D)}{d:D}(h:B8 r=some d):∃cs,r=some cs∧d= .agg cs:=by
 cases r with
 |none=>cases h
 |some cs=>cases h;exact⟨cs,rfl,rfl⟩
theorem d8E{t:TypeId}{parts:List (Nat×D)}{ps:List (Nat×AV)}(hp:RpP E R parts ps){d:D}(h:d5Q P t parts=some d):∃y,Rp E R d y∧b6w P t ps=some y:=by
 unfold d5Q at h
 split at h
 ·rename_i z hz
  split at h
  ·rename_i hsc
   have fin:∀ {place:Nat→Option (Nat×Nat)} {l:List (Nat×Nat×D)},b7p place parts=some l→B8 (s5 (z.map a0J) l)=some d→∃y,Rp E R d y∧(b2s place (AV.agg z).cells ps).map AV.agg=some y:=by
    intro place l h1 h2
    obtain⟨cs,e1,rfl⟩:=e1v h2
    obtain⟨us,k1,k2,k3,k4⟩:=d6R hp (c4g z) hsc h1 e1
    refine⟨.agg us,by simp only[Rp];exact⟨us,rfl,k1,k2⟩, ?_⟩
    show(b2s place z ps).map AV.agg=_
    rw[k4];rfl
   split at h
   ·rename_i fields hu
    split at h
    ·rename_i places hpl
     split at h
     ·rename_i l hl
      obtain⟨y,e1,e2⟩:=fin hl h
      refine⟨y,e1, ?_⟩
      simp only[b6w,hz,hu,hpl,Option.bind_eq_bind,Option.bind_some]
      exact e2
     ·cases h
    ·cases h
   ·rename_i n e hu
    split at h
    ·rename_i size hs
     split at h
     ·rename_i l hl
      obtain⟨y,e1,e2⟩:=fin hl h
      refine⟨y,e1, ?_⟩
      simp only[b6w,hz,hu,hs,Option.bind_eq_bind,Option.bind_some]
      exact e2
     ·cases h
    ·cases h
   ·cases h
  ·cases h
 ·cases h
theorem d0S(hC:G4 E R S H0){sz:Nat}{x:D}{v:AV}(hx:Rp E R x v){rows:List (List D)}(h:L2 S sz x=some rows):
  (∀row∈rows,row.length=sz)∧a5b v=some rows.length∧∃cs,C8 E R rows.flatten cs∧cs.all w7=true∧∀H,Agr R S (c2D x) H→a0Y E H sz rows.length v=some cs∧(∀o i len cap ex z,v= .slc o i len cap ex z→M9 E H o i (len*sz)=some cs):=by
 cases x<;>simp only[L2]at h<;>try (cases h;done)
 ·cases h
  simp only[Rp]at hx
  subst hx
  exact⟨fun row hr=>(by cases hr),rfl,[],K4,rfl,fun H _=>⟨rfl,fun _ _ _ _ _ _ e=>(by cases e)⟩⟩
 ·rename_i rows' z
  split at h
  ·rename_i hz
   cases h
   subst hz
   simp only[Rp]at hx
   rcases hx with ⟨rfl,rfl⟩|⟨o,j,cap,ex,z',rfl,f1,f2,f3,f4⟩
   ·exact⟨fun row hr=>(by cases hr),rfl,[],K4,rfl,fun H _=>⟨rfl,fun _ _ _ _ _ _ e=>(by cases e)⟩⟩
   refine⟨f3,rfl, ?_⟩
   rcases f4 with rfl|⟨all,k1,k2,k3⟩
   ·refine⟨[],K4,rfl,fun H _=>⟨?_,fun _ _ _ _ _ _ e=> ?_⟩⟩
    ·simp only[a0Y,M9,List.length_nil,Nat.zero_mul,if_true]
    ·cases e;simp only[M9,List.length_nil,Nat.zero_mul,if_true]
   ·have key:∀H,Agr R S (c2D (.lst rows z)) H→M9 E H o j (rows.length*z)=some ((all.drop j).take (rows.length*z)):=by
     intro H hA
     have hc:=c4d k1 hA
     unfold M9
     split
     ·rename_i e0;rw[e0,List.take_zero]
     ·rename_i e0
      have hl:=(U9.1 k2).length
      rw[D6 f3,List.length_take,List.length_drop]at hl
      simp only[G9,hc]
      rw[if_pos (by omega)]
    exact⟨_,U9.1 k2,k3,fun H hA=>⟨key H hA,fun _ _ _ _ _ _ e=>by cases e;exact key H hA⟩⟩
  ·cases h
 ·rename_i rows' more z
  split at h
  ·rename_i hz
   cases h
   subst hz
   simp only[Rp]at hx
   obtain⟨o,j,cap,ex,z',all,rfl,f1,f2,f3,f4,k1,k2,f7,k3⟩:=hx
   refine⟨f3,rfl, ?_⟩
   have hle':rows.length*z≤(rows.length+more.length)*z:=Nat.mul_le_mul_right _ (by omega)
   have k3':((all.drop j).take (rows.length*z)).all w7=true:=by
    have:=V4 k3 (rows.length*z)
    rw[List.take_take,Nat.min_eq_left hle']at this
    exact this
   have key:∀H,Agr R S (c2D (.ext rows more z)) H→M9 E H o j (rows.length*z)=some ((all.drop j).take (rows.length*z)):=by
    intro H hA
    unfold M9
    split
    ·rename_i e0;rw[e0,List.take_zero]
    ·rename_i e0
     have hc:=c4d (k1.resolve_right fun h=>e0 (by rw[h.1];simp)) hA
     have hl:=(U9.1 k2).length
     rw[D6 f3,List.length_take,List.length_drop]at hl
     simp only[G9,hc]
     rw[if_pos (by omega)]
   exact⟨_,U9.1 k2,k3',fun H hA=>⟨key H hA,fun _ _ _ _ _ _ e=>by cases e;exact key H hA⟩⟩
  ·cases h
 ·rename_i k i len cap ex z
  cases hk:S k with
  |none=>rw[hk]at h;cases h
  |some o=>
   simp only[hk]at h
   split at h
   ·rename_i hz
    obtain⟨rfl,hsz,hlen⟩:=hz
    cases h
    simp only[Rp]at hx
    subst hx
    obtain⟨h1,⟨pre,h2⟩,h3,h4,h5⟩:=hC.own k o hk
    rw[hsz]at h4
    have hd:∀row∈o.rows.drop i,row.length=z:=fun row hr=>h4 row (List.mem_of_mem_drop hr)
    have hl:((o.rows.drop i).take len).length=len:=by rw[List.length_take,List.length_drop];omega
    have hll:=h5.length
    rw[D6 h4]at hll
    have hle:i*z+len*z≤o.acs.length:=by rw[hll, ←Nat.add_mul];exact Nat.mul_le_mul_right _ hlen
    refine⟨fun row hr=>hd row (List.mem_of_mem_take hr),by rw[hl];rfl,(o.acs.drop (i*z)).take (len*z), ?_,V4 (W4 h3 _) _,fun H hA=> ?_⟩
    ·rw[←a5d hd, ←a7D h4]
     exact(h5.drop _).take _
    ·have key:M9 E H (.new k) (i*z) (len*z)=some ((o.acs.drop (i*z)).take (len*z)):=by
      obtain⟨w,p,g⟩:=hA.st k o rfl hk
      exact d4B E g _ _ hle
     refine⟨by rw[hl];exact key,fun _ _ _ _ _ _ e=>by cases e;exact key⟩
   ·cases h
theorem d6u:∀ {rows:List (List D)} {bs:List UInt8} {cs:List AV},(∀row∈rows,row.length=1)→C8 E R rows.flatten cs→rows.mapM c7G=some bs→cs.mapM d2Y=some bs
 | [],bs,cs,_,h,e=>by
  simp only[List.flatten_nil,C8]at h
  subst h
  exact e
 |row::rows,bs,cs,hl,h,e=>by
  rw[List.mapM_cons]at e
  cases hb:c7G row with
  |none=>rw[hb]at e;cases e
  |some b=>
   rw[hb]at e
   simp only[Option.bind_eq_bind,Option.bind_some]at e
   cases hm:rows.mapM c7G with
   |none=>rw[hm]at e;cases e
   |some l=>
    rw[hm]at e
    cases e
    unfold c7G at hb
    split at hb
    ·rename_i n
     cases hb
     simp only[List.flatten_cons,List.cons_append,List.nil_append,C8]at h
     obtain⟨v,vs,rfl,h1,h2⟩:=h
     simp only[Rp]at h1
     subst h1
     have ih:=d6u (fun row hr=>hl row (List.mem_cons_of_mem _ hr)) h2 hm
     rw[List.mapM_cons,ih]
     rfl
    ·cases hb
theorem d9O(hC:G4 E R S H0){s t:TypeId}{x:D}{v:AV}(hx:Rp E R x v){d:D}(h:d8x P S s t x=some d):∃y,Rp E R d y∧∀H,Agr R S (c2D x) H→(U7 P E H s t v).map (·.1)=some y:=by
 unfold d8x at h
 split at h
 ·rename_i hu1 hu2
  cases x<;>simp only[E7]at h<;>try (cases h;done)
  cases h
  simp only[Rp]at hx
  subst hx
  rename_i k' n
  exact⟨.int _ (IntKind.wrap _ n),by simp only[Rp];rfl,fun H _=>by simp only[U7,hu1,hu2];rfl⟩
 ·rename_i hu1 hu2
  cases x<;>simp only[d1U]at h<;>try (cases h;done)
  cases h
  simp only[Rp]at hx
  subst hx
  rename_i s
  exact⟨.str s,by simp only[Rp],fun H _=>by simp only[U7,hu1,hu2];rfl⟩
 ·rename_i e hu1 hu2
  split at h
  ·rename_i hue
   unfold P6 at h
   split at h
   ·rename_i rows hrows
    obtain⟨g1,g2,cs,g3,g4,g5⟩:=d0S hC hx hrows
    cases hm:rows.mapM c7G with
    |none=>rw[hm]at h;cases h
    |some bs=>
     rw[hm]at h
     cases h
     have hb:=d6u g1 g3 hm
     refine⟨.str bs,by simp only[Rp],fun H hA=> ?_⟩
     obtain⟨k1,k2⟩:=g5 H hA
     cases v<;>simp only[a5b,Option.some.injEq]at g2<;>try (cases g2;done)
     ·
      cases x<;>simp only[L2]at hrows<;>try (cases hrows;done)
      ·simp only[Rp]at hx;cases hx
      ·simp only[Rp]at hx;rcases hx with ⟨_,hx⟩|⟨_,_,_,_,_,hx,_⟩<;>cases hx
      ·simp only[Rp]at hx;obtain⟨_,_,_,_,_,_,hx,_⟩:=hx;cases hx
      ·simp only[Rp]at hx;cases hx
     ·have hr:rows=[]:=List.length_eq_zero_iff.1 g2.symm
      subst hr
      cases hm
      simp only[U7,hu1,hu2,hue]
      rfl
     ·have:=k2 _ _ _ _ _ _ rfl
      rw[Nat.mul_one]at this
      simp only[U7,hu1,hu2,hue,this,hb]
      rfl
   ·cases h
  ·cases h
 ·cases h
theorem d3a{T:List D}{avs:List AV}(h:C8 E R T avs):∀x:Option Operand,RpO E R (x.map (C7 T)) (x.map (p8 avs))
 |none=>trivial
 |some x=>A1 h x
theorem e0a{T:List D}{avs:List AV}(hT:C8 E R T avs)(hC:G4 E R S H0){o:Oper}{d:D}(h:e0W P T S o=some d):
  ∃v,Rp E R d v∧∀H,Agr R S (c3B T o) H→opV P E avs H o=some v:=by
 obtain⟨dst,op,type,pos,after,guard⟩:=o
 have plain:∀ {r:Option AV},(∃v,Rp E R d v∧r=some v)→∃v,Rp E R d v∧∀H,Agr R S (c3B T ⟨dst,op,type,pos,after,guard⟩) H→r=some v:=fun⟨v,a,b⟩=>⟨v,a,fun _ _=>b⟩
 cases op<;>simp only[e0W]at h<;>try (cases h;done)
 case move x=>cases h;exact⟨_,A1 hT x,fun _ _=>rfl⟩
 case assign x=>cases h;exact⟨_,A1 hT x,fun _ _=>rfl⟩
 case pick c a b=>exact plain (e0k (A1 hT c) (A1 hT a) (A1 hT b) h)
 case build t parts=>exact plain (d8E (c9v hT _) h)
 case load t a=>
  obtain⟨v,h1,h2⟩:=d6G hC (A1 hT a) h
  exact⟨v,h1,fun H hA=>h2 H hA⟩
 case nilCheck x=>
  obtain⟨h1,h2⟩:=e1j (A1 hT x) h
  exact⟨_,h1,fun _ _=>h2⟩
 case binOp op t x y yt=>exact plain (e1u (A1 hT x) (A1 hT y) h)
 case unOp op t x=>exact plain (e1Z (A1 hT x) h)
 case convert s t x=>
  obtain⟨v,h1,h2⟩:=d9O hC (A1 hT x) h
  exact⟨v,h1,fun H hA=>h2 H hA⟩
 case makeInterface t x=>exact plain (d9E (A1 hT x) h)
 case makeFunc fn a b=>
  cases h
  refine⟨_, ?_,fun _ _=>rfl⟩
  simp only[Rp]
  exact⟨_,_,rfl,a9m hT _,a9m hT _⟩
 case slice t x lo hi mx=>
  obtain⟨v,h1,h2⟩:=d9u (A1 hT x) (d3a hT lo) (d3a hT hi) (d3a hT mx) h
  exact⟨v,h1,fun H _=>h2 H⟩
 case fieldAddr s x f=>exact plain (d5v (A1 hT x) h)
 case field s x f=>exact plain (d8O (A1 hT x) h)
 case indexAddr t x ix=>exact plain (d5x (A1 hT x) (A1 hT ix) h)
 case index t x ix=>exact plain (c8W (A1 hT x) (A1 hT ix) h)
 case typeAssert x a t ok=>exact plain (d8n (A1 hT x) h)
 case extract t ix=>exact plain (d5b (A1 hT t) h)
 case call c=>
  cases hc:c.callee with
  |value f=>rw[hc]at h;cases h
  |invoke r m=>rw[hc]at h;cases h
  |builtin b=>
   simp only[hc]at h
   have ha:=a9m hT c.args.toList
   simp only[opV,hc]
   generalize c.args.toList.map (C7 T)=ds at h ha
   generalize c.args.toList.map (p8 avs)=vs at ha
   generalize c.argTypes.toList=ts at h
   cases b<;>(try simp only at h)<;>try (cases h;done)
   case len=>
    rcases ds with _|⟨x,_|⟨y,ds⟩⟩<;>(try simp only at h)<;>try (cases h;done)
    rcases ts with _|⟨t,_|⟨u,ts⟩⟩<;>(try simp only at h)<;>try (cases h;done)
    simp only[C8]at ha
    obtain⟨v,vs,rfl,h1,rfl⟩:=ha
    obtain⟨y,g1,g2⟩:=e1n h1 h
    exact⟨y,g1,fun H _=>g2 H⟩
   case cap=>
    rcases ds with _|⟨x,_|⟨y,ds⟩⟩<;>(try simp only at h)<;>try (cases h;done)
    rcases ts with _|⟨t,_|⟨u,ts⟩⟩<;>(try simp only at h)<;>try (cases h;done)
    simp only[C8]at ha
    obtain⟨v,vs,rfl,h1,rfl⟩:=ha
    obtain⟨y,g1,g2⟩:=e1g h1 h
    exact⟨y,g1,fun H _=>g2⟩
   case min=>
    obtain⟨y,g1,g2⟩:=d1c ha h
    exact⟨y,g1,fun H _=>g2⟩
   case max=>
    obtain⟨y,g1,g2⟩:=d1c ha h
    exact⟨y,g1,fun H _=>g2⟩
end
end
section
def a4t(E:j6)(R:Fz)(Q:D→b9→Prop)(v:AV)(H':AHeap):Prop:=P8 H'∧∃R' S' d,R.le R'∧G4 E R' S' H'∧Rp E R' d v∧Q d S'
def DF(E:j6)(F:FW)(f:FuncId)(ds:List D)(S:b9)(Q:D→b9→Prop):Prop:=
 ∀R H avs,P8 H→G4 E R S H→C8 E R ds avs→F f avs H (a4t E R Q)
abbrev DW:=FuncId→List D→b9→(D→b9→Prop)→Prop
def m8(S:b9)(cs:List D)(K:D→b9→Prop):Prop:=∀k acs,S k=none→K (.ptr k 0) (S.set k ⟨cs.length,[cs],acs⟩)
def d6g(S:b9)(sz:Nat)(rows:List (List D))(len cap:Nat)(ex:Bool)(K:D→b9→Prop):Prop:=
 K (.lst (rows.take len) sz) S∨∀k acs,S k=none→K (.raw k 0 len cap ex sz) (S.set k ⟨sz,rows,acs⟩)
def m9(sz:Nat):List (List D)→List (Nat×D)→Option (List (List D))
 |rows,[]=>some rows
 |rows,(i,v)::rest=>match q6 v with
  |some ds=>if ds.length=sz∧i<rows.length then m9 sz (rows.set i ds) rest else none
  |none=>none
def q7(S:b9)(sz:Nat)(rows:Option (List (List D)))(len:Nat)(K:D→b9→Prop):Prop:=b7 rows fun rs=>d6g S sz rs len len true K
def j7(S:b9)(n:Nat)(a x:D)(K:D→b9→Prop):Prop:=match q6 x with
 |some ds=>if ds.length=n∧0<n then match a with
  | .ptr k i=>match S k with
   |some o=>match o.rows with
    | [cs]=>if i+n≤cs.length then ∀acs,K d9 (S.set k ⟨o.sz,[o0 cs i ds],acs⟩) else False
    |_=>False
   |none=>False
  | .rel k r i sz=>match S k with
   |some o=>if o.sz=sz then match o.rows[r]? with
    |some row=>if i+n≤row.length then ∀acs,K d9 (S.set k ⟨sz,o.rows.set r (o0 row i ds),acs⟩) else False
    |none=>False
    else False
   |none=>False
  |_=>False
  else False
 |none=>False
def rowsS(S:b9)(sz:Nat)(x:D):Option (List (List D)):=match x with
 | .str s=>if sz=1 then some (s.map fun b=>[.int .u8 b.toNat]) else none
 |x=>L2 S sz x
def a7T(S:b9)(sz bytes:Nat)(s:D)(news:List (List D))(K:D→b9→Prop):Prop:=match s with
 | .nilSlc=>if news=[]then K .nilSlc S else(0<bytes∧(2*news.length+768)*bytes≤2^47)∧d6g S sz news news.length news.length false K
 | .raw k i len cap ex z=>if news=[]then K s S else match S k with
  |some o=>if z=sz∧o.sz=sz∧i+len≤o.rows.length then(0<bytes∧(2*(len+news.length)+768)*bytes≤2^47)∧
    d6g (S.erase k) sz ((o.rows.drop i).take len++news) (len+news.length) (len+news.length) false K else False
  |none=>False
 | .lst _ _| .ext _ _ _=>if news=[]then K s S else False
 |_=>False
def r6(S:b9)(sz bytes:Nat)(s x:D)(K:D→b9→Prop):Prop:=match rowsS S sz x with
 |some news=>a7T S sz bytes s news K
 |none=>False
def b5v(S:b9)(sz bytes:Nat)(z:List D)(s x:D)(K:D→b9→Prop):Prop:=match x with
 | .int _ l=>if IntKind.i64.wrap l=l∧0≤l∧l*bytes≤2^47 then a7T S sz bytes s (List.replicate l.toNat z) K else False
 |_=>False
def d9f(S:b9)(sz:Nat)(d x:D)(K:D→b9→Prop):Prop:=match d with
 | .nilSlc=>match rowsS S sz x with
  |some _=>K (.int .i64 0) S
  |none=>False
 | .raw k i len cap ex z=>match rowsS S sz x,S k with
  |some rows,some o=>if z=sz∧o.sz=sz∧i+len≤o.rows.length∧0<sz then
    ∀acs,K (.int .i64 (min rows.length len:Nat)) (S.set k ⟨sz,o.rows.take i++(rows.take (min rows.length len)++o.rows.drop (i+min rows.length len)),acs⟩) else False
  |_,_=>False
 |_=>False
def b8O(S:b9)(sz bytes:Nat)(z:List D)(l c:D)(K:D→b9→Prop):Prop:=match l,c with
 | .int _ l, .int _ c=>if 0≤l∧l≤c∧bytes*c≤2^47∧c<2^63 then d6g S sz (List.replicate c.toNat z) l.toNat c.toNat true K else False
 |_,_=>False
def c8Y(S:b9)(x:D)(K:D→b9→Prop):Prop:=match x with
 | .str s=>if s.length≤2^40 then d6g S 1 (s.map fun b=>[.int .u8 b.toNat]) s.length s.length false K else False
 |_=>False
def d6A(S:b9)(x:D)(K:D→b9→Prop):Prop:=match x with
 | .raw k i len cap ex sz=>match S k with
  |some o=>if len≠0 then K (.raw k i len cap ex sz) S∨((o.sz=sz∧i+len≤o.rows.length∧len≤cap)∧K (.lst ((o.rows.drop i).take len) sz) (S.erase k)) else False
  |none=>False
 |_=>False
section
variable(P:Program)
def b5S(G:DW)(S:b9)(f:FuncId)(args:List D)(K:D→b9→Prop):Prop:=if b2X P f then G f args S K else False
def a3b(G:DW)(S:b9)(f:D)(args:List D)(K:D→b9→Prop):Prop:=match f with
 | .fn (.func g) a b=>b5S P G S g (a++args++b) K
 | .fn (.via t path g pointer) a b=>match b,path.toList,a++args,P.underlying t with
  | [],[],x::rest,some (.pointer _)=>if pointer then b5S P G S g (x::rest) K else False
  |_,_,_,_=>False
 |_=>False
def d6N(t:TypeId)(name:String):Option FuncId:=match P.info? t with
 |some info=>match info.methods.find? (·.name==name) with
  |some m=>match m.path.toList,m.func,P.underlying t with
   | [],some (f,true),some (.pointer _)=>some f
   | [],some (f,false),some (.struct _)| [],some (f,false),some (.int _)| [],some (f,false),some .string| [],some (f,false),some (.slice _)=>some f
   |_,_,_=>none
  |none=>none
 |none=>none
def d2u(G:DW)(S:b9)(r:D)(name:String)(args:List D)(K:D→b9→Prop):Prop:=match r with
 | .ifc t v=>match d6N P t name with
  |some f=>b5S P G S f (v::args) K
  |none=>False
 |_=>False
def zeroCells(t:TypeId):Option (List D):=match U3 P t with
 |some z=>q6 (d8f z)
 |none=>none
def e1D(G:DW)(T:List D)(S:b9)(o:Oper)(K:D→b9→Prop):Prop:=
 match o.op with
 | .alloc e=>match zeroCells P e with
  |some cs=>m8 S cs K
  |none=>False
 | .box _ x=>b7 (q6 (C7 T x)) fun cs=>m8 S cs K
 | .buildSlice t len parts=>match b0G P t with
  |some e=>match E2 P e,zeroCells P e with
   |some sz,some z=>if z.length=sz∧len*sz≤2^24 then q7 S sz (m9 sz (List.replicate len z) (parts.toList.map fun p=>(p.1,C7 T p.2))) len K else False
   |_,_=>False
  |none=>False
 | .store t a x=>match E2 P t with
  |some n=>j7 S n (C7 T a) (C7 T x) K
  |none=>False
 | .convert src dst x=>match P.underlying src,P.underlying dst with
  |some .string,some (.slice e)=>match P.underlying e with
   |some (.int .u8)=>c8Y S (C7 T x) K
   |_=>False
  |some (.slice _),some (.slice e)=>match P.underlying e with
   |some (.int .u8)=>if src=dst then d6A S (C7 T x) K else False
   |_=>False
  |_,_=>False
 | .makeSlice t l c=>match b0G P t with
  |some e=>match E2 P e,b2M P e,zeroCells P e with
   |some sz,some bytes,some z=>if z.length=sz then b8O S sz bytes z (C7 T l) (C7 T c) K else False
   |_,_,_=>False
  |none=>False
 | .call c=>match c.callee with
  | .value (.func g)=>if b2X P g then G g (c.args.toList.map (C7 T)) S K else False
  | .value f=>a3b P G S (C7 T f) (c.args.toList.map (C7 T)) K
  | .invoke r name=>d2u P G S (C7 T r) name (c.args.toList.map (C7 T)) K
  | .builtin b=>match b,c.args.toList.map (C7 T),c.argTypes.toList with
   | .append,[s,x],[sT,xT]=>match b0G P sT with
    |some e=>match E2 P e,b2M P e,zeroCells P e,P.underlying xT with
     |some sz,some bytes,some z,some (.slice _)|some sz,some bytes,some z,some .string=>if z.length=sz then r6 S sz bytes s x K else False
     |some sz,some bytes,some z,some (.int _)=>if z.length=sz then b5v S sz bytes z s x K else False
     |_,_,_,_=>False
    |none=>False
   | .copy,[d,x],dT::_=>match b0G P dT with
    |some e=>match E2 P e with
     |some sz=>d9f S sz d x K
     |none=>False
    |none=>False
   |_,_,_=>False
 |_=>False
end
section
variable{P:Program}{E:j6}{R:Fz}{S:b9}{H:AHeap}
theorem a4u:∀(vs cs:List D) (i j:Nat),(o0 cs i vs)[j]? =if i≤j∧j<i+vs.length∧j<cs.length then vs[j - i]? else cs[j]? :=by
 intro vs
 induction vs with
 |nil=>intro cs i j;simp only[o0,List.length_nil];rw[if_neg (by omega)]
 |cons v vs ih=>
  intro cs i j
  simp only[o0]
  rw[ih,List.length_set,List.getElem?_set,List.length_cons]
  by_cases h:i=j
  ·subst h
   rw[if_neg (by omega),if_pos rfl]
   by_cases hl:i<cs.length
   ·rw[if_pos hl,if_pos ⟨by omega,by omega,hl⟩,Nat.sub_self];rfl
   ·rw[if_neg hl,if_neg (by omega)]
    exact(List.getElem?_eq_none (by omega)).symm
  ·rw[if_neg h]
   by_cases hc:i+1≤j∧j<i+1+vs.length∧j<cs.length
   ·rw[if_pos hc,if_pos ⟨by omega,by omega,hc.2.2⟩,show j - i=(j - (i+1))+1 by omega]
    rfl
   ·rw[if_neg hc,if_neg (by omega)]
theorem b8C:∀ {rows:List (List D)} {sz i:Nat} {ds:List D},(∀row∈rows,row.length=sz)→ds.length=sz→i<rows.length→o0 rows.flatten (i*sz) ds=(rows.set i ds).flatten:=by
 intro rows sz i ds h hd hi
 refine List.ext_getElem? fun j=> ?_
 rw[a4u]
 induction rows generalizing i j with
 |nil=>simp at hi
 |cons r rs ih=>
  have hr:=h r List.mem_cons_self
  have hrs:∀row∈rs,row.length=sz:=fun x hx=>h x (List.mem_cons_of_mem _ hx)
  have hfl:=D6 h
  cases i with
  |zero=>
   simp only[List.set_cons_zero,List.flatten_cons,Nat.zero_mul,Nat.zero_le,true_and,Nat.zero_add,Nat.sub_zero]
   rw[List.getElem?_append,List.getElem?_append,List.length_append]
   by_cases hj:j<sz
   ·rw[if_pos ⟨by omega,by omega⟩,if_pos (by omega)]
   ·rw[if_neg (by omega),if_neg (by omega),if_neg (by omega),hr,hd]
  |succ i=>
   have hi':i<rs.length:=by simpa using hi
   simp only[List.set_cons_succ,List.flatten_cons]
   rw[List.getElem?_append,List.getElem?_append,List.length_append]
   by_cases hj:j<r.length
   ·rw[if_neg (by rw[Nat.succ_mul];omega),if_pos hj,if_pos hj]
   ·rw[if_neg hj,if_neg hj, ←ih hrs hi',Nat.succ_mul]
    by_cases hc:i*sz≤j - r.length∧j - r.length<i*sz+ds.length∧j - r.length<rs.flatten.length
    ·rw[if_pos (by omega),if_pos hc]
     congr 1;omega
    ·rw[if_neg (by omega),if_neg hc]
theorem d4m{sz:Nat}:∀ {parts:List (Nat×D)} {ps:List (Nat×AV)} {rows r:List (List D)} {ws:List AV},RpP E R parts ps→(∀row∈rows,row.length=sz)→C8 E R rows.flatten ws→ws.all w7=true→m9 sz rows parts=some r→
  ∃us,(∀row∈r,row.length=sz)∧r.length=rows.length∧C8 E R r.flatten us∧us.all w7=true∧b2s (fun i=>some (i*sz,sz)) ws ps=some us
 | [],ps,rows,r,ws,hp,hl,hw,hs,h=>by
  have hp':ps=[]:=hp
  subst hp'
  cases h
  exact⟨ws,hl,rfl,hw,hs,rfl⟩
 |(i,d)::parts,ps,rows,r,ws,hp,hl,hw,hs,h=>by
  obtain⟨v,vs,rfl,hd,hp⟩:=hp
  simp only[m9]at h
  split at h
  ·rename_i ds hds
   split at h
   ·rename_i hc
    obtain⟨g1,g2⟩:=b5M hd hds
    have hw':C8 E R (rows.set i ds).flatten (G3 ws (i*sz) v.cells):=by
     rw[←b8C hl hc.1 hc.2]
     exact a5U hw g1
    have hl':∀row∈rows.set i ds,row.length=sz:=fun row hr=>by
     rcases List.mem_or_eq_of_mem_set hr with hr|rfl
     ·exact hl row hr
     ·exact hc.1
    obtain⟨us,k1,k2,k3,k4,k5⟩:=d4m hp hl' hw' (a1K hs g2) h
    refine⟨us,k1,by rw[k2,List.length_set],k3,k4, ?_⟩
    simp only[b2s]
    rw[if_pos,k5]
    have hwl:=hw.length
    rw[D6 hl]at hwl
    rw[g1.length,hwl,hc.1]
    have:(i+1)*sz≤rows.length*sz:=Nat.mul_le_mul_right _ hc.2
    rw[Nat.succ_mul]at this
    exact⟨rfl,this⟩
   ·cases h
  ·cases h
theorem c0V{z:List AV}{zd:List D}(h:C8 E R zd z):∀n:Nat,C8 E R (List.replicate n zd).flatten (rep z n)
 |0=>K4
 |n+1=>by
  rw[List.replicate_succ,List.flatten_cons]
  exact h.append (c0V h n)
theorem b3m{z:List AV}(h:z.all w7=true):∀n:Nat,(rep z n).all w7=true
 |0=>rfl
 |n+1=>by
  show(z++rep z n).all w7=true
  rw[List.all_append,h,b3m h n];rfl
theorem c2E{t:TypeId}{cs:List D}(h:zeroCells P t=some cs):∃z,U3 P t=some z∧C8 E R cs z.cells∧z.cells.all w7=true:=by
 unfold zeroCells at h
 cases hz:U3 P t with
 |none=>rw[hz]at h;cases h
 |some z=>
  rw[hz]at h
  obtain⟨g1,g2⟩:=b5M (E:=E) (R:=R) (d2R (v:=z)) h
  exact⟨z,rfl,g1,g2⟩
theorem d8T{cs:List AV}{rows:List (List D)}{sz:Nat}{H':AHeap}{q:List Nat}{S':b9}(F:P8 H)(hC0:G4 E R S' H)(F':P8 H')(hC:G4 E R S' H')(hg:H'.get H.next=some (.cells cs true q))(hl:∀row∈rows,row.length=sz)(hr:C8 E R rows.flatten cs)(hs:cs.all w7=true):
  S' H.next=none∧G4 E R (S'.set H.next ⟨sz,rows,cs⟩) H':=
 ⟨(hC0.fresh F).2,hC.put (hC0.fresh F).1 (o:=⟨sz,rows,cs⟩) hg hs hl hr⟩
theorem d4H(F:P8 H)(hC:G4 E R S H){cs:List D}{vs:List AV}(hr:C8 E R cs vs)(hs:vs.all w7=true){K:D→b9→Prop}(h:m8 S cs K):a4t E R K (.ptr (.new H.next) 0) (newCells H vs):=by
 obtain⟨a,b,c,d⟩:=F.newCells vs
 obtain⟨h1,h2⟩:=d8T (rows:=[cs]) (sz:=cs.length) F hC d (hC.stays b) a (fun row hr=>by rw[List.mem_singleton.1 hr]) (by rw[List.flatten_singleton];exact hr) hs
 exact⟨d,R,_,_,Fz.le_refl R,h2,by simp only[Rp],h H.next vs h1⟩
theorem c2w{cs:List AV}{rows:List (List D)}{sz len cap:Nat}{ex:Bool}{H':AHeap}{q:List Nat}{S':b9}(F:P8 H)(hC0:G4 E R S' H)(F':P8 H')(hC:G4 E R S' H')(hg:H'.get H.next=some (.cells cs true q))(hl:∀row∈rows,row.length=sz)(hr:C8 E R rows.flatten cs)(hs:cs.all w7=true)
  (hlen:len≤rows.length) (hcap:len≤cap) {K:D→b9→Prop} (h:d6g S' sz rows len cap ex K):a4t E R K (.slc (.new H.next) 0 len cap ex sz) H':=by
 obtain⟨h1,h2⟩:=d8T F hC0 F' hC hg hl hr hs
 rcases h with h|h
 ·obtain⟨h3,h4⟩:=h2.freeze (b9.set_same S' H.next _)
  rw[b9.erase_set _ _ _ h1]at h3
  refine⟨F',_,S',_,h4,h3, ?_,h⟩
  have hle:((rows.take len)).length=len:=by rw[List.length_take];omega
  simp only[Rp]
  refine .inr ⟨.new H.next,0,cap,ex,sz,by rw[hle],rfl,by rw[hle];exact hcap,fun row hr=>hl row (List.mem_of_mem_take hr), .inr ⟨cs, ?_, ?_⟩⟩
  ·show(if H.next=H.next then some cs else R H.next)=some cs
   rw[if_pos rfl]
  ·rw[hle,List.drop_zero]
   refine⟨?_,V4 hs _⟩
   refine a3G.le h4 _ _ ?_
   rw[U9, ←a5d hl]
   exact hr.take _
 ·exact⟨F',R,_,_,Fz.le_refl R,h2,by simp only[Rp];rw[Nat.zero_mul],h H.next cs h1⟩
theorem d9g(F:P8 H)(hC:G4 E R S H){a x:D}{va vx:AV}(ha:Rp E R a va)(hx:Rp E R x vx){t:TypeId}{n:Nat}(hn:E2 P t=some n){K:D→b9→Prop}(h:j7 S n a x K):
  d2Q P H t va vx fun v H'=>a4t E R K v H':=by
 unfold j7 at h
 split at h
 ·rename_i ds hds
  obtain⟨g1,g2⟩:=b5M hx hds
  split at h
  ·rename_i hc
   obtain⟨hlen,h0⟩:=hc
   have hvl:=g1.length
   have fin:∀ {k j:Nat} {o:K8} {rows':List (List D)},S k=some o→j+n≤o.acs.length→(∀row∈rows',row.length=o.sz)→rows'.flatten=o0 o.rows.flatten j ds→(∀acs,K d9 (S.set k ⟨o.sz,rows',acs⟩))→
     b7 (F0 H (.new k) j vx.cells) fun H'=>a4t E R K A8 H':=by
    intro k j o rows' hk hj hl' hfl hK
    obtain⟨h1,⟨pre,h2⟩,h3,h4,h5⟩:=hC.own k o hk
    obtain⟨H',e1,e2,e3,e4,F'⟩:=F.stores h2 (n:=j) (vs:=vx.cells) (fun e=>by rw[e]at hvl;simp at hvl;omega) (by omega) g2
    rw[e1]
    refine⟨F',R,_,d9,Fz.le_refl R, ?_,a8W,hK (G3 o.acs j vx.cells)⟩
    have hS:S.set k ⟨o.sz,rows',G3 o.acs j vx.cells⟩=(S.erase k).set k ⟨o.sz,rows',G3 o.acs j vx.cells⟩:=by
     funext i;simp only[b9.set,b9.erase];split<;>rfl
    rw[hS]
    refine(hC.but e3 h1).put h1 (pre:=[]) e2 (a1K h3 g2) hl' ?_
    show C8 E R rows'.flatten _
    rw[hfl]
    exact a5U h5 g1
   split at h
   ·rename_i k i
    simp only[Rp]at ha
    subst ha
    show(if E2 P t=some vx.cells.length then _ else False)
    rw[if_pos (by rw[hn,hvl,hlen])]
    split at h
    ·rename_i o hk
     split at h
     ·rename_i cs hcs
      split at h
      ·rename_i hi
       obtain⟨h1,⟨pre,h2⟩,h3,h4,h5⟩:=hC.own k o hk
       have hcl:cs.length=o.sz:=h4 cs (by rw[hcs];exact List.mem_singleton.2 rfl)
       have hal:=h5.length
       rw[hcs,List.flatten_singleton]at hal
       refine fin hk (by omega) (fun row hr=>by rw[List.mem_singleton.1 hr,a0N,hcl]) (by rw[hcs,List.flatten_singleton,List.flatten_singleton]) h
      ·exact h.elim
     ·exact h.elim
    ·exact h.elim
   ·rename_i k r i sz
    simp only[Rp]at ha
    subst ha
    show(if E2 P t=some vx.cells.length then _ else False)
    rw[if_pos (by rw[hn,hvl,hlen])]
    split at h
    ·rename_i o hk
     split at h
     ·rename_i hsz
      split at h
      ·rename_i row hrow
       split at h
       ·rename_i hi
        obtain⟨h1,⟨pre,h2⟩,h3,h4,h5⟩:=hC.own k o hk
        have hrl:=h4 row (List.mem_of_getElem? hrow)
        have hlt:=(List.getElem?_eq_some_iff.1 hrow).1
        have hal:=h5.length
        rw[D6 h4]at hal
        have hle:(r+1)*o.sz≤o.rows.length*o.sz:=Nat.mul_le_mul_right _ hlt
        rw[Nat.succ_mul]at hle
        rw[←hsz]
        rw[←hsz]at h
        refine fin hk (by omega) (fun row' hr=> ?_) ?_ h
        ·rcases List.mem_or_eq_of_mem_set hr with hr|rfl
         ·exact h4 row' hr
         ·rw[a0N,hrl]
        ·rw[←b8C h4 (by rw[a0N,hrl]) hlt]
         have hrow':=b5V h4 hrow
         refine List.ext_getElem? fun j=> ?_
         have hfl:=D6 h4
         have hat:∀m,m<o.sz→o.rows.flatten[r*o.sz+m]? =row[m]? :=by
          intro m hm
          have:=congrArg (fun l=>l[m]?) hrow'
          simp only[List.getElem?_take,if_pos hm,List.getElem?_drop]at this
          exact this
         rw[a4u,a4u,a4u,a0N,hrl]
         by_cases hin:r*o.sz≤j∧j<r*o.sz+o.sz∧j<o.rows.flatten.length
         ·rw[if_pos hin]
          by_cases hc:i≤j - r*o.sz∧j - r*o.sz<i+ds.length∧j - r*o.sz<o.sz
          ·rw[if_pos hc,if_pos (by omega)]
           congr 1;omega
          ·rw[if_neg hc,if_neg (by omega), ←hat _ (by omega)]
           congr 1;omega
         ·rw[if_neg hin,if_neg (by omega)]
       ·exact h.elim
      ·exact h.elim
     ·exact h.elim
    ·exact h.elim
   ·exact h.elim
  ·exact h.elim
 ·exact h.elim
end
end
end Go.Am
end
