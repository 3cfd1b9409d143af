/-
  Operations of the abstract machine and of the model, one by one: maps.
-/
import Derived.Test.YtcboaonbfgjmgaaAm11
namespace Go.Am
section
variable {E : Env} {w0 : World} {H : AHeap} {w : World} {ρ : LMap} {P : Program}

theorem Rep.setMap (R : Rep E w0 H w ρ) {k : Nat} {es es' : List (AV × AV × Nat)} {clock clock' : Nat} {l : Loc} {mes mes' : Array MapEntry}
    (hk : H.get k = some (.map es clock)) (hl : ρ k = some l) (hb : w.heap[l.blk]? = some (.map mes clock)) (hr : relE ρ es' mes'.toList) :
    Rep E w0 (H.set k (.map es' clock')) (putBlock w l.blk (.map mes' clock')) ρ := by
  have hblk := (Array.getElem?_eq_some_iff.1 hb).1
  obtain ⟨l', hl', hbase, _⟩ := R.objs k _ hk
  rw [hl] at hl'; cases hl'
  have hg : ∀ j o, (H.set k (.map es' clock')).get j = some o → (j = k ∧ o = .map es' clock') ∨ (j ≠ k ∧ H.get j = some o) := by
    intro j o e
    rw [AHeap.get_set] at e
    split at e
    · rename_i h; cases e; exact .inl ⟨h.symm, rfl⟩
    · rename_i h; exact .inr ⟨fun h' => h h'.symm, e⟩
  have hoth : ∀ j o lj, j ≠ k → H.get j = some o → ρ j = some lj → lj.blk ≠ l.blk := fun j o lj h1 h3 h4 h5 => by
    have := R.alone hk rfl hl h3 h4 h1 h5
    simp [preOf] at this
  refine ⟨by rw [size_putBlock]; exact R.size, ?_, R.env, R.side, ?_, ?_, ?_, ?_⟩
  · intro b hbb; rw [heap_putBlock _ _ _ hblk, if_neg (by omega)]; exact R.old b hbb
  · intro j o e
    rcases hg j o e with ⟨rfl, rfl⟩ | ⟨h1, h3⟩
    · exact ⟨l, hl, hbase, mes', by rw [heap_putBlock _ _ _ hblk, if_pos rfl], hr⟩
    · obtain ⟨lj, hlj, hsj, hoj⟩ := R.objs j o h3
      exact ⟨lj, hlj, hsj, objOk_heap hoj (by rw [heap_putBlock _ _ _ hblk, if_neg (fun e => hoth j o lj h1 h3 hlj e.symm)])⟩
  · intro i j oi oj li lj h1 h2 h3 h4 h5 h6
    rcases hg i oi h1 with ⟨rfl, rfl⟩ | ⟨g1, g3⟩ <;> rcases hg j oj h2 with ⟨rfl, rfl⟩ | ⟨g1', g3'⟩
    · exact absurd rfl h5
    · rw [hl] at h3; cases h3; exact absurd h6.symm (hoth j oj lj g1' g3' h4)
    · rw [hl] at h4; cases h4; exact absurd h6 (hoth i oi li g1 g3 h3)
    · exact R.apart i j oi oj li lj g3 g3' h3 h4 h5 h6
  · intro j o e p hp
    rcases hg j o e with ⟨rfl, rfl⟩ | ⟨_, h3⟩
    · simp [preOf] at hp
    · exact R.pres j o h3 p hp
  · intro j p o op lj lp h1 h2 h3 h4 h5
    rcases hg j o h1 with ⟨rfl, rfl⟩ | ⟨g1, g3⟩
    · simp [preOf] at h2
    · rcases hg p op h3 with ⟨rfl, rfl⟩ | ⟨g1', g3'⟩
      · have := (R.kin j p o _ lj lp g3 h2 hk h4 h5).1
        simp [wrOf] at this
      · exact R.kin j p o op lj lp g3 h2 g3' h4 h5

theorem Rep.mapOf (R : Rep E w0 H w ρ) {k : Nat} {es : List (AV × AV × Nat)} {clock : Nat} (hk : H.get k = some (.map es clock)) :
    ∃ l mes, ρ k = some l ∧ w.heap[l.blk]? = some (.map mes clock) ∧ relE ρ es mes.toList := by
  obtain ⟨l, h1, _, mes, h2, h3⟩ := R.objs k _ hk
  exact ⟨l, mes, h1, h2, h3⟩

theorem run_getMap {r : Nat} {mes : Array MapEntry} {clock : Nat} (h : w.heap[r]? = some (.map mes clock)) : (getObj r).run P w = .ok (.map mes clock) w := by
  simp [getObj, Sem.run, h]
theorem run_setMap {r : Nat} {mes : Array MapEntry} {clock : Nat} {o : Obj} (h : w.heap[r]? = some (.map mes clock)) : (setObj r o).run P w = .ok () (putBlock w r o) := by
  simp [setObj, Sem.run, h, putBlock]

theorem run_findKey {kt : TypeId} {d : TypeDesc} {vk : Value} {l : List MapEntry} {r : Option (Nat × Value)} (hu : P.underlying kt = some d) (h : Instr.findNow d vk l 0 = some r) (w : World) :
    (Instr.findKey kt vk l).run P w = .ok r w := by
  simp only [Instr.findKey, Sem.run_bind, run_underlyingA hu, Result.andThen_ok, h, Sem.run_pure]

theorem lookupA_sound (R : Rep E w0 H w ρ) {t : TypeId} {x ix : AV} {vx vi : Value} {ok : Bool} {a : AV} (h : lookupA P H t x ix ok = some a) (hx : rel ρ x vx) (hi : rel ρ ix vi) :
    ∃ v, (Instr.lookup t vx vi ok).run P w = .ok v w ∧ rel ρ a v := by
  unfold lookupA at h
  split at h
  · rename_i kt e hu
    split at h
    · rename_i hf
      obtain ⟨d, hd, hkd⟩ := keyFits_cases hf hi
      simp only [Option.bind_eq_some_iff] at h
      obtain ⟨es, hes, ⟨v, is⟩, hfd, h⟩ := h
      simp only [Option.some.injEq] at h
      have hmes : ∃ mes : Array MapEntry, relE ρ es mes.toList ∧ ((vx = .map none ∧ mes = #[]) ∨ ∃ b clock, vx = .map (some b) ∧ w.heap[b]? = some (.map mes clock)) := by
        unfold entriesA at hes
        split at hes
        · cases hes; simp only [rel] at hx; exact ⟨#[], rfl, .inl ⟨hx, rfl⟩⟩
        · rename_i k
          split at hes
          · rename_i es' clock hk
            cases hes
            obtain ⟨l, mes, h1, h2, h3⟩ := R.mapOf hk
            simp only [rel] at hx
            obtain ⟨l', hl', rfl⟩ := hx
            rw [h1] at hl'; cases hl'
            exact ⟨mes, h3, .inr ⟨l.blk, clock, rfl, h2⟩⟩
          · cases hes
        · cases hes
      obtain ⟨mes, hr, hvx⟩ := hmes
      have hres : ∃ vv, rel ρ v vv ∧ ((∃ j, Instr.findNow d vi mes.toList 0 = some (some (j, vv)) ∧ is = true) ∨ (Instr.findNow d vi mes.toList 0 = some none ∧ (zeroValue e).run P w = .ok vv w ∧ is = false)) := by
        unfold foundA at hfd
        split at hfd
        · rename_i hfa
          cases hfd
          rcases findA_sound hkd hfa hr with ⟨hc, _⟩ | ⟨j, v', n, vv, k', he, hn, _, hv, _⟩
          · cases hc
          · cases he; exact ⟨vv, hv, .inl ⟨_, hn, rfl⟩⟩
        · rename_i hfa
          simp only [Option.map_eq_some_iff, Prod.mk.injEq] at hfd
          obtain ⟨z, hz, rfl, rfl⟩ := hfd
          rcases findA_sound hkd hfa hr with ⟨_, hn⟩ | ⟨j, v', n, vv, k', he, _⟩
          · obtain ⟨vz, h1, h2⟩ := run_zeroA (ρ := ρ) hz w
            exact ⟨vz, h2, .inr ⟨hn, h1, rfl⟩⟩
          · cases he
        · cases hfd
      obtain ⟨vv, hvv, hfn⟩ := hres
      refine ⟨if ok then .tuple #[vv, .bool is] else vv, ?_, ?_⟩
      · rcases hvx with ⟨rfl, rfl⟩ | ⟨b, clock, rfl, hb⟩ <;> rcases hfn with ⟨j, hn, rfl⟩ | ⟨hn, hz, rfl⟩
        · simp only [Instr.lookup, Sem.run_bind, run_underlyingA hu, Result.andThen_ok, Sem.run_pure, run_checkKey hf hi, run_findKey hd hn]
        · simp only [Instr.lookup, Sem.run_bind, run_underlyingA hu, Result.andThen_ok, Sem.run_pure, run_checkKey hf hi, run_findKey hd hn, hz]
        · simp only [Instr.lookup, Sem.run_bind, run_underlyingA hu, Result.andThen_ok, Sem.run_pure, run_getMap hb, run_checkKey hf hi, run_findKey hd hn]
        · simp only [Instr.lookup, Sem.run_bind, run_underlyingA hu, Result.andThen_ok, Sem.run_pure, run_getMap hb, run_checkKey hf hi, run_findKey hd hn, hz]
      · subst h
        split
        · rename_i hok
          simp only [rel]; exact ⟨_, rfl, relL_cons.2 ⟨hvv, relL_cons.2 ⟨by simp only [rel], relL_nil.2 rfl⟩⟩⟩
        · exact hvv
    · cases h
  · cases h

/-- The run of a statement that may turn memory. -/
def Turns (E : Env) (w0 : World) (ρ : LMap) (H' : AHeap) (r : Result Unit) : Prop := ∃ w', r = .ok () w' ∧ Rep E w0 H' w' ρ

theorem sameBits_of_now {d : TypeDesc} {k : AV} {vk x : Value} (hd : (∃ i j n, d = .int i ∧ k = .int j n ∧ vk = .int j n) ∨ (∃ s, d = .string ∧ k = .str s ∧ vk = .string ⟨s.toArray⟩) ∨ (∃ b, d = .bool ∧ k = .bool b ∧ vk = .bool b))
    (h : Instr.sameNow d vk x = some true) : x = vk := by
  rcases hd with ⟨i, j, n, rfl, rfl, rfl⟩ | ⟨s, rfl, rfl, rfl⟩ | ⟨b, rfl, rfl, rfl⟩
  · cases x <;> simp only [Instr.sameNow] at h <;> try (cases h; done)
    split at h
    · rename_i e; subst e; simp at h; rw [h]
    · cases h
  · cases x <;> simp only [Instr.sameNow] at h <;> try (cases h; done)
    rename_i y
    have : ((ByteArray.mk s.toArray) == y) = true := by simpa using h
    rw [beq_toListBytes] at this
    have e := eq_of_beq this
    rw [ByteArray.toList_eq, ByteArray.toList_eq] at e
    congr 1
    apply ByteArray.ext
    simp only at e
    rw [e]
  · cases x <;> simp only [Instr.sameNow] at h <;> try (cases h; done)
    simp at h; rw [h]

theorem run_keyStays {x : Value} {d : TypeDesc} {k : AV} (hd : (∃ i j n, d = .int i ∧ k = .int j n ∧ x = .int j n) ∨ (∃ s, d = .string ∧ k = .str s ∧ x = .string ⟨s.toArray⟩) ∨ (∃ b, d = .bool ∧ k = .bool b ∧ x = .bool b)) (w : World) :
    (Instr.keyThatStays x x).run P w = .ok x w := by
  have : Instr.sameBits 10000 x x = true := by
    rcases hd with ⟨i, j, n, rfl, rfl, rfl⟩ | ⟨s, rfl, rfl, rfl⟩ | ⟨b, rfl, rfl, rfl⟩
    · simp [Instr.sameBits]
    · simp only [Instr.sameBits]; rw [bytes_beqA]; simp
    · simp [Instr.sameBits]
  simp [Instr.keyThatStays, this]

theorem modify_toList (mes : Array MapEntry) (i : Nat) (f : MapEntry → MapEntry) (e : MapEntry) (h : mes[i]? = some e) : (mes.modify i f).toList = mes.toList.set i (f e) := by
  apply List.ext_getElem?
  intro j
  have hi := (Array.getElem?_eq_some_iff.1 h).1
  rw [← Array.getElem?_toList.symm, Array.getElem?_modify, List.getElem?_set]
  split
  · rename_i e'; subst e'
    have := (Array.getElem?_eq_some_iff.1 h).2
    simp [hi, this]
  · simp

theorem updateA_sound (R : Rep E w0 H w ρ) {t : TypeId} {m key v : AV} {vm vk vv : Value} {H' : AHeap} (h : updateA P H t m key v = some H') (hm : rel ρ m vm) (hk : rel ρ key vk) (hv : rel ρ v vv) :
    Turns E w0 ρ H' ((Instr.mapUpdate t vm vk vv).run P w) := by
  unfold updateA at h
  split at h
  · rename_i kt e k hu
    split at h
    · rename_i hf
      obtain ⟨d, hd, hkd⟩ := keyFits_cases hf hk
      split at h
      · rename_i es clock hko
        obtain ⟨l, mes, h1, h2, h3⟩ := R.mapOf hko
        simp only [rel] at hm
        obtain ⟨l', hl', rfl⟩ := hm
        rw [h1] at hl'; cases hl'
        split at h
        · rename_i i v0 n hfa
          cases h
          rcases findA_sound hkd hfa h3 with ⟨hc, _⟩ | ⟨j, v', n', vv', k', he, hn, hej, _, me, hme, hval, hsame⟩
          · cases hc
          · cases he
            simp only [Nat.zero_add] at hn ⊢
            have hkey := sameBits_of_now hkd hsame
            have hme' : mes[j]? = some me := by simpa using hme
            refine ⟨_, ?_, R.setMap (mes' := mes.modify j fun e => { e with key := vk, val := vv }) (clock' := clock) hko h1 h2 ?_⟩
            · simp only [Instr.mapUpdate, Sem.run_bind, run_underlyingA hu, Result.andThen_ok, run_getMap h2, run_checkKey hf hk, run_findKey hd hn]
              rw [show (Option.map (fun x => x.key) mes[j]?).getD vk = vk by rw [hme']; exact hkey]
              simp only [run_keyStays hkd, Result.andThen_ok, run_setMap h2]
            · rw [modify_toList _ _ _ _ hme']
              obtain ⟨e', g1, _, _, g4⟩ := relE_get h3 j hej
              rw [hme] at g1; cases g1
              exact relE_set h3 j hk hv g4
        · rename_i hfa
          cases h
          rcases findA_sound hkd hfa h3 with ⟨_, hn⟩ | ⟨j, v', n, vv, k', he, _⟩
          · refine ⟨_, ?_, R.setMap (mes' := mes.push { key := vk, val := vv, born := clock }) (clock' := clock + 1) hko h1 h2 ?_⟩
            · simp only [Instr.mapUpdate, Sem.run_bind, run_underlyingA hu, Result.andThen_ok, run_getMap h2, run_checkKey hf hk, run_findKey hd hn, run_setMap h2]
            · rw [Array.toList_push]
              exact relE_append h3 ⟨_, [], rfl, hk, hv, rfl, rfl⟩
          · cases he
        · cases h
      · cases h
    · cases h
  · cases h

theorem entryA_sound (R : Rep E w0 H w ρ) {t : TypeId} {m key a : AV} {vm vk : Value} {H' : AHeap} (h : entryA P H t m key = some (a, H')) (hm : rel ρ m vm) (hk : rel ρ key vk) :
    Gives E w0 H ρ a H' ((Instr.mapEntry t vm vk).run P w) := by
  unfold entryA at h
  split at h
  · rename_i kt e k hu
    split at h
    · rename_i hf
      obtain ⟨d, hd, hkd⟩ := keyFits_cases hf hk
      split at h
      · rename_i es clock hko
        obtain ⟨l, mes, h1, h2, h3⟩ := R.mapOf hko
        simp only [rel] at hm
        obtain ⟨l', hl', rfl⟩ := hm
        rw [h1] at hl'; cases hl'
        split at h
        · rename_i i v0 n hfa
          cases h
          rcases findA_sound hkd hfa h3 with ⟨hc, _⟩ | ⟨j, v', n', vv', k', he, hn, hej, hv', me, hme, hval, hsame⟩
          · cases hc
          · cases he
            simp only [Nat.zero_add] at hn ⊢
            have hkey := sameBits_of_now hkd hsame
            have hme' : mes[j]? = some me := by simpa using hme
            obtain ⟨e', g1, _, g3, g4⟩ := relE_get h3 j hej
            rw [hme] at g1; cases g1
            refine ⟨.tuple #[vv', .int .i64 n], _, ρ, ?_, Ext.refl _, fun _ _ => rfl, ?_, R.setMap (mes' := mes.modify j fun e => { e with key := vk }) (clock' := clock) hko h1 h2 ?_, Nat.le_refl _⟩
            · simp only [Instr.mapEntry, Sem.run_bind, run_underlyingA hu, Result.andThen_ok, run_getMap h2, run_checkKey hf hk, run_findKey hd hn]
              rw [show (Option.map (fun x => x.key) mes[j]?).getD vk = vk by rw [hme']; exact hkey]
              simp only [run_keyStays hkd, Result.andThen_ok, run_setMap h2, hme', Option.map_some, Option.getD_some, g4, goInt, Sem.run_pure]
            · simp only [rel]; exact ⟨_, rfl, relL_cons.2 ⟨hv', relL_cons.2 ⟨by simp only [rel], relL_nil.2 rfl⟩⟩⟩
            · rw [modify_toList _ _ _ _ hme']
              exact relE_set h3 j hk g3 g4
        · rename_i hfa
          split at h
          · rename_i z hz
            cases h
            obtain ⟨vz, g1, g2⟩ := run_zeroA (ρ := ρ) hz w
            rcases findA_sound hkd hfa h3 with ⟨_, hn⟩ | ⟨j, v', n, vv, k', he, _⟩
            · refine ⟨.tuple #[vz, .int .i64 clock], _, ρ, ?_, Ext.refl _, fun _ _ => rfl, ?_, R.setMap (mes' := mes.push { key := vk, val := vz, born := clock }) (clock' := clock + 1) hko h1 h2 ?_, Nat.le_refl _⟩
              · simp only [Instr.mapEntry, Sem.run_bind, run_underlyingA hu, Result.andThen_ok, run_getMap h2, run_checkKey hf hk, run_findKey hd hn, g1, run_setMap h2, goInt, Sem.run_pure]
              · simp only [rel]; exact ⟨_, rfl, relL_cons.2 ⟨g2, relL_cons.2 ⟨by simp only [rel], relL_nil.2 rfl⟩⟩⟩
              · rw [Array.toList_push]
                exact relE_append h3 ⟨_, [], rfl, hk, g2, rfl, rfl⟩
            · cases he
          · cases h
        · cases h
      · cases h
    · cases h
  · cases h

theorem relE_findIdx {n : Int} : ∀ {es : List (AV × AV × Nat)} {l : List MapEntry}, relE ρ es l → es.findIdx? (fun e => (e.2.2 : Int) == n) = l.findIdx? (fun e => (e.born : Int) == n)
  | [], l, h => by simp only [relE] at h; subst h; rfl
  | (k, v, m) :: es, l, h => by
    simp only [relE] at h
    obtain ⟨e, r, rfl, _, _, h3, h4⟩ := h
    have ih := relE_findIdx (n := n) h4
    simp only [List.findIdx?_cons, h3, ih]

theorem entryStoreA_sound (R : Rep E w0 H w ρ) {t : TypeId} {m stamp v : AV} {vm vs vv : Value} {H' : AHeap} (h : entryStoreA H m stamp v = some H') (hm : rel ρ m vm) (hs : rel ρ stamp vs) (hv : rel ρ v vv) :
    Turns E w0 ρ H' ((Instr.entryStore t vm vs vv).run P w) := by
  unfold entryStoreA at h
  split at h
  · rename_i k ik n
    split at h
    · rename_i es clock hko
      obtain ⟨l, mes, h1, h2, h3⟩ := R.mapOf hko
      simp only [rel] at hm hs
      obtain ⟨l', hl', rfl⟩ := hm
      rw [h1] at hl'; cases hl'
      subst hs
      split at h
      · rename_i i hi
        split at h
        · rename_i ent hent
          cases h
          obtain ⟨k0, v0, n0⟩ := ent
          obtain ⟨me, g1, g2, g3, g4⟩ := relE_get h3 i hent
          have g1' : mes[i]? = some me := by simpa using g1
          have hfi : mes.findIdx? (fun e => (e.born : Int) == n) = some i := by
            rw [relE_findIdx h3] at hi
            obtain ⟨ml⟩ := mes
            simpa using hi
          refine ⟨_, ?_, R.setMap (mes' := mes.modify i fun e => { e with val := vv }) (clock' := clock) hko h1 h2 ?_⟩
          · simp only [Instr.entryStore, Sem.run_bind, Result.andThen_ok, run_getMap h2, asInt, asIntOf, Sem.run_pure, hfi, run_setMap h2]
          · rw [modify_toList _ _ _ _ g1']
            exact relE_set h3 i g2 hv g4
        · cases h
      · cases h
    · cases h
  · cases h

theorem next_update {t : TypeId} {m k v : AV} {H' : AHeap} (h : updateA P H t m k v = some H') : H'.next = H.next := by
  unfold updateA at h
  repeat' (split at h)
  all_goals first | (cases h; done) | (cases h; rfl)
theorem next_entryStore {m k v : AV} {H' : AHeap} (h : entryStoreA H m k v = some H') : H'.next = H.next := by
  unfold entryStoreA at h
  repeat' (split at h)
  all_goals first | (cases h; done) | (cases h; rfl)

/-- A new map. -/
theorem Rep.newMap (R : Rep E w0 H w ρ) (hk : ρ H.next = none) :
    Rep E w0 (H.new (.map [] 0)) { w with heap := w.heap.push (.map #[] 0) } (upd ρ H.next ⟨w.heap.size, 0, 0⟩) := by
  have hx := upd_ext (ρ := ρ) ⟨w.heap.size, 0, 0⟩ hk
  have hg : ∀ k o, (H.new (.map [] 0)).get k = some o → (k = H.next ∧ o = .map [] 0) ∨ (k ≠ H.next ∧ H.get k = some o) := by
    intro k o e
    rw [AHeap.get_new] at e
    split at e
    · rename_i h; cases e; exact .inl ⟨h.symm, rfl⟩
    · rename_i h; exact .inr ⟨fun h' => h h'.symm, e⟩
  have hpush : ∀ b, b < w.heap.size → (w.heap.push (.map #[] 0))[b]? = w.heap[b]? := by
    intro b hb; rw [Array.getElem?_push]; split
    · omega
    · rfl
  have hlt : ∀ k o l, H.get k = some o → ρ k = some l → l.blk < w.heap.size := by
    intro k o l h1 h2
    obtain ⟨m, hm, _, ho⟩ := R.objs k o h1
    rw [h2] at hm; cases hm
    exact objOk_lt ho
  refine ⟨by have := R.size; simp; omega, ?_, R.env, R.side, ?_, ?_, ?_, ?_⟩
  · intro b hb; rw [hpush b (by have := R.size; omega)]; exact R.old b hb
  · intro k o e
    rcases hg k o e with ⟨rfl, rfl⟩ | ⟨h1, h2⟩
    · exact ⟨_, upd_same _ _, R.size, #[], by simp, rfl⟩
    · obtain ⟨l, hl, hs, ho⟩ := R.objs k o h2
      exact ⟨l, by rw [upd_ne _ h1]; exact hl, hs, objOk_ext hx (objOk_heap ho (hpush _ (objOk_lt ho)))⟩
  · intro k k' o o' l l' h1 h2 h3 h4 h5 h6
    rcases hg k o h1 with ⟨rfl, rfl⟩ | ⟨g1, g2⟩ <;> rcases hg k' o' h2 with ⟨rfl, rfl⟩ | ⟨g1', g2'⟩
    · exact absurd rfl h5
    · rw [upd_same] at h3; cases h3; rw [upd_ne _ g1'] at h4
      have := hlt _ _ _ g2' h4; simp only at h6; omega
    · rw [upd_same] at h4; cases h4; rw [upd_ne _ g1] at h3
      have := hlt _ _ _ g2 h3; simp only at h6; omega
    · rw [upd_ne _ g1] at h3; rw [upd_ne _ g1'] at h4
      exact R.apart k k' o o' l l' g2 g2' h3 h4 h5 h6
  · intro k o e p hpp
    rcases hg k o e with ⟨rfl, rfl⟩ | ⟨h1, h2⟩
    · simp [preOf] at hpp
    · obtain ⟨a, b⟩ := R.pres k o h2 p hpp
      obtain ⟨m, hm⟩ := Option.isSome_iff_exists.1 b
      exact ⟨a, by rw [hx _ _ hm]; rfl⟩
  · intro k p o op l lp h1 h2 h3 h4 h5
    rcases hg k o h1 with ⟨rfl, rfl⟩ | ⟨g1, g2⟩
    · simp [preOf] at h2
    · rcases hg p op h3 with ⟨rfl, _⟩ | ⟨g1', g2'⟩
      · have := (R.pres k o g2 _ h2).2
        rw [hk] at this; cases this
      · rw [upd_ne _ g1] at h4; rw [upd_ne _ g1'] at h5
        exact R.kin k p o op l lp g2 h2 g2' h4 h5
end
end Go.Am
