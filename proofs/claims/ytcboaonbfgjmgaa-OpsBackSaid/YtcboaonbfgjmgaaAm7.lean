/-
  Operations of the abstract machine and of the model, one by one: operators, conversions, slices, fields.
-/
import Derived.Test.YtcboaonbfgjmgaaAm6
namespace Go.Am
section
variable {E : Env} {w0 : World} {H : AHeap} {w : World} {ρ : LMap} {P : Program}

theorem intBinA_sound {op : BinOp} {k : IntKind} {x y : Int} {r : AV} (h : intBinA op k x y = some r) (t : TypeId) (w : World) :
    ∃ v, (binOp op t (.int k x) (.int k y)).run P w = .ok v w ∧ rel ρ r v := by
  cases op <;> simp only [intBinA] at h
  case quo =>
    split at h
    · cases h
    · rename_i hy; cases h
      exact ⟨.int k (k.wrap (x.tdiv y)), by simp [binOp, Op.intDiv, hy], by simp only [rel]⟩
  case rem =>
    split at h
    · cases h
    · rename_i hy; cases h
      exact ⟨.int k (x.tmod y), by simp [binOp, Op.intDiv, hy], by simp only [rel]⟩
  all_goals first
    | (cases h; done)
    | (cases h; exact ⟨_, by simp only [binOp, ne_eq, not_true_eq_false, if_false]; rfl, by simp only [rel]⟩)

theorem strBinA_sound {op : BinOp} {x y : List UInt8} {r : AV} (h : strBinA op x y = some r) (t : TypeId) (w : World) :
    ∃ v, (binOp op t (.string ⟨x.toArray⟩) (.string ⟨y.toArray⟩)).run P w = .ok v w ∧ rel ρ r v := by
  have e : ∀ l : List UInt8, (ByteArray.mk l.toArray).toList = l := fun l => by rw [ByteArray.toList_eq]
  cases op <;> simp only [strBinA] at h
  case add =>
    split at h
    · rename_i hn
      cases h
      refine ⟨.string (⟨x.toArray⟩ ++ ⟨y.toArray⟩), ?_, ?_⟩
      · have hs : ¬ (((ByteArray.mk x.toArray).size + (ByteArray.mk y.toArray).size : Nat) : Int) > IntKind.i64.max := by
          have e1 : (ByteArray.mk x.toArray).size = x.length := by simp [ByteArray.size]
          have e2 : (ByteArray.mk y.toArray).size = y.length := by simp [ByteArray.size]
          rw [e1, e2]; omega
        simp only [binOp, Op.stringOp]
        rw [if_neg hs]
        rfl
      · simp only [rel]
        have : (ByteArray.mk x.toArray ++ ByteArray.mk y.toArray) = ⟨(x ++ y).toArray⟩ := by
          apply ByteArray.ext
          simp
        rw [this]
    · cases h
  all_goals first
    | (cases h; done)
    | (cases h
       refine ⟨_, by simp only [binOp, Op.stringOp, e]; rfl, by simp only [rel]⟩)

theorem eqGuard_run {op : BinOp} {t : TypeId} {x y : Operand} {a b : Value} (h1 : a = .nilIface → b = .nilIface → (Region.isConst x || Region.isConst y) = true)
    (h2 : ∀ u v, a = .agg u → b = .agg v → P.eqGuardType P.depth t = false) (w : World) : (eqGuard op t x y a b).run P w = .ok () w := by
  cases op
  case eql | neq =>
    unfold eqGuard
    rw [if_neg (by decide)]
    split
    · have := h1 rfl rfl
      cases x <;> cases y <;> first | rfl | (simp [Region.isConst] at this; done)
    · rename_i u v
      have := h2 u v rfl rfl
      simp [this]
    · rfl
  all_goals rfl

theorem eqA_no_opq {d : Nat} {t : TypeId} {a b : AV} {r : Bool} (h : eqA P d t a b = some r) : (∀ u, a ≠ .opq u) ∧ (∀ u, b ≠ .opq u) := by
  cases d with
  | zero => simp [eqA] at h
  | succ d =>
    constructor
    · rintro u rfl
      unfold eqA at h
      split at h <;> simp_all
    · rintro u rfl
      unfold eqA at h
      split at h <;> simp_all

theorem rel_nilIface {a : AV} (h : rel ρ a .nilIface) : a = .nilIfc ∨ a = .opq .nilIface := by
  cases a <;> simp [rel] at h ⊢
  exact h.symm
theorem rel_agg {a : AV} {u : Array Value} (h : rel ρ a (.agg u)) : (∃ cs, a = .agg cs) ∨ a = .opq (.agg u) := by
  cases a <;> simp [rel] at h ⊢
  exact h.symm

theorem eqGuardA_sound {op : BinOp} {t : TypeId} {x y : Operand} {a b : AV} {va vb : Value} {r : Bool} {d : Nat} (hop : op = .eql ∨ op = .neq) (hg : guardOkA P op t x y a b = true) (he : eqA P d t a b = some r)
    (ha : rel ρ a va) (hb : rel ρ b vb) (w : World) : (eqGuard op t x y va vb).run P w = .ok () w := by
  obtain ⟨n1, n2⟩ := eqA_no_opq he
  refine eqGuard_run ?_ ?_ w
  · rintro rfl rfl
    have e1 := (rel_nilIface ha).resolve_right (n1 _)
    have e2 := (rel_nilIface hb).resolve_right (n2 _)
    subst e1 e2
    rcases hop with rfl | rfl <;> simpa only [guardOkA] using hg
  · rintro u v rfl rfl
    obtain ⟨c1, e1⟩ := (rel_agg ha).resolve_right (n1 _)
    obtain ⟨c2, e2⟩ := (rel_agg hb).resolve_right (n2 _)
    subst e1 e2
    rcases hop with rfl | rfl <;> simpa only [guardOkA, Bool.not_eq_true'] using hg

theorem binOp_eql {t : TypeId} {a b : Value} (h1 : ∀ k x k' y, a = .int k x → b = .int k' y → False) (h2 : ∀ x y, a = .string x → b = .string y → False)
    (h3 : ∀ k x k' y, a = .float k x → b = .float k' y → False) (h4 : ∀ k x y k' z u, a = .complex k x y → b = .complex k' z u → False) :
    binOp .eql t a b = (do pure (.bool (← Op.equal t a b))) ∧ binOp .neq t a b = (do pure (.bool (!(← Op.equal t a b)))) := by
  constructor
  · unfold binOp
    split <;> first | rfl | (exfalso; simp_all; done) | (exfalso; first | exact h1 _ _ _ _ rfl rfl | exact h2 _ _ rfl rfl | exact h3 _ _ _ _ rfl rfl | exact h4 _ _ _ _ _ _ rfl rfl) | skip
  · unfold binOp
    split <;> first | rfl | (exfalso; simp_all; done) | (exfalso; first | exact h1 _ _ _ _ rfl rfl | exact h2 _ _ rfl rfl | exact h3 _ _ _ _ rfl rfl | exact h4 _ _ _ _ _ _ rfl rfl) | skip

theorem binA_sound {op : BinOp} {t : TypeId} {x y : Operand} {a b : AV} {va vb : Value} {r : AV} (hg : guardOkA P op t x y a b = true) (h : binA P op t a b = some r)
    (ha : rel ρ a va) (hb : rel ρ b vb) (w : World) : ∃ v, (do eqGuard op t x y va vb; binOp op t va vb).run P w = .ok v w ∧ rel ρ r v := by
  unfold binA at h
  split at h
  · rename_i k m k' n
    simp only [rel] at ha hb; subst ha hb
    have hgd : (eqGuard op t x y (.int k m) (.int k' n)).run P w = .ok () w := eqGuard_run (fun e => by cases e) (fun _ _ e => by cases e) w
    simp only [Sem.run_bind, hgd, Result.andThen_ok]
    split at h
    · split at h
      · cases h
      · rename_i hy; cases h
        exact ⟨.int k (k.wrap (m * 2 ^ (min n.toNat k.bits))), by simp only [binOp, Op.shift]; rw [if_neg hy]; rfl, by simp only [rel]⟩
    · split at h
      · cases h
      · rename_i hy; cases h
        exact ⟨.int k (m.fdiv (2 ^ (min n.toNat k.bits))), by simp only [binOp, Op.shift]; rw [if_neg hy]; rfl, by simp only [rel]⟩
    · split at h
      · rename_i e; subst e
        exact intBinA_sound h t w
      · cases h
  · rename_i s1 s2
    simp only [rel] at ha hb; subst ha hb
    have hgd : (eqGuard op t x y (.string ⟨s1.toArray⟩) (.string ⟨s2.toArray⟩)).run P w = .ok () w := eqGuard_run (fun e => by cases e) (fun _ _ e => by cases e) w
    simp only [Sem.run_bind, hgd, Result.andThen_ok]
    exact strBinA_sound h t w
  · rename_i hi hs
    have key : ∀ {e : Bool}, eqA P Op.maxDepth t a b = some e → op = .eql ∨ op = .neq →
        (binOp .eql t va vb).run P w = .ok (.bool e) w ∧ (binOp .neq t va vb).run P w = .ok (.bool !e) w ∧ (eqGuard op t x y va vb).run P w = .ok () w := by
      intro e he hop
      obtain ⟨n1, n2⟩ := eqA_no_opq he
      have hr : (Op.equal t va vb).run P w = .ok e w := eqA_sound _ _ _ _ _ _ _ he ha hb w
      have hb2 := binOp_eql (t := t) (a := va) (b := vb)
        (fun k m k' n e1 e2 => by
          subst e1 e2
          cases a <;> simp [rel] at ha <;> try (exact (n1 _ rfl).elim)
          cases b <;> simp [rel] at hb <;> try (exact (n2 _ rfl).elim)
          exact hi _ _ _ _ rfl rfl)
        (fun m n e1 e2 => by
          subst e1 e2
          cases a <;> simp [rel] at ha <;> try (exact (n1 _ rfl).elim)
          cases b <;> simp [rel] at hb <;> try (exact (n2 _ rfl).elim)
          exact hs _ _ rfl rfl)
        (fun k m k' n e1 e2 => by
          subst e1 e2
          cases a <;> simp [rel] at ha <;> try (exact (n1 _ rfl).elim))
        (fun k m p k' n q e1 e2 => by
          subst e1 e2
          cases a <;> simp [rel] at ha <;> try (exact (n1 _ rfl).elim))
      refine ⟨?_, ?_, eqGuardA_sound hop hg he ha hb w⟩
      · rw [hb2.1]; simp [hr]
      · rw [hb2.2]; simp [hr]
    split at h
    · simp only [Option.map_eq_some_iff] at h
      obtain ⟨e, he, rfl⟩ := h
      obtain ⟨h1, _, h3⟩ := key he (.inl rfl)
      exact ⟨.bool e, by simp only [Sem.run_bind, h3, Result.andThen_ok, h1], by simp only [rel]⟩
    · simp only [Option.map_eq_some_iff] at h
      obtain ⟨e, he, rfl⟩ := h
      obtain ⟨_, h2, h3⟩ := key he (.inr rfl)
      exact ⟨.bool (!e), by simp only [Sem.run_bind, h3, Result.andThen_ok, h2], by simp only [rel]⟩
    · cases h

theorem unA_sound {op : UnOp} {a : AV} {va : Value} {r : AV} (h : unA op a = some r) (ha : rel ρ a va) (w : World) : ∃ v, (Op.unary op va).run P w = .ok v w ∧ rel ρ r v := by
  unfold unA at h
  split at h
  · simp only [rel] at ha; subst ha; cases h; exact ⟨_, rfl, by simp only [rel]⟩
  · simp only [rel] at ha; subst ha; cases h; exact ⟨_, rfl, by simp only [rel]⟩
  · simp only [rel] at ha; subst ha; cases h; exact ⟨_, rfl, by simp only [rel]⟩
  · cases h
end
end Go.Am
