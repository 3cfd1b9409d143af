/-
  Texts Vl Gg, as far as they are used.
-/
import Derived.Test.YtchnpgddpaonhaaRows
import Derived.Test.YtchnpgddpaonhaaUau
import Derived.KernelRfl
import Derived.Test.YtchnpgddpaonhaaUav
import Derived.Test.YtchnpgddpaonhaaUaw
import Derived.Test.YtchnpgddpaonhaaUba
section
open Go.Proofs Go Go.Am
namespace Go.Proofs.Ytchnpgddpaonhaa.d
set_option linter.unusedVariables false
set_option maxRecDepth 100000
/- trammel/wire.Put -/
def lo_wire_Put : List (Nat × List Nat) := [(4, [0, 3])]
def cu_wire_Put : List (Nat × List Nat) := []
noncomputable def L_wire_Put_0 : Code := (codeAt [1, 1, 0, 0, 0] (Try.f78.body.getD .skip))
def K_wire_Put_0 (E : Env) (w0 : World) (x : Bool) (Q : D → DSt → Prop) : AExit → List D → DSt → Prop :=
  (blockD 0 (seqD Try.prog E w0 x lo_wire_Put cu_wire_Put (codeAt [1, 1, 1] (Try.f78.body.getD .skip)) (retD Try.prog Try.f78 Q)))
def B_wire_Put_0 (E : Env) (w0 : World) (x : Bool) (N0 : D → D → DSt → Prop) (Q : D → DSt → Prop) (x0 x3 : D) (S : DSt) : Prop :=
  optW (binI .geq x0 (.int .u64 128)) fun v2 =>
  condD v2
  (optW (convI .u8 x0) fun v3 =>
  optW (binI .or v3 (.int .u8 128)) fun v4 =>
  litD S 1 (fillR 1 (List.replicate 1 [(.int .u8 0)]) [(0, v4)]) 1 fun v5 S6 =>
  appendD S6 1 1 x3 v5 fun v7 S8 =>
  optW (binI .shr x0 (.int .u64 7)) fun v9 =>
  N0 v9 v7 S8)
  (optW (convI .u8 x0) fun v10 =>
  litD S 1 (fillR 1 (List.replicate 1 [(.int .u8 0)]) [(0, v10)]) 1 fun v11 S12 =>
  appendD S12 1 1 x3 v11 fun v13 S14 =>
  Q v13 S14)
theorem B_wire_Put_0_ok {E : Env} {w0 : World} {x : Bool} {N0 : D → D → DSt → Prop} {Q : D → DSt → Prop} {x0 x3 : D} {S : DSt} (h : B_wire_Put_0 E w0 x N0 Q x0 x3 S) :
    CodeD Try.prog E w0 x L_wire_Put_0 (mkRow 20 [0, 3] [x0, x3]) S (loopKD (fun T S => N0 (T.getD 0 undefD) (T.getD 3 undefD) S) (K_wire_Put_0 E w0 x Q)) := codeD_of_vc lo_wire_Put cu_wire_Put mixed (by kernel_rfl) h
theorem loop_wire_Put_0 {E : Env} {w0 : World} {x : Bool} {Q : D → DSt → Prop} (I : Nat → D → D → DSt → Prop)
    (step : ∀ n x0 x3 S, I n x0 x3 S → B_wire_Put_0 E w0 x (fun x0 x3 S => ∃ m, m < n ∧ I m x0 x3 S) Q x0 x3 S)
    {n : Nat} {x0 x3 : D} {S : DSt} (h : I n x0 x3 S) : CodeD Try.prog E w0 x (.loop L_wire_Put_0) (mkRow 20 [0, 3] [x0, x3]) S (K_wire_Put_0 E w0 x Q) :=
  codeD_loop (k := 20) (n := n) (I := fun n T S => I n (T.getD 0 undefD) (T.getD 3 undefD) S) (fun n T S hl hI => codeD_row [0, 3] hl (CodeD.mono (B_wire_Put_0_ok (step n _ _ S hI)) fun ex T' S' _ hq => by cases ex <;> exact hq)) (mkRow_length ..) (Eq.mp (by kernel_rfl) h)
def V_wire_Put (E : Env) (w0 : World) (x : Bool) (Q : D → DSt → Prop) (a0 : D) (S : DSt) : Prop :=
  makeD S 1 1 [(.int .u8 0)] (.int .i64 0) (.int .i64 10) fun v0 S1 =>
  CodeD Try.prog E w0 x (.loop L_wire_Put_0) (mkRow 20 [0, 3] [a0, v0]) S1 (K_wire_Put_0 E w0 x Q)
theorem V_wire_Put_ok {E : Env} {w0 : World} {x : Bool} {Q : D → DSt → Prop} {a0 : D} {S : DSt} (h : V_wire_Put E w0 x (FinD E Q) a0 S) : DFn Try.prog E w0 x f_wire_Put [a0] S Q :=
  fnD_of_vc lo_wire_Put cu_wire_Put (fn := Try.f78) (c := Try.f78.body.getD .skip) mixed Try.func78 (by kernel_rfl) (by kernel_rfl) h

/- trammel/wire.Sum -/
def lo_wire_Sum : List (Nat × List Nat) := [(6, [3, 6, 7, 8]), (14, [3, 6, 7, 8, 16])]
def cu_wire_Sum : List (Nat × List Nat) := []
noncomputable def L_wire_Sum_1 : Code := (codeAt [1, 1, 0, 1, 0, 0, 1, 1, 0, 0, 1, 1, 1, 0, 0] (Try.f26.body.getD .skip))
def K_wire_Sum_1 (E : Env) (w0 : World) (x : Bool) (N0 : D → D → D → D → DSt → Prop) (Q : D → DSt → Prop) : AExit → List D → DSt → Prop :=
  (blockD 2 (blockD 1 (seqD Try.prog E w0 x lo_wire_Sum cu_wire_Sum (codeAt [1, 1, 0, 1, 0, 0, 1, 1, 1] (Try.f26.body.getD .skip)) (loopKD (fun T S => N0 (T.getD 3 undefD) (T.getD 6 undefD) (T.getD 7 undefD) (T.getD 8 undefD) S) (blockD 0 (seqD Try.prog E w0 x lo_wire_Sum cu_wire_Sum (codeAt [1, 1, 1] (Try.f26.body.getD .skip)) (retD Try.prog Try.f26 Q)))))))
def B_wire_Sum_1 (E : Env) (w0 : World) (x : Bool) (N0 : D → D → D → D → DSt → Prop) (N1 : D → D → D → D → D → DSt → Prop) (Q : D → DSt → Prop) (x3 x6 x7 x8 x16 : D) (S : DSt) : Prop :=
  optW (binI .lss x16 (.int .i64 8)) fun v6 =>
  condD v6
  (optW (binI .shr x3 (.int .u64 1)) fun v7 =>
  optW (binI .and x3 (.int .u32 1)) fun v8 =>
  optW (unD .neg v8) fun v9 =>
  optW (binI .and (.int .u32 3988292384) v9) fun v10 =>
  optW (binI .xor v7 v10) fun v11 =>
  optW (binI .add x16 (.int .i64 1)) fun v12 =>
  N1 v11 x6 x7 x8 v12 S)
  (optW (binI .add x8 (.int .i64 1)) fun v13 =>
  N0 x3 x6 x7 v13 S)
theorem B_wire_Sum_1_ok {E : Env} {w0 : World} {x : Bool} {N0 : D → D → D → D → DSt → Prop} {N1 : D → D → D → D → D → DSt → Prop} {Q : D → DSt → Prop} {x3 x6 x7 x8 x16 : D} {S : DSt} (h : B_wire_Sum_1 E w0 x N0 N1 Q x3 x6 x7 x8 x16 S) :
    CodeD Try.prog E w0 x L_wire_Sum_1 (mkRow 29 [3, 6, 7, 8, 16] [x3, x6, x7, x8, x16]) S (loopKD (fun T S => N1 (T.getD 3 undefD) (T.getD 6 undefD) (T.getD 7 undefD) (T.getD 8 undefD) (T.getD 16 undefD) S) (K_wire_Sum_1 E w0 x N0 Q)) := codeD_of_vc lo_wire_Sum cu_wire_Sum mixed (by kernel_rfl) h
theorem loop_wire_Sum_1 {E : Env} {w0 : World} {x : Bool} {N0 : D → D → D → D → DSt → Prop} {Q : D → DSt → Prop} (I : Nat → D → D → D → D → D → DSt → Prop)
    (step : ∀ n x3 x6 x7 x8 x16 S, I n x3 x6 x7 x8 x16 S → B_wire_Sum_1 E w0 x N0 (fun x3 x6 x7 x8 x16 S => ∃ m, m < n ∧ I m x3 x6 x7 x8 x16 S) Q x3 x6 x7 x8 x16 S)
    {n : Nat} {x3 x6 x7 x8 x16 : D} {S : DSt} (h : I n x3 x6 x7 x8 x16 S) : CodeD Try.prog E w0 x (.loop L_wire_Sum_1) (mkRow 29 [3, 6, 7, 8, 16] [x3, x6, x7, x8, x16]) S (K_wire_Sum_1 E w0 x N0 Q) :=
  codeD_loop (k := 29) (n := n) (I := fun n T S => I n (T.getD 3 undefD) (T.getD 6 undefD) (T.getD 7 undefD) (T.getD 8 undefD) (T.getD 16 undefD) S) (fun n T S hl hI => codeD_row [3, 6, 7, 8, 16] hl (CodeD.mono (B_wire_Sum_1_ok (step n _ _ _ _ _ S hI)) fun ex T' S' _ hq => by cases ex <;> exact hq)) (mkRow_length ..) (Eq.mp (by kernel_rfl) h)
noncomputable def L_wire_Sum_0 : Code := (codeAt [1, 1, 0, 1, 0, 0] (Try.f26.body.getD .skip))
def K_wire_Sum_0 (E : Env) (w0 : World) (x : Bool) (Q : D → DSt → Prop) : AExit → List D → DSt → Prop :=
  (blockD 0 (seqD Try.prog E w0 x lo_wire_Sum cu_wire_Sum (codeAt [1, 1, 1] (Try.f26.body.getD .skip)) (retD Try.prog Try.f26 Q)))
def B_wire_Sum_0 (E : Env) (w0 : World) (x : Bool) (N0 : D → D → D → D → DSt → Prop) (Q : D → DSt → Prop) (x3 x6 x7 x8 : D) (S : DSt) : Prop :=
  optW (binI .lss x8 x7) fun v1 =>
  condD v1
  (optW (idxSl 1 x6 x8) fun v2 =>
  optW (loadSc S v2) fun v3 =>
  optW (convI .u32 v3) fun v4 =>
  optW (binI .xor x3 v4) fun v5 =>
  CodeD Try.prog E w0 x (.loop L_wire_Sum_1) (mkRow 29 [3, 6, 7, 8, 16] [v5, x6, x7, x8, (.int .i64 0)]) S (K_wire_Sum_1 E w0 x N0 Q))
  (optW (unD .xor x3) fun v14 =>
  Q v14 S)
theorem B_wire_Sum_0_ok {E : Env} {w0 : World} {x : Bool} {N0 : D → D → D → D → DSt → Prop} {Q : D → DSt → Prop} {x3 x6 x7 x8 : D} {S : DSt} (h : B_wire_Sum_0 E w0 x N0 Q x3 x6 x7 x8 S) :
    CodeD Try.prog E w0 x L_wire_Sum_0 (mkRow 29 [3, 6, 7, 8] [x3, x6, x7, x8]) S (loopKD (fun T S => N0 (T.getD 3 undefD) (T.getD 6 undefD) (T.getD 7 undefD) (T.getD 8 undefD) S) (K_wire_Sum_0 E w0 x Q)) := codeD_of_vc lo_wire_Sum cu_wire_Sum mixed (by kernel_rfl) h
theorem loop_wire_Sum_0 {E : Env} {w0 : World} {x : Bool} {Q : D → DSt → Prop} (I : Nat → D → D → D → D → DSt → Prop)
    (step : ∀ n x3 x6 x7 x8 S, I n x3 x6 x7 x8 S → B_wire_Sum_0 E w0 x (fun x3 x6 x7 x8 S => ∃ m, m < n ∧ I m x3 x6 x7 x8 S) Q x3 x6 x7 x8 S)
    {n : Nat} {x3 x6 x7 x8 : D} {S : DSt} (h : I n x3 x6 x7 x8 S) : CodeD Try.prog E w0 x (.loop L_wire_Sum_0) (mkRow 29 [3, 6, 7, 8] [x3, x6, x7, x8]) S (K_wire_Sum_0 E w0 x Q) :=
  codeD_loop (k := 29) (n := n) (I := fun n T S => I n (T.getD 3 undefD) (T.getD 6 undefD) (T.getD 7 undefD) (T.getD 8 undefD) S) (fun n T S hl hI => codeD_row [3, 6, 7, 8] hl (CodeD.mono (B_wire_Sum_0_ok (step n _ _ _ _ S hI)) fun ex T' S' _ hq => by cases ex <;> exact hq)) (mkRow_length ..) (Eq.mp (by kernel_rfl) h)
def V_wire_Sum (E : Env) (w0 : World) (x : Bool) (Q : D → DSt → Prop) (a0 : D) (S : DSt) : Prop :=
  optW (lenSl a0) fun v0 =>
  CodeD Try.prog E w0 x (.loop L_wire_Sum_0) (mkRow 29 [3, 6, 7, 8] [(.int .u32 4294967295), a0, v0, (.int .i64 0)]) S (K_wire_Sum_0 E w0 x Q)
theorem V_wire_Sum_ok {E : Env} {w0 : World} {x : Bool} {Q : D → DSt → Prop} {a0 : D} {S : DSt} (h : V_wire_Sum E w0 x (FinD E Q) a0 S) : DFn Try.prog E w0 x f_wire_Sum [a0] S Q :=
  fnD_of_vc lo_wire_Sum cu_wire_Sum (fn := Try.f26) (c := Try.f26.body.getD .skip) mixed Try.func26 (by kernel_rfl) (by kernel_rfl) h

/- slices.Grow[[]byte,byte] -/
def lo_slices_Grow_byte : List (Nat × List Nat) := []
def cu_slices_Grow_byte : List (Nat × List Nat) := [(6, [0, 1])]
noncomputable def R_slices_Grow_byte_6 : Code := (codeAt [1, 1] (Try.f53.body.getD .skip))
def KC_slices_Grow_byte_6 (E : Env) (w0 : World) (x : Bool) (Q : D → DSt → Prop) : AExit → List D → DSt → Prop :=
  (retD Try.prog Try.f53 Q)
def P_slices_Grow_byte_6 (E : Env) (w0 : World) (x : Bool) (Q : D → DSt → Prop) (x0 x1 : D) (S : DSt) : Prop :=
  optW (capSl x0) fun v0 =>
  optW (lenSl x0) fun v1 =>
  optW (binI .sub v0 v1) fun v2 =>
  optW (binI .sub x1 v2) fun v3 =>
  optW (binI .gtr v3 (.int .i64 0)) fun v4 =>
  condD v4
  (optW (capSl x0) fun v5 =>
  optW (sliceSl 1 x0 none (some v5) none) fun v6 =>
  appendND S 1 1 [(.int .u8 0)] v6 v3 fun v7 S8 =>
  optW (lenSl x0) fun v9 =>
  optW (sliceSl 1 v7 none (some v9) none) fun v10 =>
  Q v10 S8)
  (Q x0 S)
def C_slices_Grow_byte_6 (E : Env) (w0 : World) (x : Bool) (Q : D → DSt → Prop) (x0 x1 : D) (S : DSt) : Prop := CodeD Try.prog E w0 x R_slices_Grow_byte_6 (mkRow 27 [0, 1] [x0, x1]) S (KC_slices_Grow_byte_6 E w0 x Q)
theorem C_slices_Grow_byte_6_ok {E : Env} {w0 : World} {x : Bool} {Q : D → DSt → Prop} {x0 x1 : D} {S : DSt} (h : P_slices_Grow_byte_6 E w0 x Q x0 x1 S) : C_slices_Grow_byte_6 E w0 x Q x0 x1 S := codeD_of_vc lo_slices_Grow_byte cu_slices_Grow_byte mixed (by kernel_rfl) h
def V_slices_Grow_byte (E : Env) (w0 : World) (x : Bool) (Q : D → DSt → Prop) (a0 a1 : D) (S : DSt) : Prop :=
  optW (binI .lss a1 (.int .i64 0)) fun v11 =>
  condD v11
  (optW (some (D.ifc 9 (.str [99, 97, 110, 110, 111, 116, 32, 98, 101, 32, 110, 101, 103, 97, 116, 105, 118, 101]))) fun v12 =>
  False)
  (C_slices_Grow_byte_6 E w0 x Q a0 a1 S)
theorem V_slices_Grow_byte_ok {E : Env} {w0 : World} {x : Bool} {Q : D → DSt → Prop} {a0 a1 : D} {S : DSt} (h : V_slices_Grow_byte E w0 x (FinD E Q) a0 a1 S) : DFn Try.prog E w0 x f_slices_Grow_byte [a0, a1] S Q :=
  fnD_of_vc lo_slices_Grow_byte cu_slices_Grow_byte (fn := Try.f53) (c := Try.f53.body.getD .skip) mixed Try.func53 (by kernel_rfl) (by kernel_rfl) h

/- slices.Concat[[]byte,byte] -/
def lo_slices_Concat_byte : List (Nat × List Nat) := [(6, [0, 3, 9, 10, 11]), (22, [6, 25, 26, 27])]
def cu_slices_Concat_byte : List (Nat × List Nat) := []
noncomputable def L_slices_Concat_byte_1 : Code := (codeAt [1, 1, 1, 1, 0, 1, 0, 0] (Try.f24.body.getD .skip))
def K_slices_Concat_byte_1 (E : Env) (w0 : World) (x : Bool) (Q : D → DSt → Prop) : AExit → List D → DSt → Prop :=
  (blockD 2 (seqD Try.prog E w0 x lo_slices_Concat_byte cu_slices_Concat_byte (codeAt [1, 1, 1, 1, 1] (Try.f24.body.getD .skip)) (retD Try.prog Try.f24 Q)))
def B_slices_Concat_byte_1 (E : Env) (w0 : World) (x : Bool) (N1 : D → D → D → D → DSt → Prop) (Q : D → DSt → Prop) (x6 x25 x26 x27 : D) (S : DSt) : Prop :=
  optW (binI .lss x27 x26) fun v15 =>
  condD v15
  (optW (idxSl 1 x25 x27) fun v16 =>
  optW (loadSc S v16) fun v17 =>
  appendD S 1 1 x6 v17 fun v18 S19 =>
  optW (binI .add x27 (.int .i64 1)) fun v20 =>
  N1 v18 x25 x26 v20 S19)
  (Q x6 S)
theorem B_slices_Concat_byte_1_ok {E : Env} {w0 : World} {x : Bool} {N1 : D → D → D → D → DSt → Prop} {Q : D → DSt → Prop} {x6 x25 x26 x27 : D} {S : DSt} (h : B_slices_Concat_byte_1 E w0 x N1 Q x6 x25 x26 x27 S) :
    CodeD Try.prog E w0 x L_slices_Concat_byte_1 (mkRow 36 [6, 25, 26, 27] [x6, x25, x26, x27]) S (loopKD (fun T S => N1 (T.getD 6 undefD) (T.getD 25 undefD) (T.getD 26 undefD) (T.getD 27 undefD) S) (K_slices_Concat_byte_1 E w0 x Q)) := codeD_of_vc lo_slices_Concat_byte cu_slices_Concat_byte mixed (by kernel_rfl) h
theorem loop_slices_Concat_byte_1 {E : Env} {w0 : World} {x : Bool} {Q : D → DSt → Prop} (I : Nat → D → D → D → D → DSt → Prop)
    (step : ∀ n x6 x25 x26 x27 S, I n x6 x25 x26 x27 S → B_slices_Concat_byte_1 E w0 x (fun x6 x25 x26 x27 S => ∃ m, m < n ∧ I m x6 x25 x26 x27 S) Q x6 x25 x26 x27 S)
    {n : Nat} {x6 x25 x26 x27 : D} {S : DSt} (h : I n x6 x25 x26 x27 S) : CodeD Try.prog E w0 x (.loop L_slices_Concat_byte_1) (mkRow 36 [6, 25, 26, 27] [x6, x25, x26, x27]) S (K_slices_Concat_byte_1 E w0 x Q) :=
  codeD_loop (k := 36) (n := n) (I := fun n T S => I n (T.getD 6 undefD) (T.getD 25 undefD) (T.getD 26 undefD) (T.getD 27 undefD) S) (fun n T S hl hI => codeD_row [6, 25, 26, 27] hl (CodeD.mono (B_slices_Concat_byte_1_ok (step n _ _ _ _ S hI)) fun ex T' S' _ hq => by cases ex <;> exact hq)) (mkRow_length ..) (Eq.mp (by kernel_rfl) h)
noncomputable def L_slices_Concat_byte_0 : Code := (codeAt [1, 1, 0, 1, 0, 0] (Try.f24.body.getD .skip))
def K_slices_Concat_byte_0 (E : Env) (w0 : World) (x : Bool) (Q : D → DSt → Prop) : AExit → List D → DSt → Prop :=
  (blockD 0 (seqD Try.prog E w0 x lo_slices_Concat_byte cu_slices_Concat_byte (codeAt [1, 1, 1] (Try.f24.body.getD .skip)) (retD Try.prog Try.f24 Q)))
def B_slices_Concat_byte_0 (E : Env) (w0 : World) (x : Bool) (N0 : D → D → D → D → D → DSt → Prop) (Q : D → DSt → Prop) (x0 x3 x9 x10 x11 : D) (S : DSt) : Prop :=
  optW (binI .lss x11 x10) fun v1 =>
  condD v1
  (optW (idxSl 1 x9 x11) fun v2 =>
  optW (loadSc S v2) fun v3 =>
  optW (lenSl v3) fun v4 =>
  optW (binI .add x3 v4) fun v5 =>
  optW (binI .lss v5 (.int .i64 0)) fun v6 =>
  condD v6
  (optW (some (D.ifc 9 (.str [108, 101, 110, 32, 111, 117, 116, 32, 111, 102, 32, 114, 97, 110, 103, 101]))) fun v7 =>
  False)
  (optW (binI .add x11 (.int .i64 1)) fun v11 =>
  N0 x0 v5 x9 x10 v11 S))
  (DFn Try.prog E w0 x f_slices_Grow_byte [.nilSlc, x3] S fun v12 S13 =>
  optW (lenSl x0) fun v14 =>
  CodeD Try.prog E w0 x (.loop L_slices_Concat_byte_1) (mkRow 36 [6, 25, 26, 27] [v12, x0, v14, (.int .i64 0)]) S13 (K_slices_Concat_byte_1 E w0 x Q))
theorem B_slices_Concat_byte_0_ok {E : Env} {w0 : World} {x : Bool} {N0 : D → D → D → D → D → DSt → Prop} {Q : D → DSt → Prop} {x0 x3 x9 x10 x11 : D} {S : DSt} (h : B_slices_Concat_byte_0 E w0 x N0 Q x0 x3 x9 x10 x11 S) :
    CodeD Try.prog E w0 x L_slices_Concat_byte_0 (mkRow 36 [0, 3, 9, 10, 11] [x0, x3, x9, x10, x11]) S (loopKD (fun T S => N0 (T.getD 0 undefD) (T.getD 3 undefD) (T.getD 9 undefD) (T.getD 10 undefD) (T.getD 11 undefD) S) (K_slices_Concat_byte_0 E w0 x Q)) := codeD_of_vc lo_slices_Concat_byte cu_slices_Concat_byte mixed (by kernel_rfl) h
theorem loop_slices_Concat_byte_0 {E : Env} {w0 : World} {x : Bool} {Q : D → DSt → Prop} (I : Nat → D → D → D → D → D → DSt → Prop)
    (step : ∀ n x0 x3 x9 x10 x11 S, I n x0 x3 x9 x10 x11 S → B_slices_Concat_byte_0 E w0 x (fun x0 x3 x9 x10 x11 S => ∃ m, m < n ∧ I m x0 x3 x9 x10 x11 S) Q x0 x3 x9 x10 x11 S)
    {n : Nat} {x0 x3 x9 x10 x11 : D} {S : DSt} (h : I n x0 x3 x9 x10 x11 S) : CodeD Try.prog E w0 x (.loop L_slices_Concat_byte_0) (mkRow 36 [0, 3, 9, 10, 11] [x0, x3, x9, x10, x11]) S (K_slices_Concat_byte_0 E w0 x Q) :=
  codeD_loop (k := 36) (n := n) (I := fun n T S => I n (T.getD 0 undefD) (T.getD 3 undefD) (T.getD 9 undefD) (T.getD 10 undefD) (T.getD 11 undefD) S) (fun n T S hl hI => codeD_row [0, 3, 9, 10, 11] hl (CodeD.mono (B_slices_Concat_byte_0_ok (step n _ _ _ _ _ S hI)) fun ex T' S' _ hq => by cases ex <;> exact hq)) (mkRow_length ..) (Eq.mp (by kernel_rfl) h)
def V_slices_Concat_byte (E : Env) (w0 : World) (x : Bool) (Q : D → DSt → Prop) (a0 : D) (S : DSt) : Prop :=
  optW (lenSl a0) fun v0 =>
  CodeD Try.prog E w0 x (.loop L_slices_Concat_byte_0) (mkRow 36 [0, 3, 9, 10, 11] [a0, (.int .i64 0), a0, v0, (.int .i64 0)]) S (K_slices_Concat_byte_0 E w0 x Q)
theorem V_slices_Concat_byte_ok {E : Env} {w0 : World} {x : Bool} {Q : D → DSt → Prop} {a0 : D} {S : DSt} (h : V_slices_Concat_byte E w0 x (FinD E Q) a0 S) : DFn Try.prog E w0 x f_slices_Concat_byte [a0] S Q :=
  fnD_of_vc lo_slices_Concat_byte cu_slices_Concat_byte (fn := Try.f24) (c := Try.f24.body.getD .skip) mixed Try.func24 (by kernel_rfl) (by kernel_rfl) h

/- (*trammel/image.writer).put -/
def lo_image_writer_put : List (Nat × List Nat) := []
def cu_image_writer_put : List (Nat × List Nat) := [(4, [0, 1])]
noncomputable def R_image_writer_put_4 : Code := (codeAt [1] (Try.f50.body.getD .skip))
def KC_image_writer_put_4 (E : Env) (w0 : World) (x : Bool) (Q : D → DSt → Prop) : AExit → List D → DSt → Prop :=
  (retD Try.prog Try.f50 Q)
def P_image_writer_put_4 (E : Env) (w0 : World) (x : Bool) (Q : D → DSt → Prop) (x0 x1 : D) (S : DSt) : Prop :=
  optW (nilD x0) fun v0 =>
  optW (offD 0 v0) fun v1 =>
  optW (loadSc S v1) fun v2 =>
  appendD S 1 1 v2 x1 fun v3 S4 =>
  optW (nilD x0) fun v5 =>
  optW (offD 0 v5) fun v6 =>
  storeD S4 1 v6 v3 fun v7 S8 =>
  Q undefD S8
def C_image_writer_put_4 (E : Env) (w0 : World) (x : Bool) (Q : D → DSt → Prop) (x0 x1 : D) (S : DSt) : Prop := CodeD Try.prog E w0 x R_image_writer_put_4 (mkRow 29 [0, 1] [x0, x1]) S (KC_image_writer_put_4 E w0 x Q)
theorem C_image_writer_put_4_ok {E : Env} {w0 : World} {x : Bool} {Q : D → DSt → Prop} {x0 x1 : D} {S : DSt} (h : P_image_writer_put_4 E w0 x Q x0 x1 S) : C_image_writer_put_4 E w0 x Q x0 x1 S := codeD_of_vc lo_image_writer_put cu_image_writer_put mixed (by kernel_rfl) h
def V_image_writer_put (E : Env) (w0 : World) (x : Bool) (Q : D → DSt → Prop) (a0 a1 : D) (S : DSt) : Prop :=
  optW (lenSl a1) fun v9 =>
  optW (nilD a0) fun v10 =>
  optW (offD 0 v10) fun v11 =>
  optW (loadSc S v11) fun v12 =>
  optW (lenSl v12) fun v13 =>
  optW (binI .sub (.int .i64 2097153) v13) fun v14 =>
  optW (binI .gtr v9 v14) fun v15 =>
  condD v15
  (optW (nilD a0) fun v16 =>
  optW (offD 0 v16) fun v17 =>
  optW (loadSc S v17) fun v18 =>
  optW (lenSl v18) fun v19 =>
  optW (binI .sub (.int .i64 2097153) v19) fun v20 =>
  makeD S 1 1 [(.int .u8 0)] v20 v20 fun v21 S22 =>
  C_image_writer_put_4 E w0 x Q a0 v21 S22)
  (C_image_writer_put_4 E w0 x Q a0 a1 S)
theorem V_image_writer_put_ok {E : Env} {w0 : World} {x : Bool} {Q : D → DSt → Prop} {a0 a1 : D} {S : DSt} (h : V_image_writer_put E w0 x (FinD E Q) a0 a1 S) : DFn Try.prog E w0 x f_image_writer_put [a0, a1] S Q :=
  fnD_of_vc lo_image_writer_put cu_image_writer_put (fn := Try.f50) (c := Try.f50.body.getD .skip) mixed Try.func50 (by kernel_rfl) (by kernel_rfl) h

/- (*trammel/image.writer).number -/
def lo_image_writer_number : List (Nat × List Nat) := []
def cu_image_writer_number : List (Nat × List Nat) := []
def V_image_writer_number (E : Env) (w0 : World) (x : Bool) (Q : D → DSt → Prop) (a0 a1 : D) (S : DSt) : Prop :=
  optW (convI .u64 a1) fun v0 =>
  DFn Try.prog E w0 x f_wire_Put [v0] S fun v1 S2 =>
  DFn Try.prog E w0 x f_image_writer_put [a0, v1] S2 fun v3 S4 =>
  Q undefD S4
theorem V_image_writer_number_ok {E : Env} {w0 : World} {x : Bool} {Q : D → DSt → Prop} {a0 a1 : D} {S : DSt} (h : V_image_writer_number E w0 x (FinD E Q) a0 a1 S) : DFn Try.prog E w0 x f_image_writer_number [a0, a1] S Q :=
  fnD_of_vc lo_image_writer_number cu_image_writer_number (fn := Try.f49) (c := Try.f49.body.getD .skip) mixed Try.func49 (by kernel_rfl) (by kernel_rfl) h

/- (*trammel/image.writer).text -/
def lo_image_writer_text : List (Nat × List Nat) := []
def cu_image_writer_text : List (Nat × List Nat) := [(6, [0, 1])]
noncomputable def R_image_writer_text_6 : Code := (codeAt [1, 1] (Try.f51.body.getD .skip))
def KC_image_writer_text_6 (E : Env) (w0 : World) (x : Bool) (Q : D → DSt → Prop) : AExit → List D → DSt → Prop :=
  (retD Try.prog Try.f51 Q)
def P_image_writer_text_6 (E : Env) (w0 : World) (x : Bool) (Q : D → DSt → Prop) (x0 x1 : D) (S : DSt) : Prop :=
  bytesD S x1 fun v3 S4 =>
  DFn Try.prog E w0 x f_image_writer_put [x0, v3] S4 fun v5 S6 =>
  Q undefD S6
def C_image_writer_text_6 (E : Env) (w0 : World) (x : Bool) (Q : D → DSt → Prop) (x0 x1 : D) (S : DSt) : Prop := CodeD Try.prog E w0 x R_image_writer_text_6 (mkRow 17 [0, 1] [x0, x1]) S (KC_image_writer_text_6 E w0 x Q)
theorem C_image_writer_text_6_ok {E : Env} {w0 : World} {x : Bool} {Q : D → DSt → Prop} {x0 x1 : D} {S : DSt} (h : P_image_writer_text_6 E w0 x Q x0 x1 S) : C_image_writer_text_6 E w0 x Q x0 x1 S := codeD_of_vc lo_image_writer_text cu_image_writer_text mixed (by kernel_rfl) h
def V_image_writer_text (E : Env) (w0 : World) (x : Bool) (Q : D → DSt → Prop) (a0 a1 : D) (S : DSt) : Prop :=
  optW (lenStr a1) fun v0 =>
  DFn Try.prog E w0 x f_image_writer_number [a0, v0] S fun v1 S2 =>
  optW (lenStr a1) fun v7 =>
  optW (binI .gtr v7 (.int .i64 2097152)) fun v8 =>
  condD v8
  (optW (sliceStr a1 none (some (.int .i64 2097152))) fun v9 =>
  C_image_writer_text_6 E w0 x Q a0 v9 S2)
  (C_image_writer_text_6 E w0 x Q a0 a1 S2)
theorem V_image_writer_text_ok {E : Env} {w0 : World} {x : Bool} {Q : D → DSt → Prop} {a0 a1 : D} {S : DSt} (h : V_image_writer_text E w0 x (FinD E Q) a0 a1 S) : DFn Try.prog E w0 x f_image_writer_text [a0, a1] S Q :=
  fnD_of_vc lo_image_writer_text cu_image_writer_text (fn := Try.f51) (c := Try.f51.body.getD .skip) mixed Try.func51 (by kernel_rfl) (by kernel_rfl) h

/- (*trammel/image.writer).numbers -/
def lo_image_writer_numbers : List (Nat × List Nat) := [(4, [0, 10, 11, 12])]
def cu_image_writer_numbers : List (Nat × List Nat) := []
noncomputable def L_image_writer_numbers_0 : Code := (codeAt [1, 1, 0, 0] (Try.f52.body.getD .skip))
def K_image_writer_numbers_0 (E : Env) (w0 : World) (x : Bool) (Q : D → DSt → Prop) : AExit → List D → DSt → Prop :=
  (blockD 0 (retD Try.prog Try.f52 Q))
def B_image_writer_numbers_0 (E : Env) (w0 : World) (x : Bool) (N0 : D → D → D → D → DSt → Prop) (Q : D → DSt → Prop) (x0 x10 x11 x12 : D) (S : DSt) : Prop :=
  optW (binI .lss x12 x11) fun v4 =>
  condD v4
  (optW (idxSl 1 x10 x12) fun v5 =>
  optW (loadSc S v5) fun v6 =>
  DFn Try.prog E w0 x f_image_writer_number [x0, v6] S fun v7 S8 =>
  optW (binI .add x12 (.int .i64 1)) fun v9 =>
  N0 x0 x10 x11 v9 S8)
  (Q undefD S)
theorem B_image_writer_numbers_0_ok {E : Env} {w0 : World} {x : Bool} {N0 : D → D → D → D → DSt → Prop} {Q : D → DSt → Prop} {x0 x10 x11 x12 : D} {S : DSt} (h : B_image_writer_numbers_0 E w0 x N0 Q x0 x10 x11 x12 S) :
    CodeD Try.prog E w0 x L_image_writer_numbers_0 (mkRow 20 [0, 10, 11, 12] [x0, x10, x11, x12]) S (loopKD (fun T S => N0 (T.getD 0 undefD) (T.getD 10 undefD) (T.getD 11 undefD) (T.getD 12 undefD) S) (K_image_writer_numbers_0 E w0 x Q)) := codeD_of_vc lo_image_writer_numbers cu_image_writer_numbers mixed (by kernel_rfl) h
theorem loop_image_writer_numbers_0 {E : Env} {w0 : World} {x : Bool} {Q : D → DSt → Prop} (I : Nat → D → D → D → D → DSt → Prop)
    (step : ∀ n x0 x10 x11 x12 S, I n x0 x10 x11 x12 S → B_image_writer_numbers_0 E w0 x (fun x0 x10 x11 x12 S => ∃ m, m < n ∧ I m x0 x10 x11 x12 S) Q x0 x10 x11 x12 S)
    {n : Nat} {x0 x10 x11 x12 : D} {S : DSt} (h : I n x0 x10 x11 x12 S) : CodeD Try.prog E w0 x (.loop L_image_writer_numbers_0) (mkRow 20 [0, 10, 11, 12] [x0, x10, x11, x12]) S (K_image_writer_numbers_0 E w0 x Q) :=
  codeD_loop (k := 20) (n := n) (I := fun n T S => I n (T.getD 0 undefD) (T.getD 10 undefD) (T.getD 11 undefD) (T.getD 12 undefD) S) (fun n T S hl hI => codeD_row [0, 10, 11, 12] hl (CodeD.mono (B_image_writer_numbers_0_ok (step n _ _ _ _ S hI)) fun ex T' S' _ hq => by cases ex <;> exact hq)) (mkRow_length ..) (Eq.mp (by kernel_rfl) h)
def V_image_writer_numbers (E : Env) (w0 : World) (x : Bool) (Q : D → DSt → Prop) (a0 a1 : D) (S : DSt) : Prop :=
  optW (lenSl a1) fun v0 =>
  DFn Try.prog E w0 x f_image_writer_number [a0, v0] S fun v1 S2 =>
  optW (lenSl a1) fun v3 =>
  CodeD Try.prog E w0 x (.loop L_image_writer_numbers_0) (mkRow 20 [0, 10, 11, 12] [a0, a1, v3, (.int .i64 0)]) S2 (K_image_writer_numbers_0 E w0 x Q)
theorem V_image_writer_numbers_ok {E : Env} {w0 : World} {x : Bool} {Q : D → DSt → Prop} {a0 a1 : D} {S : DSt} (h : V_image_writer_numbers E w0 x (FinD E Q) a0 a1 S) : DFn Try.prog E w0 x f_image_writer_numbers [a0, a1] S Q :=
  fnD_of_vc lo_image_writer_numbers cu_image_writer_numbers (fn := Try.f52) (c := Try.f52.body.getD .skip) mixed Try.func52 (by kernel_rfl) (by kernel_rfl) h

/- trammel/image.body -/
def lo_image_body : List (Nat × List Nat) := [(8, [1, 3, 19, 20, 21]), (22, [1, 3, 19, 20, 21, 43, 44, 45]), (44, [1, 3, 76, 77, 78]), (56, [3, 92, 93, 94])]
def cu_image_body : List (Nat × List Nat) := []
noncomputable def L_image_body_1 : Code := (codeAt [1, 1, 1, 0, 1, 0, 0, 1, 1, 0, 0, 1, 1, 0, 1, 0, 1, 1, 0, 1, 0, 0] (Try.f23.body.getD .skip))
def K_image_body_1 (E : Env) (w0 : World) (x : Bool) (N0 : D → D → D → D → D → DSt → Prop) (Q : D → DSt → Prop) : AExit → List D → DSt → Prop :=
  (blockD 2 (seqD Try.prog E w0 x lo_image_body cu_image_body (codeAt [1, 1, 1, 0, 1, 0, 0, 1, 1, 0, 0, 1, 1, 0, 1, 0, 1, 1, 1] (Try.f23.body.getD .skip)) (seqD Try.prog E w0 x lo_image_body cu_image_body (codeAt [1, 1, 1, 0, 1, 0, 0, 1, 1, 0, 0, 1, 1, 1] (Try.f23.body.getD .skip)) (blockD 1 (seqD Try.prog E w0 x lo_image_body cu_image_body (codeAt [1, 1, 1, 0, 1, 0, 0, 1, 1, 1] (Try.f23.body.getD .skip)) (loopKD (fun T S => N0 (T.getD 1 undefD) (T.getD 3 undefD) (T.getD 19 undefD) (T.getD 20 undefD) (T.getD 21 undefD) S) (blockD 0 (seqD Try.prog E w0 x lo_image_body cu_image_body (codeAt [1, 1, 1, 1] (Try.f23.body.getD .skip)) (retD Try.prog Try.f23 Q)))))))))
def B_image_body_1 (E : Env) (w0 : World) (x : Bool) (N0 : D → D → D → D → D → DSt → Prop) (N1 : D → D → D → D → D → D → D → D → DSt → Prop) (Q : D → DSt → Prop) (x1 x3 x19 x20 x21 x43 x44 x45 : D) (S : DSt) : Prop :=
  optW (binI .lss x45 x44) fun v40 =>
  condD v40
  (optW (idxSl 2 x43 x45) fun v41 =>
  optW (loadAg S 2 v41) fun v42 =>
  allocD S [(.str []), (.int .i64 0)] fun v43 S44 =>
  storeD S44 2 v43 v42 fun v45 S46 =>
  optW (offD 0 v43) fun v47 =>
  optW (loadSc S46 v47) fun v48 =>
  DFn Try.prog E w0 x f_image_writer_text [x3, v48] S46 fun v49 S50 =>
  optW (offD 1 v43) fun v51 =>
  optW (loadSc S50 v51) fun v52 =>
  DFn Try.prog E w0 x f_image_writer_number [x3, v52] S50 fun v53 S54 =>
  optW (binI .add x45 (.int .i64 1)) fun v55 =>
  N1 x1 x3 x19 x20 x21 x43 x44 v55 S54)
  (optW (binI .add x21 (.int .i64 1)) fun v56 =>
  N0 x1 x3 x19 x20 v56 S)
theorem B_image_body_1_ok {E : Env} {w0 : World} {x : Bool} {N0 : D → D → D → D → D → DSt → Prop} {N1 : D → D → D → D → D → D → D → D → DSt → Prop} {Q : D → DSt → Prop} {x1 x3 x19 x20 x21 x43 x44 x45 : D} {S : DSt} (h : B_image_body_1 E w0 x N0 N1 Q x1 x3 x19 x20 x21 x43 x44 x45 S) :
    CodeD Try.prog E w0 x L_image_body_1 (mkRow 128 [1, 3, 19, 20, 21, 43, 44, 45] [x1, x3, x19, x20, x21, x43, x44, x45]) S (loopKD (fun T S => N1 (T.getD 1 undefD) (T.getD 3 undefD) (T.getD 19 undefD) (T.getD 20 undefD) (T.getD 21 undefD) (T.getD 43 undefD) (T.getD 44 undefD) (T.getD 45 undefD) S) (K_image_body_1 E w0 x N0 Q)) := codeD_of_vc lo_image_body cu_image_body mixed (by kernel_rfl) h
theorem loop_image_body_1 {E : Env} {w0 : World} {x : Bool} {N0 : D → D → D → D → D → DSt → Prop} {Q : D → DSt → Prop} (I : Nat → D → D → D → D → D → D → D → D → DSt → Prop)
    (step : ∀ n x1 x3 x19 x20 x21 x43 x44 x45 S, I n x1 x3 x19 x20 x21 x43 x44 x45 S → B_image_body_1 E w0 x N0 (fun x1 x3 x19 x20 x21 x43 x44 x45 S => ∃ m, m < n ∧ I m x1 x3 x19 x20 x21 x43 x44 x45 S) Q x1 x3 x19 x20 x21 x43 x44 x45 S)
    {n : Nat} {x1 x3 x19 x20 x21 x43 x44 x45 : D} {S : DSt} (h : I n x1 x3 x19 x20 x21 x43 x44 x45 S) : CodeD Try.prog E w0 x (.loop L_image_body_1) (mkRow 128 [1, 3, 19, 20, 21, 43, 44, 45] [x1, x3, x19, x20, x21, x43, x44, x45]) S (K_image_body_1 E w0 x N0 Q) :=
  codeD_loop (k := 128) (n := n) (I := fun n T S => I n (T.getD 1 undefD) (T.getD 3 undefD) (T.getD 19 undefD) (T.getD 20 undefD) (T.getD 21 undefD) (T.getD 43 undefD) (T.getD 44 undefD) (T.getD 45 undefD) S) (fun n T S hl hI => codeD_row [1, 3, 19, 20, 21, 43, 44, 45] hl (CodeD.mono (B_image_body_1_ok (step n _ _ _ _ _ _ _ _ S hI)) fun ex T' S' _ hq => by cases ex <;> exact hq)) (mkRow_length ..) (Eq.mp (by kernel_rfl) h)
noncomputable def L_image_body_3 : Code := (codeAt [1, 1, 1, 1, 1, 1, 1, 0, 1, 0, 0] (Try.f23.body.getD .skip))
def K_image_body_3 (E : Env) (w0 : World) (x : Bool) (Q : D → DSt → Prop) : AExit → List D → DSt → Prop :=
  (blockD 6 (seqD Try.prog E w0 x lo_image_body cu_image_body (codeAt [1, 1, 1, 1, 1, 1, 1, 1] (Try.f23.body.getD .skip)) (retD Try.prog Try.f23 Q)))
def B_image_body_3 (E : Env) (w0 : World) (x : Bool) (N3 : D → D → D → D → DSt → Prop) (Q : D → DSt → Prop) (x3 x92 x93 x94 : D) (S : DSt) : Prop :=
  optW (binI .lss x94 x93) fun v92 =>
  condD v92
  (optW (idxSl 6 x92 x94) fun v93 =>
  optW (loadAg S 6 v93) fun v94 =>
  allocD S [(.str []), .nilSlc, .nilSlc, (.int .i64 0), (.int .i64 0), .nilSlc] fun v95 S96 =>
  storeD S96 6 v95 v94 fun v97 S98 =>
  optW (offD 0 v95) fun v99 =>
  optW (loadSc S98 v99) fun v100 =>
  DFn Try.prog E w0 x f_image_writer_text [x3, v100] S98 fun v101 S102 =>
  optW (offD 1 v95) fun v103 =>
  optW (loadSc S102 v103) fun v104 =>
  DFn Try.prog E w0 x f_image_writer_numbers [x3, v104] S102 fun v105 S106 =>
  optW (offD 2 v95) fun v107 =>
  optW (loadSc S106 v107) fun v108 =>
  DFn Try.prog E w0 x f_image_writer_numbers [x3, v108] S106 fun v109 S110 =>
  optW (offD 3 v95) fun v111 =>
  optW (loadSc S110 v111) fun v112 =>
  DFn Try.prog E w0 x f_image_writer_number [x3, v112] S110 fun v113 S114 =>
  optW (offD 4 v95) fun v115 =>
  optW (loadSc S114 v115) fun v116 =>
  DFn Try.prog E w0 x f_image_writer_number [x3, v116] S114 fun v117 S118 =>
  optW (offD 5 v95) fun v119 =>
  optW (loadSc S118 v119) fun v120 =>
  optW (convBS S118 v120) fun v121 =>
  DFn Try.prog E w0 x f_image_writer_text [x3, v121] S118 fun v122 S123 =>
  optW (binI .add x94 (.int .i64 1)) fun v124 =>
  N3 x3 x92 x93 v124 S123)
  (optW (nilD x3) fun v125 =>
  optW (offD 0 v125) fun v126 =>
  optW (loadSc S v126) fun v127 =>
  Q v127 S)
theorem B_image_body_3_ok {E : Env} {w0 : World} {x : Bool} {N3 : D → D → D → D → DSt → Prop} {Q : D → DSt → Prop} {x3 x92 x93 x94 : D} {S : DSt} (h : B_image_body_3 E w0 x N3 Q x3 x92 x93 x94 S) :
    CodeD Try.prog E w0 x L_image_body_3 (mkRow 128 [3, 92, 93, 94] [x3, x92, x93, x94]) S (loopKD (fun T S => N3 (T.getD 3 undefD) (T.getD 92 undefD) (T.getD 93 undefD) (T.getD 94 undefD) S) (K_image_body_3 E w0 x Q)) := codeD_of_vc lo_image_body cu_image_body mixed (by kernel_rfl) h
theorem loop_image_body_3 {E : Env} {w0 : World} {x : Bool} {Q : D → DSt → Prop} (I : Nat → D → D → D → D → DSt → Prop)
    (step : ∀ n x3 x92 x93 x94 S, I n x3 x92 x93 x94 S → B_image_body_3 E w0 x (fun x3 x92 x93 x94 S => ∃ m, m < n ∧ I m x3 x92 x93 x94 S) Q x3 x92 x93 x94 S)
    {n : Nat} {x3 x92 x93 x94 : D} {S : DSt} (h : I n x3 x92 x93 x94 S) : CodeD Try.prog E w0 x (.loop L_image_body_3) (mkRow 128 [3, 92, 93, 94] [x3, x92, x93, x94]) S (K_image_body_3 E w0 x Q) :=
  codeD_loop (k := 128) (n := n) (I := fun n T S => I n (T.getD 3 undefD) (T.getD 92 undefD) (T.getD 93 undefD) (T.getD 94 undefD) S) (fun n T S hl hI => codeD_row [3, 92, 93, 94] hl (CodeD.mono (B_image_body_3_ok (step n _ _ _ _ S hI)) fun ex T' S' _ hq => by cases ex <;> exact hq)) (mkRow_length ..) (Eq.mp (by kernel_rfl) h)
noncomputable def L_image_body_2 : Code := (codeAt [1, 1, 1, 1, 1, 0, 1, 0, 0] (Try.f23.body.getD .skip))
def K_image_body_2 (E : Env) (w0 : World) (x : Bool) (Q : D → DSt → Prop) : AExit → List D → DSt → Prop :=
  (blockD 4 (seqD Try.prog E w0 x lo_image_body cu_image_body (codeAt [1, 1, 1, 1, 1, 1] (Try.f23.body.getD .skip)) (retD Try.prog Try.f23 Q)))
def B_image_body_2 (E : Env) (w0 : World) (x : Bool) (N2 : D → D → D → D → D → DSt → Prop) (Q : D → DSt → Prop) (x1 x3 x76 x77 x78 : D) (S : DSt) : Prop :=
  optW (binI .lss x78 x77) fun v78 =>
  condD v78
  (optW (idxSl 1 x76 x78) fun v79 =>
  optW (loadSc S v79) fun v80 =>
  DFn Try.prog E w0 x f_image_writer_text [x3, v80] S fun v81 S82 =>
  optW (binI .add x78 (.int .i64 1)) fun v83 =>
  N2 x1 x3 x76 x77 v83 S82)
  (optW (offD 2 x1) fun v84 =>
  optW (loadSc S v84) fun v85 =>
  optW (lenSl v85) fun v86 =>
  DFn Try.prog E w0 x f_image_writer_number [x3, v86] S fun v87 S88 =>
  optW (offD 2 x1) fun v89 =>
  optW (loadSc S88 v89) fun v90 =>
  optW (lenSl v90) fun v91 =>
  CodeD Try.prog E w0 x (.loop L_image_body_3) (mkRow 128 [3, 92, 93, 94] [x3, v90, v91, (.int .i64 0)]) S88 (K_image_body_3 E w0 x Q))
theorem B_image_body_2_ok {E : Env} {w0 : World} {x : Bool} {N2 : D → D → D → D → D → DSt → Prop} {Q : D → DSt → Prop} {x1 x3 x76 x77 x78 : D} {S : DSt} (h : B_image_body_2 E w0 x N2 Q x1 x3 x76 x77 x78 S) :
    CodeD Try.prog E w0 x L_image_body_2 (mkRow 128 [1, 3, 76, 77, 78] [x1, x3, x76, x77, x78]) S (loopKD (fun T S => N2 (T.getD 1 undefD) (T.getD 3 undefD) (T.getD 76 undefD) (T.getD 77 undefD) (T.getD 78 undefD) S) (K_image_body_2 E w0 x Q)) := codeD_of_vc lo_image_body cu_image_body mixed (by kernel_rfl) h
theorem loop_image_body_2 {E : Env} {w0 : World} {x : Bool} {Q : D → DSt → Prop} (I : Nat → D → D → D → D → D → DSt → Prop)
    (step : ∀ n x1 x3 x76 x77 x78 S, I n x1 x3 x76 x77 x78 S → B_image_body_2 E w0 x (fun x1 x3 x76 x77 x78 S => ∃ m, m < n ∧ I m x1 x3 x76 x77 x78 S) Q x1 x3 x76 x77 x78 S)
    {n : Nat} {x1 x3 x76 x77 x78 : D} {S : DSt} (h : I n x1 x3 x76 x77 x78 S) : CodeD Try.prog E w0 x (.loop L_image_body_2) (mkRow 128 [1, 3, 76, 77, 78] [x1, x3, x76, x77, x78]) S (K_image_body_2 E w0 x Q) :=
  codeD_loop (k := 128) (n := n) (I := fun n T S => I n (T.getD 1 undefD) (T.getD 3 undefD) (T.getD 76 undefD) (T.getD 77 undefD) (T.getD 78 undefD) S) (fun n T S hl hI => codeD_row [1, 3, 76, 77, 78] hl (CodeD.mono (B_image_body_2_ok (step n _ _ _ _ _ S hI)) fun ex T' S' _ hq => by cases ex <;> exact hq)) (mkRow_length ..) (Eq.mp (by kernel_rfl) h)
noncomputable def L_image_body_0 : Code := (codeAt [1, 1, 1, 0, 1, 0, 0] (Try.f23.body.getD .skip))
def K_image_body_0 (E : Env) (w0 : World) (x : Bool) (Q : D → DSt → Prop) : AExit → List D → DSt → Prop :=
  (blockD 0 (seqD Try.prog E w0 x lo_image_body cu_image_body (codeAt [1, 1, 1, 1] (Try.f23.body.getD .skip)) (retD Try.prog Try.f23 Q)))
def B_image_body_0 (E : Env) (w0 : World) (x : Bool) (N0 : D → D → D → D → D → DSt → Prop) (Q : D → DSt → Prop) (x1 x3 x19 x20 x21 : D) (S : DSt) : Prop :=
  optW (binI .lss x21 x20) fun v12 =>
  condD v12
  (optW (idxSl 5 x19 x21) fun v13 =>
  optW (loadAg S 5 v13) fun v14 =>
  allocD S [(.int .u8 0), (.str []), .nilSlc, (.int .i64 0), (.int .i64 0)] fun v15 S16 =>
  storeD S16 5 v15 v14 fun v17 S18 =>
  optW (offD 0 v15) fun v19 =>
  optW (loadSc S18 v19) fun v20 =>
  litD S18 1 (fillR 1 (List.replicate 1 [(.int .u8 0)]) [(0, v20)]) 1 fun v21 S22 =>
  DFn Try.prog E w0 x f_image_writer_put [x3, v21] S22 fun v23 S24 =>
  optW (offD 0 v15) fun v25 =>
  optW (loadSc S24 v25) fun v26 =>
  optW (binI .eql v26 (.int .u8 6)) fun v27 =>
  condD v27
  (optW (offD 1 v15) fun v28 =>
  optW (loadSc S24 v28) fun v29 =>
  DFn Try.prog E w0 x f_image_writer_text [x3, v29] S24 fun v30 S31 =>
  optW (offD 2 v15) fun v32 =>
  optW (loadSc S31 v32) fun v33 =>
  optW (lenSl v33) fun v34 =>
  DFn Try.prog E w0 x f_image_writer_number [x3, v34] S31 fun v35 S36 =>
  optW (offD 2 v15) fun v37 =>
  optW (loadSc S36 v37) fun v38 =>
  optW (lenSl v38) fun v39 =>
  CodeD Try.prog E w0 x (.loop L_image_body_1) (mkRow 128 [1, 3, 19, 20, 21, 43, 44, 45] [x1, x3, x19, x20, x21, v38, v39, (.int .i64 0)]) S36 (K_image_body_1 E w0 x N0 Q))
  (optW (offD 3 v15) fun v57 =>
  optW (loadSc S24 v57) fun v58 =>
  DFn Try.prog E w0 x f_image_writer_number [x3, v58] S24 fun v59 S60 =>
  optW (offD 0 v15) fun v61 =>
  optW (loadSc S60 v61) fun v62 =>
  optW (binI .eql v62 (.int .u8 7)) fun v63 =>
  condD v63
  (optW (offD 4 v15) fun v64 =>
  optW (loadSc S60 v64) fun v65 =>
  DFn Try.prog E w0 x f_image_writer_number [x3, v65] S60 fun v66 S67 =>
  optW (binI .add x21 (.int .i64 1)) fun v68 =>
  N0 x1 x3 x19 x20 v68 S67)
  (optW (binI .add x21 (.int .i64 1)) fun v69 =>
  N0 x1 x3 x19 x20 v69 S60)))
  (optW (offD 1 x1) fun v70 =>
  optW (loadSc S v70) fun v71 =>
  optW (lenSl v71) fun v72 =>
  DFn Try.prog E w0 x f_image_writer_number [x3, v72] S fun v73 S74 =>
  optW (offD 1 x1) fun v75 =>
  optW (loadSc S74 v75) fun v76 =>
  optW (lenSl v76) fun v77 =>
  CodeD Try.prog E w0 x (.loop L_image_body_2) (mkRow 128 [1, 3, 76, 77, 78] [x1, x3, v76, v77, (.int .i64 0)]) S74 (K_image_body_2 E w0 x Q))
theorem B_image_body_0_ok {E : Env} {w0 : World} {x : Bool} {N0 : D → D → D → D → D → DSt → Prop} {Q : D → DSt → Prop} {x1 x3 x19 x20 x21 : D} {S : DSt} (h : B_image_body_0 E w0 x N0 Q x1 x3 x19 x20 x21 S) :
    CodeD Try.prog E w0 x L_image_body_0 (mkRow 128 [1, 3, 19, 20, 21] [x1, x3, x19, x20, x21]) S (loopKD (fun T S => N0 (T.getD 1 undefD) (T.getD 3 undefD) (T.getD 19 undefD) (T.getD 20 undefD) (T.getD 21 undefD) S) (K_image_body_0 E w0 x Q)) := codeD_of_vc lo_image_body cu_image_body mixed (by kernel_rfl) h
theorem loop_image_body_0 {E : Env} {w0 : World} {x : Bool} {Q : D → DSt → Prop} (I : Nat → D → D → D → D → D → DSt → Prop)
    (step : ∀ n x1 x3 x19 x20 x21 S, I n x1 x3 x19 x20 x21 S → B_image_body_0 E w0 x (fun x1 x3 x19 x20 x21 S => ∃ m, m < n ∧ I m x1 x3 x19 x20 x21 S) Q x1 x3 x19 x20 x21 S)
    {n : Nat} {x1 x3 x19 x20 x21 : D} {S : DSt} (h : I n x1 x3 x19 x20 x21 S) : CodeD Try.prog E w0 x (.loop L_image_body_0) (mkRow 128 [1, 3, 19, 20, 21] [x1, x3, x19, x20, x21]) S (K_image_body_0 E w0 x Q) :=
  codeD_loop (k := 128) (n := n) (I := fun n T S => I n (T.getD 1 undefD) (T.getD 3 undefD) (T.getD 19 undefD) (T.getD 20 undefD) (T.getD 21 undefD) S) (fun n T S hl hI => codeD_row [1, 3, 19, 20, 21] hl (CodeD.mono (B_image_body_0_ok (step n _ _ _ _ _ S hI)) fun ex T' S' _ hq => by cases ex <;> exact hq)) (mkRow_length ..) (Eq.mp (by kernel_rfl) h)
def V_image_body (E : Env) (w0 : World) (x : Bool) (Q : D → DSt → Prop) (a0 : D) (S : DSt) : Prop :=
  optW (cellsD a0) fun cs => allocD S cs fun v0 S1 =>
  allocD S1 [.nilSlc] fun v2 S3 =>
  optW (offD 0 v0) fun v4 =>
  optW (loadSc S3 v4) fun v5 =>
  optW (lenSl v5) fun v6 =>
  DFn Try.prog E w0 x f_image_writer_number [v2, v6] S3 fun v7 S8 =>
  optW (offD 0 v0) fun v9 =>
  optW (loadSc S8 v9) fun v10 =>
  optW (lenSl v10) fun v11 =>
  CodeD Try.prog E w0 x (.loop L_image_body_0) (mkRow 128 [1, 3, 19, 20, 21] [v0, v2, v10, v11, (.int .i64 0)]) S8 (K_image_body_0 E w0 x Q)
theorem V_image_body_ok {E : Env} {w0 : World} {x : Bool} {Q : D → DSt → Prop} {a0 : D} {S : DSt} (h : V_image_body E w0 x (FinD E Q) a0 S) : DFn Try.prog E w0 x f_image_body [a0] S Q :=
  fnD_of_vc lo_image_body cu_image_body (fn := Try.f23) (c := Try.f23.body.getD .skip) mixed Try.func23 (by kernel_rfl) (by kernel_rfl) h

/- trammel/image.Encode -/
def lo_image_Encode : List (Nat × List Nat) := []
def cu_image_Encode : List (Nat × List Nat) := []
def V_image_Encode (E : Env) (w0 : World) (x : Bool) (Q : D → DSt → Prop) (a0 : D) (S : DSt) : Prop :=
  optW (cellsD a0) fun cs => allocD S cs fun v0 S1 =>
  optW (loadAg S1 3 v0) fun v2 =>
  DFn Try.prog E w0 x f_image_structure [v2] S1 fun v3 S4 =>
  optW (binI .neq v3 (.int .i64 0)) fun v5 =>
  condD v5
  (Q (.tup [.nilSlc, v3]) S4)
  (optW (loadAg S4 3 v0) fun v6 =>
  DFn Try.prog E w0 x f_image_body [v6] S4 fun v7 S8 =>
  optW (lenSl v7) fun v9 =>
  optW (binI .gtr v9 (.int .i64 2097140)) fun v10 =>
  condD v10
  (Q (.tup [.nilSlc, (.int .i64 3)]) S8)
  (litD S8 1 (fillR 1 (List.replicate 4 [(.int .u8 0)]) [(0, (.int .u8 84)), (1, (.int .u8 82)), (2, (.int .u8 77)), (3, (.int .u8 1))]) 4 fun v11 S12 =>
  sameD S12 v11 fun v13 S14 =>
  optW (lenSl v7) fun v15 =>
  optW (convI .u64 v15) fun v16 =>
  DFn Try.prog E w0 x f_wire_Fixed [v16, (.int .i64 4)] S14 fun v17 S18 =>
  DFn Try.prog E w0 x f_wire_Sum [v7] S18 fun v19 S20 =>
  optW (convI .u64 v19) fun v21 =>
  DFn Try.prog E w0 x f_wire_Fixed [v21, (.int .i64 4)] S20 fun v22 S23 =>
  litD S23 1 (fillR 1 (List.replicate 4 [.nilSlc]) [(0, v13), (1, v17), (2, v7), (3, v22)]) 4 fun v24 S25 =>
  DFn Try.prog E w0 x f_slices_Concat_byte [v24] S25 fun v26 S27 =>
  Q (.tup [v26, (.int .i64 0)]) S27))
theorem V_image_Encode_ok {E : Env} {w0 : World} {x : Bool} {Q : D → DSt → Prop} {a0 : D} {S : DSt} (h : V_image_Encode E w0 x (FinD E Q) a0 S) : DFn Try.prog E w0 x f_image_Encode [a0] S Q :=
  fnD_of_vc lo_image_Encode cu_image_Encode (fn := Try.f11) (c := Try.f11.body.getD .skip) mixed Try.func11 (by kernel_rfl) (by kernel_rfl) h

/- trammel/image.Check -/
end Go.Proofs.Ytchnpgddpaonhaa.d
end

section
open Go.Proofs Go Go.Am Go.Op
namespace Go.Proofs.Ytchnpgddpaonhaa.d
set_option linter.unusedVariables false
set_option linter.unusedSimpArgs false
set_option maxRecDepth 100000
/-- A number's bytes. -/
def putF : Nat → Nat → List Int
  | 0, n => [(n : Int)]
  | f + 1, n => if n < 128 then [(n : Int)] else ((n % 128 + 128 : Nat) : Int) :: putF f (n / 128)
def putS (n : Nat) : List Int := putF 9 n
def numS (n : Int) : List Int := putS (n % 18446744073709551616).toNat
def andU (a b : Int) : Int := IntKind.u32.wrap (BitVec.ofInt IntKind.u32.bits a &&& BitVec.ofInt IntKind.u32.bits b).toNat
def xorU (a b : Int) : Int := IntKind.u32.wrap (BitVec.ofInt IntKind.u32.bits a ^^^ BitVec.ofInt IntKind.u32.bits b).toNat
def bitS (s : Int) : Int := xorU (s.fdiv (2 ^ (min (1 : Int).toNat IntKind.u32.bits))) (andU 3988292384 (IntKind.u32.wrap (0 - andU s 1)))
def byteSt (s b : Int) : Int := Nat.repeat bitS 8 (xorU s (IntKind.u32.wrap b))
/-- The sum of bytes. -/
def sumS (bs : List Int) : Int := IntKind.u32.wrap (BitVec.ofInt IntKind.u32.bits IntKind.u32.max ^^^ BitVec.ofInt IntKind.u32.bits (bs.foldl byteSt 4294967295)).toNat
/-- A slice that grows, at first one of nothing with room behind it. -/
def GrZ (S0 : DSt) (t : D) (rows : List (List D)) (sz : Nat) (S : DSt) : Prop := Grw S0 t rows sz S ∨ (rows = [] ∧ ∃ k cap ex zr acs, S0 k = none ∧ t = .raw k 0 0 cap ex sz ∧ S = S0.set k ⟨sz, zr, acs⟩)
section
variable {S0 S : DSt} {t : D} {rows : List (List D)} {sz : Nat}
theorem GrZ.push (h : GrZ S0 t rows sz S) {bytes : Nat} {v : D} {news : List (List D)} (hv : rowsS S sz v = some news) (hn : news ≠ []) (hb : 0 < bytes ∧ (2 * (rows.length + news.length) + 768) * bytes ≤ 2 ^ 47) {K : D → DSt → Prop} (hK : ∀ t' S', Grw S0 t' (rows ++ news) sz S' → K t' S') : appendD S sz bytes t v K := by
  rcases h with h | ⟨rfl, k, cap, ex, zr, acs, h0, rfl, rfl⟩
  · exact h.push hv hb hK
  · simp only [appendD, hv, growD]
    rw [if_neg hn, DSt.set_same]
    simp only
    rw [if_pos ⟨by trivial, by trivial, by omega⟩]
    refine ⟨by simpa using hb, .inr fun k' acs' hk' => ?_⟩
    rw [DSt.erase_set _ _ _ h0] at hk' ⊢
    refine hK _ _ (.inr ⟨k', acs', hk', ?_, ?_⟩) <;> simp
theorem GrZ.last (h : GrZ S0 t rows sz S) {bytes : Nat} {v : D} {news : List (List D)} (hv : rowsS S sz v = some news) (hn : news ≠ []) (hb : 0 < bytes ∧ (2 * (rows.length + news.length) + 768) * bytes ≤ 2 ^ 47) {K : D → DSt → Prop} (hK : K (.lst (rows ++ news) sz) S0) : appendD S sz bytes t v K := by
  rcases h with h | ⟨rfl, k, cap, ex, zr, acs, h0, rfl, rfl⟩
  · exact h.last hv hn hb hK
  · simp only [appendD, hv, growD]
    rw [if_neg hn, DSt.set_same]
    simp only
    rw [if_pos ⟨by trivial, by trivial, by omega⟩]
    refine ⟨by simpa using hb, .inl ?_⟩
    rw [DSt.erase_set _ _ _ h0, List.take_of_length_le (by simp)]
    simpa using hK
end
section
variable {E : Env} {w0 : World}
theorem or128 (n : Nat) : binI .or (.int .u8 (IntKind.u8.wrap (n : Int))) (.int .u8 128) = some (.int .u8 ((n % 128 + 128 : Nat) : Int)) := by
  rw [biOr, u8_wrap, u8_wrap]
  have h8 : IntKind.u8.bits = 8 := rfl
  rw [h8]
  have e1 : ((n : Int) % 256) = ((n % 256 : Nat) : Int) := by omega
  rw [e1]
  have e2 : (BitVec.ofInt 8 ((n % 256 : Nat) : Int) ||| BitVec.ofInt 8 128).toNat = n % 128 + 128 := by
    rw [BitVec.toNat_or, toNat_ofInt]
    have : (BitVec.ofInt 8 128).toNat = 128 := rfl
    rw [this]
    have h := or_add (a := n % 128) (b := 1) (i := 7) (by omega)
    have : n % 256 % 2 ^ 8 = n % 256 := by omega
    rw [this]
    rcases Nat.lt_or_ge (n % 256) 128 with hl | hl
    · rw [show n % 256 = n % 128 by omega]; simpa using h
    · have e3 : n % 256 = n % 128 + 128 := by omega
      have h' : n % 128 + 128 = n % 128 ||| 128 := by simpa using h.symm
      rw [e3, h', Nat.or_assoc, Nat.or_self]
  rw [e2]
  congr 1
  congr 1
  omega
theorem wire_Put_ok {n0 : Nat} (hn : n0 < 2 ^ 64) : Pure Try.prog E w0 f_wire_Put [.int .u64 (n0 : Int)] (bD (putS n0)) := fun x S => by
  refine V_wire_Put_ok ?_
  unfold V_wire_Put
  simp only [makeD]
  rw [if_pos (by decide)]
  refine .inr fun k acs hk => ?_
  refine loop_wire_Put_0 (I := fun m x0 x3 T => ∃ (f n : Nat) (acc : List Int), f = m ∧ x0 = .int .u64 (n : Int) ∧ n < 2 ^ (7 * f + 1) ∧ n < 2 ^ 64 ∧ f ≤ 9 ∧ acc.length + f = 9 ∧ GrZ S x3 (ones (acc.map (D.int .u8))) 1 T ∧ acc ++ putF f n = putF 9 n0) ?_ (n := 9)
    ⟨9, n0, [], rfl, rfl, hn, hn, by omega, by simp, .inr ⟨rfl, k, 10, true, _, acs, hk, rfl, rfl⟩, rfl⟩
  rintro m0 _ x3 T ⟨f, n, acc, rfl, rfl, hnf, hn64, hf9, hacc, hg, hput⟩
  unfold B_wire_Put_0
  rw [biGe, oD, cdI]
  refine ⟨fun hge => ?_, fun hlt => ?_⟩
  · have hge : 128 ≤ n := by omega
    obtain ⟨f, rfl⟩ : ∃ f', f = f' + 1 := ⟨f - 1, by
      rcases f with _ | f
      · simp at hnf; omega
      · rfl⟩
    rw [putF, if_neg (by omega)] at hput
    rw [cvI, oD, or128, oD, show fillR 1 (List.replicate 1 [D.int .u8 0]) [(0, .int .u8 ((n % 128 + 128 : Nat) : Int))] = some (ones [D.int .u8 ((n % 128 + 128 : Nat) : Int)]) from rfl]
    refine lit_lst rfl ?_
    refine hg.push (news := ones [D.int .u8 ((n % 128 + 128 : Nat) : Int)]) rfl (by simp [ones]) (by simp; omega) fun t' T' hg' => ?_
    rw [biShr _ _ _ _ (by omega), oD]
    have e : ((n : Int).fdiv (2 ^ (min (7 : Int).toNat IntKind.u64.bits))) = ((n / 128 : Nat) : Int) := by
      rw [show min (7 : Int).toNat IntKind.u64.bits = 7 from rfl, Int.fdiv_eq_ediv_of_nonneg _ (by decide)]
      omega
    rw [e]
    refine ⟨f, by omega, f, n / 128, acc ++ [((n % 128 + 128 : Nat) : Int)], rfl, rfl, ?_, by omega, by omega, by simp; omega, .inl ?_, by rw [← hput]; simp⟩
    · have : 2 ^ (7 * (f + 1) + 1) = 2 ^ (7 * f + 1) * 128 := by rw [show 7 * (f + 1) + 1 = (7 * f + 1) + 7 by omega, Nat.pow_add]
      omega
    · have : ones ((acc ++ [((n % 128 + 128 : Nat) : Int)]).map (D.int .u8)) = ones (acc.map (D.int .u8)) ++ ones [D.int .u8 ((n % 128 + 128 : Nat) : Int)] := by rw [List.map_append, ones_append]; rfl
      rw [this]; exact hg'
  · have hlt : n < 128 := by omega
    have hpn : putF f n = [(n : Int)] := by
      cases f with
      | zero => rfl
      | succ f => rw [putF, if_pos hlt]
    rw [hpn] at hput
    have hw : IntKind.u8.wrap (n : Int) = n := by rw [u8_wrap]; omega
    rw [cvI, oD, hw, show fillR 1 (List.replicate 1 [D.int .u8 0]) [(0, .int .u8 (n : Int))] = some (ones [D.int .u8 (n : Int)]) from rfl]
    refine lit_lst rfl ?_
    refine hg.last (news := ones [D.int .u8 (n : Int)]) rfl (by simp [ones]) (by simp; omega) ?_
    have : (.lst (ones (acc.map (D.int .u8)) ++ ones [D.int .u8 (n : Int)]) 1 : D) = bD (putS n0) := by
      unfold bD putS
      rw [← hput, List.map_append, ones_append]; rfl
    rw [this]
    exact FinD.pure
theorem wire_Sum_ok {bs : List Int} (hl : bs.length < 2 ^ 60) : Pure Try.prog E w0 f_wire_Sum [bD bs] (.int .u32 (sumS bs)) := fun x S => by
  refine V_wire_Sum_ok ?_
  unfold V_wire_Sum
  rw [bD_len, oD]
  refine loop_wire_Sum_0 (I := fun n x3 x6 x7 x8 T => S = T ∧ x6 = bD bs ∧ x7 = .int .i64 (bs.length : Int) ∧ ∃ i : Nat, x8 = .int .i64 (i : Int) ∧ i + n = bs.length ∧ x3 = .int .u32 ((bs.take i).foldl byteSt 4294967295)) ?_ (n := bs.length)
    ⟨rfl, rfl, rfl, 0, rfl, by omega, rfl⟩
  rintro n _ _ _ _ _ ⟨rfl, rfl, rfl, i, rfl, hi, rfl⟩
  unfold B_wire_Sum_0
  rw [biLt, oD, cdI]
  refine ⟨fun hlt => ?_, fun hge => ?_⟩
  · have hlt : i < bs.length := by omega
    rw [bD_at (List.getElem?_eq_getElem hlt), oD, lsE, List.getElem?_cons_zero, oD, cvI, oD, biXor, oD]
    refine loop_wire_Sum_1 (I := fun m x3 x6 x7 x8 x16 T => S = T ∧ x6 = bD bs ∧ x7 = .int .i64 (bs.length : Int) ∧ x8 = .int .i64 (i : Int) ∧ ∃ j : Nat, x16 = .int .i64 (j : Int) ∧ j + m = 8 ∧ x3 = .int .u32 (Nat.repeat bitS j (xorU ((bs.take i).foldl byteSt 4294967295) (IntKind.u32.wrap bs[i])))) ?_ (n := 8)
      ⟨rfl, rfl, rfl, rfl, 0, rfl, rfl, rfl⟩
    rintro m _ _ _ _ _ _ ⟨rfl, rfl, rfl, rfl, j, rfl, hj, rfl⟩
    unfold B_wire_Sum_1
    rw [biLt, oD, cdI]
    refine ⟨fun hjl => ?_, fun hjg => ?_⟩
    · rw [biShr _ _ _ _ (by decide), oD, biAnd, oD, unM, oD, biAnd, oD, biXor, oD, biAdd, oD, wrap_i64 (by omega) (by omega)]
      exact ⟨m - 1, by omega, rfl, rfl, rfl, rfl, j + 1, rfl, by omega, rfl⟩
    · have hj8 : j = 8 := by omega
      subst hj8
      rw [biAdd, oD, wrap_i64 (by omega) (by omega)]
      refine ⟨n - 1, by omega, rfl, rfl, rfl, i + 1, rfl, by omega, ?_⟩
      rw [List.take_add_one, List.getElem?_eq_getElem hlt, List.foldl_append]
      rfl
  · have hi : i = bs.length := by omega
    subst hi
    rw [List.take_length]
    have e : unD .xor (.int .u32 (bs.foldl byteSt 4294967295)) = some (.int .u32 (sumS bs)) := rfl
    rw [e, oD]
    exact FinD.pure
/-- Room for so many bytes. -/
theorem Grow_ok {n : Nat} (hn : n < 2 ^ 40) {x : Bool} {S : DSt} : DFn Try.prog E w0 x f_slices_Grow_byte [.nilSlc, .int .i64 (n : Int)] S fun v S' => GrZ S v [] 1 S' := by
  refine V_slices_Grow_byte_ok ?_
  unfold V_slices_Grow_byte
  rw [biLt, oD, decide_eq_false (by omega), cdF]
  refine C_slices_Grow_byte_6_ok ?_
  unfold P_slices_Grow_byte_6
  rw [show capSl .nilSlc = some (.int .i64 0) from rfl, oD, lnN, oD, biSub, oD, wrap_i64 (by omega) (by omega), biSub, oD, wrap_i64 (by omega) (by omega), biGt, oD, cdI]
  refine ⟨fun h => ?_, fun h => FinD.here (.inl (Grw.nil _ _))⟩
  rw [oD, show sliceSl 1 .nilSlc none (some (.int .i64 0)) none = some .nilSlc from rfl, oD]
  have e : ((n : Int) - (0 - 0)) = (n : Int) := by omega
  rw [e] at h ⊢
  simp only [appendND]
  rw [if_pos ⟨wrap_i64 (by omega) (by omega), by omega, by omega⟩]
  simp only [growD]
  have hr : List.replicate ((n : Int)).toNat [D.int .u8 0] ≠ [] := by rw [Int.toNat_natCast]; intro h'; have := congrArg List.length h'; simp at this; omega
  rw [if_neg hr]
  refine ⟨⟨by decide, by simp; omega⟩, .inr fun k acs hk => ?_⟩
  have : sliceSl 1 (.raw k 0 (List.replicate ((n : Int)).toNat [D.int .u8 0]).length (List.replicate ((n : Int)).toNat [D.int .u8 0]).length false 1) none (some (.int .i64 0)) none = some (.raw k 0 0 (List.replicate ((n : Int)).toNat [D.int .u8 0]).length false 1) := by
    have hb : boundD (.int .i64 0) (List.replicate ((n : Int)).toNat [D.int .u8 0]).length = some 0 := by simp [boundD]
    simp only [sliceSl, boundsD, topD, highD, lowD, if_true, Option.bind_some, hb, Option.map_some]
    rfl
  show optW (some _) _
  rw [oD, this, oD]
  exact FinD.here (.inr ⟨rfl, k, _, _, _, acs, hk, rfl, rfl⟩)
/-- Lists of bytes, one behind the other. -/
def listsD (l : List (List Int)) : D := .lst (l.map fun b => [bD b]) 1
theorem listsD_at {l : List (List Int)} {i : Nat} {b : List Int} (h : l[i]? = some b) : idxSl 1 (listsD l) (.int .i64 (i : Int)) = some (.elt [bD b] 0) := idxL (by rw [List.getElem?_map, h]; rfl)
theorem sum_take {l : List (List Int)} {i : Nat} (hi : i < l.length) : (l.take (i + 1)).flatten = (l.take i).flatten ++ l[i] := by
  rw [List.take_add_one, List.getElem?_eq_getElem hi, List.flatten_append]; simp
theorem flat_le {l : List (List Int)} (i : Nat) : (l.take i).flatten.length ≤ l.flatten.length := by
  have : l.flatten = (l.take i).flatten ++ (l.drop i).flatten := by rw [← List.flatten_append, List.take_append_drop]
  rw [this, List.length_append]; omega
theorem Concat_ok {l : List (List Int)} (hl : l.flatten.length < 2 ^ 40) (hn : l.length < 2 ^ 40) : Pure Try.prog E w0 f_slices_Concat_byte [listsD l] (bD l.flatten) := fun x S => by
  refine V_slices_Concat_byte_ok ?_
  unfold V_slices_Concat_byte
  have hlen : lenSl (listsD l) = some (.int .i64 (l.length : Int)) := by simp [listsD]
  rw [hlen, oD]
  refine loop_slices_Concat_byte_0 (I := fun n x0 x3 x9 x10 x11 T => S = T ∧ x0 = listsD l ∧ x9 = listsD l ∧ x10 = .int .i64 (l.length : Int) ∧ ∃ i : Nat, x11 = .int .i64 (i : Int) ∧ i + n = l.length ∧ x3 = .int .i64 ((l.take i).flatten.length : Int)) ?_ (n := l.length)
    ⟨rfl, rfl, rfl, rfl, 0, rfl, by omega, rfl⟩
  rintro n _ _ _ _ _ _ ⟨rfl, rfl, rfl, rfl, i, rfl, hi, rfl⟩
  unfold B_slices_Concat_byte_0
  rw [biLt, oD, cdI]
  have hfl := flat_le (l := l) i
  refine ⟨fun hlt => ?_, fun hge => ?_⟩
  · have hlt : i < l.length := by omega
    have h1 := flat_le (l := l) (i + 1)
    rw [sum_take hlt, List.length_append] at h1
    rw [listsD_at (List.getElem?_eq_getElem hlt), oD, lsE, List.getElem?_cons_zero, oD, bD_len, oD, biAdd, oD, wrap_i64 (by omega) (by omega), biLt, oD, decide_eq_false (by omega), cdF, biAdd, oD, wrap_i64 (by omega) (by omega)]
    exact ⟨n - 1, by omega, rfl, rfl, rfl, rfl, i + 1, rfl, by omega, by rw [sum_take hlt, List.length_append]; rfl⟩
  · refine (Grow_ok (by omega)).use fun v T hg => ?_
    rw [hlen, oD]
    refine loop_slices_Concat_byte_1 (I := fun n x6 x25 x26 x27 T => x25 = listsD l ∧ x26 = .int .i64 (l.length : Int) ∧ ∃ i : Nat, x27 = .int .i64 (i : Int) ∧ i + n = l.length ∧ GrZ S x6 (ones ((l.take i).flatten.map (D.int .u8))) 1 T) ?_ (n := l.length)
      ⟨rfl, rfl, 0, rfl, by omega, hg⟩
    rintro n x6 _ _ _ T ⟨rfl, rfl, i, rfl, hi, hg⟩
    unfold B_slices_Concat_byte_1
    rw [biLt, oD, cdI]
    have hfl := flat_le (l := l) i
    refine ⟨fun hlt => ?_, fun hge => ?_⟩
    · have hlt : i < l.length := by omega
      have h1 := flat_le (l := l) (i + 1)
      rw [sum_take hlt, List.length_append] at h1
      rw [listsD_at (List.getElem?_eq_getElem hlt), oD, lsE, List.getElem?_cons_zero, oD]
      have hnext : ones ((l.take (i + 1)).flatten.map (D.int .u8)) = ones ((l.take i).flatten.map (D.int .u8)) ++ ones (l[i].map (D.int .u8)) := by rw [sum_take hlt, List.map_append, ones_append]
      by_cases he : l[i] = []
      · rw [he, List.map_nil] at hnext
        have hskip : ∀ K : D → DSt → Prop, K x6 T → appendD T 1 1 x6 (bD l[i]) K := fun K hK => by
          rw [he]
          simp only [appendD, bD_rows]
          rcases hg with (⟨rfl, _, rfl⟩ | ⟨k, acs, _, rfl, rfl⟩) | ⟨_, k, cap, ex, zr, acs, _, rfl, rfl⟩ <;> exact hK
        refine hskip _ ?_
        rw [biAdd, oD, wrap_i64 (by omega) (by omega)]
        exact ⟨n - 1, by omega, rfl, rfl, i + 1, rfl, by omega, by rw [hnext]; simpa [ones] using hg⟩
      · refine hg.push (bD_rows _ _) (by simpa [ones] using he) (by simp only [ones_length, List.length_map]; omega) fun t' T' hg' => ?_
        rw [biAdd, oD, wrap_i64 (by omega) (by omega)]
        exact ⟨n - 1, by omega, rfl, rfl, i + 1, rfl, by omega, .inl (by rw [hnext]; exact hg')⟩
    · have hi : i = l.length := by omega
      subst hi
      rw [List.take_length] at hg
      rcases hg with (⟨rfl, e, rfl⟩ | ⟨k, acs, h0, rfl, rfl⟩) | ⟨e, k, cap, ex, zr, acs, h0, rfl, rfl⟩
      · have : bD l.flatten = .lst [] 1 := by unfold bD; rw [e]
        rw [this]
        exact FinD.nil FinD.pure
      · refine FinD.freeze (DSt.set_same _ _ _) rfl (by simp) (Nat.le_refl _) ?_
        rw [DSt.erase_set _ _ _ h0, List.drop_zero, List.take_length]
        exact FinD.pure
      · have : bD l.flatten = .lst [] 1 := by unfold bD; rw [e]
        rw [this]
        refine FinD.freeze (DSt.set_same _ _ _) rfl (by simp) (by simp) ?_
        rw [DSt.erase_set _ _ _ h0, List.take_zero]
        exact FinD.pure
end
end Go.Proofs.Ytchnpgddpaonhaa.d
end
