/-
  HeapNone: calls on no heap, and on a zero one; whatever the input.
-/
import Derived.Test.YtjbpdmlpjgejcaaRows
import Derived.Test.YtjbpdmlpjgejcaaHn
import Derived.Test.YtjbpdmlpjgejcaaTye
open Go.Proofs Go Go.Am
namespace Go.Proofs.Ytjbpdmlpjgejcaa.heapNone
open Go.Proofs.Ytjbpdmlpjgejcaa.vcs Go.Proofs.Ytjbpdmlpjgejcaa.vd Go.Proofs.Ytjbpdmlpjgejcaa.ve Go.Proofs.Ytjbpdmlpjgejcaa.hp Go.Proofs.Ytjbpdmlpjgejcaa.hn
set_option linter.unusedVariables false
set_option linter.unusedSimpArgs false
set_option maxRecDepth 100000

variable {E : Env} {w0 : World}

theorem lS (s : List UInt8) (H : AHeap) : lenV Try.prog H 9 (.str s) = some (.int .i64 s.length) := (vcs.len_9 H s)

/-- A call's fields, where they lie. -/
structure Fl (E : Env) (o : OpA) (p : Nat) (H : AHeap) : Prop where
  c1 : loadCell E H (.new p) 1 = some (.str o.text)
  c2 : loadCell E H (.new p) 2 = some (.int .i64 o.n)
  c3 : loadCell E H (.new p) 3 = some (.int .i64 o.m)
  c4 : loadCell E H (.new p) 4 = some o.wv
  c5 : loadCell E H (.new p) 5 = some (.int .u64 o.ref)
  c6 : loadCell E H (.new p) 6 = some (.int .i64 o.i)
  c7 : loadCell E H (.new p) 7 = some (.int .u64 o.word)

theorem fl_of {o : OpA} {p : Nat} {H : AHeap} (h : H.get p = some (.cells o.cells true [])) : Fl E o p H :=
  ⟨(loadCell_new E h 1).trans rfl, (loadCell_new E h 2).trans rfl, (loadCell_new E h 3).trans rfl, (loadCell_new E h 4).trans rfl, (loadCell_new E h 5).trans rfl, (loadCell_new E h 6).trans rfl, (loadCell_new E h 7).trans rfl⟩

theorem t16 {H0 H : AHeap} {h : AV} {o : OpA} (ho : o.Ok E) {p : Nat} (hp : H0.get p = some (.cells o.cells true [])) (d : Dead H0 h) (hs : Stays H0 H) {Q : AV → AHeap → Prop} (hQ : ∀ H', Stays H0 H' → Q (.bool true) H') {x1 x2 x4 x5 x6 x7 x8 x17 x18 x19 x20 x21 x22 x24 x25 x26 x27 x28 x29 x30 x31 x32 x33 x34 x35 x36 x37 x38 x39 x40 x41 x42 x43 x44 x45 x46 x47 x48 x49 x50 x51 x52 x53 x54 x55 x56 x57 x58 x59 x60 x61 x62 x63 x64 x65 x66 x67 x68 x69 x70 x71 x72 x73 x74 x75 x76 x77 x78 x79 x80 x81 x82 x83 x84 x85 x86 x87 x88 x89 x90 x91 x92 x93 x94 x95 x96 x97 x98 x99 x100 x101 x102 x103 x104 x105 x106 x107 x108 x109 x110 x111 x112 x113 x114 x115 x116 x117 x118 x119 x120 x121 x122 x123 x124 x125 x126 x127 x128 x129 x130 x131 x132 x133 x134 x135 x136 x137 x138 x139 x140 x141 x142 x143 x144 x145 x146 x147 x148 x149 x150 x151 x152 x153 x154 x155 x156 x157 x158 x159 x160 x161 x162 x163 x164 x165 x166 x167 x168 x169 x170 x171 x172 x173 x174 x175 x176 x177 x178 x179 x180 x181 x182 x183 x184 x185 x186 x187 x188 x189 x190 x191 x192 x193 x194 x195 : AV} :
    CodeW Try.prog E w0 R27_16 [h, x1, x2, .ptr (.new p) 0, x4, x5, x6, x7, x8, .int .u64 0, .int .i64 2, .int .u64 0, .int .i64 2, .int .i64 0, .bool false, .str [], .bool false, x17, x18, x19, x20, x21, x22, .bool true, x24, x25, x26, x27, x28, x29, x30, x31, x32, x33, x34, x35, x36, x37, x38, x39, x40, x41, x42, x43, x44, x45, x46, x47, x48, x49, x50, x51, x52, x53, x54, x55, x56, x57, x58, x59, x60, x61, x62, x63, x64, x65, x66, x67, x68, x69, x70, x71, x72, x73, x74, x75, x76, x77, x78, x79, x80, x81, x82, x83, x84, x85, x86, x87, x88, x89, x90, x91, x92, x93, x94, x95, x96, x97, x98, x99, x100, x101, x102, x103, x104, x105, x106, x107, x108, x109, x110, x111, x112, x113, x114, x115, x116, x117, x118, x119, x120, x121, x122, x123, x124, x125, x126, x127, x128, x129, x130, x131, x132, x133, x134, x135, x136, x137, x138, x139, x140, x141, x142, x143, x144, x145, x146, x147, x148, x149, x150, x151, x152, x153, x154, x155, x156, x157, x158, x159, x160, x161, x162, x163, x164, x165, x166, x167, x168, x169, x170, x171, x172, x173, x174, x175, x176, x177, x178, x179, x180, x181, x182, x183, x184, x185, x186, x187, x188, x189, x190, x191, x192, x193, x194, x195] H (retQ Try.prog E Try.f27 Q) := by
  refine P27_16_ok ?_
  unfold P27_16
  simp only [eqv_3, eqv_23, eqv_9, beq_self_eq_true, oS, wB, vT, pB, if_true, un_not, Bool.not_false, gT]
  refine (used_d (d.stays hs)).use ?_
  rintro v H2 ⟨rfl, t2⟩ _ _
  have hs2 : Stays H0 H2 := fun k a q hk => t2 _ _ _ (hs _ _ _ hk)
  have f2 := fl_of (E := E) (hs2 _ _ _ hp)
  simp only [eqv_3, beq_self_eq_true, oS, wB, vT, pB, if_true, gT, fa_43_5, Nat.zero_add, ld_23, f2.c5]
  refine (type_d (d.stays hs2) ho.ref.1).use ?_
  rintro v H3 ⟨rfl, t3⟩ _ _
  have hs3 : Stays H0 H3 := fun k a q hk => t3 _ _ _ (hs2 _ _ _ hk)
  have f3 := fl_of (E := E) (hs3 _ _ _ hp)
  simp only [eqv_3, beq_self_eq_true, oS, wB, vT, pB, if_true, gT, fa_43_5, fa_43_6, fa_43_7, Nat.zero_add, ld_23, ld_2, f3.c5, f3.c6, f3.c7]
  refine (set_d (d.stays hs3) ho.ref.1).use ?_
  rintro v H4 ⟨rfl, t4⟩ _ _
  have hs4 : Stays H0 H4 := fun k a q hk => t4 _ _ _ (hs3 _ _ _ hk)
  have f4 := fl_of (E := E) (hs4 _ _ _ hp)
  simp only [eqv_3, beq_self_eq_true, oS, wB, vT, pB, if_true, gT, fa_43_5, fa_43_7, Nat.zero_add, ld_23, f4.c5, f4.c7]
  refine (push_d (d.stays hs4) ho.ref.1).use ?_
  rintro v H5 ⟨rfl, t5⟩ _ _
  have hs5 : Stays H0 H5 := fun k a q hk => t5 _ _ _ (hs4 _ _ _ hk)
  simp only [eqv_3, beq_self_eq_true, oS, wB, vT, pB, if_true]
  exact hQ _ hs5

theorem t15 {H0 H : AHeap} {h : AV} {o : OpA} (ho : o.Ok E) {p : Nat} (hp : H0.get p = some (.cells o.cells true [])) (d : Dead H0 h) (hs : Stays H0 H) {Q : AV → AHeap → Prop} (hQ : ∀ H', Stays H0 H' → Q (.bool true) H') {a b : Int} {x1 x2 x4 x5 x7 x23 x24 x25 x26 x27 x28 x29 x30 x31 x32 x33 x34 x35 x36 x37 x38 x39 x40 x41 x42 x43 x44 x45 x46 x47 x48 x49 x50 x51 x52 x53 x54 x55 x56 x57 x58 x59 x60 x61 x62 x63 x64 x65 x66 x67 x68 x69 x70 x71 x72 x73 x74 x75 x76 x77 x78 x79 x80 x81 x82 x83 x84 x85 x86 x87 x88 x89 x90 x91 x92 x93 x94 x95 x96 x97 x98 x99 x100 x101 x102 x103 x104 x105 x106 x107 x108 x109 x110 x111 x112 x113 x114 x115 x116 x117 x118 x119 x120 x121 x122 x123 x124 x125 x126 x127 x128 x129 x130 x131 x132 x133 x134 x135 x136 x137 x138 x139 x140 x141 x142 x143 x144 x145 x146 x147 x148 x149 x150 x151 x152 x153 x154 x155 x156 x157 x158 x159 x160 x161 x162 x163 x164 x165 x166 x167 x168 x169 x170 x171 x172 x173 x174 x175 x176 x177 x178 x179 x180 x181 x182 x183 x184 x185 x186 x187 x188 x189 x190 x191 x192 x193 x194 x195 : AV} :
    CodeW Try.prog E w0 R27_15 [h, x1, x2, .ptr (.new p) 0, x4, x5, .int .i64 4, x7, .int .i64 4, .int .u64 0, .int .i64 2, .int .u64 0, .int .i64 2, .int .i64 0, .bool false, .str [], .bool false, .int .u64 0, .int .i64 a, .int .u64 0, .int .i64 b, .int .i64 a, .int .i64 b, x23, x24, x25, x26, x27, x28, x29, x30, x31, x32, x33, x34, x35, x36, x37, x38, x39, x40, x41, x42, x43, x44, x45, x46, x47, x48, x49, x50, x51, x52, x53, x54, x55, x56, x57, x58, x59, x60, x61, x62, x63, x64, x65, x66, x67, x68, x69, x70, x71, x72, x73, x74, x75, x76, x77, x78, x79, x80, x81, x82, x83, x84, x85, x86, x87, x88, x89, x90, x91, x92, x93, x94, x95, x96, x97, x98, x99, x100, x101, x102, x103, x104, x105, x106, x107, x108, x109, x110, x111, x112, x113, x114, x115, x116, x117, x118, x119, x120, x121, x122, x123, x124, x125, x126, x127, x128, x129, x130, x131, x132, x133, x134, x135, x136, x137, x138, x139, x140, x141, x142, x143, x144, x145, x146, x147, x148, x149, x150, x151, x152, x153, x154, x155, x156, x157, x158, x159, x160, x161, x162, x163, x164, x165, x166, x167, x168, x169, x170, x171, x172, x173, x174, x175, x176, x177, x178, x179, x180, x181, x182, x183, x184, x185, x186, x187, x188, x189, x190, x191, x192, x193, x194, x195] H (retQ Try.prog E Try.f27 Q) := by
  refine P27_15_ok ?_
  unfold P27_15
  have f := fl_of (E := E) (hs _ _ _ hp)
  simp only [eqv_3, eqv_23, eqv_9, beq_self_eq_true, oS, wB, vT, pB, if_true, fa_43_1, Nat.zero_add, ld_9, f.c1, gT]
  refine (const_d (d.stays hs)).use ?_
  rintro v H1 ⟨rfl, t1⟩ _ _
  have hs1 : Stays H0 H1 := fun k a q hk => t1 _ _ _ (hs _ _ _ hk)
  simp only [eqv_23, beq_self_eq_true, oS, wB, vT, pB, if_true]
  exact t16 ho hp d hs1 hQ

theorem t12 {H0 H : AHeap} {h : AV} {o : OpA} (ho : o.Ok E) {p : Nat} (hp : H0.get p = some (.cells o.cells true [])) (d : Dead H0 h) (hs : Stays H0 H) {Q : AV → AHeap → Prop} (hQ : ∀ H', Stays H0 H' → Q (.bool true) H') {a : Int} {x1 x2 x4 x5 x7 x22 x23 x24 x25 x26 x27 x28 x29 x30 x31 x32 x33 x34 x35 x36 x37 x38 x39 x40 x41 x42 x43 x44 x45 x46 x47 x48 x49 x50 x51 x52 x53 x54 x55 x56 x57 x58 x59 x60 x61 x62 x63 x64 x65 x66 x67 x68 x69 x70 x71 x72 x73 x74 x75 x76 x77 x78 x79 x80 x81 x82 x83 x84 x85 x86 x87 x88 x89 x90 x91 x92 x93 x94 x95 x96 x97 x98 x99 x100 x101 x102 x103 x104 x105 x106 x107 x108 x109 x110 x111 x112 x113 x114 x115 x116 x117 x118 x119 x120 x121 x122 x123 x124 x125 x126 x127 x128 x129 x130 x131 x132 x133 x134 x135 x136 x137 x138 x139 x140 x141 x142 x143 x144 x145 x146 x147 x148 x149 x150 x151 x152 x153 x154 x155 x156 x157 x158 x159 x160 x161 x162 x163 x164 x165 x166 x167 x168 x169 x170 x171 x172 x173 x174 x175 x176 x177 x178 x179 x180 x181 x182 x183 x184 x185 x186 x187 x188 x189 x190 x191 x192 x193 x194 x195 : AV} :
    CodeW Try.prog E w0 R27_12 [h, x1, x2, .ptr (.new p) 0, x4, x5, .int .i64 4, x7, .int .i64 4, .int .u64 0, .int .i64 2, .int .u64 0, .int .i64 2, .int .i64 0, .bool false, .str [], .bool false, .int .u64 0, .int .i64 a, .int .u64 0, .int .i64 (if o.m < 0 ∨ o.m > 65536 then 3 else 4), .int .i64 a, x22, x23, x24, x25, x26, x27, x28, x29, x30, x31, x32, x33, x34, x35, x36, x37, x38, x39, x40, x41, x42, x43, x44, x45, x46, x47, x48, x49, x50, x51, x52, x53, x54, x55, x56, x57, x58, x59, x60, x61, x62, x63, x64, x65, x66, x67, x68, x69, x70, x71, x72, x73, x74, x75, x76, x77, x78, x79, x80, x81, x82, x83, x84, x85, x86, x87, x88, x89, x90, x91, x92, x93, x94, x95, x96, x97, x98, x99, x100, x101, x102, x103, x104, x105, x106, x107, x108, x109, x110, x111, x112, x113, x114, x115, x116, x117, x118, x119, x120, x121, x122, x123, x124, x125, x126, x127, x128, x129, x130, x131, x132, x133, x134, x135, x136, x137, x138, x139, x140, x141, x142, x143, x144, x145, x146, x147, x148, x149, x150, x151, x152, x153, x154, x155, x156, x157, x158, x159, x160, x161, x162, x163, x164, x165, x166, x167, x168, x169, x170, x171, x172, x173, x174, x175, x176, x177, x178, x179, x180, x181, x182, x183, x184, x185, x186, x187, x188, x189, x190, x191, x192, x193, x194, x195] H (retQ Try.prog E Try.f27 Q) := by
  refine P27_12_ok ?_
  unfold P27_12
  have f := fl_of (E := E) (hs _ _ _ hp)
  simp only [fa_43_3, oS, ld_3, Nat.zero_add, f.c3, bin_lss]
  by_cases h0 : o.m < 0
  · simp only [h0, decide_true, wB, tf, vF, oS, pB, if_true, cT, true_or]
    exact t15 ho hp d hs hQ
  · simp only [h0, decide_false, wB, nf, vT, oS, bin_gtr, pB, Bool.false_eq_true, if_false, false_or, fa_43_3, ld_3, Nat.zero_add, f.c3]
    by_cases h1 : o.m > 65536
    · simp only [h1, decide_true, cT, if_true]
      exact t15 ho hp d hs hQ
    · simp only [h1, decide_false, cF, if_false]
      exact t15 ho hp d hs hQ

theorem silent_ok {H : AHeap} (F : Fine H) {h : AV} (d : Dead H h) {o : OpA} (ho : o.Ok E) : FnW Try.prog E w0 27 [h, .agg o.cells] H fun v H' => v = .bool true ∧ Stays H H' := by
  refine V27_ok ?_
  unfold V27
  rw [withW_eq]
  have hcl : (AV.agg o.cells).cells = o.cells := rfl
  rw [hcl]
  obtain ⟨n1, n2, n3, F0⟩ := F.newCells o.cells
  have d0 := d.stays n2
  generalize hH0 : newCells H o.cells = H0 at n1 n2 n3 F0 d0 ⊢
  generalize H.next = p at n1 ⊢
  have f0 := fl_of (E := E) n1
  have out : ∀ {H' : AHeap}, Stays H0 H' → Stays H H' := fun s k a q hk => s _ _ _ (n2 _ _ _ hk)
  simp only [fa_43_1, fa_43_2, fa_43_3, fa_43_4, fa_43_5, fa_43_6, fa_43_7, oS, ld_3, ld_22, ld_23, ld_2, ld_9, Nat.zero_add, f0.c2, f0.c4]
  refine (record_d d0 ho.words ho.short).use ?_
  rintro v H1 ⟨rfl, t1⟩ F1 _
  have f1 := fl_of (E := E) (t1 _ _ _ n1)
  simp only [fa_43_1, fa_43_2, fa_43_3, fa_43_4, fa_43_5, fa_43_6, fa_43_7, ld_3, ld_22, ld_23, ld_2, ld_9, Nat.zero_add, ex0, ex1, oS, f1.c2]
  refine (empty_d F1 (d0.stays t1)).use ?_
  rintro v H2 ⟨rfl, u2⟩ F2 _
  have t2 : Stays H0 H2 := fun k a q hk => u2 _ _ _ (t1 _ _ _ hk)
  have f2 := fl_of (E := E) (t2 _ _ _ n1)
  simp only [ex0, ex1, oS]
  refine P27_3_ok ?_
  unfold P27_3
  simp only [fa_43_1, fa_43_2, fa_43_3, fa_43_4, fa_43_5, fa_43_6, fa_43_7, ld_3, ld_22, ld_23, ld_2, ld_9, Nat.zero_add, ex0, ex1, oS, f2.c5, f2.c6]
  refine (get_d (d0.stays t2) ho.ref.1).use ?_
  rintro v H3 ⟨rfl, u3⟩ F3 _
  have t3 : Stays H0 H3 := fun k a q hk => u3 _ _ _ (t2 _ _ _ hk)
  have f3 := fl_of (E := E) (t3 _ _ _ n1)
  simp only [fa_43_1, fa_43_2, fa_43_3, fa_43_4, fa_43_5, fa_43_6, fa_43_7, ld_3, ld_22, ld_23, ld_2, ld_9, Nat.zero_add, ex0, ex1, oS, f3.c5]
  refine (drop_d (d0.stays t3) ho.ref.1).use ?_
  rintro v H4 ⟨rfl, u4⟩ F4 _
  have t4 : Stays H0 H4 := fun k a q hk => u4 _ _ _ (t3 _ _ _ hk)
  have f4 := fl_of (E := E) (t4 _ _ _ n1)
  simp only [ex0, ex1, oS]
  refine P27_5_ok ?_
  unfold P27_5
  simp only [fa_43_1, fa_43_2, fa_43_3, fa_43_4, fa_43_5, fa_43_6, fa_43_7, ld_3, ld_22, ld_23, ld_2, ld_9, Nat.zero_add, ex0, ex1, oS, f4.c5]
  refine (len_d (d0.stays t4) ho.ref.1).use ?_
  rintro v H5 ⟨rfl, u5⟩ F5 _
  have t5 : Stays H0 H5 := fun k a q hk => u5 _ _ _ (t4 _ _ _ hk)
  have f5 := fl_of (E := E) (t5 _ _ _ n1)
  simp only [fa_43_1, fa_43_2, fa_43_3, fa_43_4, fa_43_5, fa_43_6, fa_43_7, ld_3, ld_22, ld_23, ld_2, ld_9, Nat.zero_add, ex0, ex1, oS, f5.c5]
  refine (bytes_d (d0.stays t5) ho.ref.1).use ?_
  rintro v H6 ⟨rfl, u6⟩ F6 _
  have t6 : Stays H0 H6 := fun k a q hk => u6 _ _ _ (t5 _ _ _ hk)
  have f6 := fl_of (E := E) (t6 _ _ _ n1)
  simp only [ex0, ex1, oS]
  refine P27_7_ok ?_
  unfold P27_7
  simp only [fa_43_1, fa_43_2, fa_43_3, fa_43_4, fa_43_5, fa_43_6, fa_43_7, ld_3, ld_22, ld_23, ld_2, ld_9, Nat.zero_add, ex0, ex1, oS, f6.c1]
  refine (text_d (d0.stays t6)).use ?_
  rintro v H7 ⟨rfl, u7⟩ F7 _
  have t7 : Stays H0 H7 := fun k a q hk => u7 _ _ _ (t6 _ _ _ hk)
  have f7 := fl_of (E := E) (t7 _ _ _ n1)
  simp only [fa_43_1, fa_43_2, fa_43_3, fa_43_4, fa_43_5, fa_43_6, fa_43_7, ld_3, ld_22, ld_23, ld_2, ld_9, Nat.zero_add, ex0, ex1, oS, f7.c2, f7.c3, f7.c7]
  refine (fill_d (d0.stays t7)).use ?_
  rintro v H8 ⟨rfl, u8⟩ F8 _
  have t8 : Stays H0 H8 := fun k a q hk => u8 _ _ _ (t7 _ _ _ hk)
  have f8 := fl_of (E := E) (t8 _ _ _ n1)
  simp only [fa_43_1, fa_43_2, fa_43_3, fa_43_4, fa_43_5, fa_43_6, fa_43_7, ld_3, ld_22, ld_23, ld_2, ld_9, Nat.zero_add, ex0, ex1, oS, f8.c1, lS, bin_gtr]
  by_cases hl : (o.text.length : Int) > 65536
  · have hl' : 65536 < o.text.length := by omega
    simp only [hl, decide_true, cT, if_pos hl']
    exact t12 ho n1 d0 t8 fun H' s => ⟨rfl, out s⟩
  · have hl' : ¬ 65536 < o.text.length := by omega
    simp only [hl, decide_false, cF, if_neg hl']
    exact t12 ho n1 d0 t8 fun H' s => ⟨rfl, out s⟩

theorem build_57z : buildA Try.prog 57 [] = some (.agg [.nilSlc, .int .i64 0, .int .i64 0, .bool false]) := by kernel_rfl

theorem none_ok {H : AHeap} {o : OpA} (ho : o.Ok E) : FnW Try.prog E w0 8 [.agg o.cells] H fun v _ => v = .bool true := by
  refine fnW_fine fun F => ?_
  refine V8_ok ?_
  unfold V8
  rw [withW_eq]
  have hcl : (AV.agg o.cells).cells = o.cells := rfl
  rw [hcl]
  obtain ⟨n1, n2, n3, F0⟩ := F.newCells o.cells
  generalize newCells H o.cells = H0 at n1 n2 n3 F0 ⊢
  generalize H.next = p at n1 ⊢
  have f0 := fl_of (E := E) n1
  have whole : ∀ {Hc : AHeap}, Stays H0 Hc → loadV Try.prog E Hc 43 (.ptr (.new p) 0) = some (.agg o.cells) := by
    intro Hc s
    rw [ld_43, loadRange_new E (s _ _ _ n1), if_pos (by simp [OpA.cells])]
    rfl
  simp only [fa_43_1, fa_43_4, oS, ld_9, ld_22, Nat.zero_add, f0.c1, f0.c4, lS, bin_gtr, ho.words.len]
  by_cases h1 : (o.text.length : Int) > 1048576
  · simp only [h1, decide_true, wB, tf, vF, oS, pB, if_true, cT]
    exact works_ok
  simp only [h1, decide_false, wB, nf, vT, oS, pB, Bool.false_eq_true, if_false, fa_43_4, ld_22, Nat.zero_add, f0.c4, ho.words.len, bin_gtr]
  by_cases h2 : (o.words.length : Int) > 65536
  · simp only [h2, decide_true, cT]
    exact works_ok
  simp only [h2, decide_false, cF]
  rw [whole (fun _ _ _ hk => hk), oS]
  refine (silent_ok F0 (.inl rfl) ho).use ?_
  rintro v H1 ⟨rfl, s1⟩ F1 _
  simp only [wB, tt, vT, oS, build_57z, gT]
  have hcl2 : (AV.agg [.nilSlc, .int .i64 0, .int .i64 0, .bool false]).cells = [.nilSlc, .int .i64 0, .int .i64 0, .bool false] := rfl
  rw [hcl2]
  obtain ⟨m1, m2, m3, F2⟩ := F1.newCells [.nilSlc, .int .i64 0, .int .i64 0, .bool false]
  rw [whole (fun k a q hk => m2 _ _ _ (s1 _ _ _ hk)), oS]
  refine (silent_ok F2 (.inr ⟨H1.next, rfl, m1⟩) ho).use ?_
  rintro v H3 ⟨rfl, _⟩ F3 _
  simp only [pB, oS, if_true, wB, tt, gT]
  refine works_ok.use ?_
  rintro v H4 rfl _ _
  rfl

section
open Go.ChangeShapes Go.WideShapes Go.ChangeAt Go.RowKit

theorem walk {W : World} {cs : Array Value} (h : ∃ o : OpA, cs.toList.map old1 = o.cells ∧ o.Ok (envOf W)) : Calls Try.prog 8 #[.agg cs] W fun e w => e = .returned (.bool true) ∧ Kept W w := by
  obtain ⟨o, e, ho⟩ := h
  refine calls_law ?_
  show FnW Try.prog (envOf W) W 8 [.agg (cs.toList.map old1)] AHeap.empty _
  rw [e]
  exact none_ok ho

theorem lifted (os : Os) (started : os.Started) (H : Type) (enc : TypeId × Value → H) :
    ReturnsInHanded {} Try.checked os 8 .any (Rows.heapNoneSpec.pre6 enc Try.prog Try.f8 Rows.heapNoneRow.domain false) (Rows.heapNoneSpec.post enc Try.prog Try.f8 false true false false) := by
  refine returnsInHanded_of_change_sized (C := Try.checked) hp.own started (by kernel_rfl) Try.func8
    (ChangeSpec.witness6 (enc := enc) (C := Try.checked) false ⟨#[], #[.agg #[.int .i64 0, .string ⟨#[]⟩, .int .i64 0, .int .i64 0, .slice none 0 0, .int .u64 0, .int .i64 0, .int .u64 0]], []⟩ 8 (by kernel_rfl) (by kernel_rfl) (by kernel_rfl) (by kernel_rfl)) ?_
  intro W base args ds gs before hval0 hW hcnd hsz _
  have hW' := hW
  obtain ⟨p, q, hA0, hV, rfl, hfz, hnd⟩ := hW
  have hA : DataW.TrodAll enc Try.prog W 0 (fun _ => true) true Try.f8.params.toList args.toList ds p := hA0
  rw [Try.params8] at hA
  obtain ⟨v0, d0, rfl, rfl, h0⟩ := trodAll_one hA
  obtain ⟨cs, rfl, _⟩ := okWide_struct Try.underlying43 (hval0 0 43 v0 (by kernel_rfl) rfl)
  obtain ⟨n, hn⟩ := h0
  have k1 := op_cells (W := W) hn (fun n hn => by
    have := List.all_eq_true.1 hsz n (DataW.weights_mem_each (j := 0) (t := 43) (d := d0) (by kernel_rfl) rfl n hn)
    simpa using this)
  refine (walk k1).mono fun e W' ⟨he, hg⟩ => ?_
  subst he
  exact ⟨_, rfl, post_of_law (b := 4) hW' rfl laid (of_decide_eq_true (by kernel_rfl)) Try.underlying4 (by kernel_rfl) rfl rfl rfl hg⟩

theorem over : Rows.heapNoneRow.holds Try.pinned (OpenSpec.ofChange Rows.heapNoneSpec) :=
  OpenClaim.holds_of_wide 8 Try.f8 rfl rfl rfl rfl rfl rfl rfl ⟨rfl, rfl, rfl, rfl, rfl⟩ rfl rfl rfl rfl rfl (by kernel_rfl) Try.func8 (by kernel_rfl)
    (of_decide_eq_true (by kernel_rfl)) (by unfold Func.isWrapper; first | (rw [if_pos (by decide +kernel)]; kernel_rfl) | (rw [if_neg (by decide +kernel)]; exact ⟨rfl, rfl⟩))
    (fun os started H enc _ => lifted os started H enc)

theorem proved : Rows.HeapNoneSaid := over
end
end Go.Proofs.Ytjbpdmlpjgejcaa.heapNone
