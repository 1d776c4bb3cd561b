import Derived.Test.YtelmcnngocklfaaQ50
/-! NeedsOf, the plain law: the layer of an operation, by the program and by the reference's table. -/
namespace Go.Proofs.Ytelmcnngocklfaa.Pure
set_option linter.unusedVariables false
set_option linter.unusedSimpArgs false
open Go.RowKit Go.Proofs.Ytelmcnngocklfaa.Q Go.Proofs.YtelmcnngocklfaaW.PrintWords Go.Proofs.YtelmcnngocklfaaW.PrintLast
set_option maxRecDepth 100000
def names : List (List UInt8) := [[43], [45], [42], [100, 105, 118], [109, 111, 100], [126], [60], [61, 60], [62], [62, 61], [61, 61], [92, 61], [108, 97, 98, 101, 108], [97, 114, 105, 116, 121], [119, 105, 100, 116, 104], [100, 111, 116], [104, 97, 115], [112, 97, 114, 116, 115], [97, 100, 106, 111, 105, 110], [109, 97, 107, 101], [119, 97, 105, 116], [100, 101, 116], [115, 104, 111, 119], [110, 111, 109, 97, 116, 99, 104], [98, 121, 110, 101, 101, 100], [110, 101, 101, 100], [118, 105, 101, 119], [102, 97, 105, 108], [110, 101, 119, 110, 97, 109, 101], [99, 104, 117, 110, 107], [99, 101, 108, 108], [103, 101, 116], [115, 101, 116], [115, 119, 97, 112], [112, 111, 114, 116], [115, 101, 110, 100], [108, 111, 99, 107], [116, 97, 107, 101], [103, 105, 118, 101], [100, 105, 99, 116], [97, 114, 114, 97, 121], [112, 117, 116], [114, 101, 109, 111, 118, 101], [107, 101, 121, 115], [112, 114, 105, 111, 114, 105, 116, 121], [115, 101, 108, 102], [100, 111, 109, 97, 105, 110], [112, 111, 115, 116], [115, 112, 97, 99, 101], [97, 115, 107], [99, 111, 109, 109, 105, 116], [99, 108, 111, 110, 101], [109, 101, 114, 103, 101], [105, 110, 106, 101, 99, 116], [107, 105, 108, 108]]
theorem listed : ∀ n ∈ names, manystrandlaw04_NeedsOf.f 100 (⟨n.toArray⟩ : ByteArray) = some true := by decide +kernel
theorem op_none (x : ByteArray) (l : List S56) (hl : l.length ≤ 1000) (h : ∀ y ∈ l, y.f0.toList ≠ x.toList) : ∀ n i k, i + n = l.length → n < k → manystrandref03_Op.l0 k x l (i : Int) = some ((⟨#[]⟩ : ByteArray), 0, 0, false) := by
  intro n
  induction n with
  | zero =>
    intro i k hi hk
    obtain ⟨k, rfl⟩ : ∃ j, k = j + 1 := ⟨k - 1, by omega⟩
    unfold manystrandref03_Op.l0
    rw [if_neg (by omega)]
  | succ n ih =>
    intro i k hi hk
    obtain ⟨k, rfl⟩ : ∃ j, k = j + 1 := ⟨k - 1, by omega⟩
    unfold manystrandref03_Op.l0
    have hlt : i < l.length := by omega
    have e : rd_T56 l (i : Int) = l[i] := by
      unfold rd_T56
      simp [hlt]
    rw [if_pos (by omega), if_pos (by omega), e, if_neg (h _ (List.getElem_mem hlt)), show wrap64 ((i : Int) + 1) = ((i + 1 : Nat) : Int) by unfold wrap64; omega]
    exact ih (i + 1) k (by omega) (by omega)
theorem layer_none {a : ByteArray} (h : ∀ n ∈ names, a.toList ≠ n) : needs_layer.f 100 a = some (-1) := by
  have h0 : a.toList ≠ [43] := h _ (by simp [names])
  have h1 : a.toList ≠ [45] := h _ (by simp [names])
  have h2 : a.toList ≠ [42] := h _ (by simp [names])
  have h3 : a.toList ≠ [100, 105, 118] := h _ (by simp [names])
  have h4 : a.toList ≠ [109, 111, 100] := h _ (by simp [names])
  have h5 : a.toList ≠ [126] := h _ (by simp [names])
  have h6 : a.toList ≠ [60] := h _ (by simp [names])
  have h7 : a.toList ≠ [61, 60] := h _ (by simp [names])
  have h8 : a.toList ≠ [62] := h _ (by simp [names])
  have h9 : a.toList ≠ [62, 61] := h _ (by simp [names])
  have h10 : a.toList ≠ [61, 61] := h _ (by simp [names])
  have h11 : a.toList ≠ [92, 61] := h _ (by simp [names])
  have h12 : a.toList ≠ [108, 97, 98, 101, 108] := h _ (by simp [names])
  have h13 : a.toList ≠ [97, 114, 105, 116, 121] := h _ (by simp [names])
  have h14 : a.toList ≠ [119, 105, 100, 116, 104] := h _ (by simp [names])
  have h15 : a.toList ≠ [100, 111, 116] := h _ (by simp [names])
  have h16 : a.toList ≠ [104, 97, 115] := h _ (by simp [names])
  have h17 : a.toList ≠ [112, 97, 114, 116, 115] := h _ (by simp [names])
  have h18 : a.toList ≠ [97, 100, 106, 111, 105, 110] := h _ (by simp [names])
  have h19 : a.toList ≠ [109, 97, 107, 101] := h _ (by simp [names])
  have h20 : a.toList ≠ [119, 97, 105, 116] := h _ (by simp [names])
  have h21 : a.toList ≠ [100, 101, 116] := h _ (by simp [names])
  have h22 : a.toList ≠ [115, 104, 111, 119] := h _ (by simp [names])
  have h23 : a.toList ≠ [110, 111, 109, 97, 116, 99, 104] := h _ (by simp [names])
  have h24 : a.toList ≠ [98, 121, 110, 101, 101, 100] := h _ (by simp [names])
  have h25 : a.toList ≠ [110, 101, 101, 100] := h _ (by simp [names])
  have h26 : a.toList ≠ [118, 105, 101, 119] := h _ (by simp [names])
  have h27 : a.toList ≠ [102, 97, 105, 108] := h _ (by simp [names])
  have h28 : a.toList ≠ [110, 101, 119, 110, 97, 109, 101] := h _ (by simp [names])
  have h29 : a.toList ≠ [99, 104, 117, 110, 107] := h _ (by simp [names])
  have h30 : a.toList ≠ [99, 101, 108, 108] := h _ (by simp [names])
  have h31 : a.toList ≠ [103, 101, 116] := h _ (by simp [names])
  have h32 : a.toList ≠ [115, 101, 116] := h _ (by simp [names])
  have h33 : a.toList ≠ [115, 119, 97, 112] := h _ (by simp [names])
  have h34 : a.toList ≠ [112, 111, 114, 116] := h _ (by simp [names])
  have h35 : a.toList ≠ [115, 101, 110, 100] := h _ (by simp [names])
  have h36 : a.toList ≠ [108, 111, 99, 107] := h _ (by simp [names])
  have h37 : a.toList ≠ [116, 97, 107, 101] := h _ (by simp [names])
  have h38 : a.toList ≠ [103, 105, 118, 101] := h _ (by simp [names])
  have h39 : a.toList ≠ [100, 105, 99, 116] := h _ (by simp [names])
  have h40 : a.toList ≠ [97, 114, 114, 97, 121] := h _ (by simp [names])
  have h41 : a.toList ≠ [112, 117, 116] := h _ (by simp [names])
  have h42 : a.toList ≠ [114, 101, 109, 111, 118, 101] := h _ (by simp [names])
  have h43 : a.toList ≠ [107, 101, 121, 115] := h _ (by simp [names])
  have h44 : a.toList ≠ [112, 114, 105, 111, 114, 105, 116, 121] := h _ (by simp [names])
  have h45 : a.toList ≠ [115, 101, 108, 102] := h _ (by simp [names])
  have h46 : a.toList ≠ [100, 111, 109, 97, 105, 110] := h _ (by simp [names])
  have h47 : a.toList ≠ [112, 111, 115, 116] := h _ (by simp [names])
  have h48 : a.toList ≠ [115, 112, 97, 99, 101] := h _ (by simp [names])
  have h49 : a.toList ≠ [97, 115, 107] := h _ (by simp [names])
  have h50 : a.toList ≠ [99, 111, 109, 109, 105, 116] := h _ (by simp [names])
  have h51 : a.toList ≠ [99, 108, 111, 110, 101] := h _ (by simp [names])
  have h52 : a.toList ≠ [109, 101, 114, 103, 101] := h _ (by simp [names])
  have h53 : a.toList ≠ [105, 110, 106, 101, 99, 116] := h _ (by simp [names])
  have h54 : a.toList ≠ [107, 105, 108, 108] := h _ (by simp [names])
  have b0 : (a.toList == [43]) = false := beq_eq_false_iff_ne.mpr h0
  have b1 : (a.toList == [45]) = false := beq_eq_false_iff_ne.mpr h1
  have b2 : (a.toList == [42]) = false := beq_eq_false_iff_ne.mpr h2
  have b3 : (a.toList == [100, 105, 118]) = false := beq_eq_false_iff_ne.mpr h3
  have b4 : (a.toList == [109, 111, 100]) = false := beq_eq_false_iff_ne.mpr h4
  have b5 : (a.toList == [126]) = false := beq_eq_false_iff_ne.mpr h5
  have b6 : (a.toList == [60]) = false := beq_eq_false_iff_ne.mpr h6
  have b7 : (a.toList == [61, 60]) = false := beq_eq_false_iff_ne.mpr h7
  have b8 : (a.toList == [62]) = false := beq_eq_false_iff_ne.mpr h8
  have b9 : (a.toList == [62, 61]) = false := beq_eq_false_iff_ne.mpr h9
  have b10 : (a.toList == [61, 61]) = false := beq_eq_false_iff_ne.mpr h10
  have b11 : (a.toList == [92, 61]) = false := beq_eq_false_iff_ne.mpr h11
  have b12 : (a.toList == [108, 97, 98, 101, 108]) = false := beq_eq_false_iff_ne.mpr h12
  have b13 : (a.toList == [97, 114, 105, 116, 121]) = false := beq_eq_false_iff_ne.mpr h13
  have b14 : (a.toList == [119, 105, 100, 116, 104]) = false := beq_eq_false_iff_ne.mpr h14
  have b15 : (a.toList == [100, 111, 116]) = false := beq_eq_false_iff_ne.mpr h15
  have b16 : (a.toList == [104, 97, 115]) = false := beq_eq_false_iff_ne.mpr h16
  have b17 : (a.toList == [112, 97, 114, 116, 115]) = false := beq_eq_false_iff_ne.mpr h17
  have b18 : (a.toList == [97, 100, 106, 111, 105, 110]) = false := beq_eq_false_iff_ne.mpr h18
  have b19 : (a.toList == [109, 97, 107, 101]) = false := beq_eq_false_iff_ne.mpr h19
  have b20 : (a.toList == [119, 97, 105, 116]) = false := beq_eq_false_iff_ne.mpr h20
  have b21 : (a.toList == [100, 101, 116]) = false := beq_eq_false_iff_ne.mpr h21
  have b22 : (a.toList == [115, 104, 111, 119]) = false := beq_eq_false_iff_ne.mpr h22
  have b23 : (a.toList == [110, 111, 109, 97, 116, 99, 104]) = false := beq_eq_false_iff_ne.mpr h23
  have b24 : (a.toList == [98, 121, 110, 101, 101, 100]) = false := beq_eq_false_iff_ne.mpr h24
  have b25 : (a.toList == [110, 101, 101, 100]) = false := beq_eq_false_iff_ne.mpr h25
  have b26 : (a.toList == [118, 105, 101, 119]) = false := beq_eq_false_iff_ne.mpr h26
  have b27 : (a.toList == [102, 97, 105, 108]) = false := beq_eq_false_iff_ne.mpr h27
  have b28 : (a.toList == [110, 101, 119, 110, 97, 109, 101]) = false := beq_eq_false_iff_ne.mpr h28
  have b29 : (a.toList == [99, 104, 117, 110, 107]) = false := beq_eq_false_iff_ne.mpr h29
  have b30 : (a.toList == [99, 101, 108, 108]) = false := beq_eq_false_iff_ne.mpr h30
  have b31 : (a.toList == [103, 101, 116]) = false := beq_eq_false_iff_ne.mpr h31
  have b32 : (a.toList == [115, 101, 116]) = false := beq_eq_false_iff_ne.mpr h32
  have b33 : (a.toList == [115, 119, 97, 112]) = false := beq_eq_false_iff_ne.mpr h33
  have b34 : (a.toList == [112, 111, 114, 116]) = false := beq_eq_false_iff_ne.mpr h34
  have b35 : (a.toList == [115, 101, 110, 100]) = false := beq_eq_false_iff_ne.mpr h35
  have b36 : (a.toList == [108, 111, 99, 107]) = false := beq_eq_false_iff_ne.mpr h36
  have b37 : (a.toList == [116, 97, 107, 101]) = false := beq_eq_false_iff_ne.mpr h37
  have b38 : (a.toList == [103, 105, 118, 101]) = false := beq_eq_false_iff_ne.mpr h38
  have b39 : (a.toList == [100, 105, 99, 116]) = false := beq_eq_false_iff_ne.mpr h39
  have b40 : (a.toList == [97, 114, 114, 97, 121]) = false := beq_eq_false_iff_ne.mpr h40
  have b41 : (a.toList == [112, 117, 116]) = false := beq_eq_false_iff_ne.mpr h41
  have b42 : (a.toList == [114, 101, 109, 111, 118, 101]) = false := beq_eq_false_iff_ne.mpr h42
  have b43 : (a.toList == [107, 101, 121, 115]) = false := beq_eq_false_iff_ne.mpr h43
  have b44 : (a.toList == [112, 114, 105, 111, 114, 105, 116, 121]) = false := beq_eq_false_iff_ne.mpr h44
  have b45 : (a.toList == [115, 101, 108, 102]) = false := beq_eq_false_iff_ne.mpr h45
  have b46 : (a.toList == [100, 111, 109, 97, 105, 110]) = false := beq_eq_false_iff_ne.mpr h46
  have b47 : (a.toList == [112, 111, 115, 116]) = false := beq_eq_false_iff_ne.mpr h47
  have b48 : (a.toList == [115, 112, 97, 99, 101]) = false := beq_eq_false_iff_ne.mpr h48
  have b49 : (a.toList == [97, 115, 107]) = false := beq_eq_false_iff_ne.mpr h49
  have b50 : (a.toList == [99, 111, 109, 109, 105, 116]) = false := beq_eq_false_iff_ne.mpr h50
  have b51 : (a.toList == [99, 108, 111, 110, 101]) = false := beq_eq_false_iff_ne.mpr h51
  have b52 : (a.toList == [109, 101, 114, 103, 101]) = false := beq_eq_false_iff_ne.mpr h52
  have b53 : (a.toList == [105, 110, 106, 101, 99, 116]) = false := beq_eq_false_iff_ne.mpr h53
  have b54 : (a.toList == [107, 105, 108, 108]) = false := beq_eq_false_iff_ne.mpr h54
  simp only [needs_layer.f, needs_layer.j0, needs_layer.j1, needs_layer.j2, needs_layer.j3, needs_layer.j4, needs_layer.j5, h0, h1, h2, h3, h4, h5, h6, h7, h8, h9, h10, h11, h12, h13, h14, h15, h16, h17, h18, h19, h20, h21, h22, h23, h24, h25, h26, h27, h28, h29, h30, h31, h32, h33, h34, h35, h36, h37, h38, h39, h40, h41, h42, h43, h44, h45, h46, h47, h48, h49, h50, h51, h52, h53, h54, b0, b1, b2, b3, b4, b5, b6, b7, b8, b9, b10, b11, b12, b13, b14, b15, b16, b17, b18, b19, b20, b21, b22, b23, b24, b25, b26, b27, b28, b29, b30, b31, b32, b33, b34, b35, b36, b37, b38, b39, b40, b41, b42, b43, b44, b45, b46, b47, b48, b49, b50, b51, b52, b53, b54, if_false, Bool.false_eq_true, reduceIte]
theorem table_in : ∀ l, manystrandref03_Ops.f = some l → l.length = 55 ∧ ∀ y ∈ l, y.f0.toList ∈ names := by
  intro l h
  obtain rfl := Option.some.inj h
  decide +kernel
theorem NeedsOf : manystrandlaw04_NeedsOf.Pure := by
  intro a ha
  by_cases h : a.toList ∈ names
  · refine ⟨100, ?_⟩
    have e : a = (⟨a.toList.toArray⟩ : ByteArray) := by rw [ByteArray.toList_eq a]
    rw [e]
    exact listed _ h
  · have hn : ∀ n ∈ names, a.toList ≠ n := fun n hm e => h (e ▸ hm)
    refine ⟨100, ?_⟩
    unfold manystrandlaw04_NeedsOf.f manystrandlaw04_awake.f
    split
    · rfl
    · have h1 : needs_Of.f 100 a = some (0, 5) := by
        unfold needs_Of.f
        rw [layer_none hn]
        rfl
      have h2 : manystrandref04_Of.f 100 a = some (0, 5) := by
        unfold manystrandref04_Of.f manystrandref03_Op.f
        obtain ⟨l, hl⟩ : ∃ l, manystrandref03_Ops.f = some l := ⟨_, rfl⟩
        obtain ⟨t1, t2⟩ := table_in l hl
        have := op_none a l (by omega) (fun y hy e => hn _ (t2 y hy) e.symm) 55 0 100 (by omega) (by decide)
        rw [hl, Option.bind_some, show (0 : Int) = ((0 : Nat) : Int) from rfl, this]
        rfl
      rw [h1, h2]
      rfl
end Go.Proofs.Ytelmcnngocklfaa.Pure
