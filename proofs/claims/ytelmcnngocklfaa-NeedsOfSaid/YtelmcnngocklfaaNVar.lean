import Derived.Test.YtelmcnngocklfaaNRow
import Derived.Test.YtelmcnngocklfaaNValid
/-! needs.variable at a program that has none yet. -/
namespace Go.Proofs.Ytelmcnngocklfaa.Need
set_option linter.unusedVariables false
set_option linter.unusedSimpArgs false
open Go.RowKit Go.Proofs.YtelmcnngocklfaaW.PrintWords Go.Proofs.YtelmcnngocklfaaW.PrintLast Go.Proofs.YtelmcnngocklfaaW.PrintMore
structure VAF (pb : Nat) (d : ByteArray) (c2 c3 c4 : Value) (w w' : World) (b0 b1 b2 b3 b4 b5 b6 b7 b8 b9 b10 b11 b12 b13 b14 b15 b16 b17 b18 b19 b20 : Bool) (v5 v6 v7 v8 v9 v10 v11 v12 v13 v14 v15 v16 v17 v18 v19 v20 v21 v22 v23 : Value) : Prop where
  h0 : b0 = true → v5 = .pointer (some ⟨pb, 0, none⟩)
  h1 : b1 = true → v6 = .pointer (some ⟨pb, 0, none⟩)
  h2 : b2 = true → v7 = .pointer (some ⟨pb, 0, none⟩)
  h3 : b3 = true → v8 = .pointer (some ⟨pb, 0, none⟩)
  h4 : b4 = true → v9 = .pointer (some ⟨pb, 0, none⟩)
  h5 : b5 = true → v10 = .slice none 0 0
  h6 : b6 = true → v11 = .string d
  h9 : b9 = true → v14 = .pointer (some ⟨pb, 0, none⟩)
  h10 : b10 = true → v15 = .pointer (some ⟨pb, 0, none⟩)
  h11 : b11 = true → v16 = .pointer (some ⟨pb, 1, none⟩)
  h12 : b12 = true → v17 = .slice none 0 0
  h15 : b15 = true → v20 = .pointer (some ⟨pb, 0, none⟩)
  h16 : b16 = true → v21 = .pointer (some ⟨pb, 0, none⟩)
  h18 : b18 = true → v22 = .pointer (some ⟨pb, 0, none⟩)
  h19 : b19 = true → v23 = .pointer (some ⟨pb, 1, none⟩)
  h7 : b7 = true → ∃ g, v12 = .slice (some ⟨g, 0, none⟩) 1 1 ∧ w.heap.size ≤ g ∧ w'.heap[g]? = some (.cells #[.string d] 9 (0, 0))
  h8 : b8 = true → w'.ownsRow w.heap.size 9 1 v13 1 [.string d]
  h13 : b13 = true → ∃ g, v18 = .slice (some ⟨g, 0, none⟩) 1 1 ∧ w.heap.size ≤ g ∧ w'.heap[g]? = some (.cells #[.bool false] 4 (0, 0))
  h14 : b14 = true → w'.ownsRow w.heap.size 4 1 v19 1 [.bool false]
  P : w'.heap[pb]? = some (.cells #[if b17 = true then v13 else .slice none 0 0, if b20 = true then v19 else .slice none 0 0, c2, c3, c4] 68 (0, 0))
  n17 : b17 = true → b5 = true ∧ b8 = true
  n20 : b20 = true → b12 = true ∧ b14 = true
  K : KB w w' pb none
  pl : pb < w.heap.size
def VAJ (pb : Nat) (d : ByteArray) (c2 c3 c4 : Value) (w : World) (a0 : Act) (listed : Array Bool) (a' : Act) (w' : World) : Prop :=
  ∃ (b0 b1 b2 b3 b4 b5 b6 b7 b8 b9 b10 b11 b12 b13 b14 b15 b16 b17 b18 b19 b20 : Bool) (v5 v6 v7 v8 v9 v10 v11 v12 v13 v14 v15 v16 v17 v18 v19 v20 v21 v22 v23 : Value), listed = #[b0, b1, b2, b3, b4, b5, b6, b7, b8, b9, b10, b11, b12, b13, b14, b15, b16, b17, b18, b19, b20] ∧ a' = { a0 with tmps := ((((((((((((((((((a0.tmps.setIfInBounds 5 v5).setIfInBounds 6 v6).setIfInBounds 7 v7).setIfInBounds 8 v8).setIfInBounds 9 v9).setIfInBounds 10 v10).setIfInBounds 11 v11).setIfInBounds 12 v12).setIfInBounds 13 v13).setIfInBounds 14 v14).setIfInBounds 15 v15).setIfInBounds 16 v16).setIfInBounds 17 v17).setIfInBounds 18 v18).setIfInBounds 19 v19).setIfInBounds 20 v20).setIfInBounds 21 v21).setIfInBounds 22 v22).setIfInBounds 23 v23 } ∧ VAF pb d c2 c3 c4 w w' b0 b1 b2 b3 b4 b5 b6 b7 b8 b9 b10 b11 b12 b13 b14 b15 b16 b17 b18 b19 b20 v5 v6 v7 v8 v9 v10 v11 v12 v13 v14 v15 v16 v17 v18 v19 v20 v21 v22 v23
theorem VA_self (a : Act) : a = { a with tmps := ((((((((((((((((((a.tmps.setIfInBounds 5 (a.tmps.getD 5 undef)).setIfInBounds 6 (a.tmps.getD 6 undef)).setIfInBounds 7 (a.tmps.getD 7 undef)).setIfInBounds 8 (a.tmps.getD 8 undef)).setIfInBounds 9 (a.tmps.getD 9 undef)).setIfInBounds 10 (a.tmps.getD 10 undef)).setIfInBounds 11 (a.tmps.getD 11 undef)).setIfInBounds 12 (a.tmps.getD 12 undef)).setIfInBounds 13 (a.tmps.getD 13 undef)).setIfInBounds 14 (a.tmps.getD 14 undef)).setIfInBounds 15 (a.tmps.getD 15 undef)).setIfInBounds 16 (a.tmps.getD 16 undef)).setIfInBounds 17 (a.tmps.getD 17 undef)).setIfInBounds 18 (a.tmps.getD 18 undef)).setIfInBounds 19 (a.tmps.getD 19 undef)).setIfInBounds 20 (a.tmps.getD 20 undef)).setIfInBounds 21 (a.tmps.getD 21 undef)).setIfInBounds 22 (a.tmps.getD 22 undef)).setIfInBounds 23 (a.tmps.getD 23 undef) } := by
  simp only [set_self]
set_option maxHeartbeats 4000000 in
set_option maxRecDepth 100000 in
theorem variable_walk (w : World) (pb : Nat) (d : ByteArray) (c2 c3 c4 : Value) (hp : w.heap[pb]? = some (.cells #[.slice none 0 0, .slice none 0 0, c2, c3, c4] 68 (0, 0))) :
    Calls Try.prog 69 #[.pointer (some ⟨pb, 0, none⟩), .string d] w (fun e w' => e = .returned (.int .i64 0) ∧ ∃ nm lo, w'.heap[pb]? = some (.cells #[nm, lo, c2, c3, c4] 68 (0, 0)) ∧ w'.ownsRow w.heap.size 9 1 nm 1 [.string d] ∧ w'.ownsRow w.heap.size 4 1 lo 1 [.bool false] ∧ KB w w' pb none) := by
  have HP := Aside0.mk hp
  clear hp
  go_enter Try.func69, Try.ntmps69
  go_upto_region 1 with fail
  (try simp only [Act.put, List.setIfInBounds_toArray, List.set_cons_zero, List.set_cons_succ])
  refine RegInv.wp_region_inv' rfl (by kernel_rfl) (VAJ pb d c2 c3 c4 w) ?_ ?_ ?_
  · refine ⟨false, false, false, false, false, false, false, false, false, false, false, false, false, false, false, false, false, false, false, false, false, _, _, _, _, _, _, _, _, _, _, _, _, _, _, _, _, _, _, _, rfl, VA_self _, ?_⟩
    exact ⟨fun h => (by cases h), fun h => (by cases h), fun h => (by cases h), fun h => (by cases h), fun h => (by cases h), fun h => (by cases h), fun h => (by cases h), fun h => (by cases h), fun h => (by cases h), fun h => (by cases h), fun h => (by cases h), fun h => (by cases h), fun h => (by cases h), fun h => (by cases h), fun h => (by cases h), fun h => (by cases h), fun h => (by cases h), fun h => (by cases h), fun h => (by cases h), HP.out, fun h => (by cases h), fun h => (by cases h), KB.start _ _ _ _, blk_lt HP.out⟩
  · skip
    rintro listed a' w' i o ho hz hb hw ⟨b0, b1, b2, b3, b4, b5, b6, b7, b8, b9, b10, b11, b12, b13, b14, b15, b16, b17, b18, b19, b20, v5, v6, v7, v8, v9, v10, v11, v12, v13, v14, v15, v16, v17, v18, v19, v20, v21, v22, v23, rfl, rfl, F9⟩
    match i, ho, hb, hw with
    | 0, ho, hb, hw =>
      obtain rfl : _ = o := Option.some.inj ho
      simp only [List.setIfInBounds_toArray, List.set_cons_zero, List.set_cons_succ]
      go_wp2
      exact ⟨true, b1, b2, b3, b4, b5, b6, b7, b8, b9, b10, b11, b12, b13, b14, b15, b16, b17, b18, b19, b20, .pointer (some ⟨pb, 0, none⟩), v6, v7, v8, v9, v10, v11, v12, v13, v14, v15, v16, v17, v18, v19, v20, v21, v22, v23, rfl, by simp only [List.setIfInBounds_toArray, List.set_cons_zero, List.set_cons_succ, Bool.not_true], { F9 with h0 := fun _ => rfl }⟩
    | 1, ho, hb, hw =>
      obtain rfl : _ = o := Option.some.inj ho
      simp only [List.setIfInBounds_toArray, List.set_cons_zero, List.set_cons_succ]
      go_wp2
      exact ⟨b0, true, b2, b3, b4, b5, b6, b7, b8, b9, b10, b11, b12, b13, b14, b15, b16, b17, b18, b19, b20, v5, .pointer (some ⟨pb, 0, none⟩), v7, v8, v9, v10, v11, v12, v13, v14, v15, v16, v17, v18, v19, v20, v21, v22, v23, rfl, by simp only [List.setIfInBounds_toArray, List.set_cons_zero, List.set_cons_succ, Bool.not_true], { F9 with h1 := fun _ => rfl }⟩
    | 2, ho, hb, hw =>
      obtain rfl : _ = o := Option.some.inj ho
      simp only [List.setIfInBounds_toArray, List.set_cons_zero, List.set_cons_succ]
      go_wp2
      exact ⟨b0, b1, true, b3, b4, b5, b6, b7, b8, b9, b10, b11, b12, b13, b14, b15, b16, b17, b18, b19, b20, v5, v6, .pointer (some ⟨pb, 0, none⟩), v8, v9, v10, v11, v12, v13, v14, v15, v16, v17, v18, v19, v20, v21, v22, v23, rfl, by simp only [List.setIfInBounds_toArray, List.set_cons_zero, List.set_cons_succ, Bool.not_true], { F9 with h2 := fun _ => rfl }⟩
    | 3, ho, hb, hw =>
      obtain rfl : _ = o := Option.some.inj ho
      simp only [List.setIfInBounds_toArray, List.set_cons_zero, List.set_cons_succ]
      obtain rfl := F9.h2 (hw ⟨2, .data⟩ (by simp) rfl)
      go_wp2
      exact ⟨b0, b1, b2, true, b4, b5, b6, b7, b8, b9, b10, b11, b12, b13, b14, b15, b16, b17, b18, b19, b20, v5, v6, .pointer (some ⟨pb, 0, none⟩), .pointer (some ⟨pb, 0, none⟩), v9, v10, v11, v12, v13, v14, v15, v16, v17, v18, v19, v20, v21, v22, v23, rfl, by simp only [List.setIfInBounds_toArray, List.set_cons_zero, List.set_cons_succ, Bool.not_true], { F9 with h3 := fun _ => rfl }⟩
    | 4, ho, hb, hw =>
      obtain rfl : _ = o := Option.some.inj ho
      simp only [List.setIfInBounds_toArray, List.set_cons_zero, List.set_cons_succ]
      obtain rfl := F9.h3 (hw ⟨3, .data⟩ (by simp) rfl)
      go_wp2
      exact ⟨b0, b1, b2, b3, true, b5, b6, b7, b8, b9, b10, b11, b12, b13, b14, b15, b16, b17, b18, b19, b20, v5, v6, v7, .pointer (some ⟨pb, 0, none⟩), .pointer (some ⟨pb, 0, none⟩), v10, v11, v12, v13, v14, v15, v16, v17, v18, v19, v20, v21, v22, v23, rfl, by simp only [List.setIfInBounds_toArray, List.set_cons_zero, List.set_cons_succ, Bool.not_true], { F9 with h4 := fun _ => rfl }⟩
    | 5, ho, hb, hw =>
      obtain rfl : _ = o := Option.some.inj ho
      simp only [List.setIfInBounds_toArray, List.set_cons_zero, List.set_cons_succ]
      obtain rfl := F9.h4 (hw ⟨4, .data⟩ (by simp) rfl)
      obtain rfl : b5 = false := hb
      have q17 : b17 = false := by cases e : b17 <;> first | rfl | exact absurd (F9.n17 e).1 (by decide)
      subst q17
      have y0 := (blk_cell F9.P 0).trans rfl
      go_wp2
      exact ⟨b0, b1, b2, b3, b4, true, b6, b7, b8, b9, b10, b11, b12, b13, b14, b15, b16, false, b18, b19, b20, v5, v6, v7, v8, .pointer (some ⟨pb, 0, none⟩), .slice none 0 0, v11, v12, v13, v14, v15, v16, v17, v18, v19, v20, v21, v22, v23, rfl, by simp only [List.setIfInBounds_toArray, List.set_cons_zero, List.set_cons_succ, Bool.not_true], { F9 with n17 := fun e => absurd e (by decide), h5 := fun _ => rfl }⟩
    | 6, ho, hb, hw =>
      obtain rfl : _ = o := Option.some.inj ho
      simp only [List.setIfInBounds_toArray, List.set_cons_zero, List.set_cons_succ]
      go_wp2
      exact ⟨b0, b1, b2, b3, b4, b5, true, b7, b8, b9, b10, b11, b12, b13, b14, b15, b16, b17, b18, b19, b20, v5, v6, v7, v8, v9, v10, .string d, v12, v13, v14, v15, v16, v17, v18, v19, v20, v21, v22, v23, rfl, by simp only [List.setIfInBounds_toArray, List.set_cons_zero, List.set_cons_succ, Bool.not_true], { F9 with h6 := fun _ => rfl }⟩
    | 7, ho, hb, hw =>
      obtain rfl : _ = o := Option.some.inj ho
      simp only [List.setIfInBounds_toArray, List.set_cons_zero, List.set_cons_succ]
      obtain rfl := F9.h6 (hw ⟨6, .data⟩ (by simp) rfl)
      have hbb := below_alloc (Below.refl w'.heap.size w') (.cells #[.string d] 9 (0, 0))
      have hsz := F9.K.1
      go_wp2
      exact ⟨b0, b1, b2, b3, b4, b5, b6, true, b8, b9, b10, b11, b12, b13, b14, b15, b16, b17, b18, b19, b20, v5, v6, v7, v8, v9, v10, .string d, .slice (some ⟨w'.heap.size, 0, none⟩) 1 1, v13, v14, v15, v16, v17, v18, v19, v20, v21, v22, v23, rfl, by simp only [List.setIfInBounds_toArray, List.set_cons_zero, List.set_cons_succ, Bool.not_true], { F9 with h7 := fun _ => ⟨_, rfl, hsz, blk_new _ _⟩, h8 := fun q => own_below (F9.h8 q) hbb, h13 := fun q => (F9.h13 q).imp (fun _ l => ⟨l.1, l.2.1, blk_below l.2.2 hbb⟩), h14 := fun q => own_below (F9.h14 q) hbb, P := blk_below F9.P hbb, K := KB.trans F9.K (KB.of_below hbb pb none) (.inl rfl) }⟩
    | 8, ho, hb, hw =>
      obtain rfl : _ = o := Option.some.inj ho
      simp only [List.setIfInBounds_toArray, List.set_cons_zero, List.set_cons_succ]
      obtain rfl := F9.h5 (hw ⟨5, .data⟩ (by simp) rfl)
      obtain rfl : b8 = false := hb
      have q17 : b17 = false := by cases e : b17 <;> first | rfl | exact absurd (F9.n17 e).2 (by decide)
      subst q17
      obtain ⟨gx, rfl, lx, kx⟩ := F9.h7 (hw ⟨7, .data⟩ (by simp) rfl)
      have hsz := F9.K.1
      refine app_nil w' rfl (.tmp 10) (.tmp 12) 22 9 1 16 (.string ⟨#[]⟩) rfl Try.underlying22 inf9 rfl (by decide) rfl gx [.string d] rfl rfl kx (by intro u hu; rw [List.mem_singleton] at hu; subst hu; rfl) (by decide) 13 rfl ?_
      intro v' w2 hr hbb
      simp only [List.setIfInBounds_toArray, List.set_cons_zero, List.set_cons_succ]
      go_wp2
      exact ⟨b0, b1, b2, b3, b4, b5, b6, b7, true, b9, b10, b11, b12, b13, b14, b15, b16, false, b18, b19, b20, v5, v6, v7, v8, v9, .slice none 0 0, v11, .slice (some ⟨gx, 0, none⟩) 1 1, v', v14, v15, v16, v17, v18, v19, v20, v21, v22, v23, rfl, by simp only [List.setIfInBounds_toArray, List.set_cons_zero, List.set_cons_succ, Bool.not_true], { F9 with n17 := fun e => absurd e (by decide), h8 := fun _ => own_weak hr hsz, h7 := fun q => (F9.h7 q).imp (fun _ l => ⟨l.1, l.2.1, blk_below l.2.2 hbb⟩), h13 := fun q => (F9.h13 q).imp (fun _ l => ⟨l.1, l.2.1, blk_below l.2.2 hbb⟩), h14 := fun q => own_below (F9.h14 q) hbb, P := blk_below F9.P hbb, K := KB.trans F9.K (KB.of_below hbb pb none) (.inl rfl) }⟩
    | 9, ho, hb, hw =>
      obtain rfl : _ = o := Option.some.inj ho
      simp only [List.setIfInBounds_toArray, List.set_cons_zero, List.set_cons_succ]
      go_wp2
      exact ⟨b0, b1, b2, b3, b4, b5, b6, b7, b8, true, b10, b11, b12, b13, b14, b15, b16, b17, b18, b19, b20, v5, v6, v7, v8, v9, v10, v11, v12, v13, .pointer (some ⟨pb, 0, none⟩), v15, v16, v17, v18, v19, v20, v21, v22, v23, rfl, by simp only [List.setIfInBounds_toArray, List.set_cons_zero, List.set_cons_succ, Bool.not_true], { F9 with h9 := fun _ => rfl }⟩
    | 10, ho, hb, hw =>
      obtain rfl : _ = o := Option.some.inj ho
      simp only [List.setIfInBounds_toArray, List.set_cons_zero, List.set_cons_succ]
      obtain rfl := F9.h9 (hw ⟨9, .data⟩ (by simp) rfl)
      go_wp2
      exact ⟨b0, b1, b2, b3, b4, b5, b6, b7, b8, b9, true, b11, b12, b13, b14, b15, b16, b17, b18, b19, b20, v5, v6, v7, v8, v9, v10, v11, v12, v13, .pointer (some ⟨pb, 0, none⟩), .pointer (some ⟨pb, 0, none⟩), v16, v17, v18, v19, v20, v21, v22, v23, rfl, by simp only [List.setIfInBounds_toArray, List.set_cons_zero, List.set_cons_succ, Bool.not_true], { F9 with h10 := fun _ => rfl }⟩
    | 11, ho, hb, hw =>
      obtain rfl : _ = o := Option.some.inj ho
      simp only [List.setIfInBounds_toArray, List.set_cons_zero, List.set_cons_succ]
      obtain rfl := F9.h10 (hw ⟨10, .data⟩ (by simp) rfl)
      go_wp2
      exact ⟨b0, b1, b2, b3, b4, b5, b6, b7, b8, b9, b10, true, b12, b13, b14, b15, b16, b17, b18, b19, b20, v5, v6, v7, v8, v9, v10, v11, v12, v13, v14, .pointer (some ⟨pb, 0, none⟩), .pointer (some ⟨pb, 1, none⟩), v17, v18, v19, v20, v21, v22, v23, rfl, by simp only [List.setIfInBounds_toArray, List.set_cons_zero, List.set_cons_succ, Bool.not_true], { F9 with h11 := fun _ => rfl }⟩
    | 12, ho, hb, hw =>
      obtain rfl : _ = o := Option.some.inj ho
      simp only [List.setIfInBounds_toArray, List.set_cons_zero, List.set_cons_succ]
      obtain rfl := F9.h11 (hw ⟨11, .data⟩ (by simp) rfl)
      obtain rfl : b12 = false := hb
      have q20 : b20 = false := by cases e : b20 <;> first | rfl | exact absurd (F9.n20 e).1 (by decide)
      subst q20
      have y0 := (blk_cell F9.P 1).trans rfl
      go_wp2
      exact ⟨b0, b1, b2, b3, b4, b5, b6, b7, b8, b9, b10, b11, true, b13, b14, b15, b16, b17, b18, b19, false, v5, v6, v7, v8, v9, v10, v11, v12, v13, v14, v15, .pointer (some ⟨pb, 1, none⟩), .slice none 0 0, v18, v19, v20, v21, v22, v23, rfl, by simp only [List.setIfInBounds_toArray, List.set_cons_zero, List.set_cons_succ, Bool.not_true], { F9 with n20 := fun e => absurd e (by decide), h12 := fun _ => rfl }⟩
    | 13, ho, hb, hw =>
      obtain rfl : _ = o := Option.some.inj ho
      simp only [List.setIfInBounds_toArray, List.set_cons_zero, List.set_cons_succ]
      have hbb := below_alloc (Below.refl w'.heap.size w') (.cells #[.bool false] 4 (0, 0))
      have hsz := F9.K.1
      go_wp2
      exact ⟨b0, b1, b2, b3, b4, b5, b6, b7, b8, b9, b10, b11, b12, true, b14, b15, b16, b17, b18, b19, b20, v5, v6, v7, v8, v9, v10, v11, v12, v13, v14, v15, v16, v17, .slice (some ⟨w'.heap.size, 0, none⟩) 1 1, v19, v20, v21, v22, v23, rfl, by simp only [List.setIfInBounds_toArray, List.set_cons_zero, List.set_cons_succ, Bool.not_true], { F9 with h13 := fun _ => ⟨_, rfl, hsz, blk_new _ _⟩, h7 := fun q => (F9.h7 q).imp (fun _ l => ⟨l.1, l.2.1, blk_below l.2.2 hbb⟩), h8 := fun q => own_below (F9.h8 q) hbb, h14 := fun q => own_below (F9.h14 q) hbb, P := blk_below F9.P hbb, K := KB.trans F9.K (KB.of_below hbb pb none) (.inl rfl) }⟩
    | 14, ho, hb, hw =>
      obtain rfl : _ = o := Option.some.inj ho
      simp only [List.setIfInBounds_toArray, List.set_cons_zero, List.set_cons_succ]
      obtain rfl := F9.h12 (hw ⟨12, .data⟩ (by simp) rfl)
      obtain rfl : b14 = false := hb
      have q20 : b20 = false := by cases e : b20 <;> first | rfl | exact absurd (F9.n20 e).2 (by decide)
      subst q20
      obtain ⟨gx, rfl, lx, kx⟩ := F9.h13 (hw ⟨13, .data⟩ (by simp) rfl)
      have hsz := F9.K.1
      refine app_nil w' rfl (.tmp 17) (.tmp 18) 62 4 1 1 (.bool false) rfl Try.underlying62 inf4 rfl (by decide) rfl gx [.bool false] rfl rfl kx (by intro u hu; rw [List.mem_singleton] at hu; subst hu; rfl) (by decide) 19 rfl ?_
      intro v' w2 hr hbb
      simp only [List.setIfInBounds_toArray, List.set_cons_zero, List.set_cons_succ]
      go_wp2
      exact ⟨b0, b1, b2, b3, b4, b5, b6, b7, b8, b9, b10, b11, b12, b13, true, b15, b16, b17, b18, b19, false, v5, v6, v7, v8, v9, v10, v11, v12, v13, v14, v15, v16, .slice none 0 0, .slice (some ⟨gx, 0, none⟩) 1 1, v', v20, v21, v22, v23, rfl, by simp only [List.setIfInBounds_toArray, List.set_cons_zero, List.set_cons_succ, Bool.not_true], { F9 with n20 := fun e => absurd e (by decide), h14 := fun _ => own_weak hr hsz, h7 := fun q => (F9.h7 q).imp (fun _ l => ⟨l.1, l.2.1, blk_below l.2.2 hbb⟩), h8 := fun q => own_below (F9.h8 q) hbb, h13 := fun q => (F9.h13 q).imp (fun _ l => ⟨l.1, l.2.1, blk_below l.2.2 hbb⟩), P := blk_below F9.P hbb, K := KB.trans F9.K (KB.of_below hbb pb none) (.inl rfl) }⟩
    | 15, ho, hb, hw =>
      obtain rfl : _ = o := Option.some.inj ho
      simp only [List.setIfInBounds_toArray, List.set_cons_zero, List.set_cons_succ]
      obtain rfl := F9.h0 (hw ⟨0, .data⟩ (by simp) rfl)
      go_wp2
      exact ⟨b0, b1, b2, b3, b4, b5, b6, b7, b8, b9, b10, b11, b12, b13, b14, true, b16, b17, b18, b19, b20, .pointer (some ⟨pb, 0, none⟩), v6, v7, v8, v9, v10, v11, v12, v13, v14, v15, v16, v17, v18, v19, .pointer (some ⟨pb, 0, none⟩), v21, v22, v23, rfl, by simp only [List.setIfInBounds_toArray, List.set_cons_zero, List.set_cons_succ, Bool.not_true], { F9 with h15 := fun _ => rfl }⟩
    | 16, ho, hb, hw =>
      obtain rfl : _ = o := Option.some.inj ho
      simp only [List.setIfInBounds_toArray, List.set_cons_zero, List.set_cons_succ]
      obtain rfl := F9.h15 (hw ⟨15, .data⟩ (by simp) rfl)
      go_wp2
      exact ⟨b0, b1, b2, b3, b4, b5, b6, b7, b8, b9, b10, b11, b12, b13, b14, b15, true, b17, b18, b19, b20, v5, v6, v7, v8, v9, v10, v11, v12, v13, v14, v15, v16, v17, v18, v19, .pointer (some ⟨pb, 0, none⟩), .pointer (some ⟨pb, 0, none⟩), v22, v23, rfl, by simp only [List.setIfInBounds_toArray, List.set_cons_zero, List.set_cons_succ, Bool.not_true], { F9 with h16 := fun _ => rfl }⟩
    | 17, ho, hb, hw =>
      obtain rfl : _ = o := Option.some.inj ho
      simp only [List.setIfInBounds_toArray, List.set_cons_zero, List.set_cons_succ]
      obtain rfl := F9.h16 (hw ⟨16, .data⟩ (by simp) rfl)
      have qd := hw ⟨8, .data⟩ (by simp) rfl
      obtain ⟨gr, cr, er, l1, l2⟩ := own_slice (F9.h8 qd)
      subst er
      have y0 := (blk_cell F9.P 0).trans rfl
      have z0 := blk_frozen F9.P 0
      have qe := hw ⟨5, .phase⟩ (by simp) rfl
      go_wp2
      exact ⟨b0, b1, b2, b3, b4, b5, b6, b7, b8, b9, b10, b11, b12, b13, b14, b15, b16, true, b18, b19, b20, v5, v6, v7, v8, v9, v10, v11, v12, .slice (some ⟨gr, 0, none⟩) 1 cr, v14, v15, v16, v17, v18, v19, v20, .pointer (some ⟨pb, 0, none⟩), v22, v23, rfl, by simp only [List.setIfInBounds_toArray, List.set_cons_zero, List.set_cons_succ, Bool.not_true], { F9 with n17 := fun _ => ⟨qe, qd⟩, h7 := fun q => (F9.h7 q).imp (fun _ l => ⟨l.1, l.2.1, blk_far l.2.2 (p := ⟨pb, 0, none⟩) (by have := F9.pl; have := l.2.1; show _ ≠ pb; omega) _⟩), h8 := fun q => own_put (F9.h8 q) F9.pl _, h13 := fun q => (F9.h13 q).imp (fun _ l => ⟨l.1, l.2.1, blk_far l.2.2 (p := ⟨pb, 0, none⟩) (by have := F9.pl; have := l.2.1; show _ ≠ pb; omega) _⟩), h14 := fun q => own_put (F9.h14 q) F9.pl _, P := blk_put F9.P 0 _ rfl, K := kb_set F9.K 0 _ }⟩
    | 18, ho, hb, hw =>
      obtain rfl : _ = o := Option.some.inj ho
      simp only [List.setIfInBounds_toArray, List.set_cons_zero, List.set_cons_succ]
      obtain rfl := F9.h1 (hw ⟨1, .data⟩ (by simp) rfl)
      go_wp2
      exact ⟨b0, b1, b2, b3, b4, b5, b6, b7, b8, b9, b10, b11, b12, b13, b14, b15, b16, b17, true, b19, b20, v5, .pointer (some ⟨pb, 0, none⟩), v7, v8, v9, v10, v11, v12, v13, v14, v15, v16, v17, v18, v19, v20, v21, .pointer (some ⟨pb, 0, none⟩), v23, rfl, by simp only [List.setIfInBounds_toArray, List.set_cons_zero, List.set_cons_succ, Bool.not_true], { F9 with h18 := fun _ => rfl }⟩
    | 19, ho, hb, hw =>
      obtain rfl : _ = o := Option.some.inj ho
      simp only [List.setIfInBounds_toArray, List.set_cons_zero, List.set_cons_succ]
      obtain rfl := F9.h18 (hw ⟨18, .data⟩ (by simp) rfl)
      go_wp2
      exact ⟨b0, b1, b2, b3, b4, b5, b6, b7, b8, b9, b10, b11, b12, b13, b14, b15, b16, b17, b18, true, b20, v5, v6, v7, v8, v9, v10, v11, v12, v13, v14, v15, v16, v17, v18, v19, v20, v21, .pointer (some ⟨pb, 0, none⟩), .pointer (some ⟨pb, 1, none⟩), rfl, by simp only [List.setIfInBounds_toArray, List.set_cons_zero, List.set_cons_succ, Bool.not_true], { F9 with h19 := fun _ => rfl }⟩
    | 20, ho, hb, hw =>
      obtain rfl : _ = o := Option.some.inj ho
      simp only [List.setIfInBounds_toArray, List.set_cons_zero, List.set_cons_succ]
      obtain rfl := F9.h19 (hw ⟨19, .data⟩ (by simp) rfl)
      have qd := hw ⟨14, .data⟩ (by simp) rfl
      obtain ⟨gr, cr, er, l1, l2⟩ := own_slice (F9.h14 qd)
      subst er
      have y0 := (blk_cell F9.P 1).trans rfl
      have z0 := blk_frozen F9.P 1
      have qe := hw ⟨12, .phase⟩ (by simp) rfl
      go_wp2
      exact ⟨b0, b1, b2, b3, b4, b5, b6, b7, b8, b9, b10, b11, b12, b13, b14, b15, b16, b17, b18, b19, true, v5, v6, v7, v8, v9, v10, v11, v12, v13, v14, v15, v16, v17, v18, .slice (some ⟨gr, 0, none⟩) 1 cr, v20, v21, v22, .pointer (some ⟨pb, 1, none⟩), rfl, by simp only [List.setIfInBounds_toArray, List.set_cons_zero, List.set_cons_succ, Bool.not_true], { F9 with n20 := fun _ => ⟨qe, qd⟩, h7 := fun q => (F9.h7 q).imp (fun _ l => ⟨l.1, l.2.1, blk_far l.2.2 (p := ⟨pb, 1, none⟩) (by have := F9.pl; have := l.2.1; show _ ≠ pb; omega) _⟩), h8 := fun q => own_put (F9.h8 q) F9.pl _, h13 := fun q => (F9.h13 q).imp (fun _ l => ⟨l.1, l.2.1, blk_far l.2.2 (p := ⟨pb, 1, none⟩) (by have := F9.pl; have := l.2.1; show _ ≠ pb; omega) _⟩), h14 := fun q => own_put (F9.h14 q) F9.pl _, P := blk_put F9.P 1 _ rfl, K := kb_set F9.K 1 _ }⟩
    | j + 21, ho, hb, hw => exact absurd ho (by simp)
  · rintro listed a' w' hall ⟨b0, b1, b2, b3, b4, b5, b6, b7, b8, b9, b10, b11, b12, b13, b14, b15, b16, b17, b18, b19, b20, v5, v6, v7, v8, v9, v10, v11, v12, v13, v14, v15, v16, v17, v18, v19, v20, v21, v22, v23, rfl, rfl, F9⟩
    obtain rfl : b0 = true := hall 0 (by decide)
    obtain rfl : b1 = true := hall 1 (by decide)
    obtain rfl : b2 = true := hall 2 (by decide)
    obtain rfl : b3 = true := hall 3 (by decide)
    obtain rfl : b4 = true := hall 4 (by decide)
    obtain rfl : b5 = true := hall 5 (by decide)
    obtain rfl : b6 = true := hall 6 (by decide)
    obtain rfl : b7 = true := hall 7 (by decide)
    obtain rfl : b8 = true := hall 8 (by decide)
    obtain rfl : b9 = true := hall 9 (by decide)
    obtain rfl : b10 = true := hall 10 (by decide)
    obtain rfl : b11 = true := hall 11 (by decide)
    obtain rfl : b12 = true := hall 12 (by decide)
    obtain rfl : b13 = true := hall 13 (by decide)
    obtain rfl : b14 = true := hall 14 (by decide)
    obtain rfl : b15 = true := hall 15 (by decide)
    obtain rfl : b16 = true := hall 16 (by decide)
    obtain rfl : b17 = true := hall 17 (by decide)
    obtain rfl : b18 = true := hall 18 (by decide)
    obtain rfl : b19 = true := hall 19 (by decide)
    obtain rfl : b20 = true := hall 20 (by decide)
    obtain ⟨gr, cr, er, l1, l2⟩ := own_slice (F9.h8 rfl)
    subst er
    have y0 := (blk_cell F9.P 0).trans rfl
    simp only [List.setIfInBounds_toArray, List.set_cons_zero, List.set_cons_succ]
    go_wp2_with fail
    go_ret
    exact ⟨rfl, _, _, F9.P, F9.h8 rfl, F9.h14 rfl, F9.K⟩
end Go.Proofs.Ytelmcnngocklfaa.Need
