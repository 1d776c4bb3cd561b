import Derived.Test.YtelmcnngocklfaaNVar
/-! needs.need, find, bind at what awake has. -/
namespace Go.Proofs.Ytelmcnngocklfaa.Need
set_option linter.unusedVariables false
set_option linter.unusedSimpArgs false
open Go.RowKit Go.Proofs.YtelmcnngocklfaaW.PrintWords Go.Proofs.YtelmcnngocklfaaW.PrintLast Go.Proofs.YtelmcnngocklfaaW.PrintMore
structure NEF (B pb lb lc : Nat) (nm lo pr us : Value) (w w' : World) (b0 b1 b2 b3 b4 b5 b6 b7 b8 b9 b10 b11 b12 b13 b14 b15 b16 b17 b18 : Bool) (v6 v7 v8 v9 v10 v11 v12 v13 v14 v15 v16 v17 v18 v19 v20 v21 v22 v23 : Value) : Prop where
  h0 : b0 = true → v6 = .pointer (some ⟨pb, 0, none⟩)
  h1 : b1 = true → v7 = .pointer (some ⟨pb, 0, none⟩)
  h2 : b2 = true → v8 = .pointer (some ⟨pb, 4, none⟩)
  h3 : b3 = true → v9 = .slice (some ⟨lb, 0, none⟩) 2 lc
  h4 : b4 = true → v10 = .int .i64 0
  h5 : b5 = true → v11 = .int .i64 1
  h6 : b6 = true → v12 = .pointer (some ⟨pb, 0, none⟩)
  h7 : b7 = true → v13 = .pointer (some ⟨pb, 0, none⟩)
  h8 : b8 = true → v14 = .pointer (some ⟨pb, 4, none⟩)
  h9 : b9 = true → v15 = .slice (some ⟨lb, 0, none⟩) 2 lc
  h10 : b10 = true → v16 = .int .i64 0
  h11 : b11 = true → v17 = .int .i64 1
  h12 : b12 = true → v18 = .pointer (some ⟨lb, 1, none⟩)
  h13 : b13 = true → v19 = .slice none 0 0
  h14 : b14 = true → v20 = .int .i64 1
  h17 : b17 = true → v23 = .pointer (some ⟨lb, 1, none⟩)
  h15 : b15 = true → ∃ g, v21 = .slice (some ⟨g, 0, none⟩) 1 1 ∧ w.heap.size ≤ g ∧ w'.heap[g]? = some (.cells #[.int .i64 1] 3 (0, 0))
  h16 : b16 = true → w'.ownsRow w.heap.size 3 1 v22 1 [.int .i64 1]
  L : w'.ownsRow B 29 1 (.slice (some ⟨lb, 0, none⟩) 2 lc) 2 [.slice none 0 0, if b18 = true then v22 else .slice none 0 0]
  P : w'.heap[pb]? = some (.cells #[nm, lo, pr, us, .slice (some ⟨lb, 0, none⟩) 2 lc] 68 (0, 0))
  n18 : b18 = true → b13 = true ∧ b16 = true
  K : KB w w' lb none
  ll : lb < w.heap.size
def NEJ (B pb lb lc : Nat) (nm lo pr us : Value) (w : World) (a0 : Act) (listed : Array Bool) (a' : Act) (w' : World) : Prop :=
  ∃ (b0 b1 b2 b3 b4 b5 b6 b7 b8 b9 b10 b11 b12 b13 b14 b15 b16 b17 b18 : Bool) (v6 v7 v8 v9 v10 v11 v12 v13 v14 v15 v16 v17 v18 v19 v20 v21 v22 v23 : Value), listed = #[b0, b1, b2, b3, b4, b5, b6, b7, b8, b9, b10, b11, b12, b13, b14, b15, b16, b17, b18] ∧ a' = { a0 with tmps := (((((((((((((((((a0.tmps.setIfInBounds 6 v6).setIfInBounds 7 v7).setIfInBounds 8 v8).setIfInBounds 9 v9).setIfInBounds 10 v10).setIfInBounds 11 v11).setIfInBounds 12 v12).setIfInBounds 13 v13).setIfInBounds 14 v14).setIfInBounds 15 v15).setIfInBounds 16 v16).setIfInBounds 17 v17).setIfInBounds 18 v18).setIfInBounds 19 v19).setIfInBounds 20 v20).setIfInBounds 21 v21).setIfInBounds 22 v22).setIfInBounds 23 v23 } ∧ NEF B pb lb lc nm lo pr us w w' b0 b1 b2 b3 b4 b5 b6 b7 b8 b9 b10 b11 b12 b13 b14 b15 b16 b17 b18 v6 v7 v8 v9 v10 v11 v12 v13 v14 v15 v16 v17 v18 v19 v20 v21 v22 v23
theorem NE_self (a : Act) : a = { a with tmps := (((((((((((((((((a.tmps.setIfInBounds 6 (a.tmps.getD 6 undef)).setIfInBounds 7 (a.tmps.getD 7 undef)).setIfInBounds 8 (a.tmps.getD 8 undef)).setIfInBounds 9 (a.tmps.getD 9 undef)).setIfInBounds 10 (a.tmps.getD 10 undef)).setIfInBounds 11 (a.tmps.getD 11 undef)).setIfInBounds 12 (a.tmps.getD 12 undef)).setIfInBounds 13 (a.tmps.getD 13 undef)).setIfInBounds 14 (a.tmps.getD 14 undef)).setIfInBounds 15 (a.tmps.getD 15 undef)).setIfInBounds 16 (a.tmps.getD 16 undef)).setIfInBounds 17 (a.tmps.getD 17 undef)).setIfInBounds 18 (a.tmps.getD 18 undef)).setIfInBounds 19 (a.tmps.getD 19 undef)).setIfInBounds 20 (a.tmps.getD 20 undef)).setIfInBounds 21 (a.tmps.getD 21 undef)).setIfInBounds 22 (a.tmps.getD 22 undef)).setIfInBounds 23 (a.tmps.getD 23 undef) } := by
  simp only [set_self]
set_option maxHeartbeats 4000000 in
set_option maxRecDepth 100000 in
theorem need_walk (w : World) (B pb lb lc : Nat) (nm lo pr us : Value) (hp : w.heap[pb]? = some (.cells #[nm, lo, pr, us, .slice (some ⟨lb, 0, none⟩) 2 lc] 68 (0, 0))) (hl : w.ownsRow B 29 1 (.slice (some ⟨lb, 0, none⟩) 2 lc) 2 [.slice none 0 0, .slice none 0 0]) :
    Calls Try.prog 57 #[.pointer (some ⟨pb, 0, none⟩), .int .i64 0, .int .i64 1] w (fun e w' => (∃ r, e = .returned r) ∧ ∃ v, w'.ownsRow w.heap.size 3 1 v 1 [.int .i64 1] ∧ w'.ownsRow B 29 1 (.slice (some ⟨lb, 0, none⟩) 2 lc) 2 [.slice none 0 0, v] ∧ KB w w' lb none) := by
  have HP := Aside0.mk hp
  have HL := Aside0.mk hl
  have hc : ((2 : Nat) : Int) = 2 := rfl
  clear hp hl
  go_enter Try.func57, Try.ntmps57
  (try simp only [Act.put, List.setIfInBounds_toArray, List.set_cons_zero, List.set_cons_succ])
  go_upto_region 0 with fail
  refine RegInv.wp_region_inv' rfl (by kernel_rfl) (NEJ B pb lb lc nm lo pr us w) ?_ ?_ ?_
  · refine ⟨false, false, false, false, false, false, false, false, false, false, false, false, false, false, false, false, false, false, false, _, _, _, _, _, _, _, _, _, _, _, _, _, _, _, _, _, _, rfl, NE_self _, ?_⟩
    exact ⟨fun h => (by cases h), fun h => (by cases h), fun h => (by cases h), fun h => (by cases h), fun h => (by cases h), fun h => (by cases h), fun h => (by cases h), fun h => (by cases h), fun h => (by cases h), fun h => (by cases h), fun h => (by cases h), fun h => (by cases h), fun h => (by cases h), fun h => (by cases h), fun h => (by cases h), fun h => (by cases h), fun h => (by cases h), fun h => (by cases h), HL.out, HP.out, fun h => (by cases h), KB.start _ _ _ _, (HL.out.lt lb rfl).2⟩
  · skip
    rintro listed a' w' i o ho hz hb hw ⟨b0, b1, b2, b3, b4, b5, b6, b7, b8, b9, b10, b11, b12, b13, b14, b15, b16, b17, b18, v6, v7, v8, v9, v10, v11, v12, v13, v14, v15, v16, v17, v18, v19, v20, v21, v22, v23, rfl, rfl, F9⟩
    match i, ho, hb, hw with
    | 0, ho, hb, hw =>
      obtain rfl : _ = o := Option.some.inj ho
      simp only [List.setIfInBounds_toArray, List.set_cons_zero, List.set_cons_succ]
      go_wp2
      exact ⟨true, b1, b2, b3, b4, b5, b6, b7, b8, b9, b10, b11, b12, b13, b14, b15, b16, b17, b18, .pointer (some ⟨pb, 0, none⟩), v7, v8, v9, v10, v11, v12, v13, v14, v15, v16, v17, v18, v19, v20, v21, v22, v23, rfl, by simp only [List.setIfInBounds_toArray, List.set_cons_zero, List.set_cons_succ, Bool.not_true], { F9 with h0 := fun _ => rfl }⟩
    | 1, ho, hb, hw =>
      obtain rfl : _ = o := Option.some.inj ho
      simp only [List.setIfInBounds_toArray, List.set_cons_zero, List.set_cons_succ]
      obtain rfl := F9.h0 (hw ⟨0, .data⟩ (by simp) rfl)
      go_wp2
      exact ⟨b0, true, b2, b3, b4, b5, b6, b7, b8, b9, b10, b11, b12, b13, b14, b15, b16, b17, b18, .pointer (some ⟨pb, 0, none⟩), .pointer (some ⟨pb, 0, none⟩), v8, v9, v10, v11, v12, v13, v14, v15, v16, v17, v18, v19, v20, v21, v22, v23, rfl, by simp only [List.setIfInBounds_toArray, List.set_cons_zero, List.set_cons_succ, Bool.not_true], { F9 with h1 := fun _ => rfl }⟩
    | 2, ho, hb, hw =>
      obtain rfl : _ = o := Option.some.inj ho
      simp only [List.setIfInBounds_toArray, List.set_cons_zero, List.set_cons_succ]
      obtain rfl := F9.h1 (hw ⟨1, .data⟩ (by simp) rfl)
      go_wp2
      exact ⟨b0, b1, true, b3, b4, b5, b6, b7, b8, b9, b10, b11, b12, b13, b14, b15, b16, b17, b18, v6, .pointer (some ⟨pb, 0, none⟩), .pointer (some ⟨pb, 4, none⟩), v9, v10, v11, v12, v13, v14, v15, v16, v17, v18, v19, v20, v21, v22, v23, rfl, by simp only [List.setIfInBounds_toArray, List.set_cons_zero, List.set_cons_succ, Bool.not_true], { F9 with h2 := fun _ => rfl }⟩
    | 3, ho, hb, hw =>
      obtain rfl : _ = o := Option.some.inj ho
      simp only [List.setIfInBounds_toArray, List.set_cons_zero, List.set_cons_succ]
      obtain rfl := F9.h2 (hw ⟨2, .data⟩ (by simp) rfl)
      have y0 := (blk_cell F9.P 4).trans rfl
      go_wp2
      exact ⟨b0, b1, b2, true, b4, b5, b6, b7, b8, b9, b10, b11, b12, b13, b14, b15, b16, b17, b18, v6, v7, .pointer (some ⟨pb, 4, none⟩), .slice (some ⟨lb, 0, none⟩) 2 lc, v10, v11, v12, v13, v14, v15, v16, v17, v18, v19, v20, v21, v22, v23, rfl, by simp only [List.setIfInBounds_toArray, List.set_cons_zero, List.set_cons_succ, Bool.not_true], { F9 with h3 := fun _ => rfl }⟩
    | 4, ho, hb, hw =>
      obtain rfl : _ = o := Option.some.inj ho
      simp only [List.setIfInBounds_toArray, List.set_cons_zero, List.set_cons_succ]
      go_wp2
      exact ⟨b0, b1, b2, b3, true, b5, b6, b7, b8, b9, b10, b11, b12, b13, b14, b15, b16, b17, b18, v6, v7, v8, v9, .int .i64 0, v11, v12, v13, v14, v15, v16, v17, v18, v19, v20, v21, v22, v23, rfl, by simp only [List.setIfInBounds_toArray, List.set_cons_zero, List.set_cons_succ, Bool.not_true], { F9 with h4 := fun _ => rfl }⟩
    | 5, ho, hb, hw =>
      obtain rfl : _ = o := Option.some.inj ho
      simp only [List.setIfInBounds_toArray, List.set_cons_zero, List.set_cons_succ]
      obtain rfl := F9.h4 (hw ⟨4, .data⟩ (by simp) rfl)
      go_wp2
      exact ⟨b0, b1, b2, b3, b4, true, b6, b7, b8, b9, b10, b11, b12, b13, b14, b15, b16, b17, b18, v6, v7, v8, v9, .int .i64 0, .int .i64 1, v12, v13, v14, v15, v16, v17, v18, v19, v20, v21, v22, v23, rfl, by simp only [List.setIfInBounds_toArray, List.set_cons_zero, List.set_cons_succ, Bool.not_true], { F9 with h5 := fun _ => rfl }⟩
    | 6, ho, hb, hw =>
      obtain rfl : _ = o := Option.some.inj ho
      simp only [List.setIfInBounds_toArray, List.set_cons_zero, List.set_cons_succ]
      go_wp2
      exact ⟨b0, b1, b2, b3, b4, b5, true, b7, b8, b9, b10, b11, b12, b13, b14, b15, b16, b17, b18, v6, v7, v8, v9, v10, v11, .pointer (some ⟨pb, 0, none⟩), v13, v14, v15, v16, v17, v18, v19, v20, v21, v22, v23, rfl, by simp only [List.setIfInBounds_toArray, List.set_cons_zero, List.set_cons_succ, Bool.not_true], { F9 with h6 := fun _ => rfl }⟩
    | 7, ho, hb, hw =>
      obtain rfl : _ = o := Option.some.inj ho
      simp only [List.setIfInBounds_toArray, List.set_cons_zero, List.set_cons_succ]
      obtain rfl := F9.h6 (hw ⟨6, .data⟩ (by simp) rfl)
      go_wp2
      exact ⟨b0, b1, b2, b3, b4, b5, b6, true, b8, b9, b10, b11, b12, b13, b14, b15, b16, b17, b18, v6, v7, v8, v9, v10, v11, .pointer (some ⟨pb, 0, none⟩), .pointer (some ⟨pb, 0, none⟩), v14, v15, v16, v17, v18, v19, v20, v21, v22, v23, rfl, by simp only [List.setIfInBounds_toArray, List.set_cons_zero, List.set_cons_succ, Bool.not_true], { F9 with h7 := fun _ => rfl }⟩
    | 8, ho, hb, hw =>
      obtain rfl : _ = o := Option.some.inj ho
      simp only [List.setIfInBounds_toArray, List.set_cons_zero, List.set_cons_succ]
      obtain rfl := F9.h7 (hw ⟨7, .data⟩ (by simp) rfl)
      go_wp2
      exact ⟨b0, b1, b2, b3, b4, b5, b6, b7, true, b9, b10, b11, b12, b13, b14, b15, b16, b17, b18, v6, v7, v8, v9, v10, v11, v12, .pointer (some ⟨pb, 0, none⟩), .pointer (some ⟨pb, 4, none⟩), v15, v16, v17, v18, v19, v20, v21, v22, v23, rfl, by simp only [List.setIfInBounds_toArray, List.set_cons_zero, List.set_cons_succ, Bool.not_true], { F9 with h8 := fun _ => rfl }⟩
    | 9, ho, hb, hw =>
      obtain rfl : _ = o := Option.some.inj ho
      simp only [List.setIfInBounds_toArray, List.set_cons_zero, List.set_cons_succ]
      obtain rfl := F9.h8 (hw ⟨8, .data⟩ (by simp) rfl)
      have y0 := (blk_cell F9.P 4).trans rfl
      go_wp2
      exact ⟨b0, b1, b2, b3, b4, b5, b6, b7, b8, true, b10, b11, b12, b13, b14, b15, b16, b17, b18, v6, v7, v8, v9, v10, v11, v12, v13, .pointer (some ⟨pb, 4, none⟩), .slice (some ⟨lb, 0, none⟩) 2 lc, v16, v17, v18, v19, v20, v21, v22, v23, rfl, by simp only [List.setIfInBounds_toArray, List.set_cons_zero, List.set_cons_succ, Bool.not_true], { F9 with h9 := fun _ => rfl }⟩
    | 10, ho, hb, hw =>
      obtain rfl : _ = o := Option.some.inj ho
      simp only [List.setIfInBounds_toArray, List.set_cons_zero, List.set_cons_succ]
      go_wp2
      exact ⟨b0, b1, b2, b3, b4, b5, b6, b7, b8, b9, true, b11, b12, b13, b14, b15, b16, b17, b18, v6, v7, v8, v9, v10, v11, v12, v13, v14, v15, .int .i64 0, v17, v18, v19, v20, v21, v22, v23, rfl, by simp only [List.setIfInBounds_toArray, List.set_cons_zero, List.set_cons_succ, Bool.not_true], { F9 with h10 := fun _ => rfl }⟩
    | 11, ho, hb, hw =>
      obtain rfl : _ = o := Option.some.inj ho
      simp only [List.setIfInBounds_toArray, List.set_cons_zero, List.set_cons_succ]
      obtain rfl := F9.h10 (hw ⟨10, .data⟩ (by simp) rfl)
      go_wp2
      exact ⟨b0, b1, b2, b3, b4, b5, b6, b7, b8, b9, b10, true, b12, b13, b14, b15, b16, b17, b18, v6, v7, v8, v9, v10, v11, v12, v13, v14, v15, .int .i64 0, .int .i64 1, v18, v19, v20, v21, v22, v23, rfl, by simp only [List.setIfInBounds_toArray, List.set_cons_zero, List.set_cons_succ, Bool.not_true], { F9 with h11 := fun _ => rfl }⟩
    | 12, ho, hb, hw =>
      obtain rfl : _ = o := Option.some.inj ho
      simp only [List.setIfInBounds_toArray, List.set_cons_zero, List.set_cons_succ]
      obtain rfl := F9.h9 (hw ⟨9, .data⟩ (by simp) rfl)
      obtain rfl := F9.h11 (hw ⟨11, .data⟩ (by simp) rfl)
      go_wp2
      exact ⟨b0, b1, b2, b3, b4, b5, b6, b7, b8, b9, b10, b11, true, b13, b14, b15, b16, b17, b18, v6, v7, v8, v9, v10, v11, v12, v13, v14, .slice (some ⟨lb, 0, none⟩) 2 lc, v16, .int .i64 1, .pointer (some ⟨lb, 1, none⟩), v19, v20, v21, v22, v23, rfl, by simp only [List.setIfInBounds_toArray, List.set_cons_zero, List.set_cons_succ, Bool.not_true], { F9 with h12 := fun _ => rfl }⟩
    | 13, ho, hb, hw =>
      obtain rfl : _ = o := Option.some.inj ho
      simp only [List.setIfInBounds_toArray, List.set_cons_zero, List.set_cons_succ]
      obtain rfl := F9.h12 (hw ⟨12, .data⟩ (by simp) rfl)
      obtain rfl : b13 = false := hb
      have q18 : b18 = false := by cases e : b18 <;> first | rfl | exact absurd (F9.n18 e).1 (by decide)
      subst q18
      have y0 := (F9.L.cellAt 1 (by decide)).trans rfl
      go_wp2
      exact ⟨b0, b1, b2, b3, b4, b5, b6, b7, b8, b9, b10, b11, b12, true, b14, b15, b16, b17, false, v6, v7, v8, v9, v10, v11, v12, v13, v14, v15, v16, v17, .pointer (some ⟨lb, 1, none⟩), .slice none 0 0, v20, v21, v22, v23, rfl, by simp only [List.setIfInBounds_toArray, List.set_cons_zero, List.set_cons_succ, Bool.not_true], { F9 with n18 := fun e => absurd e (by decide), h13 := fun _ => rfl }⟩
    | 14, ho, hb, hw =>
      obtain rfl : _ = o := Option.some.inj ho
      simp only [List.setIfInBounds_toArray, List.set_cons_zero, List.set_cons_succ]
      go_wp2
      exact ⟨b0, b1, b2, b3, b4, b5, b6, b7, b8, b9, b10, b11, b12, b13, true, b15, b16, b17, b18, v6, v7, v8, v9, v10, v11, v12, v13, v14, v15, v16, v17, v18, v19, .int .i64 1, v21, v22, v23, rfl, by simp only [List.setIfInBounds_toArray, List.set_cons_zero, List.set_cons_succ, Bool.not_true], { F9 with h14 := fun _ => rfl }⟩
    | 15, ho, hb, hw =>
      obtain rfl : _ = o := Option.some.inj ho
      simp only [List.setIfInBounds_toArray, List.set_cons_zero, List.set_cons_succ]
      obtain rfl := F9.h14 (hw ⟨14, .data⟩ (by simp) rfl)
      have hbb := below_alloc (Below.refl w'.heap.size w') (.cells #[.int .i64 1] 3 (0, 0))
      have hsz := F9.K.1
      go_wp2
      exact ⟨b0, b1, b2, b3, b4, b5, b6, b7, b8, b9, b10, b11, b12, b13, b14, true, b16, b17, b18, v6, v7, v8, v9, v10, v11, v12, v13, v14, v15, v16, v17, v18, v19, .int .i64 1, .slice (some ⟨w'.heap.size, 0, none⟩) 1 1, v22, v23, rfl, by simp only [List.setIfInBounds_toArray, List.set_cons_zero, List.set_cons_succ, Bool.not_true], { F9 with h15 := fun _ => ⟨_, rfl, hsz, blk_new _ _⟩, h16 := fun q => own_below (F9.h16 q) hbb, L := own_below F9.L hbb, P := blk_below F9.P hbb, K := KB.trans F9.K (KB.of_below hbb lb none) (.inl rfl) }⟩
    | 16, ho, hb, hw =>
      obtain rfl : _ = o := Option.some.inj ho
      simp only [List.setIfInBounds_toArray, List.set_cons_zero, List.set_cons_succ]
      obtain rfl := F9.h13 (hw ⟨13, .data⟩ (by simp) rfl)
      obtain rfl : b16 = false := hb
      have q18 : b18 = false := by cases e : b18 <;> first | rfl | exact absurd (F9.n18 e).2 (by decide)
      subst q18
      obtain ⟨gx, rfl, lx, kx⟩ := F9.h15 (hw ⟨15, .data⟩ (by simp) rfl)
      have hsz := F9.K.1
      refine app_nil w' rfl (.tmp 19) (.tmp 21) 29 3 1 8 (.int .i64 0) rfl Try.underlying29 inf3 rfl (by decide) rfl gx [.int .i64 1] rfl rfl kx (by intro u hu; rw [List.mem_singleton] at hu; subst hu; rfl) (by decide) 22 rfl ?_
      intro v' w2 hr hbb
      simp only [List.setIfInBounds_toArray, List.set_cons_zero, List.set_cons_succ]
      go_wp2
      exact ⟨b0, b1, b2, b3, b4, b5, b6, b7, b8, b9, b10, b11, b12, b13, b14, b15, true, b17, false, v6, v7, v8, v9, v10, v11, v12, v13, v14, v15, v16, v17, v18, .slice none 0 0, v20, .slice (some ⟨gx, 0, none⟩) 1 1, v', v23, rfl, by simp only [List.setIfInBounds_toArray, List.set_cons_zero, List.set_cons_succ, Bool.not_true], { F9 with n18 := fun e => absurd e (by decide), h16 := fun _ => own_weak hr hsz, h15 := fun q => (F9.h15 q).imp (fun _ l => ⟨l.1, l.2.1, blk_below l.2.2 hbb⟩), L := own_below F9.L hbb, P := blk_below F9.P hbb, K := KB.trans F9.K (KB.of_below hbb lb none) (.inl rfl) }⟩
    | 17, ho, hb, hw =>
      obtain rfl : _ = o := Option.some.inj ho
      simp only [List.setIfInBounds_toArray, List.set_cons_zero, List.set_cons_succ]
      obtain rfl := F9.h3 (hw ⟨3, .data⟩ (by simp) rfl)
      obtain rfl := F9.h5 (hw ⟨5, .data⟩ (by simp) rfl)
      go_wp2
      exact ⟨b0, b1, b2, b3, b4, b5, b6, b7, b8, b9, b10, b11, b12, b13, b14, b15, b16, true, b18, v6, v7, v8, .slice (some ⟨lb, 0, none⟩) 2 lc, v10, .int .i64 1, v12, v13, v14, v15, v16, v17, v18, v19, v20, v21, v22, .pointer (some ⟨lb, 1, none⟩), rfl, by simp only [List.setIfInBounds_toArray, List.set_cons_zero, List.set_cons_succ, Bool.not_true], { F9 with h17 := fun _ => rfl }⟩
    | 18, ho, hb, hw =>
      obtain rfl : _ = o := Option.some.inj ho
      simp only [List.setIfInBounds_toArray, List.set_cons_zero, List.set_cons_succ]
      obtain rfl := F9.h17 (hw ⟨17, .data⟩ (by simp) rfl)
      have qd := hw ⟨16, .data⟩ (by simp) rfl
      obtain ⟨gr, cr, er, l1, l2⟩ := own_slice (F9.h16 qd)
      subst er
      have y0 : ∃ u, w'.cell? ⟨lb, 1, none⟩ = some u := ⟨_, (F9.L.cellAt 1 (by decide)).trans rfl⟩
      obtain ⟨u0, y0⟩ := y0
      have z0 := F9.L.frozenAt 1
      have qe := hw ⟨13, .phase⟩ (by simp) rfl
      have hlp : pb ≠ lb := fun e => own_apart F9.L F9.P (by decide) (by rw [e]; rfl)
      go_wp2
      exact ⟨b0, b1, b2, b3, b4, b5, b6, b7, b8, b9, b10, b11, b12, b13, b14, b15, b16, b17, true, v6, v7, v8, v9, v10, v11, v12, v13, v14, v15, v16, v17, v18, v19, v20, v21, .slice (some ⟨gr, 0, none⟩) 1 cr, .pointer (some ⟨lb, 1, none⟩), rfl, by simp only [List.setIfInBounds_toArray, List.set_cons_zero, List.set_cons_succ, Bool.not_true], { F9 with n18 := fun _ => ⟨qe, qd⟩, h15 := fun q => (F9.h15 q).imp (fun _ l => ⟨l.1, l.2.1, blk_far l.2.2 (p := ⟨lb, 1, none⟩) (by have := F9.ll; have := l.2.1; show _ ≠ lb; omega) _⟩), h16 := fun q => own_put (F9.h16 q) F9.ll _, P := blk_far F9.P (p := ⟨lb, 1, none⟩) hlp _, L := (F9.L.stored 1 _).1, K := kb_set F9.K 1 _ }⟩
    | j + 19, ho, hb, hw => exact absurd ho (by simp)
  · rintro listed a' w' hall ⟨b0, b1, b2, b3, b4, b5, b6, b7, b8, b9, b10, b11, b12, b13, b14, b15, b16, b17, b18, v6, v7, v8, v9, v10, v11, v12, v13, v14, v15, v16, v17, v18, v19, v20, v21, v22, v23, rfl, rfl, F9⟩
    obtain rfl : b0 = true := hall 0 (by decide)
    obtain rfl : b1 = true := hall 1 (by decide)
    obtain rfl : b2 = true := hall 2 (by decide)
    obtain rfl : b3 = true := hall 3 (by decide)
    obtain rfl : b4 = true := hall 4 (by decide)
    obtain rfl : b5 = true := hall 5 (by decide)
    obtain rfl : b6 = true := hall 6 (by decide)
    obtain rfl : b7 = true := hall 7 (by decide)
    obtain rfl : b8 = true := hall 8 (by decide)
    obtain rfl : b9 = true := hall 9 (by decide)
    obtain rfl : b10 = true := hall 10 (by decide)
    obtain rfl : b11 = true := hall 11 (by decide)
    obtain rfl : b12 = true := hall 12 (by decide)
    obtain rfl : b13 = true := hall 13 (by decide)
    obtain rfl : b14 = true := hall 14 (by decide)
    obtain rfl : b15 = true := hall 15 (by decide)
    obtain rfl : b16 = true := hall 16 (by decide)
    obtain rfl : b17 = true := hall 17 (by decide)
    obtain rfl : b18 = true := hall 18 (by decide)
    simp only [List.setIfInBounds_toArray, List.set_cons_zero, List.set_cons_succ]
    go_wp2_with fail
    go_end0
    exact ⟨⟨_, rfl⟩, _, F9.h16 rfl, F9.L, F9.K⟩
set_option maxHeartbeats 400000 in
theorem find_walk (w : World) (p m : Value) (sb : Nat) (d : ByteArray) (h : w.heap[sb]? = some (.cells #[.pointer none, .string d, .int .i64 0] 111 (0, 0))) :
    Calls Try.prog 55 #[p, .pointer (some ⟨sb, 0, none⟩), m, .string d] w (fun e w' => e = .returned (.int .i64 0) ∧ Below w.heap.size w w') := by
  have x1 := (blk_cell h 1).trans rfl
  have x2 := (blk_cell h 2).trans rfl
  clear h
  go_enter Try.func55, Try.ntmps55
  go_wp2_with fail
  go_loopg [1] 1 (fun kq v1 wx => v1 = .pointer (some ⟨sb, 0, none⟩) ∧ wx = w)
  case atStart => exact ⟨rfl, rfl⟩
  case round =>
    obtain ⟨rfl, rfl⟩ := hrel
    go_wp2_with fail
    go_ret
    exact ⟨rfl, Below.refl _ _⟩
theorem one_str {w : World} {A : Option Addr} {d : ByteArray} (h : Kd.C Kd.string w A 1 [d]) : ∃ ad, A = some ad ∧ w.cell? ad = some (.string d) := by
  obtain ⟨ad, rfl, hc⟩ := Kd.at_string h 0 (by decide) (by decide)
  refine ⟨ad, rfl, ?_⟩
  have e : ad.add (0 : Int).toNat = ad := by simp [Addr.add]
  rw [e] at hc
  exact hc
theorem bind_nil (w : World) (p s : Value) (A : Option Addr) (c : Nat) :
    Calls Try.prog 56 #[p, s, .slice A 0 c] w (fun e w' => e = .returned s ∧ Below w.heap.size w w') := by
  go_enter Try.func56, Try.ntmps56
  go_wp2_with fail
  go_loopg [1, 11] 1 (fun kq v1 v11 wx => v1 = s ∧ v11 = .int .i64 0 ∧ wx = w)
  case atStart => exact ⟨rfl, rfl, rfl⟩
  case round =>
    obtain ⟨rfl, rfl, rfl⟩ := hrel
    go_wp2_with fail
    go_ret
    exact ⟨rfl, Below.refl _ _⟩
set_option maxHeartbeats 2000000 in
theorem bind_walk (w : World) (pb : Nat) (ad : Addr) (c : Nat) (d : ByteArray) (c2 c3 c4 : Value) (hp : w.heap[pb]? = some (.cells #[.slice none 0 0, .slice none 0 0, c2, c3, c4] 68 (0, 0))) (hd : w.cell? ad = some (.string d)) :
    Calls Try.prog 56 #[.pointer (some ⟨pb, 0, none⟩), .pointer none, .slice (some ad) 1 c] w (fun e w' => ∃ sb, e = .returned (.pointer (some ⟨sb, 0, none⟩)) ∧ w.heap.size ≤ sb ∧ w'.heap[sb]? = some (.cells #[.pointer none, .string d, .int .i64 0] 111 (0, 0)) ∧ ∃ nm lo, w'.heap[pb]? = some (.cells #[nm, lo, c2, c3, c4] 68 (0, 0)) ∧ w'.ownsRow w.heap.size 9 1 nm 1 [.string d] ∧ w'.ownsRow w.heap.size 4 1 lo 1 [.bool false] ∧ KB w w' pb none) := by
  have HP := Aside0.mk hp
  clear hp
  go_enter Try.func56, Try.ntmps56
  go_wp2_with fail
  go_loopg [1, 11] 2 (fun kq v1 v11 wx => (kq = 2 ∧ v11 = .int .i64 0 ∧ v1 = .pointer none ∧ wx = w) ∨ (v11 = .int .i64 1 ∧ ∃ sb, v1 = .pointer (some ⟨sb, 0, none⟩) ∧ w.heap.size ≤ sb ∧ Aside0 (wx.heap[sb]? = some (.cells #[.pointer none, .string d, .int .i64 0] 111 (0, 0))) ∧ ∃ nm lo, Aside0 (wx.heap[pb]? = some (.cells #[nm, lo, c2, c3, c4] 68 (0, 0))) ∧ Aside0 (wx.ownsRow w.heap.size 9 1 nm 1 [.string d]) ∧ Aside0 (wx.ownsRow w.heap.size 4 1 lo 1 [.bool false]) ∧ Aside0 (KB w wx pb none)))
  case atStart => exact .inl ⟨rfl, rfl, rfl, rfl⟩
  case round =>
    rcases hrel with ⟨rfl, rfl, rfl, rfl⟩ | ⟨rfl, sb, rfl, hsb, HS, nm, lo, H1, H2, H3, HK⟩
    · go_wp2_with (go_at_call 69; go_loud ((refine (variable_walk _ pb d c2 c3 c4 HP.out).mono ?_); rintro e w2 ⟨rfl, nm, lo, h1, h2, h3, hk⟩; have H1 := Aside0.mk h1; have H2 := Aside0.mk h2; have H3 := Aside0.mk h3; have HK := Aside0.mk hk; clear h1 h2 h3 hk))
      go_roundg 1
      case measure => omega
      case rel => exact .inr ⟨rfl, _, rfl, HK.out.1, ⟨blk_new _ _⟩, nm, lo, ⟨blk_alloc H1.out _⟩, ⟨own_below H2.out (below_alloc (Below.refl _ _) _)⟩, ⟨own_below H3.out (below_alloc (Below.refl _ _) _)⟩, ⟨KB.trans HK.out (KB.of_below (below_alloc (Below.refl _ _) _) pb none) (.inl rfl)⟩⟩
    · go_wp2_with fail
      go_ret
      exact ⟨sb, rfl, hsb, HS.out, nm, lo, H1.out, H2.out, H3.out, HK.out⟩
end Go.Proofs.Ytelmcnngocklfaa.Need
