import Derived.Test.YtelmcnngocklfaaNNeed
/-! look's closure 'see'. -/
namespace Go.Proofs.Ytelmcnngocklfaa.Need
set_option linter.unusedVariables false
set_option linter.unusedSimpArgs false
open Go.RowKit Go.Proofs.YtelmcnngocklfaaW.PrintWords Go.Proofs.YtelmcnngocklfaaW.PrintLast Go.Proofs.YtelmcnngocklfaaW.PrintMore
theorem blk_keep {w w' : World} {g p : Nat} {o : Obj} (h : w.heap[g]? = some o) (hk : KB w w' p none) (hne : g ≠ p) : w'.heap[g]? = some o := (hk.2 g (blk_lt h) hne (by simp)).trans h
theorem blk_apart {w : World} {g g' : Nat} {t t' : TypeId} {cs cs' : Array Value} (h : w.heap[g]? = some (.cells cs t (0, 0))) (h' : w.heap[g']? = some (.cells cs' t' (0, 0))) (hne : t ≠ t') : g ≠ g' := by
  rintro rfl
  rw [h] at h'
  injection h' with h'
  injection h' with _ h2 _
  exact hne h2
theorem see_nil (w : World) (a0 a1 : Value) (A : Option Addr) (c : Nat) (f3 f4 f5 f6 : Value) :
    Calls Try.prog 54 #[a0, a1, .slice A 0 c, f3, f4, f5, f6] w (fun e w' => (∃ r, e = .returned r) ∧ Below w.heap.size w w') := by
  go_enter Try.func54, Try.ntmps54
  go_wp2_with fail
  go_loopg [14] 1 (fun kq v14 wx => v14 = .int .i64 0 ∧ w = wx)
  case atStart => exact ⟨rfl, rfl⟩
  case round =>
    obtain ⟨rfl, rfl⟩ := hrel
    go_wp2_with fail
    go_end0
    exact ⟨⟨_, rfl⟩, Below.refl _ _⟩
structure SEF (pb sb g3 g4 g5 g6 : Nat) (m : Value) (ow k : Int) (cl : Bool) (d : ByteArray) (nm lo pr la : Value) (w w' : World) (b0 b1 b2 b3 b4 b5 b6 b7 b8 b9 b10 b11 b12 b13 b14 b15 b16 b17 b18 : Bool) (v18 v19 v20 v21 v22 v23 v24 v25 v26 v27 v28 v29 v30 v31 v32 v33 v34 v35 : Value) : Prop where
  h0 : b0 = true → v18 = .pointer (some ⟨pb, 0, none⟩)
  h1 : b1 = true → v19 = .pointer (some ⟨pb, 0, none⟩)
  h2 : b2 = true → v20 = .pointer (some ⟨pb, 0, none⟩)
  h3 : b3 = true → v21 = .pointer (some ⟨pb, 3, none⟩)
  h4 : b4 = true → v22 = .slice none 0 0
  h5 : b5 = true → v23 = .pointer (some ⟨pb, 0, none⟩)
  h6 : b6 = true → v24 = .pointer (some ⟨sb, 0, none⟩)
  h7 : b7 = true → v25 = m
  h8 : b8 = true → v26 = .string d
  h9 : b9 = true → v27 = .int .i64 0
  h10 : b10 = true → v28 = .int .i64 ow
  h11 : b11 = true → v29 = .int .i64 k
  h12 : b12 = true → v30 = .bool cl
  h13 : b13 = true → v31 = .agg #[.int .i64 0, .int .i64 ow, .int .i64 k, .bool cl]
  h16 : b16 = true → v34 = .pointer (some ⟨pb, 0, none⟩)
  h17 : b17 = true → v35 = .pointer (some ⟨pb, 3, none⟩)
  h14 : b14 = true → ∃ g, v32 = .slice (some ⟨g, 0, none⟩) 1 1 ∧ w.heap.size ≤ g ∧ w'.heap[g]? = some (.cells #[.int .i64 0, .int .i64 ow, .int .i64 k, .bool cl] 88 (0, 0))
  h15 : b15 = true → w'.ownsRow w.heap.size 88 4 v33 1 [.int .i64 0, .int .i64 ow, .int .i64 k, .bool cl]
  P : w'.heap[pb]? = some (.cells #[nm, lo, pr, if b18 = true then v33 else .slice none 0 0, la] 68 (0, 0))
  n18 : b18 = true → b4 = true ∧ b15 = true
  K : KB w w' pb none
  pl : pb < w.heap.size
def SEJ (pb sb g3 g4 g5 g6 : Nat) (m : Value) (ow k : Int) (cl : Bool) (d : ByteArray) (nm lo pr la : Value) (w : World) (a0 : Act) (listed : Array Bool) (a' : Act) (w' : World) : Prop :=
  ∃ (b0 b1 b2 b3 b4 b5 b6 b7 b8 b9 b10 b11 b12 b13 b14 b15 b16 b17 b18 : Bool) (v18 v19 v20 v21 v22 v23 v24 v25 v26 v27 v28 v29 v30 v31 v32 v33 v34 v35 : Value), listed = #[b0, b1, b2, b3, b4, b5, b6, b7, b8, b9, b10, b11, b12, b13, b14, b15, b16, b17, b18] ∧ a' = { a0 with tmps := (((((((((((((((((a0.tmps.setIfInBounds 18 v18).setIfInBounds 19 v19).setIfInBounds 20 v20).setIfInBounds 21 v21).setIfInBounds 22 v22).setIfInBounds 23 v23).setIfInBounds 24 v24).setIfInBounds 25 v25).setIfInBounds 26 v26).setIfInBounds 27 v27).setIfInBounds 28 v28).setIfInBounds 29 v29).setIfInBounds 30 v30).setIfInBounds 31 v31).setIfInBounds 32 v32).setIfInBounds 33 v33).setIfInBounds 34 v34).setIfInBounds 35 v35 } ∧ SEF pb sb g3 g4 g5 g6 m ow k cl d nm lo pr la w w' b0 b1 b2 b3 b4 b5 b6 b7 b8 b9 b10 b11 b12 b13 b14 b15 b16 b17 b18 v18 v19 v20 v21 v22 v23 v24 v25 v26 v27 v28 v29 v30 v31 v32 v33 v34 v35
theorem SE_self (a : Act) : a = { a with tmps := (((((((((((((((((a.tmps.setIfInBounds 18 (a.tmps.getD 18 undef)).setIfInBounds 19 (a.tmps.getD 19 undef)).setIfInBounds 20 (a.tmps.getD 20 undef)).setIfInBounds 21 (a.tmps.getD 21 undef)).setIfInBounds 22 (a.tmps.getD 22 undef)).setIfInBounds 23 (a.tmps.getD 23 undef)).setIfInBounds 24 (a.tmps.getD 24 undef)).setIfInBounds 25 (a.tmps.getD 25 undef)).setIfInBounds 26 (a.tmps.getD 26 undef)).setIfInBounds 27 (a.tmps.getD 27 undef)).setIfInBounds 28 (a.tmps.getD 28 undef)).setIfInBounds 29 (a.tmps.getD 29 undef)).setIfInBounds 30 (a.tmps.getD 30 undef)).setIfInBounds 31 (a.tmps.getD 31 undef)).setIfInBounds 32 (a.tmps.getD 32 undef)).setIfInBounds 33 (a.tmps.getD 33 undef)).setIfInBounds 34 (a.tmps.getD 34 undef)).setIfInBounds 35 (a.tmps.getD 35 undef) } := by
  simp only [set_self]
set_option maxHeartbeats 4000000 in
set_option maxRecDepth 100000 in
theorem see_walk (w : World) (pb sb g3 g4 g5 g6 : Nat) (m : Value) (ow k : Int) (cl : Bool) (d : ByteArray) (nm lo pr la : Value) (ad : Addr) (c : Nat) (hp : w.heap[pb]? = some (.cells #[nm, lo, pr, .slice none 0 0, la] 68 (0, 0))) (hs : w.heap[sb]? = some (.cells #[.pointer none, .string d, .int .i64 0] 111 (0, 0)))
    (x3 : w.heap[g3]? = some (.cells #[.pointer (some ⟨pb, 0, none⟩)] 60 (0, 0))) (x4 : w.heap[g4]? = some (.cells #[.pointer (some ⟨sb, 0, none⟩)] 100 (0, 0))) (x5 : w.heap[g5]? = some (.cells #[m] 81 (0, 0))) (x6 : w.heap[g6]? = some (.cells #[.int .i64 ow] 3 (0, 0))) (hd : w.cell? ad = some (.string d)) :
    Calls Try.prog 54 #[.int .i64 k, .bool cl, .slice (some ad) 1 c, .pointer (some ⟨g3, 0, none⟩), .pointer (some ⟨g4, 0, none⟩), .pointer (some ⟨g5, 0, none⟩), .pointer (some ⟨g6, 0, none⟩)] w (fun e w' => (∃ r, e = .returned r) ∧ ∃ us, w'.heap[pb]? = some (.cells #[nm, lo, pr, us, la] 68 (0, 0)) ∧ w'.ownsRow w.heap.size 88 4 us 1 [.int .i64 0, .int .i64 ow, .int .i64 k, .bool cl] ∧ KB w w' pb none) := by
  have HP := Aside0.mk hp
  have HS := Aside0.mk hs
  have X3 := Aside0.mk x3
  have X4 := Aside0.mk x4
  have X5 := Aside0.mk x5
  have X6 := Aside0.mk x6
  clear hp hs x3 x4 x5 x6
  go_enter Try.func54, Try.ntmps54
  go_wp2_with fail
  go_loopg [14] 2 (fun kq v14 wx => (kq = 2 ∧ v14 = .int .i64 0 ∧ w = wx) ∨ (v14 = .int .i64 1 ∧ ∃ us, Aside0 (wx.heap[pb]? = some (.cells #[nm, lo, pr, us, la] 68 (0, 0))) ∧ Aside0 (wx.ownsRow w.heap.size 88 4 us 1 [.int .i64 0, .int .i64 ow, .int .i64 k, .bool cl]) ∧ Aside0 (KB w wx pb none)))
  case atStart => exact .inl ⟨rfl, rfl, rfl⟩
  case round =>
    rcases hrel with ⟨rfl, rfl, rfl⟩ | ⟨rfl, us, H1, H2, HK⟩
    · go_upto_region 3 with fail
      (try simp only [Act.put, List.setIfInBounds_toArray, List.set_cons_zero, List.set_cons_succ])
      refine RegInv.wp_region_inv' rfl (by kernel_rfl) (SEJ pb sb g3 g4 g5 g6 m ow k cl d nm lo pr la w) ?_ ?_ ?_
      · refine ⟨false, false, false, false, false, false, false, false, false, false, false, false, false, false, false, false, false, false, false, _, _, _, _, _, _, _, _, _, _, _, _, _, _, _, _, _, _, rfl, SE_self _, ?_⟩
        exact ⟨fun h => (by cases h), fun h => (by cases h), fun h => (by cases h), fun h => (by cases h), fun h => (by cases h), fun h => (by cases h), fun h => (by cases h), fun h => (by cases h), fun h => (by cases h), fun h => (by cases h), fun h => (by cases h), fun h => (by cases h), fun h => (by cases h), fun h => (by cases h), fun h => (by cases h), fun h => (by cases h), fun h => (by cases h), fun h => (by cases h), HP.out, fun h => (by cases h), KB.start _ _ _ _, blk_lt HP.out⟩
      · skip
        rintro listed a' w' i o ho hz hb hw ⟨b0, b1, b2, b3, b4, b5, b6, b7, b8, b9, b10, b11, b12, b13, b14, b15, b16, b17, b18, v18, v19, v20, v21, v22, v23, v24, v25, v26, v27, v28, v29, v30, v31, v32, v33, v34, v35, rfl, rfl, F9⟩
        match i, ho, hb, hw with
        | 0, ho, hb, hw =>
          obtain rfl : _ = o := Option.some.inj ho
          simp only [List.setIfInBounds_toArray, List.set_cons_zero, List.set_cons_succ]
          have y0 := (blk_cell (blk_keep X3.out F9.K (blk_apart X3.out HP.out (by decide))) 0).trans rfl
          go_wp2
          exact ⟨true, b1, b2, b3, b4, b5, b6, b7, b8, b9, b10, b11, b12, b13, b14, b15, b16, b17, b18, .pointer (some ⟨pb, 0, none⟩), v19, v20, v21, v22, v23, v24, v25, v26, v27, v28, v29, v30, v31, v32, v33, v34, v35, rfl, by simp only [List.setIfInBounds_toArray, List.set_cons_zero, List.set_cons_succ, Bool.not_true], { F9 with h0 := fun _ => rfl }⟩
        | 1, ho, hb, hw =>
          obtain rfl : _ = o := Option.some.inj ho
          simp only [List.setIfInBounds_toArray, List.set_cons_zero, List.set_cons_succ]
          have y0 := (blk_cell (blk_keep X3.out F9.K (blk_apart X3.out HP.out (by decide))) 0).trans rfl
          go_wp2
          exact ⟨b0, true, b2, b3, b4, b5, b6, b7, b8, b9, b10, b11, b12, b13, b14, b15, b16, b17, b18, v18, .pointer (some ⟨pb, 0, none⟩), v20, v21, v22, v23, v24, v25, v26, v27, v28, v29, v30, v31, v32, v33, v34, v35, rfl, by simp only [List.setIfInBounds_toArray, List.set_cons_zero, List.set_cons_succ, Bool.not_true], { F9 with h1 := fun _ => rfl }⟩
        | 2, ho, hb, hw =>
          obtain rfl : _ = o := Option.some.inj ho
          simp only [List.setIfInBounds_toArray, List.set_cons_zero, List.set_cons_succ]
          obtain rfl := F9.h1 (hw ⟨1, .data⟩ (by simp) rfl)
          go_wp2
          exact ⟨b0, b1, true, b3, b4, b5, b6, b7, b8, b9, b10, b11, b12, b13, b14, b15, b16, b17, b18, v18, .pointer (some ⟨pb, 0, none⟩), .pointer (some ⟨pb, 0, none⟩), v21, v22, v23, v24, v25, v26, v27, v28, v29, v30, v31, v32, v33, v34, v35, rfl, by simp only [List.setIfInBounds_toArray, List.set_cons_zero, List.set_cons_succ, Bool.not_true], { F9 with h2 := fun _ => rfl }⟩
        | 3, ho, hb, hw =>
          obtain rfl : _ = o := Option.some.inj ho
          simp only [List.setIfInBounds_toArray, List.set_cons_zero, List.set_cons_succ]
          obtain rfl := F9.h2 (hw ⟨2, .data⟩ (by simp) rfl)
          go_wp2
          exact ⟨b0, b1, b2, true, b4, b5, b6, b7, b8, b9, b10, b11, b12, b13, b14, b15, b16, b17, b18, v18, v19, .pointer (some ⟨pb, 0, none⟩), .pointer (some ⟨pb, 3, none⟩), v22, v23, v24, v25, v26, v27, v28, v29, v30, v31, v32, v33, v34, v35, rfl, by simp only [List.setIfInBounds_toArray, List.set_cons_zero, List.set_cons_succ, Bool.not_true], { F9 with h3 := fun _ => rfl }⟩
        | 4, ho, hb, hw =>
          obtain rfl : _ = o := Option.some.inj ho
          simp only [List.setIfInBounds_toArray, List.set_cons_zero, List.set_cons_succ]
          obtain rfl := F9.h3 (hw ⟨3, .data⟩ (by simp) rfl)
          obtain rfl : b4 = false := hb
          have q18 : b18 = false := by cases e : b18 <;> first | rfl | exact absurd (F9.n18 e).1 (by decide)
          subst q18
          have y0 := (blk_cell F9.P 3).trans rfl
          go_wp2
          exact ⟨b0, b1, b2, b3, true, b5, b6, b7, b8, b9, b10, b11, b12, b13, b14, b15, b16, b17, false, v18, v19, v20, .pointer (some ⟨pb, 3, none⟩), .slice none 0 0, v23, v24, v25, v26, v27, v28, v29, v30, v31, v32, v33, v34, v35, rfl, by simp only [List.setIfInBounds_toArray, List.set_cons_zero, List.set_cons_succ, Bool.not_true], { F9 with n18 := fun e => absurd e (by decide), h4 := fun _ => rfl }⟩
        | 5, ho, hb, hw =>
          obtain rfl : _ = o := Option.some.inj ho
          simp only [List.setIfInBounds_toArray, List.set_cons_zero, List.set_cons_succ]
          have y0 := (blk_cell (blk_keep X3.out F9.K (blk_apart X3.out HP.out (by decide))) 0).trans rfl
          go_wp2
          exact ⟨b0, b1, b2, b3, b4, true, b6, b7, b8, b9, b10, b11, b12, b13, b14, b15, b16, b17, b18, v18, v19, v20, v21, v22, .pointer (some ⟨pb, 0, none⟩), v24, v25, v26, v27, v28, v29, v30, v31, v32, v33, v34, v35, rfl, by simp only [List.setIfInBounds_toArray, List.set_cons_zero, List.set_cons_succ, Bool.not_true], { F9 with h5 := fun _ => rfl }⟩
        | 6, ho, hb, hw =>
          obtain rfl : _ = o := Option.some.inj ho
          simp only [List.setIfInBounds_toArray, List.set_cons_zero, List.set_cons_succ]
          have y0 := (blk_cell (blk_keep X4.out F9.K (blk_apart X4.out HP.out (by decide))) 0).trans rfl
          go_wp2
          exact ⟨b0, b1, b2, b3, b4, b5, true, b7, b8, b9, b10, b11, b12, b13, b14, b15, b16, b17, b18, v18, v19, v20, v21, v22, v23, .pointer (some ⟨sb, 0, none⟩), v25, v26, v27, v28, v29, v30, v31, v32, v33, v34, v35, rfl, by simp only [List.setIfInBounds_toArray, List.set_cons_zero, List.set_cons_succ, Bool.not_true], { F9 with h6 := fun _ => rfl }⟩
        | 7, ho, hb, hw =>
          obtain rfl : _ = o := Option.some.inj ho
          simp only [List.setIfInBounds_toArray, List.set_cons_zero, List.set_cons_succ]
          have y0 := (blk_cell (blk_keep X5.out F9.K (blk_apart X5.out HP.out (by decide))) 0).trans rfl
          go_wp2
          exact ⟨b0, b1, b2, b3, b4, b5, b6, true, b8, b9, b10, b11, b12, b13, b14, b15, b16, b17, b18, v18, v19, v20, v21, v22, v23, v24, m, v26, v27, v28, v29, v30, v31, v32, v33, v34, v35, rfl, by simp only [List.setIfInBounds_toArray, List.set_cons_zero, List.set_cons_succ, Bool.not_true], { F9 with h7 := fun _ => rfl }⟩
        | 8, ho, hb, hw =>
          obtain rfl : _ = o := Option.some.inj ho
          simp only [List.setIfInBounds_toArray, List.set_cons_zero, List.set_cons_succ]
          go_wp2
          exact ⟨b0, b1, b2, b3, b4, b5, b6, b7, true, b9, b10, b11, b12, b13, b14, b15, b16, b17, b18, v18, v19, v20, v21, v22, v23, v24, v25, .string d, v27, v28, v29, v30, v31, v32, v33, v34, v35, rfl, by simp only [List.setIfInBounds_toArray, List.set_cons_zero, List.set_cons_succ, Bool.not_true], { F9 with h8 := fun _ => rfl }⟩
        | 9, ho, hb, hw =>
          obtain rfl : _ = o := Option.some.inj ho
          simp only [List.setIfInBounds_toArray, List.set_cons_zero, List.set_cons_succ]
          obtain rfl := F9.h5 (hw ⟨5, .data⟩ (by simp) rfl)
          obtain rfl := F9.h6 (hw ⟨6, .data⟩ (by simp) rfl)
          obtain rfl := F9.h8 (hw ⟨8, .data⟩ (by simp) rfl)
          go_wp2_with (go_at_call 55; (refine (find_walk w' _ _ sb d (blk_keep HS.out F9.K (blk_apart HS.out HP.out (by decide)))).mono ?_); rintro e w2 ⟨rfl, hbb⟩)
          exact ⟨b0, b1, b2, b3, b4, b5, b6, b7, b8, true, b10, b11, b12, b13, b14, b15, b16, b17, b18, v18, v19, v20, v21, v22, .pointer (some ⟨pb, 0, none⟩), .pointer (some ⟨sb, 0, none⟩), v25, .string d, .int .i64 0, v28, v29, v30, v31, v32, v33, v34, v35, rfl, by simp only [List.setIfInBounds_toArray, List.set_cons_zero, List.set_cons_succ, Bool.not_true], { F9 with h9 := fun _ => rfl, h14 := fun q => (F9.h14 q).imp (fun _ l => ⟨l.1, l.2.1, blk_below l.2.2 hbb⟩), h15 := fun q => own_below (F9.h15 q) hbb, P := blk_below F9.P hbb, K := KB.trans F9.K (KB.of_below hbb pb none) (.inl rfl) }⟩
        | 10, ho, hb, hw =>
          obtain rfl : _ = o := Option.some.inj ho
          simp only [List.setIfInBounds_toArray, List.set_cons_zero, List.set_cons_succ]
          have y0 := (blk_cell (blk_keep X6.out F9.K (blk_apart X6.out HP.out (by decide))) 0).trans rfl
          go_wp2
          exact ⟨b0, b1, b2, b3, b4, b5, b6, b7, b8, b9, true, b11, b12, b13, b14, b15, b16, b17, b18, v18, v19, v20, v21, v22, v23, v24, v25, v26, v27, .int .i64 ow, v29, v30, v31, v32, v33, v34, v35, rfl, by simp only [List.setIfInBounds_toArray, List.set_cons_zero, List.set_cons_succ, Bool.not_true], { F9 with h10 := fun _ => rfl }⟩
        | 11, ho, hb, hw =>
          obtain rfl : _ = o := Option.some.inj ho
          simp only [List.setIfInBounds_toArray, List.set_cons_zero, List.set_cons_succ]
          go_wp2
          exact ⟨b0, b1, b2, b3, b4, b5, b6, b7, b8, b9, b10, true, b12, b13, b14, b15, b16, b17, b18, v18, v19, v20, v21, v22, v23, v24, v25, v26, v27, v28, .int .i64 k, v30, v31, v32, v33, v34, v35, rfl, by simp only [List.setIfInBounds_toArray, List.set_cons_zero, List.set_cons_succ, Bool.not_true], { F9 with h11 := fun _ => rfl }⟩
        | 12, ho, hb, hw =>
          obtain rfl : _ = o := Option.some.inj ho
          simp only [List.setIfInBounds_toArray, List.set_cons_zero, List.set_cons_succ]
          go_wp2
          exact ⟨b0, b1, b2, b3, b4, b5, b6, b7, b8, b9, b10, b11, true, b13, b14, b15, b16, b17, b18, v18, v19, v20, v21, v22, v23, v24, v25, v26, v27, v28, v29, .bool cl, v31, v32, v33, v34, v35, rfl, by simp only [List.setIfInBounds_toArray, List.set_cons_zero, List.set_cons_succ, Bool.not_true], { F9 with h12 := fun _ => rfl }⟩
        | 13, ho, hb, hw =>
          obtain rfl : _ = o := Option.some.inj ho
          simp only [List.setIfInBounds_toArray, List.set_cons_zero, List.set_cons_succ]
          obtain rfl := F9.h9 (hw ⟨9, .data⟩ (by simp) rfl)
          obtain rfl := F9.h10 (hw ⟨10, .data⟩ (by simp) rfl)
          obtain rfl := F9.h11 (hw ⟨11, .data⟩ (by simp) rfl)
          obtain rfl := F9.h12 (hw ⟨12, .data⟩ (by simp) rfl)
          go_wp2
          exact ⟨b0, b1, b2, b3, b4, b5, b6, b7, b8, b9, b10, b11, b12, true, b14, b15, b16, b17, b18, v18, v19, v20, v21, v22, v23, v24, v25, v26, .int .i64 0, .int .i64 ow, .int .i64 k, .bool cl, .agg #[.int .i64 0, .int .i64 ow, .int .i64 k, .bool cl], v32, v33, v34, v35, rfl, by simp only [List.setIfInBounds_toArray, List.set_cons_zero, List.set_cons_succ, Bool.not_true], { F9 with h13 := fun _ => rfl }⟩
        | 14, ho, hb, hw =>
          obtain rfl : _ = o := Option.some.inj ho
          simp only [List.setIfInBounds_toArray, List.set_cons_zero, List.set_cons_succ]
          obtain rfl := F9.h13 (hw ⟨13, .data⟩ (by simp) rfl)
          have hbb := below_alloc (Below.refl w'.heap.size w') (.cells #[.int .i64 0, .int .i64 ow, .int .i64 k, .bool cl] 88 (0, 0))
          have hsz := F9.K.1
          go_wp2
          exact ⟨b0, b1, b2, b3, b4, b5, b6, b7, b8, b9, b10, b11, b12, b13, true, b15, b16, b17, b18, v18, v19, v20, v21, v22, v23, v24, v25, v26, v27, v28, v29, v30, .agg #[.int .i64 0, .int .i64 ow, .int .i64 k, .bool cl], .slice (some ⟨w'.heap.size, 0, none⟩) 1 1, v33, v34, v35, rfl, by simp only [List.setIfInBounds_toArray, List.set_cons_zero, List.set_cons_succ, Bool.not_true], { F9 with h14 := fun _ => ⟨_, rfl, hsz, blk_new _ _⟩, h15 := fun q => own_below (F9.h15 q) hbb, P := blk_below F9.P hbb, K := KB.trans F9.K (KB.of_below hbb pb none) (.inl rfl) }⟩
        | 15, ho, hb, hw =>
          obtain rfl : _ = o := Option.some.inj ho
          simp only [List.setIfInBounds_toArray, List.set_cons_zero, List.set_cons_succ]
          obtain rfl := F9.h4 (hw ⟨4, .data⟩ (by simp) rfl)
          obtain rfl : b15 = false := hb
          have q18 : b18 = false := by cases e : b18 <;> first | rfl | exact absurd (F9.n18 e).2 (by decide)
          subst q18
          obtain ⟨gx, rfl, lx, kx⟩ := F9.h14 (hw ⟨14, .data⟩ (by simp) rfl)
          have hsz := F9.K.1
          refine app_nil w' rfl (.tmp 22) (.tmp 32) 65 88 4 32 (.agg #[.int .i64 0, .int .i64 0, .int .i64 0, .bool false]) rfl Try.underlying65 inf88 rfl (by decide) rfl gx [.int .i64 0, .int .i64 ow, .int .i64 k, .bool cl] rfl rfl kx (by intro u hu; simp only [List.mem_cons, List.not_mem_nil, or_false] at hu; rcases hu with rfl | rfl | rfl | rfl <;> rfl) (by decide) 33 rfl ?_
          intro v' w2 hr hbb
          simp only [List.setIfInBounds_toArray, List.set_cons_zero, List.set_cons_succ]
          go_wp2
          exact ⟨b0, b1, b2, b3, b4, b5, b6, b7, b8, b9, b10, b11, b12, b13, b14, true, b16, b17, false, v18, v19, v20, v21, .slice none 0 0, v23, v24, v25, v26, v27, v28, v29, v30, v31, .slice (some ⟨gx, 0, none⟩) 1 1, v', v34, v35, rfl, by simp only [List.setIfInBounds_toArray, List.set_cons_zero, List.set_cons_succ, Bool.not_true], { F9 with n18 := fun e => absurd e (by decide), h15 := fun _ => own_weak hr hsz, h14 := fun q => (F9.h14 q).imp (fun _ l => ⟨l.1, l.2.1, blk_below l.2.2 hbb⟩), P := blk_below F9.P hbb, K := KB.trans F9.K (KB.of_below hbb pb none) (.inl rfl) }⟩
        | 16, ho, hb, hw =>
          obtain rfl : _ = o := Option.some.inj ho
          simp only [List.setIfInBounds_toArray, List.set_cons_zero, List.set_cons_succ]
          obtain rfl := F9.h0 (hw ⟨0, .data⟩ (by simp) rfl)
          go_wp2
          exact ⟨b0, b1, b2, b3, b4, b5, b6, b7, b8, b9, b10, b11, b12, b13, b14, b15, true, b17, b18, .pointer (some ⟨pb, 0, none⟩), v19, v20, v21, v22, v23, v24, v25, v26, v27, v28, v29, v30, v31, v32, v33, .pointer (some ⟨pb, 0, none⟩), v35, rfl, by simp only [List.setIfInBounds_toArray, List.set_cons_zero, List.set_cons_succ, Bool.not_true], { F9 with h16 := fun _ => rfl }⟩
        | 17, ho, hb, hw =>
          obtain rfl : _ = o := Option.some.inj ho
          simp only [List.setIfInBounds_toArray, List.set_cons_zero, List.set_cons_succ]
          obtain rfl := F9.h16 (hw ⟨16, .data⟩ (by simp) rfl)
          go_wp2
          exact ⟨b0, b1, b2, b3, b4, b5, b6, b7, b8, b9, b10, b11, b12, b13, b14, b15, b16, true, b18, v18, v19, v20, v21, v22, v23, v24, v25, v26, v27, v28, v29, v30, v31, v32, v33, .pointer (some ⟨pb, 0, none⟩), .pointer (some ⟨pb, 3, none⟩), rfl, by simp only [List.setIfInBounds_toArray, List.set_cons_zero, List.set_cons_succ, Bool.not_true], { F9 with h17 := fun _ => rfl }⟩
        | 18, ho, hb, hw =>
          obtain rfl : _ = o := Option.some.inj ho
          simp only [List.setIfInBounds_toArray, List.set_cons_zero, List.set_cons_succ]
          obtain rfl := F9.h17 (hw ⟨17, .data⟩ (by simp) rfl)
          have qd := hw ⟨15, .data⟩ (by simp) rfl
          obtain ⟨gr, cr, er, l1, l2⟩ := own_slice (F9.h15 qd)
          subst er
          have y0 := (blk_cell F9.P 3).trans rfl
          have z0 := blk_frozen F9.P 3
          have qe := hw ⟨4, .phase⟩ (by simp) rfl
          go_wp2
          exact ⟨b0, b1, b2, b3, b4, b5, b6, b7, b8, b9, b10, b11, b12, b13, b14, b15, b16, b17, true, v18, v19, v20, v21, v22, v23, v24, v25, v26, v27, v28, v29, v30, v31, v32, .slice (some ⟨gr, 0, none⟩) 1 cr, v34, .pointer (some ⟨pb, 3, none⟩), rfl, by simp only [List.setIfInBounds_toArray, List.set_cons_zero, List.set_cons_succ, Bool.not_true], { F9 with n18 := fun _ => ⟨qe, qd⟩, h14 := fun q => (F9.h14 q).imp (fun _ l => ⟨l.1, l.2.1, blk_far l.2.2 (p := ⟨pb, 3, none⟩) (by have := F9.pl; have := l.2.1; show _ ≠ pb; omega) _⟩), h15 := fun q => own_put (F9.h15 q) F9.pl _, P := blk_put F9.P 3 _ rfl, K := kb_set F9.K 3 _ }⟩
        | j + 19, ho, hb, hw => exact absurd ho (by simp)
      · rintro listed a' w' hall ⟨b0, b1, b2, b3, b4, b5, b6, b7, b8, b9, b10, b11, b12, b13, b14, b15, b16, b17, b18, v18, v19, v20, v21, v22, v23, v24, v25, v26, v27, v28, v29, v30, v31, v32, v33, v34, v35, rfl, rfl, F9⟩
        obtain rfl : b0 = true := hall 0 (by decide)
        obtain rfl : b1 = true := hall 1 (by decide)
        obtain rfl : b2 = true := hall 2 (by decide)
        obtain rfl : b3 = true := hall 3 (by decide)
        obtain rfl : b4 = true := hall 4 (by decide)
        obtain rfl : b5 = true := hall 5 (by decide)
        obtain rfl : b6 = true := hall 6 (by decide)
        obtain rfl : b7 = true := hall 7 (by decide)
        obtain rfl : b8 = true := hall 8 (by decide)
        obtain rfl : b9 = true := hall 9 (by decide)
        obtain rfl : b10 = true := hall 10 (by decide)
        obtain rfl : b11 = true := hall 11 (by decide)
        obtain rfl : b12 = true := hall 12 (by decide)
        obtain rfl : b13 = true := hall 13 (by decide)
        obtain rfl : b14 = true := hall 14 (by decide)
        obtain rfl : b15 = true := hall 15 (by decide)
        obtain rfl : b16 = true := hall 16 (by decide)
        obtain rfl : b17 = true := hall 17 (by decide)
        obtain rfl : b18 = true := hall 18 (by decide)
        simp only [List.setIfInBounds_toArray, List.set_cons_zero, List.set_cons_succ]
        go_wp2_with fail
        go_roundg 1
        case measure => omega
        case rel => exact .inr ⟨by first | rfl | (simp; done), _, ⟨F9.P⟩, ⟨F9.h15 rfl⟩, ⟨F9.K⟩⟩
    · go_wp2_with fail
      go_end0
      exact ⟨⟨_, rfl⟩, us, H1.out, H2.out, HK.out⟩
end Go.Proofs.Ytelmcnngocklfaa.Need
