import Derived.Test.YtonfbhcafejblaaYPass
/-! A yard that has one lock: Give, Owner, Waiting, Count. -/
namespace Go.Proofs.Ytonfbhcafejblaa.Yd
set_option linter.unusedVariables false
set_option linter.unusedSimpArgs false
open Go.RowKit Go.Proofs.YtonfbhcafejblaaW.PrintWords Go.Proofs.YtonfbhcafejblaaW.PrintLast Go.Proofs.YtonfbhcafejblaaW.PrintMore Go.Proofs.Ytonfbhcafejblaa.Q
attribute [local go_sem] Go.Proofs.YtonfbhcafejblaaW.OwnWords.isSome_setCell max2_int min2_int
theorem yw_then {B : Nat} {w0 w1 w : World} {yb tb cap : Nat} {rest : List Value} {ow ti ow1 ti1 : Int} {v0 : Value} {xs xs1 : List Int} {r : Ending} (h : Yw B w0 w1 yb tb cap rest v0 ow1 ti1 v0 xs1)
    (k : ∃ v2, IsYd B w yb tb cap rest ow ti v2 xs ∧ Below B w1 w ∧ Kept3 w1 w yb tb v0 ∧ (v2.ownBlock = v0.ownBlock ∨ ∃ b, v2.ownBlock = some b ∧ w1.heap.size ≤ b)) : YdEnd B w0 yb tb cap rest v0 r ow ti xs r w := by
  obtain ⟨v2, k1, k2, k3, k4⟩ := k
  refine ⟨rfl, v2, k1, h.2.1.trans k2, h.2.2.1.trans k3 (.inl rfl), ?_⟩
  rcases k4 with e | ⟨b, e, hb⟩
  · exact .inl e
  · exact .inr ⟨b, e, Nat.le_trans h.2.2.1.1 hb⟩
theorem give_more (B : Nat) (yb tb cap : Nat) (rest : List Value) (ow ti : Int) (v : Value) (xs : List Int) (ht : 1 ≤ ow) (hti : IntKind.i64.wrap (ti - 1) = ti - 1) (hti1 : 0 < ti - 1) (w : World) (hY : IsYd B w yb tb cap rest ow ti v xs) (hB : B ≤ w.heap.size) :
    Calls Try.prog 8 #[.pointer (some ⟨yb, 0, none⟩), .int .i64 1, .int .i64 ow] w (YdEnd B w yb tb cap rest v (.returned (.tuple #[.int .i64 0, .int .i64 0])) ow (ti - 1) xs) := by
  have HY := Aside0.mk (yw_start hY hB)
  have h1 : decide (ow < 1) = false := decide_eq_false (by omega)
  have h2 : (ow < 1) = False := eq_false (by omega)
  have h3 : (0 < ti - 1) = True := eq_true hti1
  have h4 : decide (0 < ti - 1) = true := decide_eq_true hti1
  have h5 : (1 < ti) = True := eq_true (by omega)
  have h6 : decide (1 < ti) = true := decide_eq_true (by omega)
  clear hY hB
  go_enter Try.func8, Try.ntmps8
  go_wp2_with (first | (go_at_call 31; (refine (find_calls B yb tb cap rest _ ti v xs w.heap.size _ (yw_alloc HY.out (.cells #[.string lockS] 9)).1 (blk_new w _)).mono ?_); rintro e w2 ⟨rfl, hb2⟩; have HY2 := Aside0.mk (yw_below (yw_alloc HY.out _) hb2); have t3 : w2.cell? ⟨tb, 3, none⟩ = some (.int .i64 _) := (blk_cell HY2.out.1.2.1 3).trans rfl; have t4 : w2.cell? ⟨tb, 4, none⟩ = some (.int .i64 ti) := (blk_cell HY2.out.1.2.1 4).trans rfl; have z3 := blk_frozen HY2.out.1.2.1 3; have z4 := blk_frozen HY2.out.1.2.1 4; clear hb2))
  go_ret2
  exact yw_end (yw_set4 HY2.out _) (.inl rfl)
theorem give_none (B : Nat) (yb tb cap : Nat) (rest : List Value) (ow ti : Int) (v : Value) (ht : 1 ≤ ow) (hti : IntKind.i64.wrap (ti - 1) = ti - 1) (hti1 : ¬ 0 < ti - 1) (w : World) (hY : IsYd B w yb tb cap rest ow ti v []) (hB : B ≤ w.heap.size) :
    Calls Try.prog 8 #[.pointer (some ⟨yb, 0, none⟩), .int .i64 1, .int .i64 ow] w (YdEnd B w yb tb cap rest v (.returned (.tuple #[.int .i64 0, .int .i64 0])) 0 0 []) := by
  have HY := Aside0.mk (yw_start hY hB)
  have h1 : decide (ow < 1) = false := decide_eq_false (by omega)
  have h2 : (ow < 1) = False := eq_false (by omega)
  have h3 : (0 < ti - 1) = False := eq_false hti1
  have h4 : decide (0 < ti - 1) = false := decide_eq_false hti1
  have h5 : (1 < ti) = False := eq_false (by omega)
  have h6 : decide (1 < ti) = false := decide_eq_false (by omega)
  clear hY
  go_enter Try.func8, Try.ntmps8
  go_wp2_with (first | (go_at_call 31; (refine (find_calls B yb tb cap rest _ ti v [] w.heap.size _ (yw_alloc HY.out (.cells #[.string lockS] 9)).1 (blk_new w _)).mono ?_); rintro e w2 ⟨rfl, hb2⟩; have HY2 := Aside0.mk (yw_below (yw_alloc HY.out _) hb2); have t3 : w2.cell? ⟨tb, 3, none⟩ = some (.int .i64 _) := (blk_cell HY2.out.1.2.1 3).trans rfl; have t4 : w2.cell? ⟨tb, 4, none⟩ = some (.int .i64 ti) := (blk_cell HY2.out.1.2.1 4).trans rfl; have z3 := blk_frozen HY2.out.1.2.1 3; have z4 := blk_frozen HY2.out.1.2.1 4; clear hb2) | (go_at_call 32; (refine (pass_none B yb tb cap rest _ _ v _ (yw_set4 HY2.out (ti - 1)).1 (Nat.le_trans hB (yw_set4 HY2.out (ti - 1)).2.2.1.1)).mono ?_); rintro e w3 ⟨rfl, hb3⟩; have HG := Aside0.mk hb3; clear hb3))
  go_ret2
  exact yw_then (yw_set4 HY2.out _) HG.out
theorem give_next (B : Nat) (yb tb cap : Nat) (rest : List Value) (ow ti : Int) (v : Value) (x : Int) (xs : List Int) (hl : xs.length ≤ 1000000) (ht : 1 ≤ ow) (hti : IntKind.i64.wrap (ti - 1) = ti - 1) (hti1 : ¬ 0 < ti - 1) (w : World) (hY : IsYd B w yb tb cap rest ow ti v (x :: xs)) (hB : B ≤ w.heap.size) :
    Calls Try.prog 8 #[.pointer (some ⟨yb, 0, none⟩), .int .i64 1, .int .i64 ow] w (YdEnd B w yb tb cap rest v (.returned (.tuple #[.int .i64 x, .int .i64 0])) x 1 xs) := by
  have HY := Aside0.mk (yw_start hY hB)
  have h1 : decide (ow < 1) = false := decide_eq_false (by omega)
  have h2 : (ow < 1) = False := eq_false (by omega)
  have h3 : (0 < ti - 1) = False := eq_false hti1
  have h4 : decide (0 < ti - 1) = false := decide_eq_false hti1
  have h5 : (1 < ti) = False := eq_false (by omega)
  have h6 : decide (1 < ti) = false := decide_eq_false (by omega)
  clear hY
  go_enter Try.func8, Try.ntmps8
  go_wp2_with (first | (go_at_call 31; (refine (find_calls B yb tb cap rest _ ti v (x :: xs) w.heap.size _ (yw_alloc HY.out (.cells #[.string lockS] 9)).1 (blk_new w _)).mono ?_); rintro e w2 ⟨rfl, hb2⟩; have HY2 := Aside0.mk (yw_below (yw_alloc HY.out _) hb2); have t3 : w2.cell? ⟨tb, 3, none⟩ = some (.int .i64 _) := (blk_cell HY2.out.1.2.1 3).trans rfl; have t4 : w2.cell? ⟨tb, 4, none⟩ = some (.int .i64 ti) := (blk_cell HY2.out.1.2.1 4).trans rfl; have z3 := blk_frozen HY2.out.1.2.1 3; have z4 := blk_frozen HY2.out.1.2.1 4; clear hb2) | (go_at_call 32; (refine (pass_next B yb tb cap rest _ _ v x xs hl _ (yw_set4 HY2.out (ti - 1)).1 (Nat.le_trans hB (yw_set4 HY2.out (ti - 1)).2.2.1.1)).mono ?_); rintro e w3 ⟨rfl, hb3⟩; have HG := Aside0.mk hb3; clear hb3))
  go_ret2
  exact yw_then (yw_set4 HY2.out _) HG.out
/-- A call that changes nothing of the yard. -/
theorem owner_calls (B : Nat) (yb tb cap : Nat) (rest : List Value) (ow ti : Int) (v : Value) (xs : List Int) (w : World) (hY : IsYd B w yb tb cap rest ow ti v xs) (hB : B ≤ w.heap.size) :
    Calls Try.prog 11 #[.pointer (some ⟨yb, 0, none⟩), .int .i64 1] w (YdEnd B w yb tb cap rest v (.returned (.tuple #[.int .i64 ow, .int .i64 ti, .int .i64 0])) ow ti xs) := by
  have HY := Aside0.mk (yw_start hY hB)
  clear hY hB
  go_enter Try.func11, Try.ntmps11
  go_wp2_with (first | (go_at_call 31; (refine (find_calls B yb tb cap rest _ ti v xs w.heap.size _ (yw_alloc HY.out (.cells #[.string lockS] 9)).1 (blk_new w _)).mono ?_); rintro e w2 ⟨rfl, hb2⟩; have HY2 := Aside0.mk (yw_below (yw_alloc HY.out _) hb2); have t3 : w2.cell? ⟨tb, 3, none⟩ = some (.int .i64 _) := (blk_cell HY2.out.1.2.1 3).trans rfl; have t4 : w2.cell? ⟨tb, 4, none⟩ = some (.int .i64 ti) := (blk_cell HY2.out.1.2.1 4).trans rfl; clear hb2))
  go_quiet (fail)
  try go_wp2
  go_ret3
  exact yw_end (yw_drewN HY2.out _) (.inl rfl)
theorem count_calls (B : Nat) (yb tb cap : Nat) (rest : List Value) (ow ti : Int) (v : Value) (xs : List Int) (w : World) (hY : IsYd B w yb tb cap rest ow ti v xs) (hB : B ≤ w.heap.size) :
    Calls Try.prog 27 #[.pointer (some ⟨yb, 0, none⟩)] w (YdEnd B w yb tb cap rest v (.returned (.int .i64 1)) ow ti xs) := by
  have y0 : w.cell? ⟨yb, 0, none⟩ = some (.bool true) := (blk_cell hY.1 0).trans rfl
  have y1 : w.cell? ⟨yb, 1, none⟩ = some (.slice (some ⟨tb, 0, none⟩) 1 cap) := (blk_cell hY.1 1).trans rfl
  have HY := Aside0.mk (yw_start hY hB)
  clear hY hB
  go_enter Try.func27, Try.ntmps27
  go_wp2_with (first | (go_at_call 29; (refine (none_calls yb _ y0).mono ?_); rintro e w2 ⟨rfl, rfl⟩))
  go_ret
  exact yw_end HY.out (.inl rfl)
end Go.Proofs.Ytonfbhcafejblaa.Yd
