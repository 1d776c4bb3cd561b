import Derived.Test.YtgfbgfbnmiainaaFamPut2
/-! The families under way: into, only, least, greatest, each by put. -/
namespace Go.Proofs.Ytgfbgfbnmiainaa.Fam
set_option linter.unusedVariables false
set_option linter.unusedSimpArgs false
open Go.RowKit Go.Proofs.YtgfbgfbnmiainaaW.PrintWords Go.Proofs.YtgfbgfbnmiainaaW.PrintLast Go.Proofs.YtgfbgfbnmiainaaW.PrintMore Go.Proofs.Ytgfbgfbnmiainaa.Q
attribute [local go_sem] Go.Proofs.YtgfbgfbnmiainaaW.OwnWords.isSome_setCell max2_int min2_int
attribute [local go_sem high] eqA59
@[reducible] def intoS (xs : List S59) (i m : Int) : S59 := ⟨Go.bits .or .u64 (rd_T59 xs i).f0 m, (rd_T59 xs i).f1, (rd_T59 xs i).f2, (rd_T59 xs i).f3⟩
theorem into_calls (k : Nat) (g gs cap n : Nat) (t u : St) (i : Int) (h0 : 0 ≤ i) (hi : i < n) (m : Int) (w0 w1 w : World) (hF : Fx w0 w1 w g (.slice (some ⟨gs, 0, none⟩) n cap) t.xs t.fail t.moved) (hn : putL k i (intoS t.xs i m) t = some u) :
    Calls Try.prog 71 #[.pointer (some ⟨g, 0, none⟩), .int .i64 i, .int .u64 m] w (FxEnd w0 w1 g (.slice (some ⟨gs, 0, none⟩) n cap) u.xs u.fail u.moved) := by
  have g0 : w.cell? ⟨g, 0, none⟩ = some (.slice (some ⟨gs, 0, none⟩) n cap) := (blk_cell hF.1.1 0).trans rfl
  have y0 := blk_frozen hF.1.1 0
  have hlt := blk_lt hF.1.1
  have hne : g ≠ w.heap.size := by omega
  have hgl : gs < w.heap.size := Kd.R_lt hF.1.2.2 gs (by simp [Value.ownBlock])
  have hn2 : gs ≠ w.heap.size := by omega
  have hn3 : w.heap.size ≠ gs := by omega
  have hn4 : w.heap.size ≠ g := by omega
  have p1 : decide (0 ≤ i) = true := decide_eq_true h0
  have p2 : decide (i < (n : Int)) = true := decide_eq_true hi
  obtain ⟨e0, e1, e2, e3, f0, f1, f2, f3⟩ := fx_elem hF i h0 hi
  have HF := Aside0.mk hF
  have HN1 : Aside0 (True → putL k i (intoS t.xs i m) t = some u) := ⟨fun _ => hn⟩
  have HN2 := HN1
  have hT : True := trivial
  clear hF hn
  go_enter Try.func71, Try.ntmps71
  go_wp2_with (go_at_call 37; (with_reducible first | (refine (put_calls k g gs cap n t u i h0 hi _ w0 w1 _ (fx_alloc HF.out _) (HN1.out (by assumption))).mono ?_) | (refine (put_calls k g gs cap n t u i h0 hi _ w0 w1 _ (fx_alloc HF.out _) (HN2.out (by assumption))).mono ?_)); rintro e w2 ⟨rfl, HF2⟩; replace HF2 := Aside0.mk HF2)
  all_goals first | exact ⟨rfl, HF2.out⟩ | (go_end0; exact ⟨rfl, HF2.out⟩) | ((try simp only [Exit.inBlock, Exit.then]); refine bodyPost_ret (results_none rfl _ _ _) rfl ?_; exact ⟨rfl, HF2.out⟩)
@[reducible] def onlyS (xs : List S59) (i m : Int) : S59 := ⟨(rd_T59 xs i).f0, Go.bits .and .u64 (rd_T59 xs i).f1 m, (rd_T59 xs i).f2, (rd_T59 xs i).f3⟩
theorem only_calls (k : Nat) (g gs cap n : Nat) (t u : St) (i : Int) (h0 : 0 ≤ i) (hi : i < n) (m : Int) (w0 w1 w : World) (hF : Fx w0 w1 w g (.slice (some ⟨gs, 0, none⟩) n cap) t.xs t.fail t.moved) (hn : putL k i (onlyS t.xs i m) t = some u) :
    Calls Try.prog 72 #[.pointer (some ⟨g, 0, none⟩), .int .i64 i, .int .u64 m] w (FxEnd w0 w1 g (.slice (some ⟨gs, 0, none⟩) n cap) u.xs u.fail u.moved) := by
  have g0 : w.cell? ⟨g, 0, none⟩ = some (.slice (some ⟨gs, 0, none⟩) n cap) := (blk_cell hF.1.1 0).trans rfl
  have y0 := blk_frozen hF.1.1 0
  have hlt := blk_lt hF.1.1
  have hne : g ≠ w.heap.size := by omega
  have hgl : gs < w.heap.size := Kd.R_lt hF.1.2.2 gs (by simp [Value.ownBlock])
  have hn2 : gs ≠ w.heap.size := by omega
  have hn3 : w.heap.size ≠ gs := by omega
  have hn4 : w.heap.size ≠ g := by omega
  have p1 : decide (0 ≤ i) = true := decide_eq_true h0
  have p2 : decide (i < (n : Int)) = true := decide_eq_true hi
  obtain ⟨e0, e1, e2, e3, f0, f1, f2, f3⟩ := fx_elem hF i h0 hi
  have HF := Aside0.mk hF
  have HN1 : Aside0 (True → putL k i (onlyS t.xs i m) t = some u) := ⟨fun _ => hn⟩
  have HN2 := HN1
  have hT : True := trivial
  clear hF hn
  go_enter Try.func72, Try.ntmps72
  go_wp2_with (go_at_call 37; (with_reducible first | (refine (put_calls k g gs cap n t u i h0 hi _ w0 w1 _ (fx_alloc HF.out _) (HN1.out (by assumption))).mono ?_) | (refine (put_calls k g gs cap n t u i h0 hi _ w0 w1 _ (fx_alloc HF.out _) (HN2.out (by assumption))).mono ?_)); rintro e w2 ⟨rfl, HF2⟩; replace HF2 := Aside0.mk HF2)
  all_goals first | exact ⟨rfl, HF2.out⟩ | (go_end0; exact ⟨rfl, HF2.out⟩) | ((try simp only [Exit.inBlock, Exit.then]); refine bodyPost_ret (results_none rfl _ _ _) rfl ?_; exact ⟨rfl, HF2.out⟩)
@[reducible] def leastS (xs : List S59) (i m : Int) : S59 := ⟨(rd_T59 xs i).f0, (rd_T59 xs i).f1, mx (rd_T59 xs i).f2 m, (rd_T59 xs i).f3⟩
theorem least_calls (k : Nat) (g gs cap n : Nat) (t u : St) (i : Int) (h0 : 0 ≤ i) (hi : i < n) (m : Int) (w0 w1 w : World) (hF : Fx w0 w1 w g (.slice (some ⟨gs, 0, none⟩) n cap) t.xs t.fail t.moved) (hn : putL k i (leastS t.xs i m) t = some u) :
    Calls Try.prog 74 #[.pointer (some ⟨g, 0, none⟩), .int .i64 i, .int .i64 m] w (FxEnd w0 w1 g (.slice (some ⟨gs, 0, none⟩) n cap) u.xs u.fail u.moved) := by
  have g0 : w.cell? ⟨g, 0, none⟩ = some (.slice (some ⟨gs, 0, none⟩) n cap) := (blk_cell hF.1.1 0).trans rfl
  have y0 := blk_frozen hF.1.1 0
  have hlt := blk_lt hF.1.1
  have hne : g ≠ w.heap.size := by omega
  have hgl : gs < w.heap.size := Kd.R_lt hF.1.2.2 gs (by simp [Value.ownBlock])
  have hn2 : gs ≠ w.heap.size := by omega
  have hn3 : w.heap.size ≠ gs := by omega
  have hn4 : w.heap.size ≠ g := by omega
  have p1 : decide (0 ≤ i) = true := decide_eq_true h0
  have p2 : decide (i < (n : Int)) = true := decide_eq_true hi
  obtain ⟨e0, e1, e2, e3, f0, f1, f2, f3⟩ := fx_elem hF i h0 hi
  have HF := Aside0.mk hF
  have HN1 : Aside0 ((rd_T59 t.xs i).f2 < m → putL k i ⟨(rd_T59 t.xs i).f0, (rd_T59 t.xs i).f1, m, (rd_T59 t.xs i).f3⟩ t = some u) := ⟨fun h => by
    rw [← hn]
    simp only [leastS, mx, if_pos h]⟩
  have HN2 : Aside0 (¬ (rd_T59 t.xs i).f2 < m → putL k i ⟨(rd_T59 t.xs i).f0, (rd_T59 t.xs i).f1, (rd_T59 t.xs i).f2, (rd_T59 t.xs i).f3⟩ t = some u) := ⟨fun h => by
    rw [← hn]
    simp only [leastS, mx, if_neg h]⟩
  clear hF hn
  go_enter Try.func74, Try.ntmps74
  go_wp2_with (go_at_call 37; (with_reducible first | (refine (put_calls k g gs cap n t u i h0 hi _ w0 w1 _ (fx_alloc HF.out _) (HN1.out (by assumption))).mono ?_) | (refine (put_calls k g gs cap n t u i h0 hi _ w0 w1 _ (fx_alloc HF.out _) (HN2.out (by assumption))).mono ?_)); rintro e w2 ⟨rfl, HF2⟩; replace HF2 := Aside0.mk HF2)
  all_goals first | exact ⟨rfl, HF2.out⟩ | (go_end0; exact ⟨rfl, HF2.out⟩) | ((try simp only [Exit.inBlock, Exit.then]); refine bodyPost_ret (results_none rfl _ _ _) rfl ?_; exact ⟨rfl, HF2.out⟩)
@[reducible] def greatestS (xs : List S59) (i m : Int) : S59 := ⟨(rd_T59 xs i).f0, (rd_T59 xs i).f1, (rd_T59 xs i).f2, mn (rd_T59 xs i).f3 m⟩
theorem greatest_calls (k : Nat) (g gs cap n : Nat) (t u : St) (i : Int) (h0 : 0 ≤ i) (hi : i < n) (m : Int) (w0 w1 w : World) (hF : Fx w0 w1 w g (.slice (some ⟨gs, 0, none⟩) n cap) t.xs t.fail t.moved) (hn : putL k i (greatestS t.xs i m) t = some u) :
    Calls Try.prog 73 #[.pointer (some ⟨g, 0, none⟩), .int .i64 i, .int .i64 m] w (FxEnd w0 w1 g (.slice (some ⟨gs, 0, none⟩) n cap) u.xs u.fail u.moved) := by
  have g0 : w.cell? ⟨g, 0, none⟩ = some (.slice (some ⟨gs, 0, none⟩) n cap) := (blk_cell hF.1.1 0).trans rfl
  have y0 := blk_frozen hF.1.1 0
  have hlt := blk_lt hF.1.1
  have hne : g ≠ w.heap.size := by omega
  have hgl : gs < w.heap.size := Kd.R_lt hF.1.2.2 gs (by simp [Value.ownBlock])
  have hn2 : gs ≠ w.heap.size := by omega
  have hn3 : w.heap.size ≠ gs := by omega
  have hn4 : w.heap.size ≠ g := by omega
  have p1 : decide (0 ≤ i) = true := decide_eq_true h0
  have p2 : decide (i < (n : Int)) = true := decide_eq_true hi
  obtain ⟨e0, e1, e2, e3, f0, f1, f2, f3⟩ := fx_elem hF i h0 hi
  have HF := Aside0.mk hF
  have HN1 : Aside0 (m < (rd_T59 t.xs i).f3 → putL k i ⟨(rd_T59 t.xs i).f0, (rd_T59 t.xs i).f1, (rd_T59 t.xs i).f2, m⟩ t = some u) := ⟨fun h => by
    rw [← hn]
    simp only [greatestS, mn, if_pos h]⟩
  have HN2 : Aside0 (¬ m < (rd_T59 t.xs i).f3 → putL k i ⟨(rd_T59 t.xs i).f0, (rd_T59 t.xs i).f1, (rd_T59 t.xs i).f2, (rd_T59 t.xs i).f3⟩ t = some u) := ⟨fun h => by
    rw [← hn]
    simp only [greatestS, mn, if_neg h]⟩
  clear hF hn
  go_enter Try.func73, Try.ntmps73
  go_wp2_with (go_at_call 37; (with_reducible first | (refine (put_calls k g gs cap n t u i h0 hi _ w0 w1 _ (fx_alloc HF.out _) (HN1.out (by assumption))).mono ?_) | (refine (put_calls k g gs cap n t u i h0 hi _ w0 w1 _ (fx_alloc HF.out _) (HN2.out (by assumption))).mono ?_)); rintro e w2 ⟨rfl, HF2⟩; replace HF2 := Aside0.mk HF2)
  all_goals first | exact ⟨rfl, HF2.out⟩ | (go_end0; exact ⟨rfl, HF2.out⟩) | ((try simp only [Exit.inBlock, Exit.then]); refine bodyPost_ret (results_none rfl _ _ _) rfl ?_; exact ⟨rfl, HF2.out⟩)
end Go.Proofs.Ytgfbgfbnmiainaa.Fam
