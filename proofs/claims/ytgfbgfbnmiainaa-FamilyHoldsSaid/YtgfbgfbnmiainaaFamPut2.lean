import Derived.Test.YtgfbgfbnmiainaaFamPut
import Derived.Deep.QuietTactic
import Derived.BigQuiet
/-! The families under way: put, against a Lean function. -/
namespace Go.Proofs.Ytgfbgfbnmiainaa.Fam
set_option linter.unusedVariables false
set_option linter.unusedSimpArgs false
open Go.RowKit Go.Proofs.YtgfbgfbnmiainaaW.PrintWords Go.Proofs.YtgfbgfbnmiainaaW.PrintLast Go.Proofs.YtgfbgfbnmiainaaW.PrintMore Go.Proofs.Ytgfbgfbnmiainaa.Q
attribute [local go_sem] Go.Proofs.YtgfbgfbnmiainaaW.OwnWords.isSome_setCell max2_int min2_int
attribute [local go_sem high] eqA59
def eq59 (a b : S59) : Bool := a.f0 == b.f0 && (a.f1 == b.f1 && (a.f2 == b.f2 && (a.f3 == b.f3)))
/-- A fact about the world is what the walk is to end with. -/
def FxEnd (w0 w1 : World) (g : Nat) (v : Value) (xs : List S59) (f m : Bool) (e : Ending) (w' : World) : Prop := e = .returned (.tuple #[]) ∧ Fx w0 w1 w' g v xs f m
theorem put_f (g : Nat) (v : Value) (xs : List S59) (m : Bool) (i : Int) (s : S59) (w0 w1 w : World) (hF : Fx w0 w1 w g v xs true m) :
    Calls Try.prog 37 #[.pointer (some ⟨g, 0, none⟩), .int .i64 i, .agg #[.int .u64 s.f0, .int .u64 s.f1, .int .i64 s.f2, .int .i64 s.f3]] w (FxEnd w0 w1 g v xs true m) := by
  have h1 : w.cell? ⟨g, 1, none⟩ = some (.bool true) := (blk_cell hF.1.1 1).trans rfl
  have hlt := blk_lt hF.1.1
  have hne : g ≠ w.heap.size := by omega
  have HF := Aside0.mk hF
  clear hF
  go_enter Try.func37, Try.ntmps37
  go_wp2
  first | go_end0 | ((try simp only [Exit.inBlock, Exit.then]); refine bodyPost_ret (results_none rfl _ _ _) rfl ?_)
  exact ⟨rfl, fx_alloc HF.out _⟩
/-- The box that put lays for s, and what else is known at its begin. -/
theorem put_no (k : Nat) (g : Nat) (v : Value) (xs : List S59) (m : Bool) (i : Int) (s : S59) (a b c d : Int) (w0 w1 w : World) (hF : Fx w0 w1 w g v xs false m) (hn : family_span_normal.f k s.f0 s.f1 s.f2 s.f3 = some (a, b, c, d, false)) :
    Calls Try.prog 37 #[.pointer (some ⟨g, 0, none⟩), .int .i64 i, .agg #[.int .u64 s.f0, .int .u64 s.f1, .int .i64 s.f2, .int .i64 s.f3]] w (FxEnd w0 w1 g v xs true m) := by
  have h1 : w.cell? ⟨g, 1, none⟩ = some (.bool false) := (blk_cell hF.1.1 1).trans rfl
  have hlt := blk_lt hF.1.1
  have hne : g ≠ w.heap.size := by omega
  have hle : w1.heap.size ≤ w.heap.size := hF.2.2.1.1
  have HF := Aside0.mk hF
  have HN := Aside0.mk hn
  clear hF hn
  go_enter Try.func37, Try.ntmps37
  go_wp2_with (go_at_call 45; (with_reducible refine (family_span_normal.calls k _ _ _ _ a b c d false _ HN.out).mono ?_); rintro e w2 ⟨rfl, hb⟩; have HF2 := Aside0.mk (fx_below (fx_alloc HF.out _) hb); have hk2 := blk_below (blk_new w _) hb; have q0 : w2.cell? ⟨w.heap.size, 0, none⟩ = some (.int .u64 s.f0) := (blk_cell hk2 0).trans rfl; have q1 : w2.cell? ⟨w.heap.size, 1, none⟩ = some (.int .u64 s.f1) := (blk_cell hk2 1).trans rfl; have q2 : w2.cell? ⟨w.heap.size, 2, none⟩ = some (.int .i64 s.f2) := (blk_cell hk2 2).trans rfl; have q3 : w2.cell? ⟨w.heap.size, 3, none⟩ = some (.int .i64 s.f3) := (blk_cell hk2 3).trans rfl; have z0 := blk_frozen hk2 0; have z1 := blk_frozen hk2 1; have z2 := blk_frozen hk2 2; have z3 := blk_frozen hk2 3; have g0 : w2.cell? ⟨g, 0, none⟩ = some v := (blk_cell HF2.out.1.1 0).trans rfl; have g1 : w2.cell? ⟨g, 1, none⟩ = some (.bool false) := (blk_cell HF2.out.1.1 1).trans rfl; have g2 : w2.cell? ⟨g, 2, none⟩ = some (.bool m) := (blk_cell HF2.out.1.1 2).trans rfl; have y0 := blk_frozen HF2.out.1.1 0; have y1 := blk_frozen HF2.out.1.1 1; have y2 := blk_frozen HF2.out.1.1 2; clear hb hk2)
  first | go_end0 | ((try simp only [Exit.inBlock, Exit.then]); refine bodyPost_ret (results_none rfl _ _ _) rfl ?_)
  exact ⟨rfl, fx_put1 (fx_far (fx_far (fx_far (fx_far HF2.out hle _) hle _) hle _) hle _) true⟩
theorem put_eq (k : Nat) (g gs cap n : Nat) (xs : List S59) (m : Bool) (i : Int) (h0 : 0 ≤ i) (hi : i < n) (s : S59) (a b c d : Int) (w0 w1 w : World) (hF : Fx w0 w1 w g (.slice (some ⟨gs, 0, none⟩) n cap) xs false m) (hn : family_span_normal.f k s.f0 s.f1 s.f2 s.f3 = some (a, b, c, d, true))
    (he : (a == (rd_T59 xs i).f0 && (b == (rd_T59 xs i).f1 && (c == (rd_T59 xs i).f2 && (d == (rd_T59 xs i).f3)))) = true) :
    Calls Try.prog 37 #[.pointer (some ⟨g, 0, none⟩), .int .i64 i, .agg #[.int .u64 s.f0, .int .u64 s.f1, .int .i64 s.f2, .int .i64 s.f3]] w (FxEnd w0 w1 g (.slice (some ⟨gs, 0, none⟩) n cap) xs false m) := by
  have h1 : w.cell? ⟨g, 1, none⟩ = some (.bool false) := (blk_cell hF.1.1 1).trans rfl
  have hlt := blk_lt hF.1.1
  have hne : g ≠ w.heap.size := by omega
  have hle : w1.heap.size ≤ w.heap.size := hF.2.2.1.1
  have hgs := fx_own hF gs (by simp [Value.ownBlock])
  have hgl : gs < w.heap.size := Kd.R_lt hF.1.2.2 gs (by simp [Value.ownBlock])
  have hn1 : g ≠ gs := fun e => hgs.1 e.symm
  have hn2 : gs ≠ w.heap.size := by omega
  have hn3 : w.heap.size ≠ gs := by omega
  have hn4 : w.heap.size ≠ g := by omega
  have hn5 : gs ≠ g := hgs.1
  have HF := Aside0.mk hF
  have HN := Aside0.mk hn
  have p1 : decide (0 ≤ i) = true := decide_eq_true h0
  have p2 : decide (i < (n : Int)) = true := decide_eq_true hi
  clear hF hn hgs
  go_enter Try.func37, Try.ntmps37
  go_wp2_with (go_at_call 45; (with_reducible refine (family_span_normal.calls k _ _ _ _ a b c d true _ HN.out).mono ?_); rintro e w2 ⟨rfl, hb⟩; have HF2 := Aside0.mk (fx_below (fx_alloc HF.out _) hb); have hk2 := blk_below (blk_new w _) hb; have q0 : w2.cell? ⟨w.heap.size, 0, none⟩ = some (.int .u64 s.f0) := (blk_cell hk2 0).trans rfl; have q1 : w2.cell? ⟨w.heap.size, 1, none⟩ = some (.int .u64 s.f1) := (blk_cell hk2 1).trans rfl; have q2 : w2.cell? ⟨w.heap.size, 2, none⟩ = some (.int .i64 s.f2) := (blk_cell hk2 2).trans rfl; have q3 : w2.cell? ⟨w.heap.size, 3, none⟩ = some (.int .i64 s.f3) := (blk_cell hk2 3).trans rfl; have z0 := blk_frozen hk2 0; have z1 := blk_frozen hk2 1; have z2 := blk_frozen hk2 2; have z3 := blk_frozen hk2 3; have g0 : w2.cell? ⟨g, 0, none⟩ = some (.slice (some ⟨gs, 0, none⟩) n cap) := (blk_cell HF2.out.1.1 0).trans rfl; have g1 : w2.cell? ⟨g, 1, none⟩ = some (.bool false) := (blk_cell HF2.out.1.1 1).trans rfl; have g2 : w2.cell? ⟨g, 2, none⟩ = some (.bool m) := (blk_cell HF2.out.1.1 2).trans rfl; have y0 := blk_frozen HF2.out.1.1 0; have y1 := blk_frozen HF2.out.1.1 1; have y2 := blk_frozen HF2.out.1.1 2; obtain ⟨e0, e1, e2, e3, f0, f1, f2, f3⟩ := fx_elem HF2.out i h0 hi; clear hb hk2)
  go_quiet (fail)
  try go_wp2
  first | go_end0 | ((try simp only [Exit.inBlock, Exit.then]); refine bodyPost_ret (results_none rfl _ _ _) rfl ?_)
  exact ⟨rfl, fx_drewN (fx_far (fx_far (fx_far (fx_far HF2.out hle _) hle _) hle _) hle _) _⟩
theorem put_ne (k : Nat) (g gs cap n : Nat) (xs : List S59) (m : Bool) (i : Int) (h0 : 0 ≤ i) (hi : i < n) (s : S59) (a b c d : Int) (w0 w1 w : World) (hF : Fx w0 w1 w g (.slice (some ⟨gs, 0, none⟩) n cap) xs false m) (hn : family_span_normal.f k s.f0 s.f1 s.f2 s.f3 = some (a, b, c, d, true))
    (he : (a == (rd_T59 xs i).f0 && (b == (rd_T59 xs i).f1 && (c == (rd_T59 xs i).f2 && (d == (rd_T59 xs i).f3)))) = false) :
    Calls Try.prog 37 #[.pointer (some ⟨g, 0, none⟩), .int .i64 i, .agg #[.int .u64 s.f0, .int .u64 s.f1, .int .i64 s.f2, .int .i64 s.f3]] w (FxEnd w0 w1 g (.slice (some ⟨gs, 0, none⟩) n cap) (xs.set i.toNat ⟨a, b, c, d⟩) false true) := by
  have h1 : w.cell? ⟨g, 1, none⟩ = some (.bool false) := (blk_cell hF.1.1 1).trans rfl
  have hlt := blk_lt hF.1.1
  have hne : g ≠ w.heap.size := by omega
  have hle : w1.heap.size ≤ w.heap.size := hF.2.2.1.1
  have hgs := fx_own hF gs (by simp [Value.ownBlock])
  have hgl : gs < w.heap.size := Kd.R_lt hF.1.2.2 gs (by simp [Value.ownBlock])
  have hn1 : g ≠ gs := fun e => hgs.1 e.symm
  have hn2 : gs ≠ w.heap.size := by omega
  have hn3 : w.heap.size ≠ gs := by omega
  have hn4 : w.heap.size ≠ g := by omega
  have hn5 : gs ≠ g := hgs.1
  have HF := Aside0.mk hF
  have HN := Aside0.mk hn
  have p1 : decide (0 ≤ i) = true := decide_eq_true h0
  have p2 : decide (i < (n : Int)) = true := decide_eq_true hi
  clear hF hn hgs
  go_enter Try.func37, Try.ntmps37
  go_wp2_with (go_at_call 45; (with_reducible refine (family_span_normal.calls k _ _ _ _ a b c d true _ HN.out).mono ?_); rintro e w2 ⟨rfl, hb⟩; have HF2 := Aside0.mk (fx_below (fx_alloc HF.out _) hb); have hk2 := blk_below (blk_new w _) hb; have q0 : w2.cell? ⟨w.heap.size, 0, none⟩ = some (.int .u64 s.f0) := (blk_cell hk2 0).trans rfl; have q1 : w2.cell? ⟨w.heap.size, 1, none⟩ = some (.int .u64 s.f1) := (blk_cell hk2 1).trans rfl; have q2 : w2.cell? ⟨w.heap.size, 2, none⟩ = some (.int .i64 s.f2) := (blk_cell hk2 2).trans rfl; have q3 : w2.cell? ⟨w.heap.size, 3, none⟩ = some (.int .i64 s.f3) := (blk_cell hk2 3).trans rfl; have z0 := blk_frozen hk2 0; have z1 := blk_frozen hk2 1; have z2 := blk_frozen hk2 2; have z3 := blk_frozen hk2 3; have g0 : w2.cell? ⟨g, 0, none⟩ = some (.slice (some ⟨gs, 0, none⟩) n cap) := (blk_cell HF2.out.1.1 0).trans rfl; have g1 : w2.cell? ⟨g, 1, none⟩ = some (.bool false) := (blk_cell HF2.out.1.1 1).trans rfl; have g2 : w2.cell? ⟨g, 2, none⟩ = some (.bool m) := (blk_cell HF2.out.1.1 2).trans rfl; have y0 := blk_frozen HF2.out.1.1 0; have y1 := blk_frozen HF2.out.1.1 1; have y2 := blk_frozen HF2.out.1.1 2; obtain ⟨e0, e1, e2, e3, f0, f1, f2, f3⟩ := fx_elem HF2.out i h0 hi; clear hb hk2)
  go_quiet (fail)
  try go_wp2
  go_region
  try go_wp2
  first | go_end0 | ((try simp only [Exit.inBlock, Exit.then]); refine bodyPost_ret (results_none rfl _ _ _) rfl ?_)
  exact ⟨rfl, fx_put2 (fx_store (fx_drewN (fx_far (fx_far (fx_far (fx_far HF2.out hle _) hle _) hle _) hle _) _) i h0 hi ⟨a, b, c, d⟩) true⟩
/-- put, against Lean functions: what becomes of the list, of whether it fails and of whether it moved. -/
def putN (k : Nat) (s : S59) : Option (S59 × Bool) := (family_span_normal.f k s.f0 s.f1 s.f2 s.f3).map (fun r => (⟨r.1, r.2.1, r.2.2.1, r.2.2.2.1⟩, r.2.2.2.2))
structure St where
  xs : List S59
  fail : Bool
  moved : Bool
def putL (k : Nat) (i : Int) (s : S59) (t : St) : Option St :=
  if t.fail then some t
  else (putN k s).map (fun r => if r.2 then (if eq59 r.1 (rd_T59 t.xs i) then t else ⟨t.xs.set i.toNat r.1, false, true⟩) else ⟨t.xs, true, t.moved⟩)
theorem put_calls (k : Nat) (g gs cap n : Nat) (t u : St) (i : Int) (h0 : 0 ≤ i) (hi : i < n) (s : S59) (w0 w1 w : World) (hF : Fx w0 w1 w g (.slice (some ⟨gs, 0, none⟩) n cap) t.xs t.fail t.moved) (hn : putL k i s t = some u) :
    Calls Try.prog 37 #[.pointer (some ⟨g, 0, none⟩), .int .i64 i, .agg #[.int .u64 s.f0, .int .u64 s.f1, .int .i64 s.f2, .int .i64 s.f3]] w (FxEnd w0 w1 g (.slice (some ⟨gs, 0, none⟩) n cap) u.xs u.fail u.moved) := by
  obtain ⟨xs, f, m⟩ := t
  unfold putL at hn
  cases f with
  | true =>
    simp only [if_true, Option.some.injEq] at hn
    subst hn
    exact put_f g _ xs m i s w0 w1 w hF
  | false =>
    simp only [Bool.false_eq_true, if_false, putN, Option.map_map, Option.map_eq_some_iff, Function.comp] at hn
    obtain ⟨⟨a, b, c, d, o⟩, hr, hu⟩ := hn
    cases o with
    | false =>
      simp only [Bool.false_eq_true, if_false] at hu
      subst hu
      exact put_no k g _ xs m i s a b c d w0 w1 w hF hr
    | true =>
      simp only [if_true] at hu
      cases he : eq59 ⟨a, b, c, d⟩ (rd_T59 xs i) with
      | true =>
        simp only [he, if_true] at hu
        subst hu
        exact put_eq k g gs cap n xs m i h0 hi s a b c d w0 w1 w hF hr he
      | false =>
        simp only [he, Bool.false_eq_true, if_false] at hu
        subst hu
        exact put_ne k g gs cap n xs m i h0 hi s a b c d w0 w1 w hF hr he
end Go.Proofs.Ytgfbgfbnmiainaa.Fam
