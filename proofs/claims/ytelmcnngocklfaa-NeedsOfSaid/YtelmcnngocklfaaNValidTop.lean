import Derived.Test.YtelmcnngocklfaaNValid
import Derived.Test.YtelmcnngocklfaaNInv
/-! kernel.Valid at awake's statement. -/
namespace Go.Proofs.Ytelmcnngocklfaa.Need
set_option linter.unusedVariables false
set_option linter.unusedSimpArgs false
open Go.RowKit Go.Proofs.YtelmcnngocklfaaW.PrintWords Go.Proofs.YtelmcnngocklfaaW.PrintLast Go.Proofs.YtelmcnngocklfaaW.PrintMore Go.Proofs.Ytelmcnngocklfaa.Q
/-- The statement of awake, from its outermost kid on. -/
structure Lie (w : World) (q5 b3 : Nat) : Prop where
  e : ∃ (B4 : Option Addr) (q6 d4 d5 : Nat) (C3 C4 : Option Addr) (q7 e3 e4 e5 : Nat) (D3 D4 D5 : Option Addr) (f3 f4 f5 : Nat),
    SF w s1 (some ⟨b3, 0, none⟩) 1 B4 d4 (some ⟨q6, 0, none⟩) d5 ∧ Kid w q5 s1 (some ⟨b3, 0, none⟩) 1 B4 d4 (some ⟨q6, 0, none⟩) d5 ∧
    SF w s2 C3 e3 C4 e4 (some ⟨q7, 0, none⟩) e5 ∧ Kid w q6 s2 C3 e3 C4 e4 (some ⟨q7, 0, none⟩) e5 ∧ SF w s3 D3 f3 D4 f4 D5 f5 ∧ Kid w q7 s3 D3 f3 D4 f4 D5 f5
theorem valid_lie {w0 w : World} {m : Value} {deep n : Int} {cb : Nat} {A3 A4 : Option Addr} {q5 b3 c3 c4 c5 : Nat} (h : SF w0 s0 A3 c3 A4 c4 (some ⟨q5, 0, none⟩) c5) (hl : Lie w0 q5 b3) (hc : Cn w0 w cb n) (hd : deep ≤ 70) (hd0 : 0 ≤ deep) (h0 : 0 ≤ n) (h1 : n < 800) :
    Calls Try.prog 43 #[ag nLocal A3 1 c3 A4 c4 (some ⟨q5, 0, none⟩) 1 c5, m, .int .i64 deep, .pointer (some ⟨cb, 0, none⟩)] w (fun e w' => e = .returned (.bool true) ∧ Cn w0 w' cb (n + 1 + 3) ∧ KeepBut w w' cb none) := by
  obtain ⟨B4, q6, d4, d5, C3, C4, q7, e3, e4, e5, D3, D4, D5, f3, f4, f5, y1, k1, y2, k2, y3, k3⟩ := hl.e
  exact valid_local w0 w m deep n cb h hc hd hd0 h0 h1 y1 k1 y2 k2 y3 k3
structure VRF (A3 A4 : Option Addr) (q5 c3 c4 c5 : Nat) (w w' : World) (b0 b1 b2 b3 : Bool) (v4 v5 v6 v2 : Value) : Prop where
  h0 : b0 = true → v4 = .agg #[.string nLocal, .string no, .int .i64 0, .slice A3 1 c3, .slice A4 0 c4, .slice (some ⟨q5, 0, none⟩) 1 c5]
  h2 : b2 = true → v6 = .bool true
  h3 : b3 = true → v2 = .bool true
  k0 : w'.heap[w.heap.size]? = some (.cells #[.string nLocal, .string no, .int .i64 0, .slice A3 1 c3, .slice A4 0 c4, .slice (some ⟨q5, 0, none⟩) 1 c5] 26 (0, 0))
  k1 : w'.heap[w.heap.size + 1]? = some (.cells #[.int .i64 (if b2 = true then 4 else 0)] 3 (0, 0))
  bel : Below w.heap.size w w'
def VRJ (A3 A4 : Option Addr) (q5 c3 c4 c5 : Nat) (w : World) (a0 : Act) (listed : Array Bool) (a' : Act) (w' : World) : Prop :=
  ∃ (b0 b1 b2 b3 : Bool) (v4 v5 v6 v2 : Value), listed = #[b0, b1, b2, b3] ∧ a' = { a0 with tmps := (((a0.tmps.setIfInBounds 4 v4).setIfInBounds 5 v5).setIfInBounds 6 v6).setIfInBounds 2 v2 } ∧ VRF A3 A4 q5 c3 c4 c5 w w' b0 b1 b2 b3 v4 v5 v6 v2
theorem VR_self (a : Act) : a = { a with tmps := (((a.tmps.setIfInBounds 4 (a.tmps.getD 4 undef)).setIfInBounds 5 (a.tmps.getD 5 undef)).setIfInBounds 6 (a.tmps.getD 6 undef)).setIfInBounds 2 (a.tmps.getD 2 undef) } := by
  simp only [set_self]
set_option maxHeartbeats 2000000 in
set_option maxRecDepth 100000 in
theorem Valid_walk (w : World) {A3 A4 : Option Addr} {q5 b3 c3 c4 c5 : Nat} (h : SF w s0 A3 c3 A4 c4 (some ⟨q5, 0, none⟩) c5) (hl : Lie w q5 b3) :
    Calls Try.prog 29 #[ag nLocal A3 1 c3 A4 c4 (some ⟨q5, 0, none⟩) 1 c5] w (fun e w' => e = .returned (.bool true) ∧ Below w.heap.size w w') := by
  have HS := Aside0.mk h
  have HL := Aside0.mk hl
  clear h hl
  go_enter Try.func29, Try.ntmps29
  go_upto_region 2 with fail
  (try simp only [Act.put, List.setIfInBounds_toArray, List.set_cons_zero, List.set_cons_succ])
  have hb0 := blk_alloc (blk_new w (.cells #[.string nLocal, .string no, .int .i64 0, .slice A3 1 c3, .slice A4 0 c4, .slice (some ⟨q5, 0, none⟩) 1 c5] 26 (0, 0))) (.cells #[.int .i64 0] 3 (0, 0))
  have HB0 := Aside0.mk hb0
  have HB1 := Aside0.mk (blk_newT (w := w.alloc (.cells #[.string nLocal, .string no, .int .i64 0, .slice A3 1 c3, .slice A4 0 c4, .slice (some ⟨q5, 0, none⟩) 1 c5] 26 (0, 0))) (o := .cells #[.int .i64 0] 3 (0, 0)) (n := w.heap.size + 1) (by simp))
  have HW := Aside0.mk (show Below w.heap.size w ((w.alloc (.cells #[.string nLocal, .string no, .int .i64 0, .slice A3 1 c3, .slice A4 0 c4, .slice (some ⟨q5, 0, none⟩) 1 c5] 26 (0, 0))).alloc (.cells #[.int .i64 0] 3 (0, 0))) from below_alloc (below_alloc (Below.refl _ _) _) _)
  have x0 := (blk_cell hb0 0).trans rfl
  have x1 := (blk_cell hb0 1).trans rfl
  have x2 := (blk_cell hb0 2).trans rfl
  have x3 := (blk_cell hb0 3).trans rfl
  have x4 := (blk_cell hb0 4).trans rfl
  have x5 := (blk_cell hb0 5).trans rfl
  clear hb0
  refine RegInv.wp_region_inv' rfl (by kernel_rfl) (VRJ A3 A4 q5 c3 c4 c5 w) ?_ ?_ ?_
  · refine ⟨false, false, false, false, _, _, _, _, rfl, VR_self _, ?_⟩
    exact ⟨fun h => (by cases h), fun h => (by cases h), fun h => (by cases h), HB0.out, HB1.out, below_drew1 HW.out⟩
  · clear x0 x1 x2 x3 x4 x5
    rintro listed a' w' i o ho hz hb hw ⟨b0, b1, b2, b3, v4, v5, v6, v2, rfl, rfl, F9⟩
    match i, ho, hb, hw with
    | 0, ho, hb, hw =>
      obtain rfl : _ = o := Option.some.inj ho
      simp only [List.setIfInBounds_toArray, List.set_cons_zero, List.set_cons_succ]
      have y0 := (blk_cell F9.k0 0).trans rfl
      have y1 := (blk_cell F9.k0 1).trans rfl
      have y2 := (blk_cell F9.k0 2).trans rfl
      have y3 := (blk_cell F9.k0 3).trans rfl
      have y4 := (blk_cell F9.k0 4).trans rfl
      have y5 := (blk_cell F9.k0 5).trans rfl
      go_wp2
      exact ⟨true, b1, b2, b3, .agg #[.string nLocal, .string no, .int .i64 0, .slice A3 1 c3, .slice A4 0 c4, .slice (some ⟨q5, 0, none⟩) 1 c5], v5, v6, v2, rfl, by simp only [List.setIfInBounds_toArray, List.set_cons_zero, List.set_cons_succ, Bool.not_true], { F9 with h0 := fun _ => rfl }⟩
    | 1, ho, hb, hw =>
      obtain rfl : _ = o := Option.some.inj ho
      simp only [List.setIfInBounds_toArray, List.set_cons_zero, List.set_cons_succ]
      go_wp2_with (go_at_call 44; (refine (ops_walk w').mono ?_); rintro e w2 ⟨⟨m, rfl⟩, hd⟩)
      exact ⟨b0, true, b2, b3, v4, .map m, v6, v2, rfl, by simp only [List.setIfInBounds_toArray, List.set_cons_zero, List.set_cons_succ, Bool.not_true], { F9 with k0 := blk_below F9.k0 hd, k1 := blk_below F9.k1 hd, bel := below_then F9.bel F9.bel.size hd }⟩
    | 2, ho, hb, hw =>
      obtain rfl : _ = o := Option.some.inj ho
      simp only [List.setIfInBounds_toArray, List.set_cons_zero, List.set_cons_succ]
      obtain rfl := F9.h0 (hw ⟨0, .data⟩ (by simp) rfl)
      obtain rfl : b2 = false := hb
      go_wp2_with (go_at_call 43; (refine (valid_lie HS.out HL.out (n := 0) ⟨F9.k1, F9.bel, by omega⟩ (by decide) (by decide) (by decide) (by decide)).mono ?_); rintro e w2 ⟨rfl, hc, hk⟩)
      exact ⟨b0, b1, true, b3, .agg #[.string nLocal, .string no, .int .i64 0, .slice A3 1 c3, .slice A4 0 c4, .slice (some ⟨q5, 0, none⟩) 1 c5], v5, .bool true, v2, rfl, by simp only [List.setIfInBounds_toArray, List.set_cons_zero, List.set_cons_succ, Bool.not_true], { F9 with h2 := fun _ => rfl, k0 := (hk.2 _ (blk_lt F9.k0) (by omega) (by simp)).trans F9.k0, k1 := hc.c, bel := hc.b }⟩
    | 3, ho, hb, hw =>
      obtain rfl : _ = o := Option.some.inj ho
      simp only [List.setIfInBounds_toArray, List.set_cons_zero, List.set_cons_succ]
      obtain rfl := F9.h2 (hw ⟨2, .data⟩ (by simp) rfl)
      go_wp2
      exact ⟨b0, b1, b2, true, v4, v5, .bool true, .bool true, rfl, by simp only [List.setIfInBounds_toArray, List.set_cons_zero, List.set_cons_succ, Bool.not_true], { F9 with h3 := fun _ => rfl }⟩
    | j + 4, ho, hb, hw => exact absurd ho (by simp)
  · rintro listed a' w' hall ⟨b0, b1, b2, b3, v4, v5, v6, v2, rfl, rfl, F9⟩
    obtain rfl : b0 = true := hall 0 (by decide)
    obtain rfl : b1 = true := hall 1 (by decide)
    obtain rfl : b2 = true := hall 2 (by decide)
    obtain rfl : b3 = true := hall 3 (by decide)
    obtain rfl := F9.h3 rfl
    simp only [List.setIfInBounds_toArray, List.set_cons_zero, List.set_cons_succ]
    go_wp2_with fail
    go_ret
    exact ⟨rfl, F9.bel⟩
end Go.Proofs.Ytelmcnngocklfaa.Need
