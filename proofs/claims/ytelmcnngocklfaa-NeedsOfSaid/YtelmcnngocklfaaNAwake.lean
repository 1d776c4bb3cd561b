import Derived.Test.YtelmcnngocklfaaNTop
/-! The law's awake. -/
namespace Go.Proofs.Ytelmcnngocklfaa.Need
set_option linter.unusedVariables false
set_option linter.unusedSimpArgs false
open Go.RowKit Go.Proofs.YtelmcnngocklfaaW.PrintWords Go.Proofs.YtelmcnngocklfaaW.PrintLast Go.Proofs.YtelmcnngocklfaaW.PrintMore Go.Proofs.Ytelmcnngocklfaa.Q
theorem c_none {α : Type} (d : Kd α) (w : World) : d.C w none 0 [] := ⟨rfl, by decide, fun h => absurd h (by decide)⟩
theorem c26_one {w : World} {q : Nat} {x : S26} {cs : List Value} (hh : w.heap[q]? = some (.cells cs.toArray 26 (0, 0))) (hk : k26.K w x cs) (hl : cs.length = 6) : k26.C w (some ⟨q, 0, none⟩) 1 [x] := by
  refine ⟨rfl, by decide, fun _ => ⟨_, rfl, fun j p hj => ?_⟩⟩
  match j, hj with
  | 0, hj =>
    obtain rfl := Option.some.inj hj
    refine ⟨cs, hl, hk, fun i u hi => ?_⟩
    have e : (⟨q, 0, none⟩ : Addr).add (0 * k26.sz + i) = ⟨q, i, none⟩ := by cases i <;> simp [Addr.add]
    rw [e, blk_cell hh]
    simpa using hi
  | j + 1, hj => exact absurd hj (by simp)
theorem cs_one {w : World} {q : Nat} {d : ByteArray} (hh : w.heap[q]? = some (.cells #[.string d] 9 (0, 0))) : Kd.string.C w (some ⟨q, 0, none⟩) 1 [d] := by
  refine ⟨rfl, by decide, fun _ => ⟨_, rfl, fun j p hj => ?_⟩⟩
  match j, hj with
  | 0, hj =>
    obtain rfl := Option.some.inj hj
    refine ⟨[.string d], rfl, rfl, fun i u hi => ?_⟩
    have e : (⟨q, 0, none⟩ : Addr).add (0 * Kd.string.sz + i) = ⟨q, i, none⟩ := by cases i <;> simp [Addr.add]
    rw [e, blk_cell hh]
    simpa using hi
  | j + 1, hj => exact absurd hj (by simp)
theorem all_lies {W : World} {n0 n1 q7 q6 q5 : Nat} (h0 : W.heap[n0]? = some (.cells #[.string nP] 9 (0, 0))) (h1 : W.heap[n1]? = some (.cells #[.string nP] 9 (0, 0)))
    (h7 : W.heap[q7]? = some (.cells #[.string nSkip, .string no, .int .i64 0, .slice none 0 0, .slice none 0 0, .slice none 0 0] 26 (0, 0)))
    (h6 : W.heap[q6]? = some (.cells #[.string nThread, .string no, .int .i64 0, .slice none 0 0, .slice none 0 0, .slice (some ⟨q7, 0, none⟩) 1 1] 26 (0, 0)))
    (h5 : W.heap[q5]? = some (.cells #[.string nProc, .string no, .int .i64 0, .slice (some ⟨n1, 0, none⟩) 1 1, .slice none 0 0, .slice (some ⟨q6, 0, none⟩) 1 1] 26 (0, 0))) :
    SF W s0 (some ⟨n0, 0, none⟩) 1 none 0 (some ⟨q5, 0, none⟩) 1 ∧ Lie W q5 n1 := by
  have f3 : SF W s3 none 0 none 0 none 0 := ⟨c_none _ _, by decide, c_none _ _, by decide, c_none _ _, by decide⟩
  have c3 : k26.C W (some ⟨q7, 0, none⟩) 1 [s3] := c26_one h7 (k26_mk W s3 (by decide) (c_none _ _) (by decide) (c_none _ _) (by decide) (c_none _ _)) rfl
  have f2 : SF W s2 none 0 none 0 (some ⟨q7, 0, none⟩) 1 := ⟨c_none _ _, by decide, c_none _ _, by decide, c3, by decide⟩
  have c2 : k26.C W (some ⟨q6, 0, none⟩) 1 [s2] := c26_one h6 (k26_mk W s2 (by decide) (c_none _ _) (by decide) (c_none _ _) (c5 := 1) (by decide) c3) rfl
  have f1 : SF W s1 (some ⟨n1, 0, none⟩) 1 none 0 (some ⟨q6, 0, none⟩) 1 := ⟨cs_one h1, by decide, c_none _ _, by decide, c2, by decide⟩
  have c1 : k26.C W (some ⟨q5, 0, none⟩) 1 [s1] := c26_one h5 (k26_mk W s1 (c3 := 1) (by decide) (cs_one h1) (by decide) (c_none _ _) (c5 := 1) (by decide) c2) rfl
  exact ⟨⟨cs_one h0, by decide, c_none _ _, by decide, c1, by decide⟩, ⟨none, q6, 0, 1, none, none, q7, 0, 0, 1, none, none, none, 0, 0, 0, f1, h5, f2, h6, f3, h7⟩⟩
theorem six_new (w : World) (o0 o1 o2 o3 o4 o5 : Obj) : ((((((w.alloc o0).alloc o1).alloc o2).alloc o3).alloc o4).alloc o5).heap[w.heap.size]? = some o0 ∧ ((((((w.alloc o0).alloc o1).alloc o2).alloc o3).alloc o4).alloc o5).heap[w.heap.size + 1]? = some o1 ∧ ((((((w.alloc o0).alloc o1).alloc o2).alloc o3).alloc o4).alloc o5).heap[w.heap.size + 1 + 1]? = some o2 ∧ ((((((w.alloc o0).alloc o1).alloc o2).alloc o3).alloc o4).alloc o5).heap[w.heap.size + 1 + 1 + 1]? = some o3 ∧ ((((((w.alloc o0).alloc o1).alloc o2).alloc o3).alloc o4).alloc o5).heap[w.heap.size + 1 + 1 + 1 + 1]? = some o4 ∧ ((((((w.alloc o0).alloc o1).alloc o2).alloc o3).alloc o4).alloc o5).heap[w.heap.size + 1 + 1 + 1 + 1 + 1]? = some o5 ∧ Below w.heap.size w ((((((w.alloc o0).alloc o1).alloc o2).alloc o3).alloc o4).alloc o5) := by
  obtain ⟨h0, h1, h2, h3, h4, hb⟩ := five w o0 o1 o2 o3 o4
  exact ⟨blk_alloc h0 _, blk_alloc h1 _, blk_alloc h2 _, blk_alloc h3 _, blk_alloc h4 _, five_new w o0 o1 o2 o3 o4 o5, below_alloc hb _⟩
set_option maxHeartbeats 4000000 in
set_option maxRecDepth 100000 in
theorem awake_walk (w : World) : Calls Try.prog 7 #[] w fun e w' => e = .returned (.bool true) ∧ Below w.heap.size w w' := by
  obtain ⟨h0, h1, h2, h3, h4, h5, hS⟩ := six_new w (.cells #[.string nP] 9 (0, 0)) (.cells #[.string nP] 9 (0, 0)) (.cells #[.string nSkip, .string no, .int .i64 0, .slice none 0 0, .slice none 0 0, .slice none 0 0] 26 (0, 0)) (.cells #[.string nThread, .string no, .int .i64 0, .slice none 0 0, .slice none 0 0, .slice (some ⟨w.heap.size + 1 + 1, 0, none⟩) 1 1] 26 (0, 0)) (.cells #[.string nProc, .string no, .int .i64 0, .slice (some ⟨w.heap.size + 1, 0, none⟩) 1 1, .slice none 0 0, .slice (some ⟨w.heap.size + 1 + 1 + 1, 0, none⟩) 1 1] 26 (0, 0)) (.cells #[.string nLocal, .string no, .int .i64 0, .slice (some ⟨w.heap.size, 0, none⟩) 1 1, .slice none 0 0, .slice (some ⟨w.heap.size + 1 + 1 + 1 + 1, 0, none⟩) 1 1] 26 (0, 0))
  have HA := Aside0.mk (all_lies h0 h1 h2 h3 h4)
  have HB := Aside0.mk h5
  have HS := Aside0.mk hS
  have x0 := (blk_cell h5 0).trans rfl
  have x1 := (blk_cell h5 1).trans rfl
  have x2 := (blk_cell h5 2).trans rfl
  have x3 := (blk_cell h5 3).trans rfl
  have x4 := (blk_cell h5 4).trans rfl
  have x5 := (blk_cell h5 5).trans rfl
  clear h0 h1 h2 h3 h4 h5 hS
  go_enter Try.func7, Try.ntmps7
  go_wp2_with (first
    | (go_at_call 16; go_loud ((refine (least_walk _ HA.out.1 HA.out.2).mono ?_); rintro e w2 ⟨rfl, hb⟩; have HB2 := Aside0.mk hb; have y0 := (blk_cell (blk_below HB.out hb) 0).trans rfl; have y1 := (blk_cell (blk_below HB.out hb) 1).trans rfl; have y2 := (blk_cell (blk_below HB.out hb) 2).trans rfl; have y3 := (blk_cell (blk_below HB.out hb) 3).trans rfl; have y4 := (blk_cell (blk_below HB.out hb) 4).trans rfl; have y5 := (blk_cell (blk_below HB.out hb) 5).trans rfl; clear hb x0 x1 x2 x3 x4 x5))
    | (go_at_call 17; go_loud ((refine (promise_walk _ (HA.out.1.below HB2.out) (HA.out.2.below HB2.out)).mono ?_); rintro e w3 ⟨rfl, hb⟩; have HB3 := Aside0.mk (below_then HB2.out HB2.out.size hb); have z0 := (blk_cell (blk_below HB.out HB3.out) 0).trans rfl; have z1 := (blk_cell (blk_below HB.out HB3.out) 1).trans rfl; have z2 := (blk_cell (blk_below HB.out HB3.out) 2).trans rfl; have z3 := (blk_cell (blk_below HB.out HB3.out) 3).trans rfl; have z4 := (blk_cell (blk_below HB.out HB3.out) 4).trans rfl; have z5 := (blk_cell (blk_below HB.out HB3.out) 5).trans rfl; clear hb y0 y1 y2 y3 y4 y5))
    | (go_at_call 10; go_loud ((refine (without_walk _ (HA.out.1.below HB3.out) (HA.out.2.below HB3.out)).mono ?_); rintro e w4 ⟨rfl, hb⟩; have HB4 := Aside0.mk (below_then HB3.out HB3.out.size hb); clear hb)))
  go_ret
  exact ⟨rfl, below_then HS.out HS.out.size HB4.out⟩
end Go.Proofs.Ytelmcnngocklfaa.Need
