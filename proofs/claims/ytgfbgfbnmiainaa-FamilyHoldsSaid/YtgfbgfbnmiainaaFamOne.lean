import Derived.Test.YtgfbgfbnmiainaaFamOps
import Derived.Test.YtgfbgfbnmiainaaQuietLast
/-! one: what follows from a relation of one family and a number. -/
namespace Go.Proofs.Ytgfbgfbnmiainaa.Fam
set_option linter.unusedVariables false
set_option linter.unusedSimpArgs false
open Go.RowKit Go.Proofs.YtgfbgfbnmiainaaW.PrintWords Go.Proofs.YtgfbgfbnmiainaaW.PrintLast Go.Proofs.YtgfbgfbnmiainaaW.PrintMore Go.Proofs.Ytgfbgfbnmiainaa.Q
attribute [local go_sem] Go.Proofs.YtgfbgfbnmiainaaW.OwnWords.isSome_setCell max2_int min2_int
attribute [local go_sem high] eqA59
theorem fx_re {w0 w1 w : World} {g : Nat} {v : Value} {xs : List S59} {f m : Bool} (h : Fx w0 w1 w g v xs f m) (o : Obj) : Fx w0 (w.alloc o) (w.alloc o) g v xs f m := fx_start (fx_alloc h o).1 (fx_alloc h o).2.1
theorem blk_lt_any {w : World} {b : Nat} {o : Obj} (h : w.heap[b]? = some o) : b < w.heap.size := (Array.getElem?_eq_some_iff.1 h).1
theorem fx_kept {w0 W w2 : World} {g b : Nat} {v : Value} {xs : List S59} {f m : Bool} {o : Obj} (h : Fx w0 W w2 g v xs f m) (hb : W.heap[b]? = some o) (hg : b ≠ g) (hr : some b ≠ v.ownBlock) : w2.heap[b]? = some o :=
  (h.2.2.1.2 b (blk_lt_any hb) hg hr).trans hb
theorem fx_back {w0 w1 w w2 : World} {o : Obj} {g : Nat} {v : Value} {xs xs2 : List S59} {f m f2 m2 : Bool} (h : Fx w0 w1 w g v xs f m) (h2 : Fx w0 (w.alloc o) w2 g v xs2 f2 m2) : Fx w0 w1 w2 g v xs2 f2 m2 := by
  have h3 := fx_alloc h o
  obtain ⟨a1, a2, a3, a4, a5, a6⟩ := h3
  obtain ⟨b1, b2, b3, b4, b5, b6⟩ := h2
  exact ⟨b1, b2, ⟨Nat.le_trans a3.1 b3.1, fun i hi hg hr => (b3.2 i (Nat.lt_of_lt_of_le hi a3.1) hg hr).trans (a3.2 i hi hg hr)⟩, a4, a5, a6⟩
set_option maxHeartbeats 8000000 in
set_option maxRecDepth 100000 in
theorem one_has_in (k : Nat) (g gs cap n : Nat) (t u : St) (vs : Value) (a N : Int) (w0 w1 w : World) (la : 0 ≤ a) (ra : a < n) (i0 : 0 ≤ N) (i1 : N ≤ 63) (hF : Fx w0 w1 w g (.slice (some ⟨gs, 0, none⟩) n cap) t.xs t.fail t.moved) (hn : putL k a (intoS t.xs a (IntKind.u64.wrap (2 ^ N.toNat))) t = some u) :
    Calls Try.prog 75 #[.pointer (some ⟨g, 0, none⟩), .agg #[.string ⟨#[104, 97, 115]⟩, vs, .int .i64 N], .int .i64 a] w (FxEnd w0 w1 g (.slice (some ⟨gs, 0, none⟩) n cap) u.xs u.fail u.moved) := by
  have g1 : w.cell? ⟨g, 1, none⟩ = some (.bool t.fail) := (blk_cell hF.1.1 1).trans rfl
  have y1 := blk_frozen hF.1.1 1
  have hlt := blk_lt hF.1.1
  have hne : g ≠ w.heap.size := by omega
  have hne2 : w.heap.size ≠ g := by omega
  have HF := Aside0.mk hF
  have d0 : decide (0 ≤ N) = true := decide_eq_true i0
  have d1 : decide (N ≤ 63) = true := decide_eq_true i1
  have HN := Aside0.mk hn
  clear hn
  clear hF
  go_enter Try.func75, Try.ntmps75
  go_wp2_with (first | fail | (go_at_call 71; (with_reducible refine (into_calls k g gs cap n t u a la ra _ w0 w1 _ (fx_alloc HF.out _) HN.out).mono ?_); rintro e w2 ⟨rfl, HF2⟩; replace HF2 := Aside0.mk HF2))
  first | exact ⟨rfl, HF2.out⟩ | (go_end0; exact ⟨rfl, HF2.out⟩) | ((try simp only [Exit.inBlock, Exit.then]); refine bodyPost_ret (results_none rfl _ _ _) rfl ?_; exact ⟨rfl, HF2.out⟩)
set_option maxHeartbeats 8000000 in
set_option maxRecDepth 100000 in
theorem one_lacks_in (k : Nat) (g gs cap n : Nat) (t u : St) (vs : Value) (a N : Int) (w0 w1 w : World) (la : 0 ≤ a) (ra : a < n) (i0 : 0 ≤ N) (i1 : N ≤ 63) (hF : Fx w0 w1 w g (.slice (some ⟨gs, 0, none⟩) n cap) t.xs t.fail t.moved) (hn : putL k a (onlyS t.xs a (Go.bits .xor .u64 (IntKind.max .u64) (IntKind.u64.wrap (2 ^ N.toNat)))) t = some u) :
    Calls Try.prog 75 #[.pointer (some ⟨g, 0, none⟩), .agg #[.string ⟨#[108, 97, 99, 107, 115]⟩, vs, .int .i64 N], .int .i64 a] w (FxEnd w0 w1 g (.slice (some ⟨gs, 0, none⟩) n cap) u.xs u.fail u.moved) := by
  have g1 : w.cell? ⟨g, 1, none⟩ = some (.bool t.fail) := (blk_cell hF.1.1 1).trans rfl
  have y1 := blk_frozen hF.1.1 1
  have hlt := blk_lt hF.1.1
  have hne : g ≠ w.heap.size := by omega
  have hne2 : w.heap.size ≠ g := by omega
  have HF := Aside0.mk hF
  have d0 : decide (0 ≤ N) = true := decide_eq_true i0
  have d1 : decide (N ≤ 63) = true := decide_eq_true i1
  have HN := Aside0.mk hn
  clear hn
  clear hF
  go_enter Try.func75, Try.ntmps75
  go_wp2_with (first | fail | (go_at_call 72; (with_reducible refine (only_calls k g gs cap n t u a la ra _ w0 w1 _ (fx_alloc HF.out _) HN.out).mono ?_); rintro e w2 ⟨rfl, HF2⟩; replace HF2 := Aside0.mk HF2))
  first | exact ⟨rfl, HF2.out⟩ | (go_end0; exact ⟨rfl, HF2.out⟩) | ((try simp only [Exit.inBlock, Exit.then]); refine bodyPost_ret (results_none rfl _ _ _) rfl ?_; exact ⟨rfl, HF2.out⟩)
set_option maxHeartbeats 8000000 in
set_option maxRecDepth 100000 in
theorem one_has_lo (k : Nat) (g gs cap n : Nat) (t u : St) (vs : Value) (a N : Int) (w0 w1 w : World) (la : 0 ≤ a) (ra : a < n) (i0 : N < 0) (hF : Fx w0 w1 w g (.slice (some ⟨gs, 0, none⟩) n cap) t.xs t.fail t.moved) :
    Calls Try.prog 75 #[.pointer (some ⟨g, 0, none⟩), .agg #[.string ⟨#[104, 97, 115]⟩, vs, .int .i64 N], .int .i64 a] w (FxEnd w0 w1 g (.slice (some ⟨gs, 0, none⟩) n cap) t.xs true t.moved) := by
  have g1 : w.cell? ⟨g, 1, none⟩ = some (.bool t.fail) := (blk_cell hF.1.1 1).trans rfl
  have y1 := blk_frozen hF.1.1 1
  have hlt := blk_lt hF.1.1
  have hne : g ≠ w.heap.size := by omega
  have hne2 : w.heap.size ≠ g := by omega
  have HF := Aside0.mk hF
  have d0 : decide (0 ≤ N) = false := decide_eq_false (by omega)
  have d2 : decide (N < 0) = true := decide_eq_true i0
  clear hF
  go_enter Try.func75, Try.ntmps75
  go_wp2_with (first | fail)
  first | exact ⟨rfl, fx_alloc (fx_put1 HF.out true) _⟩ | (go_end0; exact ⟨rfl, fx_alloc (fx_put1 HF.out true) _⟩) | ((try simp only [Exit.inBlock, Exit.then]); refine bodyPost_ret (results_none rfl _ _ _) rfl ?_; exact ⟨rfl, fx_alloc (fx_put1 HF.out true) _⟩)
set_option maxHeartbeats 8000000 in
set_option maxRecDepth 100000 in
theorem one_lacks_lo (k : Nat) (g gs cap n : Nat) (t u : St) (vs : Value) (a N : Int) (w0 w1 w : World) (la : 0 ≤ a) (ra : a < n) (i0 : N < 0) (hF : Fx w0 w1 w g (.slice (some ⟨gs, 0, none⟩) n cap) t.xs t.fail t.moved) :
    Calls Try.prog 75 #[.pointer (some ⟨g, 0, none⟩), .agg #[.string ⟨#[108, 97, 99, 107, 115]⟩, vs, .int .i64 N], .int .i64 a] w (FxEnd w0 w1 g (.slice (some ⟨gs, 0, none⟩) n cap) t.xs t.fail t.moved) := by
  have g1 : w.cell? ⟨g, 1, none⟩ = some (.bool t.fail) := (blk_cell hF.1.1 1).trans rfl
  have y1 := blk_frozen hF.1.1 1
  have hlt := blk_lt hF.1.1
  have hne : g ≠ w.heap.size := by omega
  have hne2 : w.heap.size ≠ g := by omega
  have HF := Aside0.mk hF
  have d0 : decide (0 ≤ N) = false := decide_eq_false (by omega)
  have d2 : decide (N < 0) = true := decide_eq_true i0
  clear hF
  go_enter Try.func75, Try.ntmps75
  go_wp2_with (first | fail)
  first | exact ⟨rfl, fx_alloc HF.out _⟩ | (go_end0; exact ⟨rfl, fx_alloc HF.out _⟩) | ((try simp only [Exit.inBlock, Exit.then]); refine bodyPost_ret (results_none rfl _ _ _) rfl ?_; exact ⟨rfl, fx_alloc HF.out _⟩)
set_option maxHeartbeats 8000000 in
set_option maxRecDepth 100000 in
theorem one_has_hi (k : Nat) (g gs cap n : Nat) (t u : St) (vs : Value) (a N : Int) (w0 w1 w : World) (la : 0 ≤ a) (ra : a < n) (i1 : 63 < N) (hF : Fx w0 w1 w g (.slice (some ⟨gs, 0, none⟩) n cap) t.xs t.fail t.moved) :
    Calls Try.prog 75 #[.pointer (some ⟨g, 0, none⟩), .agg #[.string ⟨#[104, 97, 115]⟩, vs, .int .i64 N], .int .i64 a] w (FxEnd w0 w1 g (.slice (some ⟨gs, 0, none⟩) n cap) t.xs true t.moved) := by
  have g1 : w.cell? ⟨g, 1, none⟩ = some (.bool t.fail) := (blk_cell hF.1.1 1).trans rfl
  have y1 := blk_frozen hF.1.1 1
  have hlt := blk_lt hF.1.1
  have hne : g ≠ w.heap.size := by omega
  have hne2 : w.heap.size ≠ g := by omega
  have HF := Aside0.mk hF
  have d0 : decide (0 ≤ N) = true := decide_eq_true (by omega)
  have d1 : decide (N ≤ 63) = false := decide_eq_false (by omega)
  clear hF
  go_enter Try.func75, Try.ntmps75
  go_wp2_with (first | fail)
  first | exact ⟨rfl, fx_alloc (fx_put1 HF.out true) _⟩ | (go_end0; exact ⟨rfl, fx_alloc (fx_put1 HF.out true) _⟩) | ((try simp only [Exit.inBlock, Exit.then]); refine bodyPost_ret (results_none rfl _ _ _) rfl ?_; exact ⟨rfl, fx_alloc (fx_put1 HF.out true) _⟩)
set_option maxHeartbeats 8000000 in
set_option maxRecDepth 100000 in
theorem one_lacks_hi (k : Nat) (g gs cap n : Nat) (t u : St) (vs : Value) (a N : Int) (w0 w1 w : World) (la : 0 ≤ a) (ra : a < n) (i1 : 63 < N) (hF : Fx w0 w1 w g (.slice (some ⟨gs, 0, none⟩) n cap) t.xs t.fail t.moved) :
    Calls Try.prog 75 #[.pointer (some ⟨g, 0, none⟩), .agg #[.string ⟨#[108, 97, 99, 107, 115]⟩, vs, .int .i64 N], .int .i64 a] w (FxEnd w0 w1 g (.slice (some ⟨gs, 0, none⟩) n cap) t.xs t.fail t.moved) := by
  have g1 : w.cell? ⟨g, 1, none⟩ = some (.bool t.fail) := (blk_cell hF.1.1 1).trans rfl
  have y1 := blk_frozen hF.1.1 1
  have hlt := blk_lt hF.1.1
  have hne : g ≠ w.heap.size := by omega
  have hne2 : w.heap.size ≠ g := by omega
  have HF := Aside0.mk hF
  have d0 : decide (0 ≤ N) = true := decide_eq_true (by omega)
  have d1 : decide (N ≤ 63) = false := decide_eq_false (by omega)
  clear hF
  go_enter Try.func75, Try.ntmps75
  go_wp2_with (first | fail)
  first | exact ⟨rfl, fx_alloc HF.out _⟩ | (go_end0; exact ⟨rfl, fx_alloc HF.out _⟩) | ((try simp only [Exit.inBlock, Exit.then]); refine bodyPost_ret (results_none rfl _ _ _) rfl ?_; exact ⟨rfl, fx_alloc HF.out _⟩)
set_option maxHeartbeats 8000000 in
set_option maxRecDepth 100000 in
theorem one_size_lo (k : Nat) (g gs cap n : Nat) (t u : St) (vs : Value) (a N : Int) (w0 w1 w : World) (la : 0 ≤ a) (ra : a < n) (i0 : N < 0) (hF : Fx w0 w1 w g (.slice (some ⟨gs, 0, none⟩) n cap) t.xs t.fail t.moved) :
    Calls Try.prog 75 #[.pointer (some ⟨g, 0, none⟩), .agg #[.string ⟨#[115, 105, 122, 101]⟩, vs, .int .i64 N], .int .i64 a] w (FxEnd w0 w1 g (.slice (some ⟨gs, 0, none⟩) n cap) t.xs true t.moved) := by
  have g1 : w.cell? ⟨g, 1, none⟩ = some (.bool t.fail) := (blk_cell hF.1.1 1).trans rfl
  have y1 := blk_frozen hF.1.1 1
  have hlt := blk_lt hF.1.1
  have hne : g ≠ w.heap.size := by omega
  have hne2 : w.heap.size ≠ g := by omega
  have HF := Aside0.mk hF
  have d0 : decide (0 ≤ N) = false := decide_eq_false (by omega)
  have d2 : decide (N < 0) = true := decide_eq_true i0
  clear hF
  go_enter Try.func75, Try.ntmps75
  go_wp2_with (first | fail)
  first | exact ⟨rfl, fx_alloc (fx_put1 HF.out true) _⟩ | (go_end0; exact ⟨rfl, fx_alloc (fx_put1 HF.out true) _⟩) | ((try simp only [Exit.inBlock, Exit.then]); refine bodyPost_ret (results_none rfl _ _ _) rfl ?_; exact ⟨rfl, fx_alloc (fx_put1 HF.out true) _⟩)
set_option maxHeartbeats 8000000 in
set_option maxRecDepth 100000 in
theorem one_size_hi (k : Nat) (g gs cap n : Nat) (t u : St) (vs : Value) (a N : Int) (w0 w1 w : World) (la : 0 ≤ a) (ra : a < n) (i1 : 64 < N) (hF : Fx w0 w1 w g (.slice (some ⟨gs, 0, none⟩) n cap) t.xs t.fail t.moved) :
    Calls Try.prog 75 #[.pointer (some ⟨g, 0, none⟩), .agg #[.string ⟨#[115, 105, 122, 101]⟩, vs, .int .i64 N], .int .i64 a] w (FxEnd w0 w1 g (.slice (some ⟨gs, 0, none⟩) n cap) t.xs true t.moved) := by
  have g1 : w.cell? ⟨g, 1, none⟩ = some (.bool t.fail) := (blk_cell hF.1.1 1).trans rfl
  have y1 := blk_frozen hF.1.1 1
  have hlt := blk_lt hF.1.1
  have hne : g ≠ w.heap.size := by omega
  have hne2 : w.heap.size ≠ g := by omega
  have HF := Aside0.mk hF
  have d0 : decide (0 ≤ N) = true := decide_eq_true (by omega)
  have d1 : decide (N ≤ 63) = false := decide_eq_false (by omega)
  have d2 : decide (N < 0) = false := decide_eq_false (by omega)
  have d3 : decide (64 < N) = true := decide_eq_true (by omega)
  clear hF
  go_enter Try.func75, Try.ntmps75
  go_wp2_with (first | fail)
  first | exact ⟨rfl, fx_alloc (fx_put1 HF.out true) _⟩ | (go_end0; exact ⟨rfl, fx_alloc (fx_put1 HF.out true) _⟩) | ((try simp only [Exit.inBlock, Exit.then]); refine bodyPost_ret (results_none rfl _ _ _) rfl ?_; exact ⟨rfl, fx_alloc (fx_put1 HF.out true) _⟩)
set_option maxHeartbeats 8000000 in
set_option maxRecDepth 100000 in
theorem one_size_ok (k : Nat) (g gs cap n : Nat) (t u : St) (vs : Value) (a N : Int) (w0 w1 w : World) (la : 0 ≤ a) (ra : a < n) (i0 : 0 ≤ N) (i1 : N ≤ 64) (s : St) (hF : Fx w0 w1 w g (.slice (some ⟨gs, 0, none⟩) n cap) t.xs t.fail t.moved) (hn : putL k a (leastS t.xs a N) t = some s) (hn2 : putL k a (greatestS s.xs a N) s = some u) :
    Calls Try.prog 75 #[.pointer (some ⟨g, 0, none⟩), .agg #[.string ⟨#[115, 105, 122, 101]⟩, vs, .int .i64 N], .int .i64 a] w (FxEnd w0 w1 g (.slice (some ⟨gs, 0, none⟩) n cap) u.xs u.fail u.moved) := by
  have g1 : w.cell? ⟨g, 1, none⟩ = some (.bool t.fail) := (blk_cell hF.1.1 1).trans rfl
  have y1 := blk_frozen hF.1.1 1
  have hlt := blk_lt hF.1.1
  have hne : g ≠ w.heap.size := by omega
  have hne2 : w.heap.size ≠ g := by omega
  have HF := Aside0.mk hF
  have d0 : decide (0 ≤ N) = true := decide_eq_true i0
  have d2 : decide (N < 0) = false := decide_eq_false (by omega)
  have d3 : decide (64 < N) = false := decide_eq_false (by omega)
  have HN := Aside0.mk hn
  have HN2 := Aside0.mk hn2
  clear hn hn2
  have hgl : gs < w.heap.size := Kd.R_lt hF.1.2.2 gs (by simp [Value.ownBlock])
  have hgr : some w.heap.size ≠ (Value.slice (some ⟨gs, 0, none⟩) n cap).ownBlock := by
    simp [Value.ownBlock]
    omega
  have hk2 := blk_new w (.cells #[.string ⟨#[115, 105, 122, 101]⟩, vs, .int .i64 N] 33)
  clear hF
  go_enter Try.func75, Try.ntmps75
  go_wp2_with (first | fail | (go_at_call 74; (with_reducible refine (least_calls k g gs cap n t s a la ra _ w0 (w.alloc (.cells #[.string ⟨#[115, 105, 122, 101]⟩, vs, .int .i64 N] 33)) _ (fx_re HF.out _) HN.out).mono ?_); rintro e w2 ⟨rfl, HF2⟩; have hk3 := fx_kept HF2 hk2 hne2 hgr; have c2 : w2.cell? ⟨w.heap.size, 2, none⟩ = some (.int .i64 N) := (blk_cell hk3 2).trans rfl; replace HF2 := Aside0.mk HF2) | (go_at_call 73; (with_reducible refine (greatest_calls k g gs cap n s u a la ra _ w0 w1 _ (fx_back HF.out HF2.out) HN2.out).mono ?_); rintro e w3 ⟨rfl, HF3⟩; replace HF3 := Aside0.mk HF3))
  first | exact ⟨rfl, HF3.out⟩ | (go_end0; exact ⟨rfl, HF3.out⟩) | ((try simp only [Exit.inBlock, Exit.then]); refine bodyPost_ret (results_none rfl _ _ _) rfl ?_; exact ⟨rfl, HF3.out⟩)
end Go.Proofs.Ytgfbgfbnmiainaa.Fam
