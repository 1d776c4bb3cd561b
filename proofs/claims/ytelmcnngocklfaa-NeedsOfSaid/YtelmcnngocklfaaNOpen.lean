import Derived.Test.YtelmcnngocklfaaNLocal
import Derived.Test.YtelmcnngocklfaaNValidTop
/-! needs.open at awake's statement. -/
namespace Go.Proofs.Ytelmcnngocklfaa.Need
set_option linter.unusedVariables false
set_option linter.unusedSimpArgs false
open Go.RowKit Go.Proofs.YtelmcnngocklfaaW.PrintWords Go.Proofs.YtelmcnngocklfaaW.PrintLast Go.Proofs.YtelmcnngocklfaaW.PrintMore
theorem open_world (w : World) (o1 : Obj) (c : Array Value → Array Value) : (((w.alloc o1).alloc (.cells #[.slice none 0 0] 29 (0, 0))).alloc (.cells #[.slice none 0 0, .slice none 0 0, .slice none 0 0, .slice none 0 0, .slice (some ⟨w.heap.size + 1, 0, none⟩) 1 1] 68 (0, 0)) |>.alloc (.map #[] 0)).heap[w.heap.size + 1 + 1]? = some (.cells #[.slice none 0 0, .slice none 0 0, .slice none 0 0, .slice none 0 0, .slice (some ⟨w.heap.size + 1, 0, none⟩) 1 1] 68 (0, 0)) ∧
    (((w.alloc o1).alloc (.cells #[.slice none 0 0] 29 (0, 0))).alloc (.cells #[.slice none 0 0, .slice none 0 0, .slice none 0 0, .slice none 0 0, .slice (some ⟨w.heap.size + 1, 0, none⟩) 1 1] 68 (0, 0)) |>.alloc (.map #[] 0)).ownsRow w.heap.size 29 1 (.slice (some ⟨w.heap.size + 1, 0, none⟩) 1 1) 1 [.slice none 0 0] ∧
    Below w.heap.size w (((w.alloc o1).alloc (.cells #[.slice none 0 0] 29 (0, 0))).alloc (.cells #[.slice none 0 0, .slice none 0 0, .slice none 0 0, .slice none 0 0, .slice (some ⟨w.heap.size + 1, 0, none⟩) 1 1] 68 (0, 0)) |>.alloc (.map #[] 0)) := by
  have s1 : (w.alloc o1).heap.size = w.heap.size + 1 := by simp
  have s2 : ((w.alloc o1).alloc (.cells #[.slice none 0 0] 29 (0, 0))).heap.size = w.heap.size + 1 + 1 := by simp
  refine ⟨?_, ?_, below_alloc (below_alloc (below_alloc (below_alloc (Below.refl _ _) _) _) _) _⟩
  · rw [← s2]
    exact blk_alloc (blk_new _ _) _
  · have h := World.ownsRow_lit (base := w.heap.size) (e := 29) (size := 1) (w.alloc o1) #[.slice none 0 0] 1 (by omega) (by decide) rfl
    rw [s1] at h
    exact (h.alloc _).alloc _
set_option maxHeartbeats 4000000 in
set_option maxRecDepth 100000 in
theorem open_walk (w : World) {A3 A4 : Option Addr} {q5 b3 c3 c4 c5 : Nat} (h : SF w s0 A3 c3 A4 c4 (some ⟨q5, 0, none⟩) c5) (hl : Lie w q5 b3) :
    Calls Try.prog 30 #[ag nLocal A3 1 c3 A4 c4 (some ⟨q5, 0, none⟩) 1 c5] w (fun e w' => ∃ pb nm lo pr us lb lc v, e = .returned (.pointer (some ⟨pb, 0, none⟩)) ∧ w.heap.size ≤ pb ∧ w'.heap[pb]? = some (.cells #[nm, lo, pr, us, .slice (some ⟨lb, 0, none⟩) 2 lc] 68 (0, 0)) ∧ w'.ownsRow w.heap.size 4 1 lo 1 [.bool true] ∧ w'.ownsRow w.heap.size 86 2 pr 1 [.int .i64 0, .int .i64 (-1)] ∧ w'.ownsRow w.heap.size 88 4 us 1 [.int .i64 0, .int .i64 (-1), .int .i64 0, .bool false] ∧ w'.ownsRow w.heap.size 3 1 v 1 [.int .i64 1] ∧ w'.ownsRow w.heap.size 29 1 (.slice (some ⟨lb, 0, none⟩) 2 lc) 2 [.slice none 0 0, v] ∧ Below w.heap.size w w') := by
  have hmm := @run_makeMap Try.prog
  obtain ⟨ad, rfl, had⟩ := one_str h.h3
  obtain ⟨B4, q6, d4, d5, C3, C4, q7, e3, e4, e5, D3, D4, D5, f3, f4, f5, y1, k1, y2, k2, y3, k3⟩ := hl.e
  obtain ⟨ad1, e1, ha3⟩ := one_str y1.h3
  obtain rfl : (⟨b3, 0, none⟩ : Addr) = ad1 := Option.some.inj e1
  have hb3 := World.block_lt_of_cell? w _ ha3
  have HW := Aside0.mk (open_world w (.cells #[.string nLocal, .string no, .int .i64 0, .slice (some ad) 1 c3, .slice A4 0 c4, .slice (some ⟨q5, 0, none⟩) 1 c5] 26 (0, 0)) id)
  clear e1 h hl y1 y2 y3
  have HD := Aside0.mk (And.intro had (And.intro ha3 (And.intro k1 (And.intro k2 k3))))
  clear had ha3 k1 k2 k3
  go_enter Try.func30, Try.ntmps30
  go_wp2_with (go_at_call 45; go_loud ((refine (look_local _ w.heap.size (w.heap.size + 1 + 1) (w.heap.size + 1) 1 ad _ (a3 := b3) (B4 := B4) (q6 := q6) (d4 := d4) (d5 := d5) (C3 := C3) (C4 := C4) (q7 := q7) (e3 := e3) (e4 := e4) (e5 := e5) (D3 := D3) (D4 := D4) (D5 := D5) (f3 := f3) (f4 := f4) (f5 := f5) (blk_below HD.out.2.2.1 HW.out.2.2) (blk_below HD.out.2.2.2.1 HW.out.2.2) (blk_below HD.out.2.2.2.2 HW.out.2.2) (pw_cell_below HW.out.2.2 HD.out.2.1) (by have : b3 < w.heap.size := hb3; omega) (pw_cell_below HW.out.2.2 HD.out.1) HW.out.1 HW.out.2.1).mono ?_); rintro e w2 ⟨⟨rr, rfl⟩, nm, lo, pr, us, lb, lc, v, h1, h2, h3, h4, h5, h6, h7⟩; have H1 := Aside0.mk h1; have H2 := Aside0.mk h2; have H3 := Aside0.mk h3; have H4 := Aside0.mk h4; have H5 := Aside0.mk h5; have H6 := Aside0.mk h6; have H7 := Aside0.mk h7; clear h1 h2 h3 h4 h5 h6 h7))
  go_ret
  have hz := HW.out.2.2.size
  exact ⟨_, nm, lo, pr, us, lb, lc, v, rfl, by omega, H1.out, own_weak H2.out hz, own_weak H3.out hz, own_weak H4.out hz, own_weak H5.out hz, H6.out, KB.below HW.out.2.2 H7.out (by omega) (by omega)⟩
end Go.Proofs.Ytelmcnngocklfaa.Need
