import Derived.Test.YtelmcnngocklfaaNSee
/-! look at 'skip'. -/
namespace Go.Proofs.Ytelmcnngocklfaa.Need
set_option linter.unusedVariables false
set_option linter.unusedSimpArgs false
open Go.RowKit Go.Proofs.YtelmcnngocklfaaW.PrintWords Go.Proofs.YtelmcnngocklfaaW.PrintLast Go.Proofs.YtelmcnngocklfaaW.PrintMore
set_option maxHeartbeats 4000000 in
set_option maxRecDepth 100000 in
theorem look_skip (w : World) (p s : Option Addr) (m : Option Nat) (ow : Int) {A3 A4 A5 : Option Addr} {c3 c4 c5 : Nat} :
    Calls Try.prog 45 #[.pointer p, ag nSkip A3 0 c3 A4 c4 A5 0 c5, .pointer s, .map m, .int .i64 ow] w (fun e w' => (∃ r, e = .returned r) ∧ Below w.heap.size w w') := by
  go_enter Try.func45, Try.ntmps45
  have hS : Below w.heap.size w (((((w.alloc (.cells #[.pointer p] 60 (0, 0))).alloc (.cells #[.string nSkip, .string no, .int .i64 0, .slice A3 0 c3, .slice A4 0 c4, .slice A5 0 c5] 26 (0, 0))).alloc (.cells #[.pointer s] 100 (0, 0))).alloc (.cells #[.map m] 81 (0, 0))).alloc (.cells #[.int .i64 ow] 3 (0, 0))) := below_alloc (below_alloc (below_alloc (below_alloc (below_alloc (Below.refl _ _) _) _) _) _) _
  have hB := blk_alloc (blk_alloc (blk_alloc (blk_new (w.alloc (.cells #[.pointer p] 60 (0, 0))) (.cells #[.string nSkip, .string no, .int .i64 0, .slice A3 0 c3, .slice A4 0 c4, .slice A5 0 c5] 26 (0, 0))) (.cells #[.pointer s] 100 (0, 0))) (.cells #[.map m] 81 (0, 0))) (.cells #[.int .i64 ow] 3 (0, 0))
  rw [show (w.alloc (.cells #[.pointer p] 60 (0, 0))).heap.size = w.heap.size + 1 by simp] at hB
  have HB := Aside0.mk hB
  have HS := Aside0.mk hS
  clear hS hB
  go_wp2_with (go_at_call 54; go_loud ((refine (see_nil _ _ _ _ _ _ _ _ _).mono ?_); rintro e w2 ⟨⟨rr, rfl⟩, hb⟩; have HW := Aside0.mk (below_then HS.out HS.out.size hb); have HB2 := Aside0.mk (blk_below HB.out hb); have y5 := (blk_cell HB2.out 5).trans rfl; clear hb))
  go_loopg [217] 1 (fun kq v217 wx => v217 = .int .i64 0 ∧ Aside0 (Below w.heap.size w wx))
  case atStart => exact ⟨rfl, HW⟩
  case round =>
    obtain ⟨rfl, HW3⟩ := hrel
    go_wp2_with fail
    go_end0
    exact ⟨⟨_, rfl⟩, HW3.out⟩
end Go.Proofs.Ytelmcnngocklfaa.Need
