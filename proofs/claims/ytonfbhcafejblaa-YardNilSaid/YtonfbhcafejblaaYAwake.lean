import Derived.Test.YtonfbhcafejblaaYMake
/-! awake. -/
namespace Go.Proofs.Ytonfbhcafejblaa.Yd
set_option linter.unusedVariables false
set_option linter.unusedSimpArgs false
open Go.RowKit Go.Proofs.YtonfbhcafejblaaW.PrintWords Go.Proofs.YtonfbhcafejblaaW.PrintLast Go.Proofs.YtonfbhcafejblaaW.PrintMore Go.Proofs.Ytonfbhcafejblaa.Q
attribute [local go_sem] Go.Proofs.YtonfbhcafejblaaW.OwnWords.isSome_setCell max2_int min2_int
theorem wr1 : IntKind.i64.wrap (0 + 1) = 0 + 1 := by kernel_rfl
theorem wr2 : IntKind.i64.wrap (0 + 1 - 1) = 0 + 1 - 1 := by kernel_rfl
def AwakeEnd (w : World) (e : Ending) (w' : World) : Prop := e = .returned (.bool true) ∧ Below w.heap.size w w'
set_option maxHeartbeats 8000000 in
set_option maxRecDepth 100000 in
theorem awake_calls (w : World) : Calls Try.prog 5 #[] w (AwakeEnd w) := by
  have k0 : w.heap.size ≤ w.heap.size := Nat.le_refl _
  go_enter Try.func5, Try.ntmps5
  go_wp2_with (first
    | (go_at_call 6; (refine (new_calls _).mono ?_); rintro e w1 ⟨rfl, rfl⟩)
    | (go_at_call 7; (refine (make_calls w.heap.size w.heap.size w _ (below_alloc (Below.refl _ _) _) (Nat.le_refl _) (heap_alloc_new w _)).mono ?_); rintro e w2 ⟨rfl, tb, cap, rest, hy, hb⟩; have H1 := Aside0.mk (And.intro hy hb); clear hy hb)
    | (go_at_call 9; have h_ := H2.out; clear h_; (refine (take_new w.heap.size w.heap.size tb cap rest 1 (0 + 1) v3 [] (by decide) 2 (by decide) (by decide) (by decide) (by decide) w3 H2.out.1 H2.out.2.size).mono ?_); rintro e w4 ⟨rfl, v4, hy, hb, _, _⟩; have H3 := Aside0.mk (And.intro hy (H2.out.2.trans hb)); clear hy hb)
    | (go_at_call 9; (refine (take_free w.heap.size w.heap.size tb cap rest 0 0 (.slice none 0 0) [] 1 (by decide) wr1 (.inl rfl) w2 H1.out.1 H1.out.2.size).mono ?_); rintro e w3 ⟨rfl, v3, hy, hb, _, _⟩; have H2 := Aside0.mk (And.intro hy (H1.out.2.trans hb)); clear hy hb)
    | (go_at_call 8; (refine (give_next w.heap.size w.heap.size tb cap rest 1 (0 + 1) v4 2 [] (by decide) (by decide) wr2 (by decide) w4 H3.out.1 H3.out.2.size).mono ?_); rintro e w5 ⟨rfl, v5, hy, hb, _, _⟩; have H4 := Aside0.mk (And.intro hy (H3.out.2.trans hb)); clear hy hb)
    | (go_at_call 27; (refine (count_calls w.heap.size w.heap.size tb cap rest _ _ v5 _ w5 H4.out.1 H4.out.2.size).mono ?_); rintro e w6 ⟨rfl, v6, hy, hb, _, _⟩; have H5 := Aside0.mk (H4.out.2.trans hb); clear hy hb))
  go_ret
  exact ⟨rfl, H5.out⟩
end Go.Proofs.Ytonfbhcafejblaa.Yd
