import Derived.Test.YtonfbhcafejblaaYGive
/-! A yard that has one lock: Waiting. -/
namespace Go.Proofs.Ytonfbhcafejblaa.Yd
set_option linter.unusedVariables false
set_option linter.unusedSimpArgs false
open Go.RowKit Go.Proofs.YtonfbhcafejblaaW.PrintWords Go.Proofs.YtonfbhcafejblaaW.PrintLast Go.Proofs.YtonfbhcafejblaaW.PrintMore Go.Proofs.Ytonfbhcafejblaa.Q
attribute [local go_sem] Go.Proofs.YtonfbhcafejblaaW.OwnWords.isSome_setCell max2_int min2_int
/-- What Waiting ends with: those who wait, in memory that is new; the rest stays. -/
def WaitEnd (B : Nat) (w : World) (yb tb cap : Nat) (rest : List Value) (v : Value) (ow ti : Int) (xs : List Int) (e : Ending) (w' : World) : Prop :=
  ∃ A c, e = .returned (.tuple #[.slice A xs.length c, .int .i64 0]) ∧ (Kd.int .i64).C w' A xs.length xs ∧ xs.length ≤ c ∧ Yw B w w' yb tb cap rest v ow ti v xs
theorem waiting_nil (B : Nat) (yb tb cap : Nat) (rest : List Value) (ow ti : Int) (w : World) (hY : IsYd B w yb tb cap rest ow ti (.slice none 0 0) []) (hB : B ≤ w.heap.size) :
    Calls Try.prog 12 #[.pointer (some ⟨yb, 0, none⟩), .int .i64 1] w (WaitEnd B w yb tb cap rest (.slice none 0 0) ow ti []) := by
  have HY := Aside0.mk (yw_start hY hB)
  clear hY hB
  go_enter Try.func12, Try.ntmps12
  go_wp2_with (first | (go_at_call 31; (refine (find_calls B yb tb cap rest _ ti _ [] w.heap.size _ (yw_alloc HY.out (.cells #[.string lockS] 9)).1 (blk_new w _)).mono ?_); rintro e w2 ⟨rfl, hb2⟩; have HY2 := Aside0.mk (yw_below (yw_alloc HY.out _) hb2); have t5 : w2.cell? ⟨tb, 5, none⟩ = some (.slice none 0 0) := (blk_cell HY2.out.1.2.1 5).trans rfl; clear hb2) | (go_at_call 34; (refine (clone_nil _).mono ?_); rintro e w3 ⟨rfl, rfl⟩))
  go_ret2
  exact ⟨none, 0, rfl, Kd.C_nil _ _, Nat.le_refl _, HY2.out⟩
theorem waiting_own (B : Nat) (yb tb cap : Nat) (rest : List Value) (ow ti : Int) (g c : Nat) (xs : List Int) (hl : xs.length ≤ 1000000) (w : World) (hY : IsYd B w yb tb cap rest ow ti (.slice (some ⟨g, 0, none⟩) xs.length c) xs) (hB : B ≤ w.heap.size) :
    Calls Try.prog 12 #[.pointer (some ⟨yb, 0, none⟩), .int .i64 1] w (WaitEnd B w yb tb cap rest (.slice (some ⟨g, 0, none⟩) xs.length c) ow ti xs) := by
  have HY := Aside0.mk (yw_start hY hB)
  obtain ⟨A, c', hv, hC, hc⟩ := own_C hY.2.2.2.2.1
  injection hv with hA _ hc'
  subst hA
  have HC := Aside0.mk hC
  clear hY hB hC hc hc'
  go_enter Try.func12, Try.ntmps12
  go_wp2_with (first | (go_at_call 31; (refine (find_calls B yb tb cap rest _ ti _ xs w.heap.size _ (yw_alloc HY.out (.cells #[.string lockS] 9)).1 (blk_new w _)).mono ?_); rintro e w2 ⟨rfl, hb2⟩; have HC2 := Aside0.mk (Kd.C_below (Kd.C_alloc HC.out (.cells #[.string lockS] 9)) hb2); have HY2 := Aside0.mk (yw_below (yw_alloc HY.out _) hb2); have t5 : w2.cell? ⟨tb, 5, none⟩ = some (.slice (some ⟨g, 0, none⟩) xs.length c) := (blk_cell HY2.out.1.2.1 5).trans rfl; clear hb2) | (go_at_call 34; (refine (clone_calls ⟨g, 0, none⟩ _ xs hl _ HC2.out).mono ?_); rintro e w3 ⟨gb, cp, rfl, ho, hb⟩; have HG := Aside0.mk (And.intro ho (yw_below HY2.out hb)); clear ho hb))
  go_ret2
  obtain ⟨A, c', hv, hC, hc⟩ := own_C HG.out.1
  injection hv with hA _ hc'
  subst hA
  subst hc'
  exact ⟨_, _, rfl, hC, hc, HG.out.2⟩
theorem waiting_calls (B : Nat) (yb tb cap : Nat) (rest : List Value) (ow ti : Int) (v : Value) (xs : List Int) (hl : xs.length ≤ 1000000) (w : World) (hY : IsYd B w yb tb cap rest ow ti v xs) (hB : B ≤ w.heap.size) :
    Calls Try.prog 12 #[.pointer (some ⟨yb, 0, none⟩), .int .i64 1] w (WaitEnd B w yb tb cap rest v ow ti xs) := by
  rcases hY.2.2.2.2.1.2 with ⟨rfl, hn⟩ | ⟨g, c, _, rfl, _⟩
  · obtain rfl : xs = [] := List.eq_nil_of_length_eq_zero hn
    exact waiting_nil B yb tb cap rest ow ti w hY hB
  · exact waiting_own B yb tb cap rest ow ti g c xs hl w hY hB
end Go.Proofs.Ytonfbhcafejblaa.Yd
