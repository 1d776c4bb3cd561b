import Derived.Test.YtonfbhcafejblaaYBase
/-! A yard that has one lock: find. -/
namespace Go.Proofs.Ytonfbhcafejblaa.Yd
set_option linter.unusedVariables false
set_option linter.unusedSimpArgs false
open Go.RowKit Go.Proofs.YtonfbhcafejblaaW.PrintWords Go.Proofs.YtonfbhcafejblaaW.PrintLast Go.Proofs.YtonfbhcafejblaaW.PrintMore Go.Proofs.Ytonfbhcafejblaa.Q
attribute [local go_sem] Go.Proofs.YtonfbhcafejblaaW.OwnWords.isSome_setCell max2_int min2_int
theorem one_lit {w : World} {b : Nat} {x : ByteArray} {t : Nat} (h : w.heap[b]? = some (.cells #[.string x] t (0, 0))) : (Kd.string).C w (some ⟨b, 0, none⟩) [x].length [x] := by
  refine ⟨rfl, by simp, fun _ => ⟨_, rfl, fun j p hj => ?_⟩⟩
  match j with
  | 0 =>
    cases hj
    refine ⟨[.string x], rfl, rfl, fun i u hu => ?_⟩
    match i with
    | 0 =>
      cases hu
      exact (blk_cell h 0).trans rfl
    | i + 1 => cases hu
  | j + 1 => cases hj
theorem lock_in : slices_Contains_string_string.f 100 [lockS] lockS = some true := by kernel_rfl
/-- A world that is named in a post stands behind a definition. -/
def FindEnd (w : World) (tb : Nat) (e : Ending) (w' : World) : Prop := e = .returned (.tuple #[.pointer (some ⟨tb, 0, none⟩), .int .i64 0]) ∧ Below w.heap.size w w'
theorem find_calls (B : Nat) (yb tb cap : Nat) (rest : List Value) (ow ti : Int) (v : Value) (xs : List Int) (sb : Nat) (w : World) (hY : IsYd B w yb tb cap rest ow ti v xs) (hs : w.heap[sb]? = some (.cells #[.string lockS] 9 (0, 0))) :
    Calls Try.prog 31 #[.pointer (some ⟨yb, 0, none⟩), .int .i64 1, .slice (some ⟨sb, 0, none⟩) 1 1] w (FindEnd w tb) := by
  have y0 : w.cell? ⟨yb, 0, none⟩ = some (.bool true) := (blk_cell hY.1 0).trans rfl
  have y1 : w.cell? ⟨yb, 1, none⟩ = some (.slice (some ⟨tb, 0, none⟩) 1 cap) := (blk_cell hY.1 1).trans rfl
  have t0 : w.cell? ⟨tb, 0, none⟩ = some (.string lockS) := (blk_cell hY.2.1 0).trans rfl
  have HY := Aside0.mk hY
  have HS := Aside0.mk (one_lit hs)
  clear hY hs
  go_enter Try.func31, Try.ntmps31
  go_wp2_with (first | (go_at_call 29; (refine (none_calls yb _ y0).mono ?_); rintro e w2 ⟨rfl, rfl⟩) | (go_at_call 47; (refine (slices_Contains_string_string.calls 100 (some ⟨sb, 0, none⟩) 1 [lockS] lockS true _ HS.out (by decide) lock_in).mono ?_); rintro e w2 ⟨rfl, ⟨nd, rfl⟩⟩))
  go_ret2
  exact ⟨rfl, pw_below_drewN (Below.refl _ _) _⟩
end Go.Proofs.Ytonfbhcafejblaa.Yd
