import Derived.Test.YtonfbhcafejblaaQ13
import Derived.Test.YtonfbhcafejblaaQ17
import Derived.Test.YtonfbhcafejblaaQ20
/-! Plain laws of the small functions: whether a list has a number, whether two lists are the same. -/
namespace Go.Proofs.Ytonfbhcafejblaa.Yd
set_option linter.unusedVariables false
set_option linter.unusedSimpArgs false
open Go.RowKit Go.Proofs.YtonfbhcafejblaaW.PrintWords Go.Proofs.YtonfbhcafejblaaW.PrintLast Go.Proofs.YtonfbhcafejblaaW.PrintMore Go.Proofs.Ytonfbhcafejblaa.Q
theorem rd_at {xs : List Int} {i : Nat} (h : i < xs.length) : rd xs (i : Int) = xs[i] := by
  simp [rd, h]
theorem drop_at {xs : List Int} {i : Nat} (h : i < xs.length) : xs.drop i = xs[i] :: xs.drop (i + 1) := List.drop_eq_getElem_cons h
theorem wrap_next (i : Nat) (h : i < 4611686018427387904) : wrap64 ((i : Int) + 1) = ((i + 1 : Nat) : Int) := by
  unfold wrap64; omega
theorem index_from (xs : List Int) (t : Int) (hl : xs.length ≤ 4611686018427387904) : ∀ n i k, i + n = xs.length → n < k → ∃ r, slices_Index_int_int.l0 k xs t (xs.length : Int) (i : Int) = some r ∧ (0 ≤ r ↔ t ∈ xs.drop i) := by
  intro n
  induction n with
  | zero =>
    intro i k hi hk
    obtain ⟨k, rfl⟩ : ∃ m, k = m + 1 := ⟨k - 1, by omega⟩
    refine ⟨-1, ?_, ?_⟩
    · unfold slices_Index_int_int.l0
      rw [if_neg (by omega)]
    · rw [List.drop_eq_nil_of_le (by omega)]; simp
  | succ n ih =>
    intro i k hi hk
    obtain ⟨k, rfl⟩ : ∃ m, k = m + 1 := ⟨k - 1, by omega⟩
    have hlt : i < xs.length := by omega
    unfold slices_Index_int_int.l0
    rw [if_pos (by omega), if_pos (by omega), if_pos (by omega), rd_at hlt, drop_at hlt]
    by_cases he : t = xs[i]
    · exact ⟨i, by rw [if_pos he], by rw [List.mem_cons]; exact ⟨fun _ => .inl he, fun _ => by omega⟩⟩
    · obtain ⟨r, hr, hm⟩ := ih (i + 1) k (by omega) (by omega)
      exact ⟨r, by rw [if_neg he, wrap_next i (by omega)]; exact hr, by rw [hm, List.mem_cons]; exact ⟨.inr, fun h => h.resolve_left he⟩⟩
theorem contains_f (xs : List Int) (t : Int) (hl : xs.length ≤ 4611686018427387904) : slices_Contains_int_int.f (xs.length + 1) xs t = some (decide (t ∈ xs)) := by
  obtain ⟨r, hr, hm⟩ := index_from xs t hl xs.length 0 (xs.length + 1) (by omega) (by omega)
  have hr' : slices_Index_int_int.f (xs.length + 1) xs t = some r := hr
  unfold slices_Contains_int_int.f
  rw [hr', Option.bind_some]
  congr 1
  exact decide_eq_decide.2 (by simpa using hm)
theorem in_from (xs : List Int) (t : Int) (hl : xs.length ≤ 4611686018427387904) : ∀ n i k, i + n = xs.length → n < k → manystrandlaw11_in.l0 k t xs (xs.length : Int) (i : Int) = some (decide (t ∈ xs.drop i)) := by
  intro n
  induction n with
  | zero =>
    intro i k hi hk
    obtain ⟨k, rfl⟩ : ∃ m, k = m + 1 := ⟨k - 1, by omega⟩
    unfold manystrandlaw11_in.l0
    rw [if_neg (by omega), List.drop_eq_nil_of_le (by omega)]; simp
  | succ n ih =>
    intro i k hi hk
    obtain ⟨k, rfl⟩ : ∃ m, k = m + 1 := ⟨k - 1, by omega⟩
    have hlt : i < xs.length := by omega
    unfold manystrandlaw11_in.l0
    rw [if_pos (by omega), if_pos (by omega), if_pos (by omega), rd_at hlt, drop_at hlt]
    by_cases he : xs[i] = t
    · rw [if_pos he]; simp [he]
    · rw [if_neg he, wrap_next i (by omega), ih (i + 1) k (by omega) (by omega)]
      congr 1
      exact decide_eq_decide.2 (by rw [List.mem_cons]; exact ⟨.inr, fun h => h.resolve_left (Ne.symm he)⟩)
theorem in_f (xs : List Int) (t : Int) (hl : xs.length ≤ 4611686018427387904) : manystrandlaw11_in.f (xs.length + 1) xs t = some (decide (t ∈ xs)) :=
  in_from xs t hl xs.length 0 (xs.length + 1) (by omega) (by omega)
theorem same_from (xs : List Int) (hl : xs.length ≤ 4611686018427387904) : ∀ n i k, i + n = xs.length → n < k → manystrandref11_SameInts.l0 k xs xs (i : Int) = some true := by
  intro n
  induction n with
  | zero =>
    intro i k hi hk
    obtain ⟨k, rfl⟩ : ∃ m, k = m + 1 := ⟨k - 1, by omega⟩
    unfold manystrandref11_SameInts.l0
    rw [if_neg (by omega)]
  | succ n ih =>
    intro i k hi hk
    obtain ⟨k, rfl⟩ : ∃ m, k = m + 1 := ⟨k - 1, by omega⟩
    have hlt : i < xs.length := by omega
    unfold manystrandref11_SameInts.l0
    rw [if_pos (by omega), if_pos (by omega), if_pos (by omega), if_pos rfl, wrap_next i (by omega), ih (i + 1) k (by omega) (by omega)]
theorem same_f (xs : List Int) (hl : xs.length ≤ 4611686018427387904) : manystrandref11_SameInts.f (xs.length + 1) xs xs = some true := by
  unfold manystrandref11_SameInts.f
  rw [if_pos rfl]
  exact same_from xs hl xs.length 0 (xs.length + 1) (by omega) (by omega)
end Go.Proofs.Ytonfbhcafejblaa.Yd
