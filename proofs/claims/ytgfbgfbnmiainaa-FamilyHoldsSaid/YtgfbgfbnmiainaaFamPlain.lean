import Derived.Test.YtgfbgfbnmiainaaQ68
import Derived.Test.YtgfbgfbnmiainaaQ70
import Derived.Test.YtgfbgfbnmiainaaQ72
import Derived.Test.YtgfbgfbnmiainaaQ73
import Derived.Test.YtgfbgfbnmiainaaQ66
import Derived.Test.YtgfbgfbnmiainaaQ21
/-! Plain laws of the small functions on lists of numbers. -/
namespace Go.Proofs.Ytgfbgfbnmiainaa.Fam
set_option linter.unusedVariables false
set_option linter.unusedSimpArgs false
open Go.RowKit Go.Proofs.YtgfbgfbnmiainaaW.PrintWords Go.Proofs.YtgfbgfbnmiainaaW.PrintLast Go.Proofs.YtgfbgfbnmiainaaW.PrintMore Go.Proofs.Ytgfbgfbnmiainaa.Q
theorem rd_at {xs : List Int} {i : Nat} (h : i < xs.length) : rd xs (i : Int) = xs[i] := by
  simp [rd, h]
theorem drop_at {xs : List Int} {i : Nat} (h : i < xs.length) : xs.drop i = xs[i] :: xs.drop (i + 1) := List.drop_eq_getElem_cons h
theorem wrap_next (i : Nat) (h : i < 4611686018427387904) : wrap64 ((i : Int) + 1) = ((i + 1 : Nat) : Int) := by
  unfold wrap64; omega
theorem wrap_prev (i : Nat) (h : i < 4611686018427387904) : wrap64 (((i + 1 : Nat) : Int) - 1) = (i : Int) := by
  unfold wrap64; omega
theorem index_from (xs : List Int) (t : Int) (hl : xs.length ≤ 4611686018427387904) : ∀ n i k, i + n = xs.length → n < k → ∃ r, slices_Index_int_int.l0 k xs t (xs.length : Int) (i : Int) = some r ∧ (0 ≤ r ↔ t ∈ xs.drop i) := by
  intro n
  induction n with
  | zero =>
    intro i k hi hk
    obtain ⟨k, rfl⟩ : ∃ m, k = m + 1 := ⟨k - 1, by omega⟩
    refine ⟨-1, ?_, ?_⟩
    · unfold slices_Index_int_int.l0
      rw [if_neg (by omega)]
    · rw [List.drop_eq_nil_of_le (by omega)]; simp
  | succ n ih =>
    intro i k hi hk
    obtain ⟨k, rfl⟩ : ∃ m, k = m + 1 := ⟨k - 1, by omega⟩
    have hlt : i < xs.length := by omega
    unfold slices_Index_int_int.l0
    rw [if_pos (by omega), if_pos (by omega), if_pos (by omega), rd_at hlt, drop_at hlt]
    by_cases he : t = xs[i]
    · exact ⟨i, by rw [if_pos he], by rw [List.mem_cons]; exact ⟨fun _ => .inl he, fun _ => by omega⟩⟩
    · obtain ⟨r, hr, hm⟩ := ih (i + 1) k (by omega) (by omega)
      exact ⟨r, by rw [if_neg he, wrap_next i (by omega)]; exact hr, by rw [hm, List.mem_cons]; exact ⟨.inr, fun h => h.resolve_left he⟩⟩
theorem contains_f (xs : List Int) (t : Int) (hl : xs.length ≤ 4611686018427387904) : slices_Contains_int_int.f (xs.length + 1) xs t = some (decide (t ∈ xs)) := by
  obtain ⟨r, hr, hm⟩ := index_from xs t hl xs.length 0 (xs.length + 1) (by omega) (by omega)
  have hr' : slices_Index_int_int.f (xs.length + 1) xs t = some r := hr
  unfold slices_Contains_int_int.f
  rw [hr', Option.bind_some]
  congr 1
  exact decide_eq_decide.2 (by simpa using hm)
theorem has_from (xs : List Int) (t : Int) (hl : xs.length ≤ 4611686018427387904) : ∀ n i k, i + n = xs.length → n < k → manystrandref07_has.l0 k xs t (i : Int) = some (decide (t ∈ xs.drop i)) := by
  intro n
  induction n with
  | zero =>
    intro i k hi hk
    obtain ⟨k, rfl⟩ : ∃ m, k = m + 1 := ⟨k - 1, by omega⟩
    unfold manystrandref07_has.l0
    rw [if_neg (by omega), List.drop_eq_nil_of_le (by omega)]; simp
  | succ n ih =>
    intro i k hi hk
    obtain ⟨k, rfl⟩ : ∃ m, k = m + 1 := ⟨k - 1, by omega⟩
    have hlt : i < xs.length := by omega
    unfold manystrandref07_has.l0
    rw [if_pos (by omega), if_pos (by omega), rd_at hlt, drop_at hlt]
    by_cases he : xs[i] = t
    · rw [if_pos he]; simp [he]
    · rw [if_neg he, wrap_next i (by omega), ih (i + 1) k (by omega) (by omega)]
      congr 1
      exact decide_eq_decide.2 (by rw [List.mem_cons]; exact ⟨.inr, fun h => h.resolve_left (Ne.symm he)⟩)
theorem has_f (xs : List Int) (t : Int) (hl : xs.length ≤ 4611686018427387904) {k : Nat} (hk : xs.length < k) : manystrandref07_has.f k xs t = some (decide (t ∈ xs)) :=
  has_from xs t hl xs.length 0 k (by omega) hk
theorem inAll_from (xs ys : List Int) (b : Bool) (hl : xs.length ≤ 4611686018427387904) (hl2 : ys.length ≤ 4611686018427387904) : ∀ n i k, i + n = xs.length → n + ys.length < k →
    manystrandref07_inAll.l0 k xs ys b (i : Int) = some (decide (∀ x ∈ xs.drop i, decide (x ∈ ys) = b)) := by
  intro n
  induction n with
  | zero =>
    intro i k hi hk
    obtain ⟨k, rfl⟩ : ∃ m, k = m + 1 := ⟨k - 1, by omega⟩
    unfold manystrandref07_inAll.l0
    rw [if_neg (by omega), List.drop_eq_nil_of_le (by omega)]; simp
  | succ n ih =>
    intro i k hi hk
    obtain ⟨k, rfl⟩ : ∃ m, k = m + 1 := ⟨k - 1, by omega⟩
    have hlt : i < xs.length := by omega
    unfold manystrandref07_inAll.l0
    rw [if_pos (by omega), if_pos (by omega), rd_at hlt, drop_at hlt, has_f ys _ hl2 (by omega), Option.bind_some]
    by_cases he : decide (xs[i] ∈ ys) = b
    · rw [he, if_neg (by simp), wrap_next i (by omega), ih (i + 1) k (by omega) (by omega)]
      congr 1
      exact decide_eq_decide.2 ⟨fun h x hx => by rcases List.mem_cons.1 hx with rfl | hx; exact he; exact h x hx, fun h x hx => h x (List.mem_cons_of_mem _ hx)⟩
    · rw [if_pos (by cases b <;> cases hd : decide (xs[i] ∈ ys) <;> simp_all)]
      congr 1
      exact (decide_eq_false (fun h => he (h _ (List.mem_cons_self ..)))).symm
theorem inAll_f (xs ys : List Int) (b : Bool) (hl : xs.length ≤ 4611686018427387904) (hl2 : ys.length ≤ 4611686018427387904) : manystrandref07_inAll.f (xs.length + ys.length + 1) xs ys b = some (decide (∀ x ∈ xs, decide (x ∈ ys) = b)) :=
  inAll_from xs ys b hl hl2 xs.length 0 _ (by omega) (by omega)
theorem equal_from (xs ys : List Int) (hl : xs.length ≤ 4611686018427387904) (he : ys.length = xs.length) : ∀ n i k, i + n = xs.length → n < k → slices_Equal_int_int.l0 k xs ys (xs.length : Int) (i : Int) = some (decide (xs.drop i = ys.drop i)) := by
  intro n
  induction n with
  | zero =>
    intro i k hi hk
    obtain ⟨k, rfl⟩ : ∃ m, k = m + 1 := ⟨k - 1, by omega⟩
    unfold slices_Equal_int_int.l0
    rw [if_neg (by omega), List.drop_eq_nil_of_le (by omega), List.drop_eq_nil_of_le (by omega)]; simp
  | succ n ih =>
    intro i k hi hk
    obtain ⟨k, rfl⟩ : ∃ m, k = m + 1 := ⟨k - 1, by omega⟩
    have hlt : i < xs.length := by omega
    have hlt2 : i < ys.length := by omega
    unfold slices_Equal_int_int.l0
    rw [if_pos (by omega), if_pos (by omega), if_pos (by omega), if_pos (by omega), rd_at hlt, rd_at hlt2, drop_at hlt, drop_at hlt2]
    by_cases h1 : xs[i] = ys[i]
    · rw [if_pos h1, wrap_next i (by omega), ih (i + 1) k (by omega) (by omega)]
      congr 1
      exact decide_eq_decide.2 ⟨fun h => by rw [h1, h], fun h => (List.cons.inj h).2⟩
    · rw [if_neg h1]
      congr 1
      exact (decide_eq_false (fun h => h1 (List.cons.inj h).1)).symm
theorem equal_f (xs ys : List Int) (hl : xs.length ≤ 4611686018427387904) : slices_Equal_int_int.f (xs.length + 1) xs ys = some (decide (xs = ys)) := by
  unfold slices_Equal_int_int.f
  by_cases h : xs.length = ys.length
  · rw [if_pos (by omega)]
    exact equal_from xs ys hl h.symm xs.length 0 _ (by omega) (by omega)
  · rw [if_neg (by omega)]
    congr 1
    exact (decide_eq_false (fun e => h (by rw [e]))).symm
/-- Whether a list ascends. -/
def ascB : List Int → Bool
  | [] => true
  | [_] => true
  | x :: y :: l => decide (x < y) && ascB (y :: l)
theorem family_ascending_from (l : List Int) (hl : l.length ≤ 4611686018427387904) : ∀ n i k, i + n = l.length → n < k → family_ascending.l0 k l ((i + 1 : Nat) : Int) = some (ascB (l.drop i)) := by
  intro n
  induction n with
  | zero =>
    intro i k hi hk
    obtain ⟨k, rfl⟩ : ∃ m, k = m + 1 := ⟨k - 1, by omega⟩
    unfold family_ascending.l0
    rw [if_neg (by omega), List.drop_eq_nil_of_le (by omega)]; rfl
  | succ n ih =>
    intro i k hi hk
    obtain ⟨k, rfl⟩ : ∃ m, k = m + 1 := ⟨k - 1, by omega⟩
    have hlt : i < l.length := by omega
    unfold family_ascending.l0
    by_cases h2 : i + 1 < l.length
    · rw [if_pos (by omega), if_pos (by omega), wrap_prev i (by omega), if_pos (by omega), if_pos (by omega), rd_at hlt, rd_at h2, drop_at hlt, drop_at h2, wrap_next (i + 1) (by omega), ih (i + 1) k (by omega) (by omega), drop_at h2]
      by_cases h3 : l[i + 1] ≤ l[i]
      · rw [if_pos h3]
        simp only [ascB, decide_eq_false (show ¬ l[i] < l[i + 1] by omega), Bool.false_and]
      · rw [if_neg h3]
        simp only [ascB, decide_eq_true (show l[i] < l[i + 1] by omega), Bool.true_and]
    · rw [if_neg (by omega), drop_at hlt, List.drop_eq_nil_of_le (by omega)]; rfl
theorem family_ascending_f (l : List Int) (hl : l.length ≤ 4611686018427387904) {k : Nat} (hk : l.length < k) : family_ascending.f k l = some (ascB l) :=
  family_ascending_from l hl l.length 0 k (by omega) hk
theorem manystrandref07_ascending_from (l : List Int) (hl : l.length ≤ 4611686018427387904) : ∀ n i k, i + n = l.length → n < k → manystrandref07_ascending.l0 k l ((i + 1 : Nat) : Int) = some (ascB (l.drop i)) := by
  intro n
  induction n with
  | zero =>
    intro i k hi hk
    obtain ⟨k, rfl⟩ : ∃ m, k = m + 1 := ⟨k - 1, by omega⟩
    unfold manystrandref07_ascending.l0
    rw [if_neg (by omega), List.drop_eq_nil_of_le (by omega)]; rfl
  | succ n ih =>
    intro i k hi hk
    obtain ⟨k, rfl⟩ : ∃ m, k = m + 1 := ⟨k - 1, by omega⟩
    have hlt : i < l.length := by omega
    unfold manystrandref07_ascending.l0
    by_cases h2 : i + 1 < l.length
    · rw [if_pos (by omega), if_pos (by omega), wrap_prev i (by omega), if_pos (by omega), if_pos (by omega), rd_at hlt, rd_at h2, drop_at hlt, drop_at h2, wrap_next (i + 1) (by omega), ih (i + 1) k (by omega) (by omega), drop_at h2]
      by_cases h3 : l[i + 1] ≤ l[i]
      · rw [if_pos h3]
        simp only [ascB, decide_eq_false (show ¬ l[i] < l[i + 1] by omega), Bool.false_and]
      · rw [if_neg h3]
        simp only [ascB, decide_eq_true (show l[i] < l[i + 1] by omega), Bool.true_and]
    · rw [if_neg (by omega), drop_at hlt, List.drop_eq_nil_of_le (by omega)]; rfl
theorem manystrandref07_ascending_f (l : List Int) (hl : l.length ≤ 4611686018427387904) {k : Nat} (hk : l.length < k) : manystrandref07_ascending.f k l = some (ascB l) :=
  manystrandref07_ascending_from l hl l.length 0 k (by omega) hk
end Go.Proofs.Ytgfbgfbnmiainaa.Fam
