import Derived.Test.YtgfbgfbnmiainaaFamHoldsR
import Derived.Test.YtgfbgfbnmiainaaQ4
/-! Which relations are valid: both functions. -/
namespace Go.Proofs.Ytgfbgfbnmiainaa.Fam
set_option linter.unusedVariables false
set_option linter.unusedSimpArgs false
open Go.RowKit Go.Proofs.YtgfbgfbnmiainaaW.PrintWords Go.Proofs.YtgfbgfbnmiainaaW.PrintLast Go.Proofs.YtgfbgfbnmiainaaW.PrintMore Go.Proofs.Ytgfbgfbnmiainaa.Q
theorem bytes_eq {a b : ByteArray} (h : a.toList = b.toList) : a = b := by
  rw [ByteArray.toList_eq, ByteArray.toList_eq] at h
  exact ByteArray.ext (Array.toList_inj.1 h)
/-- The kind of a text. -/
def qOf (s : List UInt8) : Option Kn :=
  if s = [112, 97, 114, 116] then some .part else if s = [97, 112, 97, 114, 116] then some .apart else if s = [117, 110, 105, 111, 110] then some .union else if s = [109, 101, 101, 116] then some .meet
  else if s = [109, 105, 110, 117, 115] then some .minus else if s = [104, 97, 115] then some .has else if s = [108, 97, 99, 107, 115] then some .lacks else if s = [115, 105, 122, 101] then some .size else none
theorem text_list (q : Kn) : qOf q.text.toList = some q := by cases q <;> kernel_rfl
theorem qOf_text {s : List UInt8} {q : Kn} (h : qOf s = some q) : s = q.text.toList := by
  unfold qOf at h
  split at h
  · rename_i h1; cases h; rw [h1]; kernel_rfl
  split at h
  · rename_i h1; cases h; rw [h1]; kernel_rfl
  split at h
  · rename_i h1; cases h; rw [h1]; kernel_rfl
  split at h
  · rename_i h1; cases h; rw [h1]; kernel_rfl
  split at h
  · rename_i h1; cases h; rw [h1]; kernel_rfl
  split at h
  · rename_i h1; cases h; rw [h1]; kernel_rfl
  split at h
  · rename_i h1; cases h; rw [h1]; kernel_rfl
  split at h
  · rename_i h1; cases h; rw [h1]; kernel_rfl
  · cases h
def arityI : Option Kn → Int
  | some q => q.arity
  | none => 0
theorem arity_f (kind : ByteArray) (k : Nat) (hk : 3 ≤ k) : family_arity.f k kind = some (arityI (qOf kind.toList)) := by
  obtain ⟨k, rfl⟩ : ∃ m, k = m + 3 := ⟨k - 3, by omega⟩
  generalize hs : kind.toList = s
  by_cases h1 : s = [112, 97, 114, 116]
  · subst h1; simp [family_arity.f, family_arity.j0, family_arity.j1, hs, qOf, arityI, Kn.arity]
  by_cases h2 : s = [97, 112, 97, 114, 116]
  · subst h2; simp [family_arity.f, family_arity.j0, family_arity.j1, hs, qOf, arityI, Kn.arity]
  by_cases h3 : s = [117, 110, 105, 111, 110]
  · subst h3; simp [family_arity.f, family_arity.j0, family_arity.j1, hs, qOf, arityI, Kn.arity]
  by_cases h4 : s = [109, 101, 101, 116]
  · subst h4; simp [family_arity.f, family_arity.j0, family_arity.j1, hs, qOf, arityI, Kn.arity]
  by_cases h5 : s = [109, 105, 110, 117, 115]
  · subst h5; simp [family_arity.f, family_arity.j0, family_arity.j1, hs, qOf, arityI, Kn.arity]
  by_cases h6 : s = [104, 97, 115]
  · subst h6; simp [family_arity.f, family_arity.j0, family_arity.j1, hs, qOf, arityI, Kn.arity]
  by_cases h7 : s = [108, 97, 99, 107, 115]
  · subst h7; simp [family_arity.f, family_arity.j0, family_arity.j1, hs, qOf, arityI, Kn.arity]
  by_cases h8 : s = [115, 105, 122, 101]
  · subst h8; simp [family_arity.f, family_arity.j0, family_arity.j1, hs, qOf, arityI, Kn.arity]
  simp [family_arity.f, family_arity.j0, family_arity.j1, hs, qOf, h1, h2, h3, h4, h5, h6, h7, h8, arityI]
/-- Whether all variables from the i-th on are in range. -/
def inRg (vars : List Int) (N : Int) : Bool := vars.all fun v => decide (0 ≤ v) && decide (v < N)
theorem inRg_cons (v : Int) (vars : List Int) (N : Int) : inRg (v :: vars) N = (decide (0 ≤ v) && decide (v < N) && inRg vars N) := rfl
theorem validF_from (vars : List Int) (N : Int) (hl : vars.length ≤ 1000) : ∀ n i k, i + n = vars.length → n < k → family_ValidRel.l0 k N vars (vars.length : Int) (i : Int) = some (inRg (vars.drop i) N) := by
  intro n
  induction n with
  | zero =>
    intro i k hi hk
    obtain ⟨k, rfl⟩ : ∃ m, k = m + 1 := ⟨k - 1, by omega⟩
    unfold family_ValidRel.l0
    rw [if_neg (by omega), List.drop_eq_nil_of_le (by omega)]; rfl
  | succ n ih =>
    intro i k hi hk
    obtain ⟨k, rfl⟩ : ∃ m, k = m + 1 := ⟨k - 1, by omega⟩
    have hlt : i < vars.length := by omega
    unfold family_ValidRel.l0
    rw [if_pos (by omega), if_pos (by omega), if_pos (by omega), rd_at hlt, drop_at hlt, wrap_next i (by omega), ih (i + 1) k (by omega) (by omega), inRg_cons]
    by_cases h1 : vars[i] < 0
    · rw [if_pos h1, decide_eq_false (by omega)]; rfl
    · rw [if_neg h1, decide_eq_true (by omega)]
      by_cases h2 : vars[i] ≥ N
      · rw [if_pos h2, decide_eq_false (by omega)]; rfl
      · rw [if_neg h2, decide_eq_true (by omega)]; rfl
theorem validR_from (kind : ByteArray) (vars : List Int) (n0 N ar : Int) (hl : vars.length ≤ 1000) : ∀ n i k, i + n = vars.length → n < k → manystrandref07_ValidRel.l0 k N ar (i : Int) kind vars n0 = some (inRg (vars.drop i) N && decide ((vars.length : Int) = ar) && decide (N ≤ 40)) := by
  intro n
  induction n with
  | zero =>
    intro i k hi hk
    obtain ⟨k, rfl⟩ : ∃ m, k = m + 1 := ⟨k - 1, by omega⟩
    unfold manystrandref07_ValidRel.l0
    rw [if_neg (by omega), List.drop_eq_nil_of_le (by omega)]
    by_cases h : (vars.length : Int) = ar
    · rw [if_pos h, decide_eq_true h]; rfl
    · rw [if_neg h, decide_eq_false h]; rfl
  | succ n ih =>
    intro i k hi hk
    obtain ⟨k, rfl⟩ : ∃ m, k = m + 1 := ⟨k - 1, by omega⟩
    have hlt : i < vars.length := by omega
    unfold manystrandref07_ValidRel.l0
    rw [if_pos (by omega), if_pos (by omega), rd_at hlt, drop_at hlt, wrap_next i (by omega), ih (i + 1) k (by omega) (by omega), inRg_cons]
    by_cases h1 : vars[i] < 0
    · rw [if_pos h1, decide_eq_false (show ¬ 0 ≤ vars[i] by omega)]; rfl
    · rw [if_neg h1, decide_eq_true (show 0 ≤ vars[i] by omega)]
      by_cases h2 : vars[i] ≥ N
      · rw [if_pos h2, decide_eq_false (show ¬ vars[i] < N by omega)]; rfl
      · rw [if_neg h2, decide_eq_true (show vars[i] < N by omega)]; rfl
/-- Whether a relation is one of N lists. -/
def validB (kind : ByteArray) (vars : List Int) (N : Nat) : Bool :=
  match qOf kind.toList with
  | some q => inRg vars N && decide (vars.length = q.arity) && decide (N ≤ 40)
  | none => false
theorem arity_pos (q : Kn) : 0 < q.arity := by cases q <;> decide
theorem j0F (k : Nat) (x1 : Int) (b : Bool) (kind : ByteArray) (vars : List Int) (n : Int) : family_ValidRel.j0 (k + 1) x1 b kind vars n = if b = true then some false else family_ValidRel.l0 k x1 vars (vars.length : Int) 0 := by
  unfold family_ValidRel.j0
  rfl
theorem validF (kind : ByteArray) (vars : List Int) (n : Int) (N : Nat) (hl : vars.length ≤ 1000) : family_ValidRel.f (vars.length + 5) kind vars n N = some (validB kind vars N) := by
  unfold family_ValidRel.f validB
  rw [if_neg (by omega), arity_f kind _ (by omega), Option.bind_some]
  obtain ⟨k, hk⟩ : ∃ k, vars.length + 5 = k + 1 := ⟨vars.length + 4, rfl⟩
  rw [hk]
  by_cases h1 : (N : Int) > 40
  · rw [if_pos h1]
    rw [j0F]
    rw [if_pos rfl]
    cases qOf kind.toList with
    | none => rfl
    | some q => simp [show ¬ N ≤ 40 by omega]
  · rw [if_neg h1]
    by_cases h2 : (vars.length : Int) = 0
    · rw [if_pos h2]
      rw [j0F]
      rw [if_pos rfl]
      cases qOf kind.toList with
      | none => rfl
      | some q => have := arity_pos q; simp [show ¬ vars.length = q.arity by omega]
    · rw [if_neg h2]
      rw [j0F]
      cases hq : qOf kind.toList with
      | none =>
        rw [if_pos (by simp only [arityI, bne_iff_ne]; exact h2)]
      | some q =>
        by_cases h3 : vars.length = q.arity
        · rw [if_neg (by simp [arityI, h3])]
          have h5 := validF_from vars N hl vars.length 0 k (by omega) (by omega)
          rw [List.drop_zero] at h5
          refine h5.trans ?_
          simp [h3, show N ≤ 40 by omega]
        · rw [if_pos (by simp only [arityI, bne_iff_ne]; omega)]
          simp [h3]
theorem validR (kind : ByteArray) (vars : List Int) (n : Int) (N : Nat) (hl : vars.length ≤ 1000) : manystrandref07_ValidRel.f (vars.length + 5) kind vars n N = some (validB kind vars N) := by
  have key : ∀ q : Kn, ∀ k, vars.length < k → manystrandref07_ValidRel.l0 k N q.arity 0 kind vars n = some (inRg vars N && decide (vars.length = q.arity) && decide (N ≤ 40)) := by
    intro q k hk
    have h := validR_from kind vars n N q.arity hl vars.length 0 k (by omega) hk
    rw [List.drop_zero] at h
    have e1 : decide ((vars.length : Int) = (q.arity : Int)) = decide (vars.length = q.arity) := decide_eq_decide.2 (by omega)
    have e2 : decide ((N : Int) ≤ 40) = decide (N ≤ 40) := decide_eq_decide.2 (by omega)
    rw [e1, e2] at h
    exact h
  unfold validB
  generalize hs : kind.toList = s
  by_cases h1 : s = [112, 97, 114, 116]
  · subst h1
    show _ = some (inRg vars N && decide (vars.length = Kn.part.arity) && decide (N ≤ 40))
    rw [← key .part (vars.length + 3) (by omega)]
    simp [manystrandref07_ValidRel.f, manystrandref07_ValidRel.j0, manystrandref07_ValidRel.j1, manystrandref07_ValidRel.j2, hs, Kn.arity]
  by_cases h2 : s = [97, 112, 97, 114, 116]
  · subst h2
    show _ = some (inRg vars N && decide (vars.length = Kn.apart.arity) && decide (N ≤ 40))
    rw [← key .apart (vars.length + 3) (by omega)]
    simp [manystrandref07_ValidRel.f, manystrandref07_ValidRel.j0, manystrandref07_ValidRel.j1, manystrandref07_ValidRel.j2, hs, Kn.arity]
  by_cases h3 : s = [117, 110, 105, 111, 110]
  · subst h3
    show _ = some (inRg vars N && decide (vars.length = Kn.union.arity) && decide (N ≤ 40))
    rw [← key .union (vars.length + 2) (by omega)]
    simp [manystrandref07_ValidRel.f, manystrandref07_ValidRel.j0, manystrandref07_ValidRel.j1, manystrandref07_ValidRel.j2, hs, Kn.arity]
  by_cases h4 : s = [109, 101, 101, 116]
  · subst h4
    show _ = some (inRg vars N && decide (vars.length = Kn.meet.arity) && decide (N ≤ 40))
    rw [← key .meet (vars.length + 2) (by omega)]
    simp [manystrandref07_ValidRel.f, manystrandref07_ValidRel.j0, manystrandref07_ValidRel.j1, manystrandref07_ValidRel.j2, hs, Kn.arity]
  by_cases h5 : s = [109, 105, 110, 117, 115]
  · subst h5
    show _ = some (inRg vars N && decide (vars.length = Kn.minus.arity) && decide (N ≤ 40))
    rw [← key .minus (vars.length + 2) (by omega)]
    simp [manystrandref07_ValidRel.f, manystrandref07_ValidRel.j0, manystrandref07_ValidRel.j1, manystrandref07_ValidRel.j2, hs, Kn.arity]
  by_cases h6 : s = [104, 97, 115]
  · subst h6
    show _ = some (inRg vars N && decide (vars.length = Kn.has.arity) && decide (N ≤ 40))
    rw [← key .has (vars.length + 2) (by omega)]
    simp [manystrandref07_ValidRel.f, manystrandref07_ValidRel.j0, manystrandref07_ValidRel.j1, manystrandref07_ValidRel.j2, hs, Kn.arity]
  by_cases h7 : s = [108, 97, 99, 107, 115]
  · subst h7
    show _ = some (inRg vars N && decide (vars.length = Kn.lacks.arity) && decide (N ≤ 40))
    rw [← key .lacks (vars.length + 2) (by omega)]
    simp [manystrandref07_ValidRel.f, manystrandref07_ValidRel.j0, manystrandref07_ValidRel.j1, manystrandref07_ValidRel.j2, hs, Kn.arity]
  by_cases h8 : s = [115, 105, 122, 101]
  · subst h8
    show _ = some (inRg vars N && decide (vars.length = Kn.size.arity) && decide (N ≤ 40))
    rw [← key .size (vars.length + 2) (by omega)]
    simp [manystrandref07_ValidRel.f, manystrandref07_ValidRel.j0, manystrandref07_ValidRel.j1, manystrandref07_ValidRel.j2, hs, Kn.arity]
  simp [manystrandref07_ValidRel.f, manystrandref07_ValidRel.j0, manystrandref07_ValidRel.j1, manystrandref07_ValidRel.j2, qOf, hs, h1, h2, h3, h4, h5, h6, h7, h8]
/-- What is known of a valid one. -/
theorem valid_kn {kind : ByteArray} {vars : List Int} {N : Nat} (h : validB kind vars N = true) : ∃ q : Kn, kind = q.text ∧ vars.length = q.arity ∧ ∀ j : Nat, j < vars.length → 0 ≤ rd vars (j : Int) ∧ rd vars (j : Int) < N := by
  unfold validB at h
  cases hq : qOf kind.toList with
  | none => rw [hq] at h; cases h
  | some q =>
    rw [hq] at h
    simp only [Bool.and_eq_true, decide_eq_true_eq] at h
    obtain ⟨⟨h1, h2⟩, h3⟩ := h
    refine ⟨q, bytes_eq (qOf_text hq), h2, fun j hj => ?_⟩
    rw [rd_at hj]
    have := (List.all_eq_true.1 h1) _ (List.getElem_mem hj)
    simpa using this
theorem lean_f (x : S33) : manystrandlaw07_lean.f 3 [x] = some (decide (x.f1.length ≤ 10) && decide (x.f0.size ≤ 100)) := by
  unfold manystrandlaw07_lean.f manystrandlaw07_lean.l0
  rw [if_pos (by simp), if_pos (by decide), if_pos (by simp)]
  have hr : rd_T33 [x] 0 = x := rfl
  rw [hr]
  by_cases h1 : x.f1.length ≤ 10
  · rw [if_neg (by omega), decide_eq_true h1]
    by_cases h2 : x.f0.size ≤ 100
    · rw [if_neg (by omega), decide_eq_true h2]
      have hw : wrap64 (0 + 1) = 1 := by unfold wrap64; omega
      rw [hw]
      unfold manystrandlaw07_lean.l0
      rw [if_neg (by simp)]
      rfl
    · rw [if_pos (by omega), decide_eq_false h2]; rfl
  · rw [if_pos (by omega), decide_eq_false h1]; rfl
end Go.Proofs.Ytgfbgfbnmiainaa.Fam
