import Derived.Test.YtgfbgfbnmiainaaFamValid
/-! The plain law: what a rule picks of two ascending lists is what the reference asks of each number. -/
namespace Go.Proofs.Ytgfbgfbnmiainaa.Fam
set_option linter.unusedVariables false
set_option linter.unusedSimpArgs false
open Go.RowKit Go.Proofs.YtgfbgfbnmiainaaW.PrintWords Go.Proofs.YtgfbgfbnmiainaaW.PrintLast Go.Proofs.YtgfbgfbnmiainaaW.PrintMore Go.Proofs.Ytgfbgfbnmiainaa.Q
theorem asc_pair : ∀ l : List Int, ascB l = true → l.Pairwise (· < ·)
  | [], _ => List.Pairwise.nil
  | [x], _ => List.pairwise_singleton _ _
  | x :: y :: l, h => by
    simp only [ascB, Bool.and_eq_true, decide_eq_true_eq] at h
    have ih := asc_pair (y :: l) h.2
    refine List.Pairwise.cons (fun z hz => ?_) ih
    rcases List.mem_cons.1 hz with rfl | hz
    · exact h.1
    · have := (List.pairwise_cons.1 ih).1 z hz
      omega
theorem mem_if {p : Bool} {x z : Int} : z ∈ (if p then [x] else []) ↔ z = x ∧ p = true := by
  cases p <;> simp
theorem mem_pick (rule : Bool → Bool → Bool) : ∀ (k : Nat) (a b : List Int), a.length + b.length ≤ k → a.Pairwise (· < ·) → b.Pairwise (· < ·) → ∀ z, z ∈ pick rule k a b ↔ (z ∈ a ∨ z ∈ b) ∧ rule (decide (z ∈ a)) (decide (z ∈ b)) = true := by
  intro k
  induction k with
  | zero =>
    intro a b hl ha hb z
    obtain rfl : a = [] := List.eq_nil_of_length_eq_zero (by omega)
    obtain rfl : b = [] := List.eq_nil_of_length_eq_zero (by omega)
    simp [pick]
  | succ k ih =>
    intro a b hl ha hb z
    cases a with
    | nil =>
      cases b with
      | nil => simp [pick]
      | cons y b =>
        obtain ⟨hy, hb'⟩ := List.pairwise_cons.1 hb
        have hi := ih [] b (by simp only [List.length_cons, List.length_nil] at hl ⊢; omega) ha hb' z
        simp only [pick, List.mem_append, mem_if, hi]
        by_cases hz : z = y
        · subst hz
          have hn : z ∉ b := fun h => by have := hy z h; omega
          simp [hn]
        · simp [hz]
    | cons x a =>
      obtain ⟨hx, ha'⟩ := List.pairwise_cons.1 ha
      cases b with
      | nil =>
        have hi := ih a [] (by simp only [List.length_cons, List.length_nil] at hl ⊢; omega) ha' hb z
        simp only [pick, List.mem_append, mem_if, hi]
        by_cases hz : z = x
        · subst hz
          have hn : z ∉ a := fun h => by have := hx z h; omega
          simp [hn]
        · simp [hz]
      | cons y b =>
        obtain ⟨hy, hb'⟩ := List.pairwise_cons.1 hb
        simp only [List.length_cons] at hl
        by_cases h1 : x < y
        · have hi := ih a (y :: b) (by simp only [List.length_cons]; omega) ha' hb z
          simp only [pick, if_pos h1, List.mem_append, mem_if, hi]
          by_cases hz : z = x
          · subst hz
            have hn : z ∉ a := fun h => by have := hx z h; omega
            have hn2 : z ∉ b := fun h => by have := hy z h; omega
            have hn3 : z ≠ y := by omega
            simp [hn, hn2, hn3]
          · simp [hz]
        · by_cases h2 : y < x
          · have hi := ih (x :: a) b (by simp only [List.length_cons]; omega) ha hb' z
            simp only [pick, if_neg h1, if_pos h2, List.mem_append, mem_if, hi]
            by_cases hz : z = y
            · subst hz
              have hn : z ∉ b := fun h => by have := hy z h; omega
              have hn2 : z ∉ a := fun h => by have := hx z h; omega
              have hn3 : z ≠ x := by omega
              simp [hn, hn2, hn3]
            · simp [hz]
          · obtain rfl : x = y := by omega
            have hi := ih a b (by omega) ha' hb' z
            simp only [pick, if_neg h1, if_neg h2, List.mem_append, mem_if, hi]
            by_cases hz : z = x
            · subst hz
              have hn : z ∉ a := fun h => by have := hx z h; omega
              have hn2 : z ∉ b := fun h => by have := hy z h; omega
              simp [hn, hn2]
            · simp [hz]
theorem pick_sorted (rule : Bool → Bool → Bool) : ∀ (k : Nat) (a b : List Int), a.length + b.length ≤ k → a.Pairwise (· < ·) → b.Pairwise (· < ·) → (pick rule k a b).Pairwise (· < ·) := by
  intro k
  have put : ∀ (p : Bool) (x : Int) (l : List Int), l.Pairwise (· < ·) → (∀ z ∈ l, x < z) → ((if p then [x] else []) ++ l).Pairwise (· < ·) := by
    intro p x l hl hx
    cases p with
    | false => simpa using hl
    | true => exact List.Pairwise.cons hx hl
  induction k with
  | zero => intro a b _ _ _; exact List.Pairwise.nil
  | succ k ih =>
    intro a b hl ha hb
    cases a with
    | nil =>
      cases b with
      | nil => exact List.Pairwise.nil
      | cons y b =>
        obtain ⟨hy, hb'⟩ := List.pairwise_cons.1 hb
        simp only [List.length_cons, List.length_nil] at hl
        refine put _ _ _ (ih [] b (by simp only [List.length_nil]; omega) ha hb') (fun z hz => ?_)
        rcases ((mem_pick rule k [] b (by simp only [List.length_nil]; omega) ha hb' z).1 hz).1 with h | h
        · cases h
        · exact hy z h
    | cons x a =>
      obtain ⟨hx, ha'⟩ := List.pairwise_cons.1 ha
      cases b with
      | nil =>
        simp only [List.length_cons, List.length_nil] at hl
        refine put _ _ _ (ih a [] (by simp only [List.length_nil]; omega) ha' hb) (fun z hz => ?_)
        rcases ((mem_pick rule k a [] (by simp only [List.length_nil]; omega) ha' hb z).1 hz).1 with h | h
        · exact hx z h
        · cases h
      | cons y b =>
        obtain ⟨hy, hb'⟩ := List.pairwise_cons.1 hb
        simp only [List.length_cons] at hl
        unfold pick
        by_cases h1 : x < y
        · rw [if_pos h1]
          refine put _ _ _ (ih a (y :: b) (by simp only [List.length_cons]; omega) ha' hb) (fun z hz => ?_)
          rcases ((mem_pick rule k a (y :: b) (by simp only [List.length_cons]; omega) ha' hb z).1 hz).1 with h | h
          · exact hx z h
          · rcases List.mem_cons.1 h with rfl | h
            · exact h1
            · have := hy z h; omega
        · rw [if_neg h1]
          by_cases h2 : y < x
          · rw [if_pos h2]
            refine put _ _ _ (ih (x :: a) b (by simp only [List.length_cons]; omega) ha hb') (fun z hz => ?_)
            rcases ((mem_pick rule k (x :: a) b (by simp only [List.length_cons]; omega) ha hb' z).1 hz).1 with h | h
            · rcases List.mem_cons.1 h with rfl | h
              · exact h2
              · have := hx z h; omega
            · exact hy z h
          · rw [if_neg h2]
            refine put _ _ _ (ih a b (by omega) ha' hb') (fun z hz => ?_)
            rcases ((mem_pick rule k a b (by omega) ha' hb' z).1 hz).1 with h | h
            · have := hx z h; omega
            · exact hy z h
theorem sorted_ext : ∀ (a b : List Int), a.Pairwise (· < ·) → b.Pairwise (· < ·) → (∀ z, z ∈ a ↔ z ∈ b) → a = b
  | [], [], _, _, _ => rfl
  | [], y :: b, _, _, h => absurd ((h y).2 (List.mem_cons_self ..)) (by simp)
  | x :: a, [], _, _, h => absurd ((h x).1 (List.mem_cons_self ..)) (by simp)
  | x :: a, y :: b, ha, hb, h => by
    obtain ⟨hx, ha'⟩ := List.pairwise_cons.1 ha
    obtain ⟨hy, hb'⟩ := List.pairwise_cons.1 hb
    have e : x = y := by
      rcases List.mem_cons.1 ((h x).1 (List.mem_cons_self ..)) with e | e
      · exact e
      · rcases List.mem_cons.1 ((h y).2 (List.mem_cons_self ..)) with e' | e'
        · exact e'.symm
        · have := hy x e; have := hx y e'; omega
    subst e
    rw [sorted_ext a b ha' hb' (fun z => ?_)]
    constructor
    · intro hz
      rcases List.mem_cons.1 ((h z).1 (List.mem_cons_of_mem _ hz)) with rfl | e
      · have := hx z hz; omega
      · exact e
    · intro hz
      rcases List.mem_cons.1 ((h z).2 (List.mem_cons_of_mem _ hz)) with rfl | e
      · have := hy z hz; omega
      · exact e
theorem eq_pick (rule : Bool → Bool → Bool) (h0 : rule false false = false) (a b c : List Int) (ha : a.Pairwise (· < ·)) (hb : b.Pairwise (· < ·)) (hc : c.Pairwise (· < ·)) :
    decide (c = pick rule (a.length + b.length) a b) = (a ++ b ++ c).all fun x => decide (x ∈ c) == rule (decide (x ∈ a)) (decide (x ∈ b)) := by
  have hm := mem_pick rule (a.length + b.length) a b (Nat.le_refl _) ha hb
  have hs := pick_sorted rule (a.length + b.length) a b (Nat.le_refl _) ha hb
  rw [Bool.eq_iff_iff, decide_eq_true_iff, List.all_eq_true]
  constructor
  · intro h z hz
    rw [beq_iff_eq, Bool.eq_iff_iff, decide_eq_true_iff]
    rw [h, hm z]
    constructor
    · exact fun k => k.2
    · intro k
      refine ⟨?_, k⟩
      by_cases h1 : z ∈ a
      · exact .inl h1
      · by_cases h2 : z ∈ b
        · exact .inr h2
        · rw [decide_eq_false h1, decide_eq_false h2, h0] at k
          cases k
  · intro h
    refine sorted_ext c _ hc hs (fun z => ?_)
    rw [hm z]
    constructor
    · intro hz
      have h1 := h z (by simp [hz])
      rw [beq_iff_eq, decide_eq_true hz] at h1
      refine ⟨?_, h1.symm⟩
      by_cases h2 : z ∈ a
      · exact .inl h2
      · by_cases h3 : z ∈ b
        · exact .inr h3
        · rw [decide_eq_false h2, decide_eq_false h3, h0] at h1
          cases h1
    · intro hz
      have h1 := h z (by rcases hz.1 with h | h <;> simp [h])
      rw [beq_iff_eq, hz.2] at h1
      exact of_decide_eq_true h1
theorem nil_pick (rule : Bool → Bool → Bool) (a b : List Int) (ha : a.Pairwise (· < ·)) (hb : b.Pairwise (· < ·)) :
    ((pick rule (a.length + b.length) a b).length : Int) = 0 ↔ ∀ z, (z ∈ a ∨ z ∈ b) → rule (decide (z ∈ a)) (decide (z ∈ b)) = false := by
  have hm := mem_pick rule (a.length + b.length) a b (Nat.le_refl _) ha hb
  constructor
  · intro h z hz
    have hn : pick rule (a.length + b.length) a b = [] := List.eq_nil_of_length_eq_zero (by omega)
    cases hr : rule (decide (z ∈ a)) (decide (z ∈ b)) with
    | false => rfl
    | true =>
      have := (hm z).2 ⟨hz, hr⟩
      rw [hn] at this
      cases this
  · intro h
    cases hp : pick rule (a.length + b.length) a b with
    | nil => rfl
    | cons z l =>
      have := (hm z).1 (by rw [hp]; exact List.mem_cons_self ..)
      rw [h z this.1] at this
      cases this.2
/-- Both answers are the same. -/
theorem holds_same (q : Kn) (a b c : List Int) (n : Int) (ha : ascB a = true) (hb : ascB b = true) (hc : ascB c = true) : q.resF a b c n = q.resR a b c n := by
  replace ha := asc_pair a ha
  replace hb := asc_pair b hb
  replace hc := asc_pair c hc
  cases q with
  | part =>
    refine decide_eq_decide.2 ((nil_pick r_without a b ha hb).trans ⟨fun h z hz => ?_, fun h z hz => ?_⟩)
    · have := h z (.inl hz)
      simpa [r_without, hz] using this
    · by_cases h1 : z ∈ a
      · have := h z h1
        simp [r_without, this]
      · simp [r_without, h1]
  | apart =>
    refine decide_eq_decide.2 ((nil_pick r_both a b ha hb).trans ⟨fun h z hz => ?_, fun h z hz => ?_⟩)
    · have := h z (.inl hz)
      simpa [r_both, hz] using this
    · by_cases h1 : z ∈ a
      · have := h z h1
        simp [r_both, this]
      · simp [r_both, h1]
  | union => exact eq_pick r_either rfl a b c ha hb hc
  | meet => exact eq_pick r_both rfl a b c ha hb hc
  | minus => exact eq_pick r_without rfl a b c ha hb hc
  | has => rfl
  | lacks => rfl
  | size => rfl
end Go.Proofs.Ytgfbgfbnmiainaa.Fam
