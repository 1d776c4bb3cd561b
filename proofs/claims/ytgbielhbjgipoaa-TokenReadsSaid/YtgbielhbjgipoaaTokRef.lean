import Derived.Test.YtgbielhbjgipoaaTokLaws
import Derived.Test.YtgbielhbjgipoaaQ33
/-! The reference's reader of one token, against the specification. -/
namespace Go.Proofs.Ytgbielhbjgipoaa.Pure
set_option linter.unusedVariables false
set_option linter.unusedSimpArgs false
open Go.RowKit Go.Proofs.YtgbielhbjgipoaaW.PrintWords Go.Proofs.YtgbielhbjgipoaaW.PrintLast Go.Proofs.YtgbielhbjgipoaaW.PrintMore Go.Proofs.Ytgbielhbjgipoaa.Q
theorem great_eq (x : Int) : manystrandref01_great.f x = some (isUp x) := by
  unfold manystrandref01_great.f isUp; by_cases h : 65 ≤ x <;> simp [h]
theorem small_eq (x : Int) : manystrandref01_small.f x = some (isLo x) := by
  unfold manystrandref01_small.f isLo; by_cases h : 97 ≤ x <;> simp [h]
theorem rdigit_eq (x : Int) : manystrandref01_digit.f x = some (isDi x) := by
  unfold manystrandref01_digit.f isDi; by_cases h : 48 ≤ x <;> simp [h]
theorem inner_eq (x : Int) : manystrandref01_inner.f x = some (isWo x) := by
  unfold manystrandref01_inner.f isWo
  rw [great_eq, small_eq, rdigit_eq]
  cases isUp x <;> cases isLo x <;> cases isDi x <;> simp
/-- Does a word stand in a list, with a space around it? -/
def found (s : By) : By → Bool
  | [] => false
  | c :: t => if s.length + 2 ≤ t.length + 1 then ((!s.isEmpty && ((c :: t).take (s.length + 2) == 32 :: s ++ [32])) || found s t) else false
def sp (c : UInt8) : Bool := !((c.toNat : Int) == 32)
/-- The words of a list with a space around each. -/
def pieces : By → List By
  | [] => []
  | c :: t => if (c.toNat : Int) = 32 ∧ t.dropWhile sp ≠ [] then t.takeWhile sp :: pieces t else pieces t
theorem starts_iff {s t : By} {c : UInt8} (hs : ∀ d ∈ s, sp d = true) (hl : s.length + 2 ≤ t.length + 1) : (c :: t).take (s.length + 2) = 32 :: s ++ [32] ↔ ((c.toNat : Int) = 32 ∧ t.dropWhile sp ≠ [] ∧ t.takeWhile sp = s) := by
  have h32 : sp 32 = false := by decide
  constructor
  · intro h
    have h1 : c = 32 ∧ t.take (s.length + 1) = s ++ [32] := by
      have : s.length + 2 = (s.length + 1) + 1 := by omega
      rw [this, List.take_succ_cons] at h
      simpa using h
    obtain ⟨rfl, h2⟩ := h1
    have h3 : t = s ++ 32 :: t.drop (s.length + 1) := by
      have := List.take_append_drop (s.length + 1) t
      rw [h2] at this
      simpa using this.symm
    obtain ⟨f1, f2⟩ := take_app (p := sp) (s := s) (w := 32 :: t.drop (s.length + 1)) hs (.inr ⟨32, _, rfl, h32⟩)
    rw [← h3] at f1 f2
    exact ⟨by decide, by rw [f2]; simp, f1⟩
  · rintro ⟨h1, h2, h3⟩
    have hc : c = 32 := u8_eq (d := 32) h1
    subst hc
    rcases drop_fails (p := sp) t with h4 | ⟨d, r, h4, hd⟩
    · exact absurd h4 h2
    · have hd32 : d = 32 := by
        apply u8_eq (d := 32)
        simp [sp] at hd
        simpa using hd
      subst hd32
      have h5 := List.takeWhile_append_dropWhile (p := sp) (l := t)
      rw [h3, h4] at h5
      rw [← h5]
      have : s.length + 2 = (s.length + 1) + 1 := by omega
      rw [this, List.take_succ_cons, List.take_append, List.take_of_length_le (by omega)]
      simp
theorem found_eq {s : By} (hs : ∀ d ∈ s, sp d = true) (hne : s ≠ []) : ∀ t : By, found s t = decide (s ∈ pieces t)
  | [] => by simp [found, pieces]
  | c :: t => by
    have ih := found_eq hs hne t
    have he : s.isEmpty = false := by cases s with | nil => exact absurd rfl hne | cons _ _ => rfl
    rw [found, pieces]
    have short : ∀ r : By, (∃ q, q ++ r = t) → s.length + 2 > t.length + 1 → s ∉ pieces r := by
      intro r
      induction r with
      | nil => intro _ _; simp [pieces]
      | cons d r ihr =>
        intro ⟨q, hq⟩ hlt hm
        have hr : s ∉ pieces r := ihr ⟨q ++ [d], by simpa using hq⟩ hlt
        rw [pieces] at hm
        split at hm
        · rename_i hd
          rcases List.mem_cons.1 hm with hm | hm
          · have h1 := congrArg List.length (List.takeWhile_append_dropWhile (p := sp) (l := r))
            rw [List.length_append, ← hm] at h1
            have h2 := congrArg List.length hq
            rw [List.length_append, List.length_cons] at h2
            have h3 : 0 < (r.dropWhile sp).length := List.length_pos_iff.2 hd.2
            omega
          · exact hr hm
        · exact hr hm
    by_cases hl : s.length + 2 ≤ t.length + 1
    · rw [if_pos hl, ih, he]
      have hst := starts_iff (c := c) hs hl
      by_cases hm : (c :: t).take (s.length + 2) = 32 :: s ++ [32]
      · obtain ⟨h1, h2, h3⟩ := hst.1 hm
        rw [if_pos ⟨h1, h2⟩, h3]
        simp only [hm]
        simp
      · have hb : ((c :: t).take (s.length + 2) == 32 :: s ++ [32]) = false := beq_eq_false_iff_ne.mpr hm
        rw [hb]
        simp only [Bool.and_false, Bool.false_or, decide_eq_decide]
        split
        · rename_i hd
          rw [List.mem_cons]
          constructor
          · exact fun h => .inr h
          · rintro (h | h)
            · exact absurd (hst.2 ⟨hd.1, hd.2, h.symm⟩) hm
            · exact h
        · exact Iff.rfl
    · rw [if_neg hl]
      symm
      rw [decide_eq_false_iff_not]
      intro hm
      split at hm
      · rename_i hd
        rcases List.mem_cons.1 hm with hm | hm
        · have h1 := congrArg List.length (List.takeWhile_append_dropWhile (p := sp) (l := t))
          rw [List.length_append, ← hm] at h1
          have h3 : 0 < (t.dropWhile sp).length := List.length_pos_iff.2 hd.2
          omega
        · exact short t ⟨[], rfl⟩ (by omega) hm
      · exact short t ⟨[], rfl⟩ (by omega) hm
theorem found_nil : ∀ t : By, found [] t = false
  | [] => rfl
  | c :: t => by rw [found, found_nil t]; simp
theorem among1_ev {s b : ByteArray} (hs : Fits s) (hb : Fits b) : ∀ t, t <:+ L b → Ev (fun k => manystrandref01_Among.l1 k s b (at_ b t)) (found (L s) t)
  | [], h => by
    refine Ev.step (fun k => by rw [manystrandref01_Among.l1]) ?_
    rw [at_nil]
    unfold Fits at hs hb
    have e : wrap64 (wrap64 ((b.size : Int) + (s.size : Int)) + 2) = (b.size : Int) + (s.size : Int) + 2 := by unfold wrap64; omega
    rw [e]
    exact ev_neg (by omega) (ev_now rfl)
  | c :: t, h => by
    have h0 := at_nonneg h
    have hle := at_le b (c :: t)
    have hlen := suf_len h
    have hs' := hs
    have hb' := hb
    unfold Fits at hs' hb'
    have e : wrap64 (wrap64 (at_ b (c :: t) + (s.size : Int)) + 2) = at_ b (c :: t) + (s.size : Int) + 2 := by unfold wrap64; omega
    have ih := among1_ev hs hb t (suf_tail h)
    refine Ev.step (fun k => by rw [manystrandref01_Among.l1]) ?_
    rw [e, found]
    simp only [toList_L]
    have hat : at_ b (c :: t) = (b.size : Int) - ((t.length : Int) + 1) := by simp [at_]
    by_cases hl : (L s).length + 2 ≤ t.length + 1
    · rw [if_pos hl]
      rw [L_length] at hl
      refine ev_pos (by omega) ?_
      by_cases hn : L s = []
      · refine ev_pos hn ?_
        rw [at_succ hb h, hn]
        simp only [List.isEmpty_nil, Bool.not_true, Bool.false_and, Bool.false_or]
        rw [hn] at ih
        exact ih
      · have he : (L s).isEmpty = false := by cases hx : L s with | nil => exact absurd hx hn | cons _ _ => rfl
        rw [he]
        simp only [Bool.not_false, Bool.true_and]
        have h32 : (⟨#[32]⟩ : ByteArray) = ofL [32] := rfl
        have z1 : ((⟨#[32]⟩ : ByteArray) ++ s).size + 1 ≤ 9223372036854775807 := by
          rw [ByteArray.size_append]
          show 1 + s.size + 1 ≤ _
          omega
        refine ev_neg hn (ev_pos h0 (ev_pos (by omega) (ev_pos (by omega) (ev_pos z1 ?_))))
        have hx : L (b.extract (at_ b (c :: t)).toNat (at_ b (c :: t) + (s.size : Int) + 2).toNat) = (c :: t).take ((L s).length + 2) := by
          rw [L_extract, suf_eq h, L_length]
          congr 1
          omega
        have hy : L (((⟨#[32]⟩ : ByteArray) ++ s) ++ (⟨#[32]⟩ : ByteArray)) = 32 :: L s ++ [32] := by
          rw [L_append, L_append]; rfl
        rw [hx, hy]
        by_cases hm : (c :: t).take ((L s).length + 2) = 32 :: L s ++ [32]
        · refine ev_pos hm (ev_now ?_)
          rw [beq_iff_eq.mpr hm]; rfl
        · refine ev_neg hm ?_
          rw [beq_eq_false_iff_ne.mpr hm, Bool.false_or, at_succ hb h]
          exact ih
    · rw [if_neg hl]
      rw [L_length] at hl
      exact ev_neg (by omega) (ev_now rfl)
theorem among0_ev {s b : ByteArray} (hs : Fits s) (hb : Fits b) : ∀ t, t <:+ L s → Ev (fun k => manystrandref01_Among.l0 k s b (at_ s t)) (t.all sp && found (L s) (L b))
  | [], h => by
    refine Ev.step (fun k => by rw [manystrandref01_Among.l0]) ?_
    rw [at_nil]
    have := among1_ev hs hb (L b) (List.suffix_refl _)
    rw [at_all] at this
    exact ev_neg (by omega) (by simpa using this)
  | c :: t, h => by
    refine Ev.step (fun k => by rw [manystrandref01_Among.l0]) ?_
    refine ev_pos (at_lt s c t) (ev_pos (at_nonneg h) ?_)
    rw [bt_of h, at_succ hs h]
    by_cases hc : (c.toNat : Int) = 32
    · refine ev_pos hc (ev_now ?_)
      simp [sp, hc]
    · refine ev_neg hc ?_
      have : sp c = true := by simp [sp, beq_eq_false_iff_ne.mpr hc]
      rw [List.all_cons, this, Bool.true_and]
      exact among0_ev hs hb t (suf_tail h)
theorem among_ev {s b : ByteArray} (hs : Fits s) (hb : Fits b) (ws : List By) (hw : pieces (L b) = ws) (hsp : ∀ w ∈ ws, w ≠ [] ∧ ∀ c ∈ w, sp c = true) : Ev (fun k => manystrandref01_Among.f k s b) (decide (L s ∈ ws)) := by
  unfold manystrandref01_Among.f
  have h := among0_ev hs hb (L s) (List.suffix_refl _)
  rw [at_all] at h
  have e : ((L s).all sp && found (L s) (L b)) = decide (L s ∈ ws) := by
    by_cases hall : ∀ c ∈ L s, sp c = true
    · have : (L s).all sp = true := List.all_eq_true.2 hall
      rw [this, Bool.true_and]
      by_cases hn : L s = []
      · rw [hn, found_nil]
        symm
        rw [decide_eq_false_iff_not]
        exact fun hm => (hsp [] hm).1 rfl
      · rw [found_eq hall hn, hw]
    · have : (L s).all sp = false := by
        rw [Bool.eq_false_iff]
        exact fun hh => hall (List.all_eq_true.1 hh)
      rw [this, Bool.false_and]
      symm
      rw [decide_eq_false_iff_not]
      exact fun hm => hall (hsp _ hm).2
  rw [e] at h
  exact h
end Go.Proofs.Ytgbielhbjgipoaa.Pure
