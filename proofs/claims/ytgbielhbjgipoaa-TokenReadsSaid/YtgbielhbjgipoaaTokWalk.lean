import Derived.Test.YtgbielhbjgipoaaTokSpec
import Derived.Test.YtgbielhbjgipoaaQ17
/-! What the program's reader of tokens answers, as the specification says it. -/
namespace Go.Proofs.Ytgbielhbjgipoaa.Pure
set_option linter.unusedVariables false
set_option linter.unusedSimpArgs false
open Go.RowKit Go.Proofs.YtgbielhbjgipoaaW.PrintWords Go.Proofs.YtgbielhbjgipoaaW.PrintLast Go.Proofs.YtgbielhbjgipoaaW.PrintMore Go.Proofs.Ytgbielhbjgipoaa.Q
theorem upper_eq (x : Int) : token_upper.f x = some (isUp x) := by
  unfold token_upper.f isUp; by_cases h : 65 ≤ x <;> simp [h]
theorem lower_eq (x : Int) : token_lower.f x = some (isLo x) := by
  unfold token_lower.f isLo; by_cases h : 97 ≤ x <;> simp [h]
theorem digit_eq (x : Int) : token_digit.f x = some (isDi x) := by
  unfold token_digit.f isDi; by_cases h : 48 ≤ x <;> simp [h]
theorem word_eq (x : Int) : token_word.f x = some (isWo x) := by
  unfold token_word.f isWo
  rw [upper_eq, lower_eq, digit_eq]
  cases isUp x <;> cases isLo x <;> cases isDi x <;> simp
/-- Do two bytes stand at the head of a text? -/
def pre2 (x y : Int) : By → Bool
  | a :: b :: _ => decide ((a.toNat : Int) = x ∧ (b.toNat : Int) = y)
  | _ => false
theorem hasPrefix_eq (t : By) (x y : UInt8) : strings_HasPrefix.f (ofL t) (⟨#[x, y]⟩ : ByteArray) = some (pre2 x.toNat y.toNat t) := by
  unfold strings_HasPrefix.f stringslite_HasPrefix.f
  have hb : (⟨#[x, y]⟩ : ByteArray).size = 2 := rfl
  have hl : L (⟨#[x, y]⟩ : ByteArray) = [x, y] := rfl
  simp only [hb, size_ofL, toList_L, L_extract, L_ofL, hl, List.drop_zero]
  match t with
  | [] => simp [pre2]
  | [a] => simp [pre2]
  | a :: b :: t =>
    rw [if_pos (by simp; omega), if_pos (by omega), if_pos (by simp; omega)]
    simp only [Option.bind_some, Option.some.injEq, pre2]
    rw [Bool.eq_iff_iff]
    simp [Int.ofNat_inj, UInt8.toNat_inj]
theorem remark0_ev {a : ByteArray} (ha : Fits a) : ∀ t, t <:+ L a → Ev (fun k => token_remark.l0 k a (at_ a t)) (at_ a (rem0 t))
  | [], _ => by
    refine Ev.step (fun k => by rw [token_remark.l0]) ?_
    rw [at_nil]
    refine ev_neg (by omega) (ev_now ?_)
    rw [rem0, at_nil]
    unfold mn wrap64; split <;> omega
  | c :: t, h => by
    have h1 := suf_tail h
    refine Ev.step (fun k => by rw [token_remark.l0]) ?_
    refine ev_pos (at_lt a c t) (ev_pos (at_nonneg h) ?_)
    simp only [bt_of h, at_succ ha h, rem0]
    by_cases hc : (c.toNat : Int) = 10
    · rw [if_pos hc]
      refine ev_pos hc (ev_now ?_)
      have := at_le a t
      unfold mn; split <;> omega
    · rw [if_neg hc]
      exact ev_neg hc (remark0_ev ha t h1)
/-- A place, or -1. -/
def posO (a : ByteArray) : Option By → Int
  | none => -1
  | some u => at_ a u
theorem remark1_ev {a : ByteArray} (ha : Fits a) : ∀ (d : Int) (t : By), t <:+ L a → 1 ≤ d → d + t.length ≤ 281474976710656 → Ev (fun k => token_remark.l1 k a (at_ a t) d) (posO a (rem1 d t))
  | d, [], _, _, _ => by
    refine Ev.step (fun k => by rw [token_remark.l1]) ?_
    rw [at_nil]
    exact ev_neg (by omega) (ev_now rfl)
  | d, [c], h, hd, hb => by
    refine Ev.step (fun k => by rw [token_remark.l1]) ?_
    refine ev_pos (at_lt a c []) (ev_pos (at_nonneg h) (ev_pos (at_le a _) ?_))
    rw [ex_rest h]
    refine ev_bind0 (hasPrefix_eq _ _ _) (ev_neg (by simp [pre2]) (ev_bind0 (hasPrefix_eq _ _ _) (ev_neg (by simp [pre2]) (ev_neg (by omega) ?_))))
    rw [at_succ ha h]
    refine Ev.step (fun k => by rw [token_remark.l1]) ?_
    rw [at_nil]
    exact ev_neg (by omega) (ev_now rfl)
  | d, x :: y :: t, h, hd, hb => by
    have h1 := suf_tail h
    have h2 := suf_tail h1
    simp only [List.length_cons] at hb
    refine Ev.step (fun k => by rw [token_remark.l1]) ?_
    refine ev_pos (at_lt a _ _) (ev_pos (at_nonneg h) (ev_pos (at_le a _) ?_))
    rw [ex_rest h]
    refine ev_bind0 (hasPrefix_eq _ _ _) ?_
    simp only [at_succ ha h, at_succ2 ha h, rem1]
    by_cases c1 : (x.toNat : Int) = 47 ∧ (y.toNat : Int) = 42
    · rw [if_pos c1]
      refine ev_pos (by simpa [pre2] using c1) ?_
      have e : wrap64 (d + 1) = d + 1 := by unfold wrap64; omega
      rw [e]
      exact ev_neg (by omega) (remark1_ev ha (d + 1) t h2 (by omega) (by omega))
    · rw [if_neg c1]
      refine ev_neg (by simpa [pre2] using c1) (ev_bind0 (hasPrefix_eq _ _ _) ?_)
      have e : wrap64 (d - 1) = d - 1 := by unfold wrap64; omega
      rw [e]
      by_cases c2 : (x.toNat : Int) = 42 ∧ (y.toNat : Int) = 47
      · rw [if_pos c2]
        refine ev_pos (by simpa [pre2] using c2) ?_
        by_cases c3 : d = 1
        · rw [if_pos c3]
          exact ev_pos (by omega) (ev_now rfl)
        · rw [if_neg c3]
          exact ev_neg (by omega) (remark1_ev ha (d - 1) t h2 (by omega) (by omega))
      · rw [if_neg c2]
        refine ev_neg (by simpa [pre2] using c2) (ev_neg (by omega) ?_)
        exact remark1_ev ha d (y :: t) h1 hd (by simp; omega)
theorem remark_line {a : ByteArray} (ha : Fits a) {c : UInt8} {t : By} (h : c :: t <:+ L a) (hc : (c.toNat : Int) = 37) : Ev (fun k => token_remark.f k a (at_ a (c :: t))) (at_ a (rem0 t)) := by
  unfold token_remark.f
  refine ev_pos (at_nonneg h) (ev_pos (at_lt a c t) ?_)
  rw [bt_of h]
  refine ev_pos hc ?_
  have := remark0_ev ha (c :: t) h
  rwa [rem0, if_neg (by omega)] at this
theorem remark_nest {a : ByteArray} (ha : Fits a) {c d : UInt8} {t : By} (h : c :: d :: t <:+ L a) (hc : (c.toNat : Int) = 47 ∧ (d.toNat : Int) = 42) : Ev (fun k => token_remark.f k a (at_ a (c :: d :: t))) (posO a (rem1 1 t)) := by
  unfold token_remark.f
  refine ev_pos (at_nonneg h) (ev_pos (at_lt a _ _) ?_)
  rw [bt_of h]
  refine ev_neg (by omega) ?_
  refine Ev.step (fun k => by rw [token_remark.l1]) ?_
  refine ev_pos (at_lt a _ _) (ev_pos (at_nonneg h) (ev_pos (at_le a _) ?_))
  rw [ex_rest h]
  refine ev_bind0 (hasPrefix_eq _ _ _) (ev_pos (by simpa [pre2] using hc) ?_)
  rw [at_succ2 ha h]
  have e : wrap64 (0 + 1) = 1 := by unfold wrap64; omega
  rw [e]
  have hl := suf_len h
  simp only [List.length_cons] at hl
  exact ev_neg (by omega) (remark1_ev ha 1 t (suf_tail (suf_tail h)) (by omega) (by omega))
theorem pre2_gap {c : UInt8} {t : By} (hc : blank c = false) (h37 : ¬ (c.toNat : Int) = 37) : pre2 47 42 (c :: t) = true ↔ ∃ d u, t = d :: u ∧ (c.toNat : Int) = 47 ∧ (d.toNat : Int) = 42 := by
  cases t with
  | nil => simp [pre2]
  | cons d u =>
    simp only [pre2, decide_eq_true_eq, List.cons.injEq]
    constructor
    · intro hh
      exact ⟨d, u, ⟨rfl, rfl⟩, hh⟩
    · rintro ⟨d', u', ⟨rfl, rfl⟩, hh⟩
      exact hh
theorem skip_ev {a : ByteArray} (ha : Fits a) (n : Nat) : ∀ t : By, t.length ≤ n → t <:+ L a → Ev (fun k => token_skip.l0 k a (at_ a t)) (at_ a (skipS t).1, (skipS t).2) := by
  induction n with
  | zero =>
    intro t ht h
    obtain rfl : t = [] := List.eq_nil_of_length_eq_zero (by omega)
    refine Ev.step (fun k => by rw [token_skip.l0]) ?_
    rw [skipS_none rfl]
    exact ev_neg (by rw [at_nil]; omega) (ev_now rfl)
  | succ n ih =>
    intro t ht h
    cases t with
    | nil =>
      refine Ev.step (fun k => by rw [token_skip.l0]) ?_
      rw [skipS_none rfl]
      exact ev_neg (by rw [at_nil]; omega) (ev_now rfl)
    | cons c t =>
      have h1 := suf_tail h
      simp only [List.length_cons] at ht
      refine Ev.step (fun k => by rw [token_skip.l0]) ?_
      refine ev_pos (at_lt a c t) (ev_pos (at_nonneg h) ?_)
      rw [bt_of h]
      refine Ev.congr (f := fun k => token_skip.j1 k a (at_ a (c :: t)) (blank c)) (fun k => ?_) ?_
      · unfold blank
        by_cases b1 : (c.toNat : Int) = 32
        · simp [b1]
        · by_cases b2 : (c.toNat : Int) = 9
          · simp [b2]
          · by_cases b3 : (c.toNat : Int) = 10
            · simp [b3]
            · rw [if_neg b1, if_neg b2, if_neg b3, beq_eq_false_iff_ne.mpr b1, beq_eq_false_iff_ne.mpr b2, beq_eq_false_iff_ne.mpr b3]
              rfl
      · refine Ev.step (fun k => by rw [token_skip.j1]) ?_
        cases hb : blank c with
        | true =>
          refine ev_pos rfl ?_
          rw [at_succ ha h]
          have : gap1 (c :: t) = some (some t) := by
            cases t with
            | nil => simp [gap1, hb]
            | cons d u => simp [gap1, hb]
          rw [skipS_some this]
          exact ih t (by omega) h1
        | false =>
          refine ev_neg (by simp) (ev_pos (at_nonneg h) (ev_pos (at_lt a c t) ?_))
          rw [bt_of h]
          by_cases h37 : (c.toNat : Int) = 37
          · refine ev_pos h37 ?_
            refine Ev.step (fun k => by rw [token_skip.j2]) ?_
            refine ev_pos rfl (Ev.bind (remark_line ha h h37) ?_)
            have hs := (rem0_suf t).trans h1
            refine ev_neg (by have := at_nonneg hs; omega) ?_
            have : gap1 (c :: t) = some (some (rem0 t)) := by
              cases t with
              | nil => simp [gap1, hb, h37, rem0]
              | cons d u => simp [gap1, hb, h37]
            rw [skipS_some this]
            exact ih _ (by have := rem0_len t; omega) hs
          · refine ev_neg h37 (ev_pos (at_le a _) ?_)
            rw [ex_rest h]
            refine ev_bind0 (hasPrefix_eq _ _ _) ?_
            refine Ev.step (fun k => by rw [token_skip.j2]) ?_
            by_cases hp : pre2 47 42 (c :: t) = true
            · obtain ⟨d, u, rfl, hc, hd⟩ := (pre2_gap hb h37).1 hp
              refine ev_pos hp (Ev.bind (remark_nest ha h ⟨hc, hd⟩) ?_)
              cases hr : rem1 1 u with
              | none =>
                have : gap1 (c :: d :: u) = some none := by simp [gap1, hb, h37, hc, hd, hr]
                rw [skipS_bad this]
                exact ev_pos (by simp [posO]) (ev_now rfl)
              | some v =>
                have : gap1 (c :: d :: u) = some (some v) := by simp [gap1, hb, h37, hc, hd, hr]
                rw [skipS_some this]
                have hv := rem1_suf 1 u v hr
                have hs := hv.1.trans (suf_tail h1)
                refine ev_neg (by have := at_nonneg hs; simp only [posO]; omega) ?_
                exact ih v (by simp at ht; omega) hs
            · have : gap1 (c :: t) = none := by
                cases t with
                | nil => simp [gap1, hb, h37]
                | cons d u =>
                  have : ¬ ((c.toNat : Int) = 47 ∧ (d.toNat : Int) = 42) := fun hh => hp ((pre2_gap hb h37).2 ⟨d, u, rfl, hh⟩)
                  simp only [gap1, hb, h37, this]
                  simp
              rw [skipS_none this]
              exact ev_neg hp (ev_now rfl)
theorem skip_ev' {a : ByteArray} (ha : Fits a) (t : By) (h : t <:+ L a) : Ev (fun k => token_skip.f k a (at_ a t)) (at_ a (skipS t).1, (skipS t).2) := skip_ev ha t.length t (Nat.le_refl _) h
end Go.Proofs.Ytgbielhbjgipoaa.Pure
