import Derived.Test.YtgbielhbjgipoaaTokSpec
/-! What becomes of the tokens of a text when blanks, remarks or another text are put in. -/
namespace Go.Proofs.Ytgbielhbjgipoaa.Pure
set_option linter.unusedVariables false
set_option linter.unusedSimpArgs false
/-- A byte that ends what stands in front of it: a blank, or the first one of a remark. -/
def gapc (c : UInt8) : Prop := blank c = true ∨ (c.toNat : Int) = 37 ∨ (c.toNat : Int) = 47
theorem gapc_of {c : UInt8} : gapc c ↔ ((c.toNat : Int) = 32 ∨ (c.toNat : Int) = 9 ∨ (c.toNat : Int) = 10 ∨ (c.toNat : Int) = 13 ∨ (c.toNat : Int) = 37 ∨ (c.toNat : Int) = 47) := by
  unfold gapc blank
  simp only [Bool.or_eq_true, beq_iff_eq]
  omega
theorem rem0_app : ∀ (t u : By), rem0 t = u → u ≠ [] → ∃ b, t = b ++ u ∧ ∀ w, rem0 (b ++ w) = w
  | [], u, h, hu => by rw [rem0] at h; exact absurd h.symm hu
  | c :: t, u, h, hu => by
    rw [rem0] at h
    split at h
    · rename_i hc
      subst h
      exact ⟨[c], rfl, fun w => by simp [rem0, hc]⟩
    · rename_i hc
      obtain ⟨b, rfl, hb⟩ := rem0_app t u h hu
      exact ⟨c :: b, rfl, fun w => by simp [rem0, hc, hb]⟩
theorem rem0_end : ∀ (t : By), rem0 t = [] → ∀ w, rem0 (t ++ 10 :: w) = w ∨ rem0 (t ++ 10 :: w) = 10 :: w
  | [], _, w => by left; simp [rem0]
  | c :: t, h, w => by
    rw [rem0] at h
    rw [List.cons_append, rem0]
    split at h
    · rename_i hc
      subst h
      rw [if_pos hc]
      right; rfl
    · rename_i hc
      rw [if_neg hc]
      exact rem0_end t h w
theorem rem1_app : ∀ (d : Int) (t u : By), rem1 d t = some u → ∃ b, t = b ++ u ∧ ∀ w, rem1 d (b ++ w) = some w
  | _, [], _, h => by simp [rem1] at h
  | _, [_], _, h => by simp [rem1] at h
  | d, x :: y :: t, u, h => by
    simp only [rem1] at h
    split at h
    · rename_i h1
      obtain ⟨b, rfl, hb⟩ := rem1_app (d + 1) t u h
      refine ⟨x :: y :: b, rfl, fun w => ?_⟩
      simp only [List.cons_append, rem1, if_pos h1, hb]
    · rename_i h1
      split at h
      · rename_i h2
        split at h
        · rename_i h3
          simp only [Option.some.injEq] at h
          subst h
          refine ⟨[x, y], rfl, fun w => ?_⟩
          simp only [List.cons_append, List.nil_append, rem1, if_neg h1, if_pos h2, if_pos h3]
        · rename_i h3
          obtain ⟨b, rfl, hb⟩ := rem1_app (d - 1) t u h
          refine ⟨x :: y :: b, rfl, fun w => ?_⟩
          simp only [List.cons_append, rem1, if_neg h1, if_pos h2, if_neg h3, hb]
      · rename_i h2
        obtain ⟨b, e, hb⟩ := rem1_app d (y :: t) u h
        cases b with
        | nil =>
          exfalso
          have := rem1_suf d (y :: t) u h
          simp only [List.nil_append] at e
          rw [e] at this
          omega
        | cons z b =>
          simp only [List.cons_append, List.cons.injEq] at e
          obtain ⟨rfl, rfl⟩ := e
          refine ⟨x :: y :: b, rfl, fun w => ?_⟩
          have := hb w
          simp only [List.cons_append] at this ⊢
          rw [rem1, if_neg h1, if_neg h2, this]
theorem gap1_blank {c : UInt8} (h : blank c = true) (w : By) : gap1 (c :: w) = some (some w) := by
  cases w <;> simp [gap1, h]
theorem gap1_line {c : UInt8} (h : blank c = false) (hc : (c.toNat : Int) = 37) (w : By) : gap1 (c :: w) = some (some (rem0 w)) := by
  cases w <;> simp [gap1, h, hc, rem0]
theorem gap1_nest {c d : UInt8} (h : blank c = false) (h7 : ¬ (c.toNat : Int) = 37) (hc : (c.toNat : Int) = 47 ∧ (d.toNat : Int) = 42) (w : By) : gap1 (c :: d :: w) = some (rem1 1 w) := by
  simp [gap1, h, h7, hc]
theorem gap1_no {c : UInt8} (h : ¬ gapc c) (w : By) : gap1 (c :: w) = none := by
  unfold gapc at h
  simp only [not_or] at h
  obtain ⟨h1, h2, h3⟩ := h
  have hb : blank c = false := by simpa using h1
  cases w <;> simp [gap1, hb, h2, h3]
theorem skip_no {c : UInt8} (h : ¬ gapc c) (w : By) : skipS (c :: w) = (c :: w, true) := skipS_none (gap1_no h w)
theorem blank_ten : blank 10 = true := by decide
theorem skip_ten (w : By) : skipS (10 :: w) = skipS w := skipS_some (gap1_blank blank_ten w)
/-- What a blank or a remark at the head of a text is: what kind, and that it does not look further. -/
theorem gap1_app {t u : By} (h : gap1 t = some (some u)) (hu : u ≠ []) : ∃ b, t = b ++ u ∧ (∀ w, gap1 (b ++ w) = some (some w)) ∧ ∃ c b', b = c :: b' ∧ gapc c := by
  cases t with
  | nil => simp [gap1] at h
  | cons c t =>
    cases hb : blank c with
    | true =>
      rw [gap1_blank hb] at h
      simp only [Option.some.injEq] at h
      subst h
      exact ⟨[c], rfl, fun w => gap1_blank hb w, c, [], rfl, .inl hb⟩
    | false =>
      by_cases h37 : (c.toNat : Int) = 37
      · rw [gap1_line hb h37] at h
        simp only [Option.some.injEq] at h
        obtain ⟨b, rfl, hr⟩ := rem0_app t u h hu
        exact ⟨c :: b, rfl, fun w => by rw [List.cons_append, gap1_line hb h37, hr], c, b, rfl, .inr (.inl h37)⟩
      · cases t with
        | nil => simp [gap1, hb, h37] at h
        | cons d t =>
          by_cases hc : (c.toNat : Int) = 47 ∧ (d.toNat : Int) = 42
          · rw [gap1_nest hb h37 hc] at h
            simp only [Option.some.injEq] at h
            obtain ⟨b, rfl, hr⟩ := rem1_app 1 t u h
            exact ⟨c :: d :: b, rfl, fun w => by rw [List.cons_append, List.cons_append, gap1_nest hb h37 hc, hr], c, d :: b, rfl, .inr (.inr hc.1)⟩
          · simp [gap1, hb, h37, hc] at h
theorem gap1_end {t : By} (h : gap1 t = some (some [])) : (∀ w, skipS (t ++ 10 :: w) = skipS w) ∧ ∃ c b', t = c :: b' ∧ gapc c := by
  cases t with
  | nil => simp [gap1] at h
  | cons c t =>
    cases hb : blank c with
    | true =>
      rw [gap1_blank hb] at h
      simp only [Option.some.injEq] at h
      subst h
      exact ⟨fun w => by rw [List.cons_append, skipS_some (gap1_blank hb _)]; exact skip_ten w, c, [], rfl, .inl hb⟩
    | false =>
      by_cases h37 : (c.toNat : Int) = 37
      · rw [gap1_line hb h37] at h
        simp only [Option.some.injEq] at h
        refine ⟨fun w => ?_, c, t, rfl, .inr (.inl h37)⟩
        rw [List.cons_append, skipS_some (gap1_line hb h37 _)]
        rcases rem0_end t h w with e | e
        · rw [e]
        · rw [e, skip_ten]
      · cases t with
        | nil => simp [gap1, hb, h37] at h
        | cons d t =>
          by_cases hc : (c.toNat : Int) = 47 ∧ (d.toNat : Int) = 42
          · rw [gap1_nest hb h37 hc] at h
            simp only [Option.some.injEq] at h
            obtain ⟨b, e, hr⟩ := rem1_app 1 t [] h
            rw [List.append_nil] at e
            subst e
            refine ⟨fun w => ?_, c, d :: t, rfl, .inr (.inr hc.1)⟩
            rw [List.cons_append, List.cons_append, skipS_some (by rw [gap1_nest hb h37 hc, hr]), skip_ten]
          · simp [gap1, hb, h37, hc] at h
theorem skip_split (n : Nat) : ∀ (t u : By), t.length ≤ n → skipS t = (u, true) → u ≠ [] → ∃ b, t = b ++ u ∧ (∀ w, skipS (b ++ w) = skipS w) ∧ (b = [] ∨ ∃ c b', b = c :: b' ∧ gapc c) := by
  induction n with
  | zero =>
    intro t u ht h hu
    obtain rfl : t = [] := List.eq_nil_of_length_eq_zero (by omega)
    rw [skipS_none rfl] at h
    simp only [Prod.mk.injEq, and_true] at h
    exact absurd h.symm hu
  | succ n ih =>
    intro t u ht h hu
    cases hg : gap1 t with
    | none =>
      rw [skipS_none hg] at h
      simp only [Prod.mk.injEq, and_true] at h
      subst h
      exact ⟨[], rfl, fun w => rfl, .inl rfl⟩
    | some o =>
      cases o with
      | none => rw [skipS_bad hg] at h; simp at h
      | some v =>
        rw [skipS_some hg] at h
        have hv := gap1_suf t v hg
        have hvn : v ≠ [] := by
          rintro rfl
          rw [skipS_none rfl] at h
          simp only [Prod.mk.injEq, and_true] at h
          exact hu h.symm
        obtain ⟨b1, rfl, g1, c, b', rfl, hc⟩ := gap1_app hg hvn
        obtain ⟨b2, rfl, g2, _⟩ := ih v u (by omega) h hu
        refine ⟨(c :: b') ++ b2, by simp, fun w => ?_, .inr ⟨c, b' ++ b2, rfl, hc⟩⟩
        rw [List.append_assoc, skipS_some (g1 _), g2]
theorem skip_end (n : Nat) : ∀ (t : By), t.length ≤ n → skipS t = ([], true) → (∀ w, skipS (t ++ 10 :: w) = skipS w) ∧ (t = [] ∨ ∃ c b', t = c :: b' ∧ gapc c) := by
  induction n with
  | zero =>
    intro t ht h
    obtain rfl : t = [] := List.eq_nil_of_length_eq_zero (by omega)
    exact ⟨fun w => skip_ten w, .inl rfl⟩
  | succ n ih =>
    intro t ht h
    cases hg : gap1 t with
    | none =>
      rw [skipS_none hg] at h
      simp only [Prod.mk.injEq, and_true] at h
      subst h
      exact ⟨fun w => skip_ten w, .inl rfl⟩
    | some o =>
      cases o with
      | none => rw [skipS_bad hg] at h; simp at h
      | some v =>
        rw [skipS_some hg] at h
        have hv := gap1_suf t v hg
        by_cases hvn : v = []
        · subst hvn
          obtain ⟨h1, h2⟩ := gap1_end hg
          exact ⟨h1, .inr h2⟩
        · obtain ⟨b1, rfl, g1, c, b', rfl, hc⟩ := gap1_app hg hvn
          obtain ⟨h1, _⟩ := ih v (by omega) h
          refine ⟨fun w => ?_, .inr ⟨c, b' ++ v, rfl, hc⟩⟩
          rw [List.append_assoc, skipS_some (g1 _), h1]
/-- Nothing goes on here. -/
def stop (w : By) : Prop := w = [] ∨ ∃ c w', w = c :: w' ∧ gapc c
/-- What follows a token may be w in the place of r. -/
def Compat (r w : By) : Prop := stop w ∨ ∃ c r' w', r = c :: r' ∧ w = c :: w' ∧ (stop w' ∨ ∃ d r'' w'', r' = d :: r'' ∧ w' = d :: w'')
theorem compat_refl_ten (r t : By) : Compat r (r ++ 10 :: t) := by
  have hs : stop (10 :: t) := .inr ⟨10, t, rfl, .inl blank_ten⟩
  match r with
  | [] => exact .inl hs
  | [c] => exact .inr ⟨c, [], 10 :: t, rfl, rfl, .inl hs⟩
  | c :: d :: r => exact .inr ⟨c, d :: r, d :: (r ++ 10 :: t), rfl, rfl, .inr ⟨d, r, r ++ 10 :: t, rfl, rfl⟩⟩
theorem compat_more {s r w : By} (h : Compat r w) (hs : s ≠ []) : Compat (s ++ r) (s ++ w) := by
  match s with
  | [] => exact absurd rfl hs
  | [c] =>
    refine .inr ⟨c, r, w, rfl, rfl, ?_⟩
    rcases h with h | ⟨d, r', w', rfl, rfl, _⟩
    · exact .inl h
    · exact .inr ⟨d, r', w', rfl, rfl⟩
  | c :: d :: s => exact .inr ⟨c, d :: (s ++ r), d :: (s ++ w), rfl, rfl, .inr ⟨d, s ++ r, s ++ w, rfl, rfl⟩⟩
/-- The head of what follows: none, or one that fails. -/
def fails (p : UInt8 → Bool) (w : By) : Prop := w = [] ∨ ∃ c w', w = c :: w' ∧ p c = false
theorem take_app {p : UInt8 → Bool} : ∀ {s w : By}, (∀ c ∈ s, p c = true) → fails p w → (s ++ w).takeWhile p = s ∧ (s ++ w).dropWhile p = w
  | [], w, _, h => by
    rcases h with rfl | ⟨c, w', rfl, hc⟩
    · simp
    · simp [List.takeWhile_cons_of_neg, List.dropWhile_cons_of_neg, hc]
  | c :: s, w, hs, h => by
    have hc := hs c (by simp)
    obtain ⟨h1, h2⟩ := take_app (p := p) (s := s) (w := w) (fun d hd => hs d (by simp [hd])) h
    simp [List.takeWhile_cons_of_pos hc, List.dropWhile_cons_of_pos hc, h1, h2]
theorem all_take {p : UInt8 → Bool} : ∀ (t : By), ∀ c ∈ t.takeWhile p, p c = true
  | [], c, h => by simp at h
  | d :: t, c, h => by
    cases hd : p d with
    | true =>
      rw [List.takeWhile_cons_of_pos hd] at h
      rcases List.mem_cons.1 h with rfl | h
      · exact hd
      · exact all_take t c h
    | false => rw [List.takeWhile_cons_of_neg (by simp [hd])] at h; simp at h
theorem drop_fails {p : UInt8 → Bool} : ∀ (t : By), fails p (t.dropWhile p)
  | [] => .inl rfl
  | d :: t => by
    cases hd : p d with
    | true => rw [List.dropWhile_cons_of_pos hd]; exact drop_fails t
    | false => rw [List.dropWhile_cons_of_neg (by simp [hd])]; exact .inr ⟨d, t, rfl, hd⟩
theorem gapc_wo {c : UInt8} (h : gapc c) : wo c = false := by
  rw [gapc_of] at h
  unfold wo isWo isUp isLo isDi
  simp only [Bool.or_eq_false_iff, Bool.and_eq_false_iff, decide_eq_false_iff_not, beq_eq_false_iff_ne]
  omega
theorem gapc_di {c : UInt8} (h : gapc c) : di c = false := by
  rw [gapc_of] at h
  unfold di isDi
  simp only [Bool.and_eq_false_iff, decide_eq_false_iff_not]
  omega
theorem stop_fails {p : UInt8 → Bool} (hp : ∀ c, gapc c → p c = false) {w : By} (h : stop w) : fails p w := by
  rcases h with rfl | ⟨c, w', rfl, hc⟩
  · exact .inl rfl
  · exact .inr ⟨c, w', rfl, hp c hc⟩
theorem compat_fails {p : UInt8 → Bool} (hp : ∀ c, gapc c → p c = false) {r w : By} (h : Compat r w) (hr : fails p r) : fails p w := by
  rcases h with h | ⟨c, r', w', rfl, rfl, _⟩
  · exact stop_fails hp h
  · rcases hr with hr | ⟨d, r'', hr, hd⟩
    · cases hr
    · simp only [List.cons.injEq] at hr
      obtain ⟨rfl, rfl⟩ := hr
      exact .inr ⟨c, w', rfl, hd⟩
theorem quoted_app (q : UInt8) : ∀ (t x r : By), quotedS q t = some (x, r) → ∃ s, t = s ++ r ∧ ∀ w, quotedS q (s ++ w) = some (x, w)
  | [], _, _, h => by simp [quotedS] at h
  | [c], x, r, h => by
    simp only [quotedS] at h
    split at h
    · rename_i hc
      simp only [Option.some.injEq, Prod.mk.injEq] at h
      obtain ⟨rfl, rfl⟩ := h
      exact ⟨[c], rfl, fun w => by cases w <;> simp [quotedS, hc]⟩
    · simp at h
  | c :: d :: t, x, r, h => by
    simp only [quotedS] at h
    split at h
    · rename_i hc
      simp only [Option.some.injEq, Prod.mk.injEq] at h
      obtain ⟨rfl, rfl⟩ := h
      exact ⟨[c], rfl, fun w => by cases w <;> simp [quotedS, hc]⟩
    · rename_i hc
      split at h
      · rename_i h92
        split at h
        · rename_i hd
          obtain ⟨⟨x', r'⟩, e1, e2⟩ := Option.map_eq_some_iff.1 h
          simp only [Prod.mk.injEq] at e2
          obtain ⟨rfl, rfl⟩ := e2
          obtain ⟨s, rfl, hs⟩ := quoted_app q t x' r' e1
          exact ⟨c :: d :: s, rfl, fun w => by simp only [List.cons_append]; rw [quotedS, if_neg hc, if_pos h92, if_pos hd, hs]; rfl⟩
        · rename_i hd
          split at h
          · rename_i hn
            obtain ⟨⟨x', r'⟩, e1, e2⟩ := Option.map_eq_some_iff.1 h
            simp only [Prod.mk.injEq] at e2
            obtain ⟨rfl, rfl⟩ := e2
            obtain ⟨s, rfl, hs⟩ := quoted_app q t x' r' e1
            exact ⟨c :: d :: s, rfl, fun w => by simp only [List.cons_append]; rw [quotedS, if_neg hc, if_pos h92, if_neg hd, if_pos hn, hs]; rfl⟩
          · simp at h
      · rename_i h92
        split at h
        · simp at h
        · rename_i hr
          obtain ⟨⟨x', r'⟩, e1, e2⟩ := Option.map_eq_some_iff.1 h
          simp only [Prod.mk.injEq] at e2
          obtain ⟨rfl, rfl⟩ := e2
          obtain ⟨s, e, hs⟩ := quoted_app q (d :: t) x' r' e1
          cases s with
          | nil =>
            exfalso
            have := quotedS_suf q (d :: t) x' r' e1
            simp only [List.nil_append] at e
            rw [e] at this
            omega
          | cons z s =>
            simp only [List.cons_append, List.cons.injEq] at e
            obtain ⟨rfl, rfl⟩ := e
            refine ⟨c :: d :: s, rfl, fun w => ?_⟩
            have := hs w
            simp only [List.cons_append] at this ⊢
            rw [quotedS, if_neg hc, if_neg h92, if_neg hr, this]
            rfl
theorem char_app (t x r : By) (h : charS t = some (x, r)) : ∃ s, t = s ++ r ∧ ∀ w, charS (s ++ w) = some (x, w) := by
  cases t with
  | nil => simp [charS] at h
  | cons c t =>
    simp only [charS] at h
    split at h
    · rename_i h92
      cases t with
      | nil => simp at h
      | cons d t =>
        simp only at h
        split at h
        · rename_i h1
          simp only [Option.some.injEq, Prod.mk.injEq] at h
          obtain ⟨rfl, rfl⟩ := h
          exact ⟨[c, d], rfl, fun w => by simp [charS, h92, h1]⟩
        · rename_i h1
          split at h
          · rename_i h2
            simp only [Option.some.injEq, Prod.mk.injEq] at h
            obtain ⟨rfl, rfl⟩ := h
            exact ⟨[c, d], rfl, fun w => by simp [charS, h92, h2]⟩
          · rename_i h2
            split at h
            · rename_i h3
              simp only [Option.some.injEq, Prod.mk.injEq] at h
              obtain ⟨rfl, rfl⟩ := h
              exact ⟨[c, d], rfl, fun w => by simp [charS, h92, h3]⟩
            · simp at h
    · rename_i h92
      split at h
      · rename_i h1
        simp only [Option.some.injEq, Prod.mk.injEq] at h
        obtain ⟨rfl, rfl⟩ := h
        refine ⟨[c], rfl, fun w => ?_⟩
        simp only [List.cons_append, List.nil_append, charS]
        rw [if_neg h92, if_pos h1]
      · simp at h
theorem sign_gap : ∀ x ∈ signs, ∀ c ∈ x, ¬ gapc c := by
  intro x hx c hc
  rw [gapc_of]
  simp only [signs, List.mem_cons, List.not_mem_nil, or_false] at hx
  rcases hx with rfl | rfl | rfl | rfl | rfl | rfl | rfl | rfl | rfl | rfl | rfl | rfl | rfl | rfl | rfl | rfl | rfl | rfl | rfl | rfl | rfl | rfl | rfl | rfl | rfl | rfl | rfl | rfl <;>
    simp only [List.mem_cons, List.not_mem_nil, or_false] at hc <;> (first | (subst hc; decide) | (rcases hc with rfl | rfl <;> decide) | (rcases hc with rfl | rfl | rfl <;> decide))
theorem signN_at (n : Nat) (t : By) (h : signN n t ≠ 0) : t.take (signN n t) ∈ signs := by
  induction n with
  | zero => exact absurd rfl h
  | succ n ih =>
    rw [signN] at h ⊢
    split
    · rename_i hh; exact hh.2
    · rename_i hh
      rw [if_neg hh] at h
      exact ih h
theorem signN_max (n : Nat) (t : By) : ∀ m, signN n t < m → m ≤ n → ¬ (m ≤ t.length ∧ t.take m ∈ signs) := by
  induction n with
  | zero => intro m h1 h2; omega
  | succ n ih =>
    intro m h1 h2 hh
    rw [signN] at h1
    split at h1
    · omega
    · rename_i hx
      by_cases hm : m = n + 1
      · subst hm; exact hx hh
      · exact ih m h1 (by omega) hh
theorem signN_eq {n k : Nat} {t : By} (hk : k ≤ n) (h1 : k = 0 ∨ (k ≤ t.length ∧ t.take k ∈ signs)) (h2 : ∀ m, k < m → m ≤ n → ¬ (m ≤ t.length ∧ t.take m ∈ signs)) : signN n t = k := by
  induction n with
  | zero => rw [signN]; omega
  | succ n ih =>
    rw [signN]
    by_cases e : k = n + 1
    · rcases h1 with h1 | h1
      · omega
      · rw [if_pos (by rw [← e]; exact h1), e]
    · rw [if_neg (h2 (n + 1) (by omega) (Nat.le_refl _))]
      exact ih (by omega) (fun m hm hn => h2 m hm (by omega))
theorem sign_app {t r : By} (hn : signN 3 t ≠ 0) (hr : r = t.drop (signN 3 t)) {w : By} (hw : Compat r w) : signN 3 (t.take (signN 3 t) ++ w) = signN 3 t := by
  have hle := signN_le 3 t
  have hat := signN_at 3 t hn
  have hmax := signN_max 3 t
  generalize hk : signN 3 t = k at *
  have hlen : (t.take k).length = k := by rw [List.length_take]; omega
  have ht : t = t.take k ++ r := by rw [hr, List.take_append_drop]
  refine signN_eq hle.1 (.inr ⟨by rw [List.length_append]; omega, ?_⟩) ?_
  · rw [List.take_append_of_le_length (by omega), List.take_take, Nat.min_self]
    exact hat
  · rintro m h1 h2 ⟨h3, h4⟩
    have e1 : (t.take k ++ w).take m = t.take k ++ w.take (m - k) := by rw [List.take_append, List.take_of_length_le (by omega), hlen]
    rw [e1] at h4
    rw [List.length_append, hlen] at h3
    have ng : ∀ c ∈ w.take (m - k), ¬ gapc c := fun c hc => sign_gap _ h4 c (by simp [hc])
    have notstop : ∀ {v : By} {c : UInt8} {v' : By}, v = c :: v' → c ∈ w.take (m - k) → ¬ stop v := by
      rintro v c v' rfl hc (h | ⟨d, w', h, hd⟩)
      · cases h
      · simp only [List.cons.injEq] at h
        exact ng c hc (h.1 ▸ hd)
    cases w with
    | nil => simp only [List.length_nil] at h3; omega
    | cons c w =>
      have hm : m - k = (m - k - 1) + 1 := by omega
      rcases hw with hw | ⟨c', r', w', rfl, e, hw⟩
      · exact notstop rfl (by rw [hm]; simp) hw
      · simp only [List.cons.injEq] at e
        obtain ⟨rfl, rfl⟩ := e
        by_cases h5 : m - k = 1
        · refine hmax m h1 h2 ⟨by rw [ht, List.length_append, hlen]; simp; omega, ?_⟩
          rw [ht, List.take_append, List.take_of_length_le (by omega), hlen, h5]
          rw [h5] at h4
          simpa using h4
        · have h6 : m - k = 2 := by omega
          rw [h6] at h4 ng notstop
          cases w with
          | nil => simp only [List.length_cons, List.length_nil] at h3; omega
          | cons d w =>
            rcases hw with hw | ⟨d', r'', w'', rfl, e⟩
            · exact notstop rfl (by simp) hw
            · simp only [List.cons.injEq] at e
              obtain ⟨rfl, rfl⟩ := e
              refine hmax m h1 h2 ⟨by rw [ht, List.length_append, hlen]; simp; omega, ?_⟩
              rw [ht, List.take_append, List.take_of_length_le (by omega), hlen, h6]
              simpa using h4
theorem til_sign (w : By) : signN 3 (126 :: w) = 1 := by
  refine signN_eq (by omega) (.inr ⟨by simp, by simp [signs]⟩) ?_
  rintro m h1 h2 ⟨h3, h4⟩
  have : m = 2 ∨ m = 3 := by omega
  rcases this with rfl | rfl
  · cases w with
    | nil => simp at h3
    | cons c w => simp [signs] at h4
  · match w with
    | [] => simp at h3
    | [c] => simp at h3
    | c :: d :: w => simp [signs] at h4
theorem u8_eq {c d : UInt8} (h : (c.toNat : Int) = (d.toNat : Int)) : c = d := UInt8.toNat_inj.1 (by omega)
theorem notcond {c : UInt8} (h : (c.toNat : Int) = 126) : ¬(up c || lo c) = true ∧ ¬ di c = true := by
  unfold up lo di isUp isLo isDi
  simp only [Bool.or_eq_true, Bool.and_eq_true, decide_eq_true_eq]
  omega
/-- The token at the head is the same, whatever stands behind it in the place of what stood there. -/
theorem next_app {t k x r : By} (h : nextS t = some (k, x, r)) : ∃ c s, t = c :: (s ++ r) ∧ ¬ gapc c ∧ ∀ w, Compat r w → nextS (c :: (s ++ w)) = some (k, x, w) := by
  cases t with
  | nil => simp [nextS] at h
  | cons c t =>
    by_cases hc : (up c || lo c) = true
    · rw [nextS_word hc] at h
      split at h
      · rename_i hl
        simp only [Option.some.injEq, Prod.mk.injEq] at h
        obtain ⟨rfl, rfl, rfl⟩ := h
        have hw := up_wo hc
        have e1 : (c :: t).takeWhile wo = c :: t.takeWhile wo := List.takeWhile_cons_of_pos hw
        have e2 : (c :: t).dropWhile wo = t.dropWhile wo := List.dropWhile_cons_of_pos hw
        rw [e1] at hl ⊢
        rw [e2]
        refine ⟨c, t.takeWhile wo, by rw [List.takeWhile_append_dropWhile], (fun hg => by rw [gapc_wo hg] at hw; cases hw), fun w hcw => ?_⟩
        obtain ⟨f1, f2⟩ := take_app (p := wo) (all_take t) (compat_fails (fun _ => gapc_wo) hcw (drop_fails t))
        rw [nextS_word hc, List.takeWhile_cons_of_pos hw, List.dropWhile_cons_of_pos hw, f1, f2, if_pos hl]
      · cases h
    · by_cases h39 : (c.toNat : Int) = 39
      · rw [nextS_39 hc h39] at h
        split at h
        · rename_i x' r' hq
          split at h
          · rename_i hl
            simp only [Option.some.injEq, Prod.mk.injEq] at h
            obtain ⟨rfl, rfl, rfl⟩ := h
            obtain ⟨s, rfl, hs⟩ := quoted_app c t _ _ hq
            refine ⟨c, s, rfl, fun hg => by rw [gapc_of] at hg; omega, fun w _ => ?_⟩
            rw [nextS_39 hc h39, hs w]
            simp only [hl, if_true]
          · cases h
        · cases h
      · by_cases h34 : (c.toNat : Int) = 34
        · rw [nextS_34 hc h34] at h
          split at h
          · rename_i x' r' hq
            split at h
            · rename_i hl
              simp only [Option.some.injEq, Prod.mk.injEq] at h
              obtain ⟨rfl, rfl, rfl⟩ := h
              obtain ⟨s, rfl, hs⟩ := quoted_app c t _ _ hq
              refine ⟨c, s, rfl, fun hg => by rw [gapc_of] at hg; omega, fun w _ => ?_⟩
              rw [nextS_34 hc h34, hs w]
              simp only [hl, if_true]
            · cases h
          · cases h
        · by_cases h38 : (c.toNat : Int) = 38
          · rw [nextS_38 hc h38] at h
            split at h
            · rename_i x' r' hq
              simp only [Option.some.injEq, Prod.mk.injEq] at h
              obtain ⟨rfl, rfl, rfl⟩ := h
              obtain ⟨s, rfl, hs⟩ := char_app t _ _ hq
              refine ⟨c, s, rfl, fun hg => by rw [gapc_of] at hg; omega, fun w _ => ?_⟩
              rw [nextS_38 hc h38, hs w]
            · cases h
          · by_cases hd : di c = true
            · rw [nextS_di hc h39 h34 h38 hd] at h
              have e1 : (c :: t).takeWhile di = c :: t.takeWhile di := List.takeWhile_cons_of_pos hd
              have e2 : (c :: t).dropWhile di = t.dropWhile di := List.dropWhile_cons_of_pos hd
              rw [e1, e2] at h
              split at h
              · rename_i hi
                simp only [Option.some.injEq, Prod.mk.injEq] at h
                obtain ⟨rfl, rfl, rfl⟩ := h
                refine ⟨c, t.takeWhile di, by rw [List.takeWhile_append_dropWhile], (fun hg => by rw [gapc_di hg] at hd; cases hd), fun w hcw => ?_⟩
                obtain ⟨f1, f2⟩ := take_app (p := di) (all_take t) (compat_fails (fun _ => gapc_di) hcw (drop_fails t))
                rw [nextS_di hc h39 h34 h38 hd, List.takeWhile_cons_of_pos hd, List.dropWhile_cons_of_pos hd, f1, f2, if_pos hi]
              · cases h
            · by_cases ht : (c.toNat : Int) = 126 ∧ t.takeWhile di ≠ []
              · obtain ⟨h126, htd⟩ := ht
                have hng : ¬ gapc c := fun hg => by rw [gapc_of] at hg; omega
                rw [nextS_til hc h126 htd] at h
                split at h
                · rename_i h48
                  simp only [Option.some.injEq, Prod.mk.injEq] at h
                  obtain ⟨rfl, rfl, rfl⟩ := h
                  refine ⟨c, [], rfl, hng, fun w hcw => ?_⟩
                  simp only [List.nil_append]
                  have hsp := List.takeWhile_append_dropWhile (p := di) (l := t)
                  have hf := drop_fails (p := di) t
                  have sgn : w.takeWhile di = [] → nextS (c :: w) = some (kSign, [126], w) := by
                    intro hw
                    have hc126 : c = 126 := u8_eq (d := 126) h126
                    subst hc126
                    rw [nextS_sign hc h39 h34 h38 hd (fun hh => hh.2 hw), til_sign]
                    simp
                  have til : w.takeWhile di = [48] → nextS (c :: w) = some (kSign, [126], w) := by
                    intro hw
                    rw [nextS_til hc h126 (by rw [hw]; simp), if_pos hw]
                  rw [h48] at hsp
                  generalize t.dropWhile di = t' at hsp hf
                  subst hsp
                  have stopd : ∀ {v : By}, stop v → v.takeWhile di = [] := by
                    intro v hv
                    have := (take_app (p := di) (s := []) (w := v) (by simp) (stop_fails (fun _ => gapc_di) hv)).1
                    simpa using this
                  rcases hcw with hcw | ⟨d, r', w', e1, rfl, hcw⟩
                  · exact sgn (stopd hcw)
                  · simp only [List.cons_append, List.nil_append, List.cons.injEq] at e1
                    obtain ⟨rfl, rfl⟩ := e1
                    have d48 : di 48 = true := by decide
                    refine til ?_
                    rw [List.takeWhile_cons_of_pos d48]
                    rcases hcw with hcw | ⟨d, r'', w'', rfl, rfl⟩
                    · rw [stopd hcw]
                    · rcases hf with hf | ⟨d', r3, hf, hdf⟩
                      · cases hf
                      · simp only [List.cons.injEq] at hf
                        obtain ⟨rfl, rfl⟩ := hf
                        rw [List.takeWhile_cons_of_neg (by simp [hdf])]
                · rename_i h48
                  split at h
                  · rename_i hi
                    simp only [Option.some.injEq, Prod.mk.injEq] at h
                    obtain ⟨rfl, rfl, rfl⟩ := h
                    refine ⟨c, t.takeWhile di, by rw [List.takeWhile_append_dropWhile], hng, fun w hcw => ?_⟩
                    obtain ⟨f1, f2⟩ := take_app (p := di) (all_take t) (compat_fails (fun _ => gapc_di) hcw (drop_fails t))
                    rw [nextS_til hc h126 (by rw [f1]; exact htd), f1, f2, if_neg h48, if_pos hi]
                  · cases h
              · rw [nextS_sign hc h39 h34 h38 hd ht] at h
                split at h
                · cases h
                · rename_i hn
                  simp only [Option.some.injEq, Prod.mk.injEq] at h
                  obtain ⟨rfl, rfl, hr⟩ := h
                  have hle := signN_le 3 (c :: t)
                  have hat := signN_at 3 (c :: t) hn
                  obtain ⟨n, hk⟩ : ∃ n, signN 3 (c :: t) = n + 1 := ⟨signN 3 (c :: t) - 1, by omega⟩
                  have hng : ¬ gapc c := sign_gap _ hat c (by rw [hk]; simp)
                  have e1 : (c :: t).take (signN 3 (c :: t)) = c :: t.take n := by rw [hk]; rfl
                  have e2 : r = t.drop n := by rw [← hr, hk]; rfl
                  refine ⟨c, t.take n, by rw [e2, List.take_append_drop], hng, fun w hcw => ?_⟩
                  have hsg := sign_app hn hr.symm hcw
                  rw [e1, List.cons_append] at hsg
                  have hnt : ¬((c.toNat : Int) = 126 ∧ (t.take n ++ w).takeWhile di ≠ []) := by
                    rintro ⟨h126, hh⟩
                    have hc126 : c = 126 := u8_eq (d := 126) h126
                    subst hc126
                    rw [til_sign] at hk
                    obtain rfl : n = 0 := by omega
                    simp only [List.take_zero, List.nil_append, List.drop_zero] at hh e2
                    subst e2
                    apply hh
                    have hf : fails di r := by
                      cases r with
                      | nil => exact .inl rfl
                      | cons d r =>
                        refine .inr ⟨d, r, rfl, ?_⟩
                        cases hx : di d with
                        | false => rfl
                        | true => exact absurd ⟨h126, by rw [List.takeWhile_cons_of_pos hx]; simp⟩ ht
                    have := (take_app (p := di) (s := []) (w := w) (by simp) (compat_fails (fun _ => gapc_di) hcw hf)).1
                    simpa using this
                  rw [nextS_sign hc h39 h34 h38 hd hnt, hsg, if_neg hn, e1]
                  have hlen : (c :: t.take n).length = signN 3 (c :: t) := by rw [← e1, List.length_take]; omega
                  rw [← List.cons_append, ← hlen]
                  simp
theorem lexS_congr {s t : By} (h : step1 s = step1 t) : lexS s = lexS t := by
  cases hs : step1 t with
  | bad u => rw [lexS_bad hs, lexS_bad (h.trans hs)]
  | done => rw [lexS_done hs, lexS_done (h.trans hs)]
  | tok k x u r => rw [lexS_tok hs, lexS_tok (h.trans hs)]
theorem step1_congr {s t : By} (h : skipS s = skipS t) : step1 s = step1 t := by
  unfold step1; rw [h]
/-- What a step that finds a token says of a text. -/
theorem step1_tok {t k x u r : By} (h : step1 t = .tok k x u r) : ∃ b c s, t = b ++ u ∧ u = c :: (s ++ r) ∧ (∀ w, skipS (b ++ w) = skipS w) ∧ (b = [] ∨ ∃ d b', b = d :: b' ∧ gapc d) ∧ ¬ gapc c ∧
    ∀ w, Compat r w → step1 (c :: (s ++ w)) = .tok k x (c :: (s ++ w)) w := by
  unfold step1 at h
  split at h
  · rename_i h2
    split at h
    · cases h
    · rename_i h1
      cases hn : nextS (skipS t).1 with
      | none => rw [hn] at h; cases h
      | some q =>
        obtain ⟨k', x', r'⟩ := q
        rw [hn] at h
        simp only [St.tok.injEq] at h
        obtain ⟨rfl, rfl, rfl, rfl⟩ := h
        obtain ⟨b, e, hb, hb2⟩ := skip_split t.length t (skipS t).1 (Nat.le_refl _) (by rw [← h2]) h1
        obtain ⟨c, s, e2, hc, hw⟩ := next_app hn
        refine ⟨b, c, s, e, e2, hb, hb2, hc, fun w hcw => ?_⟩
        unfold step1
        rw [skip_no hc]
        simp only [if_true]
        rw [if_neg (by simp), hw w hcw]
  · cases h
theorem step1_done {t : By} (h : step1 t = .done) : (∀ w, skipS (t ++ 10 :: w) = skipS w) ∧ (t = [] ∨ ∃ c b', t = c :: b' ∧ gapc c) := by
  unfold step1 at h
  split at h
  · rename_i h2
    split at h
    · rename_i h1
      exact skip_end t.length t (Nat.le_refl _) (by rw [← h1, ← h2])
    · split at h <;> cases h
  · cases h
/-- A token further on, by so much that there is more behind it. -/
def shift (n : Nat) (x : Tok) : Tok := (x.1, x.2.1, x.2.2 + n)
theorem lex_join (t : By) (n : Nat) : ∀ (s : By) (ts : List Tok), s.length ≤ n → lexS s = (none, ts) → lexS (s ++ 10 :: t) = ((lexS t).1, ts.map (shift (t.length + 1)) ++ (lexS t).2) := by
  induction n with
  | zero =>
    intro s ts hs h
    obtain rfl : s = [] := List.eq_nil_of_length_eq_zero (by omega)
    have hd : step1 [] = .done := by unfold step1; rw [skipS_none rfl]; rfl
    rw [lexS_done hd] at h
    simp only [Prod.mk.injEq, true_and] at h
    subst h
    rw [lexS_congr (step1_congr ((step1_done hd).1 t))]
    rfl
  | succ n ih =>
    intro s ts hs h
    cases hst : step1 s with
    | bad u => rw [lexS_bad hst] at h; simp at h
    | done =>
      rw [lexS_done hst] at h
      simp only [Prod.mk.injEq, true_and] at h
      subst h
      rw [lexS_congr (step1_congr ((step1_done hst).1 t))]
      rfl
    | tok k x u r =>
      rw [lexS_tok hst] at h
      simp only [Prod.mk.injEq] at h
      obtain ⟨h1, rfl⟩ := h
      have hsuf := step1_suf hst
      have hr := ih r (lexS r).2 (by omega) (by rw [← h1])
      obtain ⟨b, c, s', rfl, rfl, hb, _, hc, hw⟩ := step1_tok hst
      have e : (b ++ c :: (s' ++ r)) ++ 10 :: t = b ++ (c :: (s' ++ (r ++ 10 :: t))) := by simp
      have hst2 : step1 ((b ++ c :: (s' ++ r)) ++ 10 :: t) = .tok k x (c :: (s' ++ (r ++ 10 :: t))) (r ++ 10 :: t) := by
        rw [e, step1_congr (hb _), hw _ (compat_refl_ten r t)]
      rw [lexS_tok hst2, hr]
      simp only [List.map_cons, List.cons_append, Prod.mk.injEq, true_and, List.cons.injEq, and_true, shift]
      simp only [List.length_cons, List.length_append]
      omega
/-- Blanks and remarks: what is behind them is all that counts. -/
def Gap (b : By) : Prop := (∀ w, skipS (b ++ w) = skipS w) ∧ (b = [] ∨ ∃ c b', b = c :: b' ∧ gapc c)
/-- A text with a gap put in front of each of its tokens, and a line's end and a gap behind it. v: what is left of it, from the last token's begin on. -/
def bld (g : Nat → By) (g0 : By) : Nat → By → List Tok → By
  | _, v, [] => v ++ 10 :: g0
  | i, v, x :: ts => v.take (v.length - x.2.2) ++ (g i ++ bld g g0 (i + 1) (v.drop (v.length - x.2.2)) ts)
/-- A token's kind and text. -/
def kx (x : Tok) : By × By := (x.1, x.2.1)
theorem skip_nil : skipS [] = ([], true) := skipS_none rfl
theorem lex_blanks (g : Nat → By) (g0 : By) (hg : ∀ i, Gap (g i)) (hg0 : Gap g0) (n : Nat) : ∀ (t : By) (ts : List Tok), t.length ≤ n → lexS t = (none, ts) → ∀ (p : By) (i : Nat), ∃ t', bld g g0 i (p ++ t) ts = p ++ t' ∧ Compat t t' ∧ (lexS t').1 = none ∧ (lexS t').2.map kx = ts.map kx := by
  have fin : ∀ (t : By) (ts : List Tok), step1 t = .done → lexS t = (none, ts) → ∀ (p : By) (i : Nat), ∃ t', bld g g0 i (p ++ t) ts = p ++ t' ∧ Compat t t' ∧ (lexS t').1 = none ∧ (lexS t').2.map kx = ts.map kx := by
    intro t ts hst h p i
    rw [lexS_done hst] at h
    simp only [Prod.mk.injEq, true_and] at h
    subst h
    obtain ⟨h1, h2⟩ := step1_done hst
    have hs : step1 (t ++ 10 :: g0) = .done := by
      rw [step1_congr (t := []) (by rw [h1]; have := hg0.1 []; rwa [List.append_nil] at this)]
      unfold step1
      rw [skip_nil]
      rfl
    refine ⟨t ++ 10 :: g0, by simp [bld], .inl ?_, by rw [lexS_done hs], by rw [lexS_done hs]⟩
    rcases h2 with rfl | ⟨c, b', rfl, hc⟩
    · exact .inr ⟨10, g0, rfl, .inl blank_ten⟩
    · exact .inr ⟨c, b' ++ 10 :: g0, rfl, hc⟩
  induction n with
  | zero =>
    intro t ts ht h p i
    obtain rfl : t = [] := List.eq_nil_of_length_eq_zero (by omega)
    exact fin [] ts (by unfold step1; rw [skip_nil]; rfl) h p i
  | succ n ih =>
    intro t ts ht h p i
    cases hst : step1 t with
    | bad u => rw [lexS_bad hst] at h; simp at h
    | done => exact fin t ts hst h p i
    | tok k x u r =>
      rw [lexS_tok hst] at h
      simp only [Prod.mk.injEq] at h
      obtain ⟨h1, rfl⟩ := h
      have hsuf := step1_suf hst
      obtain ⟨b, c, s, rfl, rfl, hb, hb2, hc, hw⟩ := step1_tok hst
      obtain ⟨r', e1, e2, e3, e4⟩ := ih r (lexS r).2 (by omega) (by rw [← h1]) (c :: s) (i + 1)
      have hst2 : step1 (b ++ (g i ++ (c :: (s ++ r')))) = .tok k x (c :: (s ++ r')) r' := by
        rw [step1_congr ((hb _).trans ((hg i).1 _)), hw _ e2]
      refine ⟨b ++ (g i ++ (c :: (s ++ r'))), ?_, ?_, by rw [lexS_tok hst2]; exact e3, by rw [lexS_tok hst2]; simp only [List.map_cons, e4]; rfl⟩
      · have hl : (p ++ (b ++ c :: (s ++ r))).length - (c :: (s ++ r)).length = (p ++ b).length := by simp; omega
        have ha : p ++ (b ++ c :: (s ++ r)) = (p ++ b) ++ c :: (s ++ r) := by simp
        rw [bld]
        simp only
        rw [hl, ha, List.take_left, List.drop_left]
        simp only [List.cons_append] at e1
        rw [e1]
        simp
      · rcases hb2 with rfl | ⟨d, b', rfl, hd⟩
        · rcases (hg i).2 with hgi | ⟨d, b', hgi, hd⟩
          · rw [hgi]
            exact compat_more (s := c :: s) e2 (by simp)
          · rw [hgi]
            exact .inl (.inr ⟨d, _, rfl, hd⟩)
        · exact .inl (.inr ⟨d, _, rfl, hd⟩)
/-- Tokens stand one behind the other. -/
def Desc : Nat → List Tok → Prop
  | _, [] => True
  | m, x :: ts => 0 < x.2.2 ∧ x.2.2 ≤ m ∧ Desc x.2.2 ts
theorem desc_le : ∀ {ts : List Tok} {m m' : Nat}, Desc m ts → m ≤ m' → Desc m' ts
  | [], _, _, _, _ => trivial
  | _ :: _, _, _, h, hm => ⟨h.1, Nat.le_trans h.2.1 hm, h.2.2⟩
theorem lex_desc (n : Nat) : ∀ (t : By), t.length ≤ n → Desc t.length (lexS t).2 := by
  induction n with
  | zero =>
    intro t ht
    cases hs : step1 t with
    | bad v => rw [lexS_bad hs]; trivial
    | done => rw [lexS_done hs]; trivial
    | tok k x v r => have := step1_suf hs; omega
  | succ n ih =>
    intro t ht
    cases hs : step1 t with
    | bad v => rw [lexS_bad hs]; trivial
    | done => rw [lexS_done hs]; trivial
    | tok k x v r =>
      have h1 := step1_suf hs
      rw [lexS_tok hs]
      exact ⟨by show 0 < v.length; omega, h1.1.length_le, desc_le (ih r (by omega)) (by show r.length ≤ v.length; omega)⟩
theorem bld_length (g : Nat → By) (g0 : By) (hg : ∀ i, (g i).length ≤ 11) (hg0 : g0.length ≤ 11) : ∀ (ts : List Tok) (i : Nat) (v : By), (bld g g0 i v ts).length ≤ v.length + 12 + 11 * ts.length
  | [], i, v => by simp [bld]; omega
  | x :: ts, i, v => by
    have h1 := hg i
    have h2 := bld_length g g0 hg hg0 ts (i + 1) (v.drop (v.length - x.2.2))
    have h3 := congrArg List.length (List.take_append_drop (v.length - x.2.2) v)
    rw [List.length_append] at h3
    simp only [bld, List.length_append, List.length_cons]
    omega
end Go.Proofs.Ytgbielhbjgipoaa.Pure
