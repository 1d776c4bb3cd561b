import Derived.Test.YtgbielhbjgipoaaTokNext
/-! The tokens of a whole text, as the program reads them. -/
namespace Go.Proofs.Ytgbielhbjgipoaa.Pure
set_option linter.unusedVariables false
set_option linter.unusedSimpArgs false
open Go.RowKit Go.Proofs.YtgbielhbjgipoaaW.PrintWords Go.Proofs.YtgbielhbjgipoaaW.PrintLast Go.Proofs.YtgbielhbjgipoaaW.PrintMore Go.Proofs.Ytgbielhbjgipoaa.Q
theorem char_ok {a : ByteArray} (ha : Fits a) {c : UInt8} {t : By} (h : c :: t <:+ L a) {w r : By} (hc : charS t = some (w, r)) : token_char.f a (at_ a (c :: t)) = some (ofL w, at_ a r, true) := by
  unfold token_char.f
  cases t with
  | nil => simp [charS] at hc
  | cons d t =>
    have h1 := suf_tail h
    rw [at_succ ha h, if_neg (by have := at_lt a d t; omega), if_pos (at_nonneg h1), if_pos (at_lt a d t), bt_of h1]
    simp only [charS] at hc
    by_cases h92 : (d.toNat : Int) = 92
    · rw [if_pos h92] at hc ⊢
      cases t with
      | nil => simp at hc
      | cons e t =>
        have h2 := suf_tail h1
        rw [at_succ2 ha h, if_neg (by have := at_lt a e t; omega), if_pos (at_nonneg h2), if_pos (at_lt a e t), bt_of h2, at_succ3 ha h]
        simp only at hc
        by_cases c1 : (e.toNat : Int) = 110
        · rw [if_pos c1] at hc ⊢
          simp only [Option.some.injEq, Prod.mk.injEq] at hc
          obtain ⟨rfl, rfl⟩ := hc
          rfl
        · rw [if_neg c1] at hc ⊢
          by_cases c2 : (e.toNat : Int) = 115
          · rw [if_pos c2] at hc ⊢
            simp only [Option.some.injEq, Prod.mk.injEq] at hc
            obtain ⟨rfl, rfl⟩ := hc
            rfl
          · rw [if_neg c2] at hc ⊢
            by_cases c3 : (e.toNat : Int) = 92
            · rw [if_pos c3] at hc ⊢
              simp only [Option.some.injEq, Prod.mk.injEq] at hc
              obtain ⟨rfl, rfl⟩ := hc
              rfl
            · rw [if_neg c3] at hc
              cases hc
    · rw [if_neg h92] at hc ⊢
      by_cases hr : (d.toNat : Int) ≥ 33 ∧ (d.toNat : Int) ≤ 126
      · rw [if_pos hr] at hc
        simp only [Option.some.injEq, Prod.mk.injEq] at hc
        obtain ⟨rfl, rfl⟩ := hc
        rw [Option.bind_some, if_pos hr.1, at_succ2 ha h]
        have := strOf [d]
        simp only [List.map_cons, List.map_nil] at this
        rw [this, decide_eq_true hr.2]
      · rw [if_neg hr] at hc
        cases hc
theorem char_no {a : ByteArray} (ha : Fits a) {c : UInt8} {t : By} (h : c :: t <:+ L a) (hc : charS t = none) : ∃ x p, token_char.f a (at_ a (c :: t)) = some (x, p, false) := by
  unfold token_char.f
  cases t with
  | nil =>
    rw [at_succ ha h, if_pos (by rw [at_nil]; omega)]
    exact ⟨_, _, rfl⟩
  | cons d t =>
    have h1 := suf_tail h
    rw [at_succ ha h, if_neg (by have := at_lt a d t; omega), if_pos (at_nonneg h1), if_pos (at_lt a d t), bt_of h1]
    simp only [charS] at hc
    by_cases h92 : (d.toNat : Int) = 92
    · rw [if_pos h92] at hc ⊢
      cases t with
      | nil =>
        rw [at_succ2 ha h, if_pos (by rw [at_nil]; omega)]
        exact ⟨_, _, rfl⟩
      | cons e t =>
        have h2 := suf_tail h1
        rw [at_succ2 ha h, if_neg (by have := at_lt a e t; omega), if_pos (at_nonneg h2), if_pos (at_lt a e t), bt_of h2]
        simp only at hc
        by_cases c1 : (e.toNat : Int) = 110
        · rw [if_pos c1] at hc; cases hc
        · rw [if_neg c1] at hc ⊢
          by_cases c2 : (e.toNat : Int) = 115
          · rw [if_pos c2] at hc; cases hc
          · rw [if_neg c2] at hc ⊢
            by_cases c3 : (e.toNat : Int) = 92
            · rw [if_pos c3] at hc; cases hc
            · rw [if_neg c3]
              exact ⟨_, _, rfl⟩
    · rw [if_neg h92] at hc ⊢
      by_cases hr : (d.toNat : Int) ≥ 33 ∧ (d.toNat : Int) ≤ 126
      · rw [if_pos hr] at hc; cases hc
      · rw [Option.bind_some]
        by_cases h33 : (d.toNat : Int) ≥ 33
        · rw [if_pos h33, decide_eq_false (fun h => hr ⟨h33, h⟩)]
          exact ⟨_, _, rfl⟩
        · rw [if_neg h33]
          exact ⟨_, _, rfl⟩
/-- What the reader of one token answers, against the specification. -/
def NextR (a : ByteArray) (t : By) : Option (By × By × By) → ByteArray × ByteArray × Int × Int × Bool → Prop
  | some (k, x, r), q => q = (ofL k, ofL x, at_ a t, at_ a r, true)
  | none, q => q.2.2.2.2 = false
theorem words_ev {a : ByteArray} (ha : Fits a) (x1 x7 z : Int) (p q : ByteArray) (r : ByteArray × ByteArray × Int × Int × Bool) : ∀ u, u <:+ L a → Ev (fun k => token_next.j2 k a x1 x7 (at_ a (u.dropWhile wo)) p q z) r → Ev (fun k => token_next.l0 k a x1 x7 (at_ a u) p q z) r
  | [], _, hr => by
    refine Ev.step (fun k => by rw [token_next.l0]) ?_
    exact ev_neg (by rw [at_nil]; omega) hr
  | c :: u, h, hr => by
    refine Ev.step (fun k => by rw [token_next.l0]) ?_
    refine ev_pos (at_lt a c u) (ev_pos (at_nonneg h) ?_)
    rw [bt_of h]
    refine ev_bind0 (word_eq _) ?_
    by_cases hd : wo c = true
    · refine ev_pos hd ?_
      rw [at_succ ha h]
      rw [List.dropWhile_cons_of_pos hd] at hr
      exact words_ev ha x1 x7 z p q r u (suf_tail h) hr
    · refine ev_neg hd ?_
      rw [List.dropWhile_cons_of_neg hd] at hr
      exact hr
theorem between_len {a : ByteArray} (ha : Fits a) {w r : By} (h : w ++ r <:+ L a) : wrap64 (at_ a r - at_ a (w ++ r)) = w.length := by
  have h1 := suf_len h
  unfold Fits at ha
  simp only [List.length_append] at h1
  unfold at_ wrap64
  simp only [List.length_append]
  omega
theorem ev_some {α : Type} {g : Option α} {p : α → Prop} (h : ∃ r, g = some r ∧ p r) : ∃ r, Ev (fun _ => g) r ∧ p r := by
  obtain ⟨r, h1, h2⟩ := h
  exact ⟨r, ev_const h1, h2⟩
theorem ev_ex_pos {α : Type} {c : Prop} [Decidable c] {A B : Nat → Option α} {p : α → Prop} (h : c) (e : ∃ r, Ev A r ∧ p r) : ∃ r, Ev (fun k => if c then A k else B k) r ∧ p r := by
  obtain ⟨r, h1, h2⟩ := e
  exact ⟨r, ev_pos h h1, h2⟩
theorem ev_ex_neg {α : Type} {c : Prop} [Decidable c] {A B : Nat → Option α} {p : α → Prop} (h : ¬c) (e : ∃ r, Ev B r ∧ p r) : ∃ r, Ev (fun k => if c then A k else B k) r ∧ p r := by
  obtain ⟨r, h1, h2⟩ := e
  exact ⟨r, ev_neg h h1, h2⟩
theorem ev_ex_step {α : Type} {g f : Nat → Option α} {p : α → Prop} (h : ∀ k, g (k + 1) = f k) (e : ∃ r, Ev f r ∧ p r) : ∃ r, Ev g r ∧ p r := by
  obtain ⟨r, h1, h2⟩ := e
  exact ⟨r, Ev.step h h1, h2⟩
theorem ev_ex_bind0 {α β : Type} {g : Option α} {f : Nat → α → Option β} {a : α} {p : β → Prop} (h : g = some a) (e : ∃ r, Ev (fun n => f n a) r ∧ p r) : ∃ r, Ev (fun n => g.bind (f n)) r ∧ p r := by
  obtain ⟨r, h1, h2⟩ := e
  exact ⟨r, ev_bind0 h h1, h2⟩
theorem ev_ex_bind {α β : Type} {g : Nat → Option α} {f : Nat → α → Option β} {a : α} {p : β → Prop} (h : Ev g a) (e : ∃ r, Ev (fun n => f n a) r ∧ p r) : ∃ r, Ev (fun n => (g n).bind (f n)) r ∧ p r := by
  obtain ⟨r, h1, h2⟩ := e
  exact ⟨r, Ev.bind h h1, h2⟩
theorem word_next {a : ByteArray} (ha : Fits a) {c : UInt8} {t : By} (h : c :: t <:+ L a) (hc : (up c || lo c) = true) : ∃ q, Ev (fun k => token_next.l0 k a (at_ a (c :: t)) c.toNat (at_ a (c :: t)) (⟨#[]⟩ : ByteArray) (⟨#[]⟩ : ByteArray) (at_ a (c :: t))) q ∧ NextR a (c :: t) (nextS (c :: t)) q := by
  have hsplit : (c :: t).takeWhile wo ++ (c :: t).dropWhile wo = c :: t := List.takeWhile_append_dropWhile
  have hdw := (dropWhile_lt (t := t) (up_wo hc)).1.trans h
  have key : ∃ q, Ev (fun k => token_next.j2 k a (at_ a (c :: t)) c.toNat (at_ a ((c :: t).dropWhile wo)) (⟨#[]⟩ : ByteArray) (⟨#[]⟩ : ByteArray) (at_ a (c :: t))) q ∧ NextR a (c :: t) (nextS (c :: t)) q := by
    refine ev_ex_step (fun k => by rw [token_next.j2]) ?_
    have hlen := (dropWhile_lt (t := t) (up_wo hc)).2
    have e1 : at_ a (c :: t) ≤ at_ a ((c :: t).dropWhile wo) := by unfold at_; omega
    have e2 : a.extract (at_ a (c :: t)).toNat (at_ a ((c :: t).dropWhile wo)).toNat = ofL ((c :: t).takeWhile wo) := by
      have := ex_between (a := a) (w := (c :: t).takeWhile wo) (r := (c :: t).dropWhile wo) (by rw [hsplit]; exact h)
      rwa [hsplit] at this
    have e3 : wrap64 (at_ a ((c :: t).dropWhile wo) - at_ a (c :: t)) = ((c :: t).takeWhile wo).length := by
      have := between_len (a := a) ha (w := (c :: t).takeWhile wo) (r := (c :: t).dropWhile wo) (by rw [hsplit]; exact h)
      rwa [hsplit] at this
    refine ev_ex_pos (at_nonneg h) (ev_ex_pos e1 (ev_ex_pos (at_le a _) (ev_ex_bind0 (upper_eq _) ?_)))
    rw [e2, e3]
    have e4 : decide ((((c :: t).takeWhile wo).length : Int) ≤ 60) = decide (((c :: t).takeWhile wo).length ≤ 60) := by
      rw [decide_eq_decide]; omega
    rw [e4]
    rw [nextS_word hc]
    by_cases hu : up c = true
    · refine ev_ex_pos hu ⟨_, ev_now rfl, ?_⟩
      by_cases hl : ((c :: t).takeWhile wo).length ≤ 60
      · simp only [hl, hu, if_true]; rfl
      · simp only [hl, if_false]; simp [NextR]
    · refine ev_ex_neg hu (ev_ex_bind0 (isKey_eq _) ?_)
      rw [L_ofL]
      by_cases hk : (c :: t).takeWhile wo ∈ keys
      · refine ev_ex_pos (decide_eq_true hk) ⟨_, ev_now rfl, ?_⟩
        by_cases hl : ((c :: t).takeWhile wo).length ≤ 60
        · simp only [hl, hu, hk, if_true]; rfl
        · simp only [hl, if_false]; simp [NextR]
      · refine ev_ex_neg (by simpa using hk) ⟨_, ev_now rfl, ?_⟩
        by_cases hl : ((c :: t).takeWhile wo).length ≤ 60
        · simp only [hl, hu, hk, if_true]; rfl
        · simp only [hl, if_false]; simp [NextR]
  obtain ⟨q, h1, h2⟩ := key
  exact ⟨q, words_ev ha _ _ _ _ _ q _ h h1, h2⟩
theorem quote_next {a : ByteArray} (ha : Fits a) {c : UInt8} {t : By} (h : c :: t <:+ L a) (most : Nat) (kk : By) : ∃ q, Ev (fun k => (token_quoted.f k a (at_ a (c :: t)) most).bind fun b => some (ofL kk, b.1, at_ a (c :: t), b.2.1, b.2.2)) q ∧
    NextR a (c :: t) (match quotedS c t with | some (w, r) => if w.length ≤ most then some (kk, w, r) else none | none => none) q := by
  have hq : ∀ r, Ev (fun k => token_quoted.l0 k a (at_ a t) most c.toNat ([] : List Int)) r → Ev (fun k => token_quoted.f k a (at_ a (c :: t)) most) r := by
    intro r hr
    unfold token_quoted.f
    refine ev_pos (at_nonneg h) (ev_pos (at_lt a c t) ?_)
    rw [bt_of h, at_succ ha h]
    exact hr
  obtain ⟨i1, i2⟩ := quoted_ev ha c most t [] (suf_tail h) (by have := suf_len (suf_tail h); simpa using this)
  cases hs : quotedS c t with
  | none =>
    obtain ⟨x, p, hx⟩ := i2 hs
    exact ⟨_, Ev.bind (hq _ hx) (ev_now rfl), rfl⟩
  | some wr =>
    obtain ⟨w, r⟩ := wr
    refine ⟨_, Ev.bind (hq _ (i1 w r hs)) (ev_now rfl), ?_⟩
    simp only [List.nil_append]
    by_cases hl : w.length ≤ most
    · rw [if_pos hl, decide_eq_true (by omega)]
      rfl
    · rw [if_neg hl, decide_eq_false (by omega)]
      rfl
theorem dropWhile_len {p : UInt8 → Bool} (t : By) : (t.takeWhile p).length + (t.dropWhile p).length = t.length := by
  have := congrArg List.length (List.takeWhile_append_dropWhile (p := p) (l := t))
  rwa [List.length_append] at this
theorem di_up {c : UInt8} (h : di c = true) : (up c || lo c) = false ∧ ¬ (c.toNat : Int) = 39 ∧ ¬ (c.toNat : Int) = 34 ∧ ¬ (c.toNat : Int) = 38 ∧ ¬ (c.toNat : Int) = 126 := by
  unfold di isDi at h
  unfold up lo isUp isLo
  simp only [Bool.and_eq_true, decide_eq_true_eq] at h
  refine ⟨?_, by omega, by omega, by omega, by omega⟩
  rw [Bool.or_eq_false_iff, Bool.and_eq_false_iff, Bool.and_eq_false_iff]
  simp only [decide_eq_false_iff_not]
  omega
theorem number_ev {a : ByteArray} (ha : Fits a) {c : UInt8} {t : By} (h : c :: t <:+ L a) :
    (¬ (c.toNat : Int) = 126 → Ev (fun k => token_number.f k a (at_ a (c :: t))) (at_ a ((c :: t).dropWhile di), intOk false ((c :: t).takeWhile di))) ∧
    ((c.toNat : Int) = 126 → Ev (fun k => token_number.f k a (at_ a (c :: t))) (at_ a (t.dropWhile di), intOk true (t.takeWhile di))) := by
  have h1 := suf_tail h
  refine ⟨fun hc => ?_, fun hc => ?_⟩
  · unfold token_number.f
    refine ev_pos (at_nonneg h) (ev_pos (at_lt a c t) ?_)
    rw [bt_of h]
    refine ev_neg hc (Ev.step (fun k => by rw [token_number.j0]) (digits_ev ha _ _ _ _ h ?_))
    have hs : (c :: t).takeWhile di ++ (c :: t).dropWhile di = c :: t := List.takeWhile_append_dropWhile
    have := numE_eq (a := a) ha (at_ a (c :: t)) (ds := (c :: t).takeWhile di) (rest := (c :: t).dropWhile di) (by rw [hs]; exact h)
    rw [hs] at this
    rw [this]
    simp
  · unfold token_number.f
    refine ev_pos (at_nonneg h) (ev_pos (at_lt a c t) ?_)
    rw [bt_of h]
    refine ev_pos hc (Ev.step (fun k => by rw [token_number.j0]) ?_)
    rw [at_succ ha h]
    refine digits_ev ha _ _ _ _ h1 ?_
    have hs : t.takeWhile di ++ t.dropWhile di = t := List.takeWhile_append_dropWhile
    have := numE_eq (a := a) ha (at_ a (c :: t)) (ds := t.takeWhile di) (rest := t.dropWhile di) (by rw [hs]; exact h1)
    rw [hs] at this
    rw [this, at_cons]
    have : (at_ a t - 1 == at_ a t) = false := beq_eq_false_iff_ne.mpr (by omega)
    rw [this]
    rfl
theorem j4_next {a : ByteArray} (ha : Fits a) {c : UInt8} {t : By} (h : c :: t <:+ L a) (hc : ¬(up c || lo c) = true) (h1 : ¬(c.toNat : Int) = 39) (h2 : ¬(c.toNat : Int) = 34) (h3 : ¬(c.toNat : Int) = 38) (b : Bool)
    (hb : b = (di c || (decide ((c.toNat : Int) = 126) && decide (t.takeWhile di ≠ [])))) (p : ByteArray) (q : ByteArray) :
    ∃ r, Ev (fun k => token_next.j4 k a (at_ a (c :: t)) c.toNat b p q (at_ a (c :: t))) r ∧ NextR a (c :: t) (nextS (c :: t)) r := by
  have hs := suf_tail h
  have e0 : wrap64 (at_ a (c :: t) + 1) = at_ a t := at_succ ha h
  refine ev_ex_step (fun k => by rw [token_next.j4]) ?_
  obtain ⟨n1, n2⟩ := number_ev ha h
  by_cases hd : di c = true
  · have h126 := (di_up hd).2.2.2.2
    rw [nextS_di hc h1 h2 h3 hd]
    have hsplit : (c :: t).takeWhile di ++ (c :: t).dropWhile di = c :: t := List.takeWhile_append_dropWhile
    have e1 : at_ a (c :: t) ≤ at_ a ((c :: t).dropWhile di) := by have := dropWhile_len (p := di) (c :: t); unfold at_; omega
    have e2 : a.extract (at_ a (c :: t)).toNat (at_ a ((c :: t).dropWhile di)).toNat = ofL ((c :: t).takeWhile di) := by
      have := ex_between (a := a) (w := (c :: t).takeWhile di) (r := (c :: t).dropWhile di) (by rw [hsplit]; exact h)
      rwa [hsplit] at this
    refine ev_ex_pos (by rw [hb, hd]; rfl) (ev_ex_bind (n1 h126) (ev_ex_neg h126 (ev_ex_pos (at_nonneg h) (ev_ex_pos e1 (ev_ex_pos (at_le a _) ⟨_, ev_now rfl, ?_⟩)))))
    rw [e2]
    by_cases hi : intOk false ((c :: t).takeWhile di) = true
    · rw [if_pos hi, hi]; rfl
    · rw [if_neg hi]; simpa [NextR] using hi
  · by_cases ht : (c.toNat : Int) = 126 ∧ t.takeWhile di ≠ []
    · rw [nextS_til hc ht.1 ht.2]
      refine ev_ex_pos (by rw [hb]; simp [ht.1, ht.2]) (ev_ex_bind (n2 ht.1) (ev_ex_pos ht.1 ?_))
      rw [e0]
      cases t with
      | nil => exact absurd rfl ht.2
      | cons d t =>
        have hdd : di d = true := by
          cases hx : di d with
          | true => rfl
          | false => exact absurd (List.takeWhile_cons_of_neg (by simp [hx])) ht.2
        have hsplit : (d :: t).takeWhile di ++ (d :: t).dropWhile di = d :: t := List.takeWhile_append_dropWhile
        have hlen := dropWhile_len (p := di) (d :: t)
        refine ev_ex_pos (at_nonneg hs) (ev_ex_pos (at_lt a d t) ?_)
        rw [bt_of hs]
        have e1 : at_ a (c :: d :: t) ≤ at_ a ((d :: t).dropWhile di) := by simp only [List.length_cons] at hlen; unfold at_; simp only [List.length_cons]; omega
        have e2 : a.extract (at_ a (c :: d :: t)).toNat (at_ a ((d :: t).dropWhile di)).toNat = ofL (c :: (d :: t).takeWhile di) := by
          have := ex_between (a := a) (w := c :: (d :: t).takeWhile di) (r := (d :: t).dropWhile di) (by rw [List.cons_append, hsplit]; exact h)
          rwa [List.cons_append, hsplit] at this
        have fin : (¬ (d :: t).takeWhile di = [48]) → ∃ r, Ev (fun _ => some ((⟨#[105, 110, 116]⟩ : ByteArray), a.extract (at_ a (c :: d :: t)).toNat (at_ a ((d :: t).dropWhile di)).toNat, at_ a (c :: d :: t), at_ a ((d :: t).dropWhile di), intOk true ((d :: t).takeWhile di))) r ∧
            NextR a (c :: d :: t) (if (d :: t).takeWhile di = [48] then some (kSign, [126], d :: t) else if intOk true ((d :: t).takeWhile di) then some (kInt, c :: (d :: t).takeWhile di, (d :: t).dropWhile di) else none) r := by
          intro h48
          refine ⟨_, ev_now rfl, ?_⟩
          rw [e2, if_neg h48]
          by_cases hi : intOk true ((d :: t).takeWhile di) = true
          · rw [if_pos hi, hi]; rfl
          · rw [if_neg hi]; simpa [NextR] using hi
        have hc126 : c = 126 := by
          have h126 := ht.1
          exact UInt8.toNat_inj.1 (by simpa using (by omega : c.toNat = 126))
        have e3 : (at_ a ((d :: t).dropWhile di) = wrap64 (at_ a (c :: d :: t) + 2)) ↔ ((d :: t).takeWhile di).length = 1 := by
          rw [at_succ2 ha h]
          simp only [List.length_cons] at hlen
          unfold at_
          omega
        have e4 : (d :: t).takeWhile di = [48] ↔ ((d.toNat : Int) = 48 ∧ ((d :: t).takeWhile di).length = 1) := by
          rw [List.takeWhile_cons_of_pos hdd]
          constructor
          · intro hh
            injection hh with hh1 hh2
            rw [hh1, hh2]
            simp
          · rintro ⟨hh1, hh2⟩
            have : t.takeWhile di = [] := by simpa using hh2
            rw [this]
            congr 1
            exact UInt8.toNat_inj.1 (by simpa using (by omega : d.toNat = 48))
        by_cases d48 : (d.toNat : Int) = 48
        · refine ev_ex_pos d48 ?_
          by_cases hl : ((d :: t).takeWhile di).length = 1
          · refine ev_ex_pos (e3.2 hl) ⟨_, ev_now rfl, ?_⟩
            rw [if_pos (e4.2 ⟨d48, hl⟩)]
            rfl
          · exact ev_ex_neg (fun hh => hl (e3.1 hh)) (ev_ex_pos (at_nonneg h) (ev_ex_pos e1 (ev_ex_pos (at_le a _) (fin (fun hh => hl (e4.1 hh).2)))))
        · exact ev_ex_neg d48 (ev_ex_pos (at_nonneg h) (ev_ex_pos e1 (ev_ex_pos (at_le a _) (fin (fun hh => d48 (e4.1 hh).1)))))
    · rw [nextS_sign hc h1 h2 h3 hd ht]
      have hbf : ¬ b = true := by
        rw [hb]
        simp only [Bool.or_eq_true, Bool.and_eq_true, decide_eq_true_eq]
        rintro (hh | hh)
        · exact hd hh
        · exact ht hh
      refine ev_ex_neg hbf (ev_ex_pos (at_nonneg h) (ev_ex_pos (at_le a _) ?_))
      rw [ex_rest h]
      have hf : Fits (ofL (c :: t)) := by unfold Fits at ha ⊢; rw [size_ofL]; have := suf_len h; omega
      refine ev_ex_bind (signAt_ev' (c :: t) hf) ⟨_, ev_now rfl, ?_⟩
      have hn := signN_le 3 (c :: t)
      by_cases h0 : signN 3 (c :: t) = 0
      · rw [if_pos h0, h0]
        simp only [NextR, toList_L, L_ofL, List.take_zero]
        rfl
      · rw [if_neg h0]
        have hl : ((c :: t).take (signN 3 (c :: t))).length = signN 3 (c :: t) := by rw [List.length_take]; omega
        have e5 : wrap64 (at_ a (c :: t) + ((ofL ((c :: t).take (signN 3 (c :: t)))).size : Int)) = at_ a ((c :: t).drop (signN 3 (c :: t))) := by
          rw [size_ofL, hl]
          have hl2 : ((c :: t).drop (signN 3 (c :: t))).length = (c :: t).length - signN 3 (c :: t) := List.length_drop
          have := suf_len h
          unfold Fits at ha
          unfold at_ wrap64
          rw [hl2]
          omega
        have e6 : ((ofL ((c :: t).take (signN 3 (c :: t)))).toList != ([] : List UInt8)) = true := by
          rw [toList_L, L_ofL, bne_iff_ne]
          intro hh
          rw [hh] at hl
          simp only [List.length_nil] at hl
          exact h0 hl.symm
        rw [e5, e6]
        rfl
theorem next_ev {a : ByteArray} (ha : Fits a) {t : By} (h : t <:+ L a) (hne : t ≠ []) : ∃ q, Ev (fun k => token_next.f k a (at_ a t)) q ∧ NextR a t (nextS t) q := by
  cases t with
  | nil => exact absurd rfl hne
  | cons c t =>
    have hs := suf_tail h
    unfold token_next.f
    refine ev_ex_pos (at_nonneg h) (ev_ex_pos (at_lt a c t) ?_)
    rw [bt_of h]
    refine ev_ex_bind0 (upper_eq _) ?_
    have main : ∃ q, Ev (fun k => token_next.j0 k a (at_ a (c :: t)) c.toNat (up c || lo c) (⟨#[]⟩ : ByteArray) (⟨#[]⟩ : ByteArray) (at_ a (c :: t))) q ∧ NextR a (c :: t) (nextS (c :: t)) q := by
      refine ev_ex_step (fun k => by rw [token_next.j0]) ?_
      by_cases hc : (up c || lo c) = true
      · exact ev_ex_pos hc (word_next ha h hc)
      · refine ev_ex_neg hc ?_
        by_cases h39 : (c.toNat : Int) = 39
        · refine ev_ex_pos h39 (ev_ex_step (fun k => by rw [token_next.j3]) (ev_ex_pos rfl (ev_ex_neg (by omega) ?_)))
          rw [nextS_39 hc h39]
          exact quote_next ha h 60 kAtom
        · refine ev_ex_neg h39 (ev_ex_step (fun k => by rw [token_next.j3]) ?_)
          by_cases h34 : (c.toNat : Int) = 34
          · refine ev_ex_pos (by rw [h34]; rfl) (ev_ex_pos h34 ?_)
            rw [nextS_34 hc h34]
            exact quote_next ha h 200 kText
          · refine ev_ex_neg (by rw [beq_eq_false_iff_ne.mpr h34]; simp) ?_
            by_cases h38 : (c.toNat : Int) = 38
            · refine ev_ex_pos h38 ?_
              rw [nextS_38 hc h38]
              cases hch : charS t with
              | none =>
                obtain ⟨x, p, hx⟩ := char_no ha h hch
                exact ev_ex_bind0 hx ⟨_, ev_now rfl, rfl⟩
              | some wr =>
                obtain ⟨w, r⟩ := wr
                exact ev_ex_bind0 (char_ok ha h hch) ⟨_, ev_now rfl, rfl⟩
            · refine ev_ex_neg h38 (ev_ex_bind0 (digit_eq _) ?_)
              have j4 := j4_next ha h hc h39 h34 h38
              by_cases hd : di c = true
              · exact ev_ex_pos hd (j4 true (by rw [hd]; rfl) _ _)
              · have hdf : di c = false := by simpa using hd
                refine ev_ex_neg hd ?_
                by_cases h126 : (c.toNat : Int) = 126
                · refine ev_ex_pos h126 ?_
                  rw [at_succ ha h]
                  cases t with
                  | nil => exact ev_ex_neg (by rw [at_nil]; omega) (j4 false (by rw [hdf]; simp) _ _)
                  | cons d t =>
                    refine ev_ex_pos (at_lt a d t) (ev_ex_pos (at_nonneg hs) ?_)
                    rw [bt_of hs]
                    refine ev_ex_bind0 (digit_eq _) (j4 _ ?_ _ _)
                    rw [hdf, Bool.false_or, decide_eq_true h126, Bool.true_and]
                    show di d = _
                    cases hx : di d with
                    | true => rw [List.takeWhile_cons_of_pos hx]; simp
                    | false => rw [List.takeWhile_cons_of_neg (by simp [hx])]; simp
                · exact ev_ex_neg h126 (j4 false (by rw [hdf, decide_eq_false h126]; rfl) _ _)
    by_cases hu : isUp c.toNat = true
    · refine ev_ex_pos hu ?_
      have : (up c || lo c) = true := by unfold up; rw [hu]; rfl
      rw [this] at main
      exact main
    · refine ev_ex_neg hu (ev_ex_bind0 (lower_eq _) ?_)
      have : (up c || lo c) = isLo c.toNat := by unfold up; rw [Bool.eq_false_iff.mpr hu]; rfl
      rw [this] at main
      exact main
/-- A token as the program has it. -/
def mkT (a : ByteArray) (x : Tok) : S29 := ⟨ofL x.1, ofL x.2.1, (a.size : Int) - (x.2.2 : Int)⟩
def readR (a : ByteArray) (acc : List S29) : Option By × List Tok → List S29 × Int × Bool
  | (none, ts) => (acc ++ ts.map (mkT a), 0, true)
  | (some u, _) => ([], at_ a u, false)
theorem read_ev {a : ByteArray} (ha : Fits a) (n : Nat) : ∀ (t : By) (acc : List S29), t.length ≤ n → t <:+ L a → acc.length + t.length ≤ 3000000000000 → Ev (fun k => token_read.l0 k a acc (at_ a t)) (readR a acc (lexS t)) := by
  induction n with
  | zero =>
    intro t acc ht h _
    obtain rfl : t = [] := List.eq_nil_of_length_eq_zero (by omega)
    refine Ev.step (fun k => by rw [token_read.l0]) (Ev.bind (skip_ev' ha [] h) ?_)
    have h0 : skipS [] = ([], true) := skipS_none rfl
    rw [h0, lexS_done (by unfold step1; rw [h0]; rfl)]
    exact ev_pos rfl (ev_pos (at_nil a) (ev_now (by simp [readR])))
  | succ n ih =>
    intro t acc ht h hacc
    have hsk := skipS_suf t.length t (Nat.le_refl _)
    refine Ev.step (fun k => by rw [token_read.l0]) (Ev.bind (skip_ev' ha t h) ?_)
    by_cases h2 : (skipS t).2 = true
    · refine ev_pos h2 ?_
      by_cases h1 : (skipS t).1 = []
      · have hd : step1 t = .done := by unfold step1; rw [if_pos h2, if_pos h1]
        rw [lexS_done hd]
        exact ev_pos (by rw [h1]; exact at_nil a) (ev_now (by simp [readR]))
      · have hne : ¬ at_ a (skipS t).1 = (a.size : Int) := by
          cases hx : (skipS t).1 with
          | nil => exact absurd hx h1
          | cons c u => have := at_lt a c u; omega
        refine ev_neg hne ?_
        obtain ⟨q, hq, hr⟩ := next_ev ha (hsk.trans h) h1
        refine Ev.bind hq ?_
        cases hn : nextS (skipS t).1 with
        | none =>
          rw [hn] at hr
          have hb : step1 t = .bad (skipS t).1 := by unfold step1; rw [if_pos h2, if_neg h1, hn]
          rw [lexS_bad hb]
          simp only [NextR] at hr
          exact ev_neg (by rw [hr]; simp) (ev_now rfl)
        | some kxr =>
          obtain ⟨kk, x, r⟩ := kxr
          rw [hn] at hr
          simp only [NextR] at hr
          subst hr
          have hb : step1 t = .tok kk x (skipS t).1 r := by unfold step1; rw [if_pos h2, if_neg h1, hn]
          have hs := step1_suf hb
          rw [lexS_tok hb]
          refine ev_pos rfl (ev_pos (by omega) ?_)
          have := ih r (acc ++ [mkT a (kk, x, (skipS t).1.length)]) (by omega) (hs.2.1.trans (hs.1.trans h)) (by simp; omega)
          have e : readR a (acc ++ [mkT a (kk, x, (skipS t).1.length)]) (lexS r) = readR a acc ((lexS r).1, (kk, x, (skipS t).1.length) :: (lexS r).2) := by
            cases hl : (lexS r) with
            | mk o ts => cases o <;> simp [readR]
          rw [e] at this
          exact this
    · have hb : step1 t = .bad (skipS t).1 := by unfold step1; rw [if_neg h2]
      rw [lexS_bad hb]
      exact ev_neg h2 (ev_now rfl)
/-- What the program answers for a whole text. -/
theorem tokens_ev (a : ByteArray) (ha : Fits a) (hz : a.size ≤ 3000000000000) : Ev (fun k => token_Tokens.f k a) (if a.size > 20000 then ([], 4) else match lexS (L a) with | (none, ts) => (ts.map (mkT a), 0) | (some _, _) => ([], 10)) := by
  unfold token_Tokens.f
  by_cases h : a.size > 20000
  · rw [if_pos h]
    exact ev_pos (by omega) (ev_now rfl)
  · rw [if_neg h]
    refine ev_neg (by omega) ?_
    have := read_ev ha (L a).length (L a) [] (Nat.le_refl _) (List.suffix_refl _) (by simp [L_length]; omega)
    rw [at_all] at this
    refine Ev.bind (g := fun k => token_read.f k a) this ?_
    cases lexS (L a) with
    | mk o ts =>
      cases o with
      | none => exact ev_pos rfl (ev_now (by simp [readR]))
      | some u => exact ev_neg (by simp [readR]) (ev_now rfl)
end Go.Proofs.Ytgbielhbjgipoaa.Pure
