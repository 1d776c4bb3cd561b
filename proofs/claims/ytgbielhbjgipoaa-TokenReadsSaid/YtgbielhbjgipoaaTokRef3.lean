import Derived.Test.YtgbielhbjgipoaaTokRef2
import Derived.Test.YtgbielhbjgipoaaQ34
/-! The tokens of a whole text, as the reference reads them. -/
namespace Go.Proofs.Ytgbielhbjgipoaa.Pure
set_option linter.unusedVariables false
set_option linter.unusedSimpArgs false
open Go.RowKit Go.Proofs.YtgbielhbjgipoaaW.PrintWords Go.Proofs.YtgbielhbjgipoaaW.PrintLast Go.Proofs.YtgbielhbjgipoaaW.PrintMore Go.Proofs.Ytgbielhbjgipoaa.Q
theorem ofL_app (l m : By) : ofL l ++ ofL m = ofL (l ++ m) := by
  apply L_inj
  rw [L_append, L_ofL, L_ofL, L_ofL]
theorem ex_one {a : ByteArray} (ha : Fits a) {c : UInt8} {t : By} (h : c :: t <:+ L a) : a.extract (at_ a (c :: t)).toNat (wrap64 (at_ a (c :: t) + 1)).toNat = ofL [c] := by
  rw [at_succ ha h]
  exact ex_between (w := [c]) (r := t) h
theorem rquote_ev {a : ByteArray} (ha : Fits a) (q : UInt8) (hq110 : ¬ (q.toNat : Int) = 110) (x1 most : Int) : ∀ (t : By) (acc : By), t <:+ L a → acc.length + t.length ≤ a.size →
    (∀ w r, quotedS q t = some (w, r) → Ev (fun k => manystrandref01_quote.l0 k a x1 most q.toNat (ofL acc) (at_ a t)) (ofL (acc ++ w), at_ a r, decide (((acc ++ w).length : Int) ≤ most))) ∧
    (quotedS q t = none → Ev (fun k => manystrandref01_quote.l0 k a x1 most q.toNat (ofL acc) (at_ a t)) (⟨#[]⟩, x1, false))
  | [], acc, _, _ => by
    refine ⟨fun w r h => by simp [quotedS] at h, fun _ => ?_⟩
    refine Ev.step (fun k => by rw [manystrandref01_quote.l0]) ?_
    exact ev_neg (by rw [at_nil]; omega) (ev_now rfl)
  | c :: t, acc, h, hl => by
    have h1 := suf_tail h
    simp only [List.length_cons] at hl
    have ha' := ha
    unfold Fits at ha'
    have hq : ((c.toNat : Int) = (q.toNat : Int)) ↔ c = q := by rw [Int.ofNat_inj, UInt8.toNat_inj]
    by_cases hcq : c = q
    · have ho : quotedS q (c :: t) = some ([], t) := by
        cases t <;> simp [quotedS, hcq]
      refine ⟨fun w r hh => ?_, fun hh => by rw [ho] at hh; cases hh⟩
      rw [ho] at hh
      simp only [Option.some.injEq, Prod.mk.injEq] at hh
      obtain ⟨rfl, rfl⟩ := hh
      refine Ev.step (fun k => by rw [manystrandref01_quote.l0]) ?_
      refine ev_pos (at_lt a c t) (ev_pos (at_nonneg h) ?_)
      rw [bt_of h, at_succ ha h, size_ofL]
      refine ev_pos (hq.2 hcq) (ev_now ?_)
      simp
    · by_cases h92 : (c.toNat : Int) = 92
      · cases t with
        | nil =>
          refine ⟨fun w r hh => by simp [quotedS, hcq] at hh, fun _ => ?_⟩
          refine Ev.step (fun k => by rw [manystrandref01_quote.l0]) ?_
          refine ev_pos (at_lt a c _) (ev_pos (at_nonneg h) ?_)
          rw [bt_of h, at_succ ha h]
          refine ev_neg (fun e => hcq (hq.1 e)) (ev_pos h92 (ev_pos (at_nil a) ?_))
          refine Ev.step (fun k => by rw [manystrandref01_quote.j1]) ?_
          exact ev_pos rfl (ev_now rfl)
        | cons d t =>
          have h2 := suf_tail h1
          simp only [List.length_cons] at hl
          have hdq : ((d.toNat : Int) = (q.toNat : Int)) ↔ d = q := by rw [Int.ofNat_inj, UInt8.toNat_inj]
          have go : ∀ r, Ev (fun k => manystrandref01_quote.j1 k a x1 most q.toNat (ofL acc) (at_ a (d :: t)) (decide (¬ (d = q ∨ (d.toNat : Int) = 92) ∧ ¬ (d.toNat : Int) = 110))) r →
              Ev (fun k => manystrandref01_quote.l0 k a x1 most q.toNat (ofL acc) (at_ a (c :: d :: t))) r := by
            intro r hr
            refine Ev.step (fun k => by rw [manystrandref01_quote.l0]) ?_
            refine ev_pos (at_lt a c _) (ev_pos (at_nonneg h) ?_)
            rw [bt_of h, at_succ ha h, bt_of h1]
            refine ev_neg (fun e => hcq (hq.1 e)) (ev_pos h92 (ev_neg (by have := at_lt a d t; omega) (ev_pos (at_nonneg h1) (ev_pos (at_lt a d t) ?_))))
            by_cases hd : d = q
            · refine ev_pos (hdq.2 hd) ?_
              have : decide (¬ (d = q ∨ (d.toNat : Int) = 92) ∧ ¬ (d.toNat : Int) = 110) = false := by simp [hd]
              rw [this] at hr; exact hr
            · refine ev_neg (fun e => hd (hdq.1 e)) ?_
              by_cases hd9 : (d.toNat : Int) = 92
              · refine ev_pos hd9 ?_
                have : decide (¬ (d = q ∨ (d.toNat : Int) = 92) ∧ ¬ (d.toNat : Int) = 110) = false := by simp [hd9]
                rw [this] at hr; exact hr
              · refine ev_neg hd9 ?_
                have : ((d.toNat : Int) != 110) = decide (¬ (d = q ∨ (d.toNat : Int) = 92) ∧ ¬ (d.toNat : Int) = 110) := by
                  simp only [hd, hd9, or_self, not_false_eq_true, true_and]
                  rw [Bool.eq_iff_iff, bne_iff_ne, decide_eq_true_eq]
                rw [this]; exact hr
          have ho : quotedS q (c :: d :: t) = if d = q ∨ (d.toNat : Int) = 92 then (quotedS q t).map (fun r => (d :: r.1, r.2)) else if (d.toNat : Int) = 110 then (quotedS q t).map (fun r => (10 :: r.1, r.2)) else none := by
            rw [quotedS, if_neg hcq, if_pos h92]
          rw [ho]
          by_cases he : d = q ∨ (d.toNat : Int) = 92
          · rw [if_pos he]
            obtain ⟨i1, i2⟩ := rquote_ev ha q hq110 x1 most t (acc ++ [d]) h2 (by simp; omega)
            simp only [List.append_assoc, List.cons_append, List.nil_append] at i1 i2
            by_cases hd110 : (d.toNat : Int) = 110
            · have hd10 : d = q := he.resolve_right (by omega)
              exact absurd hd110 (by rw [hd10]; exact hq110)
            · have nx : ∀ r, Ev (fun k => manystrandref01_quote.l0 k a x1 most q.toNat (ofL (acc ++ [d])) (at_ a t)) r → Ev (fun k => manystrandref01_quote.l0 k a x1 most q.toNat (ofL acc) (at_ a (c :: d :: t))) r := by
                intro r hr
                refine go r (Ev.step (fun k => by rw [manystrandref01_quote.j1]) ?_)
                refine ev_neg (by simp [he]) (ev_pos (at_nonneg h1) (ev_pos (at_lt a d t) ?_))
                rw [bt_of h1]
                refine ev_neg hd110 (ev_pos (by rw [at_succ ha h1, at_cons]; omega) (ev_pos (by rw [at_succ ha h1]; exact at_le a t) ?_))
                rw [ex_one ha h1, ofL_app, at_succ ha h1]
                refine ev_pos (by rw [size_ofL, size_ofL, List.length_singleton]; omega) hr
              refine ⟨fun w r hh => ?_, fun hh => ?_⟩
              · obtain ⟨⟨w', r'⟩, e1, e2⟩ := Option.map_eq_some_iff.1 hh
                simp only [Prod.mk.injEq] at e2
                obtain ⟨rfl, rfl⟩ := e2
                exact nx _ (i1 w' r' e1)
              · exact nx _ (i2 (by simpa using hh))
          · rw [if_neg he]
            by_cases h110 : (d.toNat : Int) = 110
            · rw [if_pos h110]
              obtain ⟨i1, i2⟩ := rquote_ev ha q hq110 x1 most t (acc ++ [10]) h2 (by simp; omega)
              simp only [List.append_assoc, List.cons_append, List.nil_append] at i1 i2
              have nx : ∀ r, Ev (fun k => manystrandref01_quote.l0 k a x1 most q.toNat (ofL (acc ++ [10])) (at_ a t)) r → Ev (fun k => manystrandref01_quote.l0 k a x1 most q.toNat (ofL acc) (at_ a (c :: d :: t))) r := by
                intro r hr
                refine go r (Ev.step (fun k => by rw [manystrandref01_quote.j1]) ?_)
                refine ev_neg (by simp [h110]) (ev_pos (at_nonneg h1) (ev_pos (at_lt a d t) ?_))
                rw [bt_of h1]
                have h10 : (⟨#[10]⟩ : ByteArray) = ofL [10] := rfl
                refine ev_pos h110 (ev_pos (by rw [size_ofL]; omega) ?_)
                rw [h10, ofL_app, at_succ ha h1]
                exact hr
              refine ⟨fun w r hh => ?_, fun hh => ?_⟩
              · obtain ⟨⟨w', r'⟩, e1, e2⟩ := Option.map_eq_some_iff.1 hh
                simp only [Prod.mk.injEq] at e2
                obtain ⟨rfl, rfl⟩ := e2
                exact nx _ (i1 w' r' e1)
              · exact nx _ (i2 (by simpa using hh))
            · rw [if_neg h110]
              refine ⟨fun w r hh => (by cases hh), fun _ => go _ (Ev.step (fun k => by rw [manystrandref01_quote.j1]) ?_)⟩
              exact ev_pos (decide_eq_true ⟨he, h110⟩) (ev_now rfl)
      · by_cases hr : (c.toNat : Int) < 32 ∨ (c.toNat : Int) > 126
        · have ho : quotedS q (c :: t) = none := by
            cases t with
            | nil => simp [quotedS, hcq]
            | cons d t => rw [quotedS, if_neg hcq, if_neg h92, if_pos hr]
          rw [ho]
          refine ⟨fun w r hh => (by cases hh), fun _ => ?_⟩
          refine Ev.step (fun k => by rw [manystrandref01_quote.l0]) ?_
          refine ev_pos (at_lt a c _) (ev_pos (at_nonneg h) ?_)
          rw [bt_of h]
          refine ev_neg (fun e => hcq (hq.1 e)) (ev_neg h92 ?_)
          by_cases h32 : (c.toNat : Int) < 32
          · exact ev_pos h32 (ev_now rfl)
          · exact ev_neg h32 (ev_pos (by omega) (ev_now rfl))
        · have ho : quotedS q (c :: t) = (quotedS q t).map (fun r => (c :: r.1, r.2)) := by
            cases t with
            | nil => simp [quotedS, hcq]
            | cons d t => rw [quotedS, if_neg hcq, if_neg h92, if_neg hr]
          rw [ho]
          obtain ⟨i1, i2⟩ := rquote_ev ha q hq110 x1 most t (acc ++ [c]) h1 (by simp; omega)
          simp only [List.append_assoc, List.cons_append, List.nil_append] at i1 i2
          have nx : ∀ r, Ev (fun k => manystrandref01_quote.l0 k a x1 most q.toNat (ofL (acc ++ [c])) (at_ a t)) r → Ev (fun k => manystrandref01_quote.l0 k a x1 most q.toNat (ofL acc) (at_ a (c :: t))) r := by
            intro r hr'
            refine Ev.step (fun k => by rw [manystrandref01_quote.l0]) ?_
            refine ev_pos (at_lt a c _) (ev_pos (at_nonneg h) ?_)
            rw [bt_of h]
            refine ev_neg (fun e => hcq (hq.1 e)) (ev_neg h92 (ev_neg (by omega) (ev_neg (by omega) (ev_pos (by rw [at_succ ha h, at_cons]; omega) (ev_pos (by rw [at_succ ha h]; exact at_le a t) ?_)))))
            rw [ex_one ha h, ofL_app, at_succ ha h]
            refine ev_pos (by rw [size_ofL, size_ofL, List.length_singleton]; omega) hr'
          refine ⟨fun w r hh => ?_, fun hh => ?_⟩
          · obtain ⟨⟨w', r'⟩, e1, e2⟩ := Option.map_eq_some_iff.1 hh
            simp only [Prod.mk.injEq] at e2
            obtain ⟨rfl, rfl⟩ := e2
            exact nx _ (i1 w' r' e1)
          · exact nx _ (i2 (by simpa using hh))
theorem rchar_ok {a : ByteArray} (ha : Fits a) {c : UInt8} {t : By} (h : c :: t <:+ L a) {w r : By} (hc : charS t = some (w, r)) : manystrandref01_char.f a (at_ a (c :: t)) = some (ofL kChar, ofL w, at_ a (c :: t), at_ a r, true) := by
  unfold manystrandref01_char.f
  cases t with
  | nil => simp [charS] at hc
  | cons d t =>
    have h1 := suf_tail h
    rw [at_succ ha h, if_neg (by have := at_lt a d t; omega), if_pos (at_nonneg h1), if_pos (at_lt a d t), bt_of h1]
    simp only [charS] at hc
    by_cases h92 : (d.toNat : Int) = 92
    · rw [if_pos h92] at hc ⊢
      cases t with
      | nil => simp at hc
      | cons e t =>
        have h2 := suf_tail h1
        rw [at_succ2 ha h, if_neg (by have := at_lt a e t; omega), if_pos (at_nonneg h2), if_pos (at_lt a e t), bt_of h2, at_succ3 ha h]
        simp only at hc
        by_cases c1 : (e.toNat : Int) = 110
        · rw [if_pos c1] at hc ⊢
          simp only [Option.some.injEq, Prod.mk.injEq] at hc
          obtain ⟨rfl, rfl⟩ := hc
          rfl
        · rw [if_neg c1] at hc ⊢
          by_cases c2 : (e.toNat : Int) = 115
          · rw [if_pos c2] at hc ⊢
            simp only [Option.some.injEq, Prod.mk.injEq] at hc
            obtain ⟨rfl, rfl⟩ := hc
            rfl
          · rw [if_neg c2] at hc ⊢
            by_cases c3 : (e.toNat : Int) = 92
            · rw [if_pos c3] at hc ⊢
              simp only [Option.some.injEq, Prod.mk.injEq] at hc
              obtain ⟨rfl, rfl⟩ := hc
              rfl
            · rw [if_neg c3] at hc
              cases hc
    · rw [if_neg h92] at hc ⊢
      by_cases hr : (d.toNat : Int) ≥ 33 ∧ (d.toNat : Int) ≤ 126
      · rw [if_pos hr] at hc
        simp only [Option.some.injEq, Prod.mk.injEq] at hc
        obtain ⟨rfl, rfl⟩ := hc
        have e := ex_between (a := a) (w := [d]) (r := t) h1
        simp only [List.cons_append, List.nil_append] at e
        rw [at_succ2 ha h, if_pos (by rw [at_cons]; omega), if_pos (at_le a t), if_pos hr.1, e, decide_eq_true hr.2]
        rfl
      · rw [if_neg hr] at hc
        cases hc
theorem rchar_no {a : ByteArray} (ha : Fits a) {c : UInt8} {t : By} (h : c :: t <:+ L a) (hc : charS t = none) : ∃ q : ByteArray × ByteArray × Int × Int × Bool, manystrandref01_char.f a (at_ a (c :: t)) = some q ∧ q.2.2.2.2 = false := by
  unfold manystrandref01_char.f
  cases t with
  | nil =>
    rw [at_succ ha h, if_pos (at_nil a)]
    exact ⟨_, rfl, rfl⟩
  | cons d t =>
    have h1 := suf_tail h
    rw [at_succ ha h, if_neg (by have := at_lt a d t; omega), if_pos (at_nonneg h1), if_pos (at_lt a d t), bt_of h1]
    simp only [charS] at hc
    by_cases h92 : (d.toNat : Int) = 92
    · rw [if_pos h92] at hc ⊢
      cases t with
      | nil =>
        rw [at_succ2 ha h, if_pos (at_nil a)]
        exact ⟨_, rfl, rfl⟩
      | cons e t =>
        have h2 := suf_tail h1
        rw [at_succ2 ha h, if_neg (by have := at_lt a e t; omega), if_pos (at_nonneg h2), if_pos (at_lt a e t), bt_of h2]
        simp only at hc
        by_cases c1 : (e.toNat : Int) = 110
        · rw [if_pos c1] at hc; cases hc
        · rw [if_neg c1] at hc ⊢
          by_cases c2 : (e.toNat : Int) = 115
          · rw [if_pos c2] at hc; cases hc
          · rw [if_neg c2] at hc ⊢
            by_cases c3 : (e.toNat : Int) = 92
            · rw [if_pos c3] at hc; cases hc
            · rw [if_neg c3]
              exact ⟨_, rfl, rfl⟩
    · rw [if_neg h92] at hc ⊢
      have e1 : at_ a (d :: t) ≤ wrap64 (at_ a (c :: d :: t) + 2) := by rw [at_succ2 ha h, at_cons]; omega
      have e2 : wrap64 (at_ a (c :: d :: t) + 2) ≤ (a.size : Int) := by rw [at_succ2 ha h]; exact at_le a t
      rw [if_pos e1, if_pos e2]
      by_cases hr : (d.toNat : Int) ≥ 33 ∧ (d.toNat : Int) ≤ 126
      · rw [if_pos hr] at hc; cases hc
      · by_cases h33 : (d.toNat : Int) ≥ 33
        · rw [if_pos h33, decide_eq_false (fun h => hr ⟨h33, h⟩)]
          exact ⟨_, rfl, rfl⟩
        · rw [if_neg h33]
          exact ⟨_, rfl, rfl⟩
theorem rsign_ev {a : ByteArray} (ha : Fits a) {t : By} (h : t <:+ L a) (p q : ByteArray) (z : Int) : ∀ n : Nat, n ≤ 3 → Ev (fun k => manystrandref01_one.l0 k a (at_ a t) (n : Int) p q z)
    (if signN n t = 0 then (p, q, z, at_ a t, false) else (ofL kSign, ofL (t.take (signN n t)), z, at_ a (t.drop (signN n t)), true))
  | 0, _ => by
    refine Ev.step (fun k => by rw [manystrandref01_one.l0]) ?_
    exact ev_neg (by omega) (ev_now rfl)
  | n + 1, hn => by
    have ih := rsign_ev ha h p q z n (by omega)
    have h0 := at_nonneg h
    have hl := suf_len h
    have ha' := ha
    unfold Fits at ha'
    have e1 : wrap64 ((a.size : Int) - at_ a t) = t.length := by unfold at_ wrap64; omega
    have e2 : wrap64 (at_ a t + ((n + 1 : Nat) : Int)) = at_ a t + ((n + 1 : Nat) : Int) := by unfold at_ wrap64; omega
    have e3 : wrap64 (((n + 1 : Nat) : Int) - 1) = (n : Int) := by unfold wrap64; omega
    refine Ev.step (fun k => by rw [manystrandref01_one.l0]) ?_
    refine ev_pos (by omega) ?_
    rw [e1, e2, e3]
    by_cases hlen : n + 1 ≤ t.length
    · refine ev_pos (by omega) (ev_pos h0 (ev_pos (by omega) (ev_pos (by unfold at_; omega) ?_)))
      have e4 : a.extract (at_ a t).toNat (at_ a t + ((n + 1 : Nat) : Int)).toNat = ofL (t.take (n + 1)) := by
        apply L_inj
        rw [L_extract, L_ofL, suf_eq h]
        congr 1
        omega
      rw [e4]
      have hf : Fits (ofL (t.take (n + 1))) := by unfold Fits; rw [size_ofL, List.length_take]; omega
      refine Ev.bind (risSign_ev hf) ?_
      rw [L_ofL]
      by_cases hs : t.take (n + 1) ∈ signs
      · have hN : signN (n + 1) t = n + 1 := by rw [signN, if_pos ⟨hlen, hs⟩]
        rw [hN, if_neg (by omega)]
        refine ev_pos (decide_eq_true hs) (ev_now ?_)
        have e5 : at_ a t + ((n + 1 : Nat) : Int) = at_ a (t.drop (n + 1)) := by unfold at_; rw [List.length_drop]; omega
        rw [e5]
        rfl
      · have hN : signN (n + 1) t = signN n t := by rw [signN, if_neg (fun hh => hs hh.2)]
        rw [hN]
        exact ev_neg (by simp [hs]) ih
    · have hN : signN (n + 1) t = signN n t := by rw [signN, if_neg (fun hh => hlen hh.1)]
      rw [hN]
      exact ev_neg (by omega) ih
theorem takeW_all {p : UInt8 → Bool} (t : By) : (t.takeWhile p).all p = true := List.all_eq_true.2 (all_take t)
theorem intS_til {ds : By} (hd : ds.all di = true) (hne : ds ≠ []) (h48 : ds ≠ [48]) : intS (126 :: ds) = intOk true ds := by
  have e1 : (126 :: ds : By) ≠ [126, 48] := by
    intro h
    injection h with _ h
    exact h48 h
  unfold intS
  simp only [e1, if_false]
  rw [if_pos (by decide)]
  unfold numS
  rw [hd, Bool.true_and]
  unfold intOk
  cases ds with
  | nil => exact absurd rfl hne
  | cons c ds =>
    by_cases hc : (c.toNat : Int) = 48
    · simp only [hc, if_true, Bool.not_false, Bool.and_true, Bool.not_true, Bool.and_false]
      have : ((c :: ds).length == 1) = false := by
        rw [beq_eq_false_iff_ne]
        intro h
        have hds : ds = [] := by simpa using h
        exact h48 (by rw [hds, u8_eq (d := 48) hc])
      simp only [this, Bool.and_false]
    · simp only [hc, if_false]
theorem rquote_next {a : ByteArray} (ha : Fits a) {c : UInt8} {t : By} (h : c :: t <:+ L a) (hc : ¬ (c.toNat : Int) = 110) (most : Nat) (kk : By) : ∃ q, Ev (fun k => (manystrandref01_quote.f k a (at_ a (c :: t)) most).bind fun b => some (ofL kk, b.1, at_ a (c :: t), b.2.1, b.2.2)) q ∧
    NextR a (c :: t) (match quotedS c t with | some (w, r) => if w.length ≤ most then some (kk, w, r) else none | none => none) q := by
  have hq : ∀ r, Ev (fun k => manystrandref01_quote.l0 k a (at_ a (c :: t)) most c.toNat (ofL []) (at_ a t)) r → Ev (fun k => manystrandref01_quote.f k a (at_ a (c :: t)) most) r := by
    intro r hr
    unfold manystrandref01_quote.f
    refine ev_pos (at_nonneg h) (ev_pos (at_lt a c t) ?_)
    rw [bt_of h, at_succ ha h]
    exact hr
  obtain ⟨i1, i2⟩ := rquote_ev ha c hc (at_ a (c :: t)) most t [] (suf_tail h) (by have := suf_len (suf_tail h); simpa using this)
  cases hs : quotedS c t with
  | none => exact ⟨_, Ev.bind (hq _ (i2 hs)) (ev_now rfl), rfl⟩
  | some wr =>
    obtain ⟨w, r⟩ := wr
    refine ⟨_, Ev.bind (hq _ (i1 w r hs)) (ev_now rfl), ?_⟩
    simp only [List.nil_append]
    by_cases hl : w.length ≤ most
    · rw [if_pos hl, decide_eq_true (by omega)]
      rfl
    · rw [if_neg hl, decide_eq_false (by omega)]
      rfl
theorem rj1_next {a : ByteArray} (ha : Fits a) {c : UInt8} {t : By} (h : c :: t <:+ L a) (hc : ¬(up c || lo c) = true) (h1 : ¬(c.toNat : Int) = 39) (h2 : ¬(c.toNat : Int) = 34) (hd : ¬ di c = true) (b : Bool)
    (hb : b = (decide ((c.toNat : Int) = 126) && decide (t.takeWhile di ≠ []))) :
    ∃ r, Ev (fun k => manystrandref01_one.j1 k a (at_ a (c :: t)) c.toNat b (⟨#[]⟩ : ByteArray) (⟨#[]⟩ : ByteArray) (at_ a (c :: t))) r ∧ NextR a (c :: t) (nextS (c :: t)) r := by
  have hs := suf_tail h
  refine ev_ex_step (fun k => by rw [manystrandref01_one.j1]) ?_
  by_cases ht : (c.toNat : Int) = 126 ∧ t.takeWhile di ≠ []
  · rw [nextS_til hc ht.1 ht.2, at_succ ha h]
    have hsplit : t.takeWhile di ++ t.dropWhile di = t := List.takeWhile_append_dropWhile
    have hlen := dropWhile_len (p := di) t
    have hrun : Ev (fun k => manystrandref01_run.f k a (at_ a t) true) (at_ a (t.dropWhile di)) := run_di_ev ha t hs
    have e0 : at_ a t ≤ at_ a (t.dropWhile di) := by unfold at_; omega
    have e1 : a.extract (at_ a t).toNat (at_ a (t.dropWhile di)).toNat = ofL (t.takeWhile di) := by
      have := ex_between (a := a) (w := t.takeWhile di) (r := t.dropWhile di) (by rw [hsplit]; exact hs)
      rwa [hsplit] at this
    have e2 : a.extract (at_ a (c :: t)).toNat (at_ a (t.dropWhile di)).toNat = ofL (c :: t.takeWhile di) := by
      have := ex_between (a := a) (w := c :: t.takeWhile di) (r := t.dropWhile di) (by rw [List.cons_append, hsplit]; exact h)
      rwa [List.cons_append, hsplit] at this
    refine ev_ex_pos (by rw [hb]; simp [ht.1, ht.2]) (ev_ex_bind hrun (ev_ex_pos (at_nonneg hs) (ev_ex_pos e0 (ev_ex_pos (at_le a _) ?_))))
    rw [e1, toList_L, L_ofL]
    by_cases h48 : t.takeWhile di = [48]
    · rw [if_pos h48]
      exact ev_ex_pos h48 ⟨_, ev_now rfl, rfl⟩
    · rw [if_neg h48]
      have e3 : at_ a (c :: t) ≤ at_ a (t.dropWhile di) := by rw [at_cons]; omega
      refine ev_ex_neg h48 (ev_ex_pos (at_nonneg h) (ev_ex_pos e3 ?_))
      rw [e2]
      have hf : Fits (ofL (c :: t.takeWhile di)) := by
        have := suf_len h
        unfold Fits at ha ⊢
        simp only [List.length_cons] at this
        rw [size_ofL, List.length_cons]; omega
      refine ev_ex_bind (isInt_ev hf) ⟨_, ev_now rfl, ?_⟩
      have hc126 : c = 126 := u8_eq (d := 126) ht.1
      rw [L_ofL, hc126, intS_til (takeW_all t) ht.2 h48]
      by_cases hi : intOk true (t.takeWhile di) = true
      · rw [if_pos hi, hi]; rfl
      · rw [if_neg hi]; simpa [NextR] using hi
  · have hbf : ¬ b = true := by
      rw [hb]
      simp only [Bool.and_eq_true, decide_eq_true_eq]
      exact ht
    refine ev_ex_neg hbf ?_
    by_cases h38 : (c.toNat : Int) = 38
    · refine ev_ex_pos h38 ?_
      rw [nextS_38 hc h38]
      cases hch : charS t with
      | none =>
        obtain ⟨q, hq, hf⟩ := rchar_no ha h hch
        exact ev_ex_bind0 hq ⟨_, ev_now rfl, hf⟩
      | some wr =>
        obtain ⟨w, r⟩ := wr
        exact ev_ex_bind0 (rchar_ok ha h hch) ⟨_, ev_now rfl, rfl⟩
    · refine ev_ex_neg h38 ⟨_, rsign_ev ha h _ _ _ 3 (Nat.le_refl _), ?_⟩
      rw [nextS_sign hc h1 h2 h38 hd ht]
      by_cases h0 : signN 3 (c :: t) = 0
      · rw [if_pos h0, if_pos h0]; rfl
      · rw [if_neg h0, if_neg h0]; rfl
theorem rone_ev {a : ByteArray} (ha : Fits a) {t : By} (h : t <:+ L a) (hne : t ≠ []) : ∃ q, Ev (fun k => manystrandref01_one.f k a (at_ a t)) q ∧ NextR a t (nextS t) q := by
  cases t with
  | nil => exact absurd rfl hne
  | cons c t =>
    have hs := suf_tail h
    unfold manystrandref01_one.f
    refine ev_ex_pos (at_nonneg h) (ev_ex_pos (at_lt a c t) ?_)
    rw [bt_of h]
    refine ev_ex_bind0 (great_eq _) ?_
    have main : ∃ q, Ev (fun k => manystrandref01_one.j0 k a (at_ a (c :: t)) c.toNat (up c || lo c) (⟨#[]⟩ : ByteArray) (⟨#[]⟩ : ByteArray) (at_ a (c :: t))) q ∧ NextR a (c :: t) (nextS (c :: t)) q := by
      refine ev_ex_step (fun k => by rw [manystrandref01_one.j0]) ?_
      by_cases hc : (up c || lo c) = true
      · have hsplit : (c :: t).takeWhile wo ++ (c :: t).dropWhile wo = c :: t := List.takeWhile_append_dropWhile
        have hlen := (dropWhile_lt (t := t) (up_wo hc)).2
        have hrun : Ev (fun k => manystrandref01_run.f k a (at_ a (c :: t)) false) (at_ a ((c :: t).dropWhile wo)) := run_wo_ev ha _ h
        have e1 : at_ a (c :: t) ≤ at_ a ((c :: t).dropWhile wo) := by unfold at_; omega
        have e2 : a.extract (at_ a (c :: t)).toNat (at_ a ((c :: t).dropWhile wo)).toNat = ofL ((c :: t).takeWhile wo) := by
          have := ex_between (a := a) (w := (c :: t).takeWhile wo) (r := (c :: t).dropWhile wo) (by rw [hsplit]; exact h)
          rwa [hsplit] at this
        have e3 : wrap64 (at_ a ((c :: t).dropWhile wo) - at_ a (c :: t)) = ((c :: t).takeWhile wo).length := by
          have := between_len (a := a) ha (w := (c :: t).takeWhile wo) (r := (c :: t).dropWhile wo) (by rw [hsplit]; exact h)
          rwa [hsplit] at this
        have e4 : decide ((((c :: t).takeWhile wo).length : Int) ≤ 60) = decide (((c :: t).takeWhile wo).length ≤ 60) := by
          rw [decide_eq_decide]; omega
        refine ev_ex_pos hc (ev_ex_bind hrun (ev_ex_pos (at_nonneg h) (ev_ex_pos e1 (ev_ex_pos (at_le a _) (ev_ex_bind0 (small_eq _) ?_)))))
        rw [e2, e3, e4, nextS_word hc]
        by_cases hl : lo c = true
        · have hu : ¬ up c = true := by
            intro hu
            unfold up isUp at hu
            unfold lo isLo at hl
            simp only [Bool.and_eq_true, decide_eq_true_eq] at hu hl
            omega
          have hf : Fits (ofL ((c :: t).takeWhile wo)) := by
            have h3 := suf_len h
            have h4 := congrArg List.length hsplit
            rw [List.length_append] at h4
            unfold Fits at ha ⊢
            rw [size_ofL]; omega
          refine ev_ex_pos hl (ev_ex_bind (risKey_ev hf) ?_)
          rw [L_ofL]
          by_cases hk : (c :: t).takeWhile wo ∈ keys
          · refine ev_ex_pos (decide_eq_true hk) ⟨_, ev_now rfl, ?_⟩
            by_cases hlen : ((c :: t).takeWhile wo).length ≤ 60
            · simp only [hlen, hu, hk, if_true]; rfl
            · simp only [hlen, if_false]; simp [NextR]
          · refine ev_ex_neg (by simpa using hk) ⟨_, ev_now rfl, ?_⟩
            by_cases hlen : ((c :: t).takeWhile wo).length ≤ 60
            · simp only [hlen, hu, hk, if_true]; rfl
            · simp only [hlen, if_false]; simp [NextR]
        · have hu : up c = true := by
            simp only [Bool.or_eq_true] at hc
            exact hc.resolve_right hl
          refine ev_ex_neg hl ⟨_, ev_now rfl, ?_⟩
          by_cases hlen : ((c :: t).takeWhile wo).length ≤ 60
          · simp only [hlen, hu, if_true]; rfl
          · simp only [hlen, if_false]; simp [NextR]
      · refine ev_ex_neg hc ?_
        by_cases h39 : (c.toNat : Int) = 39
        · refine ev_ex_pos h39 ?_
          rw [nextS_39 hc h39]
          exact rquote_next ha h (by omega) 60 kAtom
        · refine ev_ex_neg h39 ?_
          by_cases h34 : (c.toNat : Int) = 34
          · refine ev_ex_pos h34 ?_
            rw [nextS_34 hc h34]
            exact rquote_next ha h (by omega) 200 kText
          · refine ev_ex_neg h34 (ev_ex_bind0 (rdigit_eq _) ?_)
            have j1 := rj1_next ha h hc h39 h34
            by_cases hd : di c = true
            · have h38 := (di_up hd).2.2.2.1
              have hsplit : (c :: t).takeWhile di ++ (c :: t).dropWhile di = c :: t := List.takeWhile_append_dropWhile
              have hrun : Ev (fun k => manystrandref01_run.f k a (at_ a (c :: t)) true) (at_ a ((c :: t).dropWhile di)) := run_di_ev ha _ h
              have hlen := dropWhile_len (p := di) (c :: t)
              have e1 : at_ a (c :: t) ≤ at_ a ((c :: t).dropWhile di) := by unfold at_; omega
              have e2 : a.extract (at_ a (c :: t)).toNat (at_ a ((c :: t).dropWhile di)).toNat = ofL ((c :: t).takeWhile di) := by
                have := ex_between (a := a) (w := (c :: t).takeWhile di) (r := (c :: t).dropWhile di) (by rw [hsplit]; exact h)
                rwa [hsplit] at this
              have hf : Fits (ofL ((c :: t).takeWhile di)) := by
                have h3 := suf_len h
                unfold Fits at ha ⊢
                rw [size_ofL]; omega
              refine ev_ex_pos hd (ev_ex_bind hrun (ev_ex_pos (at_nonneg h) (ev_ex_pos e1 (ev_ex_pos (at_le a _) ?_))))
              rw [e2, nextS_di hc h39 h34 h38 hd]
              refine ev_ex_bind (isNumber_ev hf) ⟨_, ev_now rfl, ?_⟩
              rw [L_ofL, takeW_all, Bool.true_and]
              by_cases hi : intOk false ((c :: t).takeWhile di) = true
              · rw [if_pos hi, hi]; rfl
              · rw [if_neg hi]; simpa [NextR] using hi
            · refine ev_ex_neg hd ?_
              by_cases h126 : (c.toNat : Int) = 126
              · refine ev_ex_pos h126 ?_
                rw [at_succ ha h]
                cases t with
                | nil => exact ev_ex_neg (by rw [at_nil]; omega) (j1 hd false (by simp))
                | cons d t =>
                  refine ev_ex_pos (at_lt a d t) (ev_ex_pos (at_nonneg hs) ?_)
                  rw [bt_of hs]
                  refine ev_ex_bind0 (rdigit_eq _) (j1 hd _ ?_)
                  rw [decide_eq_true h126, Bool.true_and]
                  show di d = _
                  cases hx : di d with
                  | true => rw [List.takeWhile_cons_of_pos hx]; simp
                  | false => rw [List.takeWhile_cons_of_neg (by simp [hx])]; simp
              · exact ev_ex_neg h126 (j1 hd false (by rw [decide_eq_false h126]; rfl))
    by_cases hu : isUp c.toNat = true
    · refine ev_ex_pos hu ?_
      have : (up c || lo c) = true := by unfold up; rw [hu]; rfl
      rw [this] at main
      simp only [hu]
      exact main
    · refine ev_ex_neg hu (ev_ex_bind0 (small_eq _) ?_)
      have : (up c || lo c) = isLo c.toNat := by unfold up; rw [Bool.eq_false_iff.mpr hu]; rfl
      rw [this] at main
      exact main
theorem lexS_gap {t u : By} (h : gap1 t = some (some u)) : lexS t = lexS u := lexS_congr (step1_congr (skipS_some h))
theorem dropNl_rem0 : ∀ t : By, (t.dropWhile (fun c => !((c.toNat : Int) == 10)) = [] ∧ rem0 t = []) ∨ ∃ c u, t.dropWhile (fun c => !((c.toNat : Int) == 10)) = c :: u ∧ (c.toNat : Int) = 10 ∧ rem0 t = u
  | [] => .inl ⟨rfl, rfl⟩
  | c :: t => by
    by_cases hc : (c.toNat : Int) = 10
    · refine .inr ⟨c, t, ?_, hc, by rw [rem0, if_pos hc]⟩
      rw [List.dropWhile_cons_of_neg (by simp [hc])]
    · rw [List.dropWhile_cons_of_pos (by simp [beq_eq_false_iff_ne.mpr hc]), rem0, if_neg hc]
      exact dropNl_rem0 t
/-- What the reference's scan answers. -/
def ScanR (a : ByteArray) (acc : List S29) : Option By × List Tok → List S29 × Int → Prop
  | (none, ts), q => q = (acc ++ ts.map (mkT a), -1)
  | (some u, _), q => q.2 = at_ a u
theorem scan_ev {a : ByteArray} (ha : Fits a) (n : Nat) : ∀ (t : By) (acc : List S29), t.length ≤ n → t <:+ L a → acc.length + t.length ≤ 3000000000000 → ∃ q, Ev (fun k => manystrandref01_scan.l0 k a acc (at_ a t)) q ∧ ScanR a acc (lexS t) q := by
  have nil : ∀ acc : List S29, ∃ q, Ev (fun k => manystrandref01_scan.l0 k a acc (at_ a [])) q ∧ ScanR a acc (lexS []) q := by
    intro acc
    have hd : step1 [] = .done := by unfold step1; rw [skip_nil]; rfl
    rw [lexS_done hd]
    refine ev_ex_step (fun k => by rw [manystrandref01_scan.l0]) ?_
    exact ev_ex_neg (by rw [at_nil]; omega) ⟨_, ev_now rfl, by simp [ScanR]⟩
  induction n with
  | zero =>
    intro t acc ht _ _
    obtain rfl : t = [] := List.eq_nil_of_length_eq_zero (by omega)
    exact nil acc
  | succ n ih =>
    intro t acc ht h hacc
    cases t with
    | nil => exact nil acc
    | cons c t =>
      have hs := suf_tail h
      simp only [List.length_cons] at ht hacc
      refine ev_ex_step (fun k => by rw [manystrandref01_scan.l0]) ?_
      refine ev_ex_pos (at_lt a c t) (ev_ex_bind (rremark_ev ha h) ?_)
      have step : ∀ u : By, u <:+ t → ∃ q, Ev (fun k => manystrandref01_scan.l0 k a acc (at_ a u)) q ∧ ScanR a acc (lexS u) q := by
        intro u hu
        have := hu.length_le
        exact ih u acc (by omega) (hu.trans hs) (by omega)
      have goes : ∀ u : By, u <:+ t → remS (c :: t) = some u → (∃ q, Ev (fun k => manystrandref01_scan.l0 k a acc (at_ a u)) q ∧ ScanR a acc (lexS (c :: t)) q) →
          ∃ q, Ev (fun k => if posO a (remS (c :: t)) = at_ a (c :: t) then ((manystrandref01_one.f k a (at_ a (c :: t))).bind fun bt208 => (if bt208.2.2.2.2 = true then (if acc.length < 3518437208883 then (manystrandref01_scan.l0 k a (acc ++ [(⟨bt208.1, bt208.2.1, bt208.2.2.1⟩ : S29)]) bt208.2.2.2.1) else (none)) else (some (acc, at_ a (c :: t))))) else (if posO a (remS (c :: t)) < 0 then (some (acc, at_ a (c :: t))) else (manystrandref01_scan.l0 k a acc (posO a (remS (c :: t)))))) q ∧ ScanR a acc (lexS (c :: t)) q := by
        intro u hu hr he
        rw [hr]
        have h1 := hu.length_le
        have h2 := at_nonneg (hu.trans hs)
        refine ev_ex_neg ?_ (ev_ex_neg (by simp only [posO]; omega) he)
        simp only [posO, at_, List.length_cons]
        omega
      cases hb : blank c with
      | true =>
        have hr : remS (c :: t) = some t := by rw [remS, hb]; rfl
        refine goes t (List.suffix_refl _) hr ?_
        rw [lexS_gap (gap1_blank hb t)]
        exact step t (List.suffix_refl _)
      | false =>
        by_cases h37 : (c.toNat : Int) = 37
        · have hg := gap1_line hb h37 t
          have hr : remS (c :: t) = some (t.dropWhile fun c => !((c.toNat : Int) == 10)) := by
            rw [remS, hb]
            simp only [Bool.false_eq_true, if_false]
            rw [if_pos h37, List.dropWhile_cons_of_pos (by simp [h37])]
          have hdw : (t.dropWhile fun c => !((c.toNat : Int) == 10)) <:+ t := List.dropWhile_suffix _
          refine goes _ hdw hr ?_
          rw [lexS_gap hg]
          have hst := step _ hdw
          rcases dropNl_rem0 t with ⟨e1, e2⟩ | ⟨d, u, e1, e2, e3⟩
          · rw [e1] at hst ⊢
            rw [e2]
            exact hst
          · rw [e1] at hst ⊢
            rw [e3]
            have hbd : blank d = true := by unfold blank; simp [e2]
            rwa [lexS_gap (gap1_blank hbd u)] at hst
        · by_cases hp : pre2 47 42 (c :: t) = true
          · obtain ⟨d, u, rfl, hc47, hd42⟩ := (pre2_gap hb h37).1 hp
            have hg := gap1_nest hb h37 ⟨hc47, hd42⟩ u
            have hr : remS (c :: d :: u) = rem1 1 u := by
              rw [remS, hb]
              simp only [Bool.false_eq_true, if_false]
              rw [if_neg h37, if_pos hp]
              rfl
            cases hr1 : rem1 1 u with
            | none =>
              rw [hr1] at hg
              have hst : step1 (c :: d :: u) = .bad (c :: d :: u) := by unfold step1; rw [skipS_bad hg]; rfl
              rw [hr, hr1, lexS_bad hst]
              have := at_nonneg h
              exact ev_ex_neg (by simp only [posO]; omega) (ev_ex_pos (by simp [posO]) ⟨_, ev_now rfl, rfl⟩)
            | some v =>
              rw [hr1] at hg
              have hv := (rem1_suf 1 u v hr1).1
              refine goes v (hv.trans (List.suffix_cons d u)) (hr.trans hr1) ?_
              rw [lexS_gap hg]
              exact step v (hv.trans (List.suffix_cons d u))
          · have hr : remS (c :: t) = some (c :: t) := by
              rw [remS, hb]
              simp only [Bool.false_eq_true, if_false]
              rw [if_neg h37, if_neg hp]
            have hg : gap1 (c :: t) = none := by
              cases t with
              | nil => simp [gap1, hb, h37]
              | cons d u =>
                have : ¬ ((c.toNat : Int) = 47 ∧ (d.toNat : Int) = 42) := fun hh => hp ((pre2_gap hb h37).2 ⟨d, u, rfl, hh⟩)
                simp only [gap1, hb, h37, this]
                simp
            have hsk := skipS_none hg
            rw [hr]
            obtain ⟨q, hq, hqr⟩ := rone_ev ha h (by simp)
            refine ev_ex_pos rfl (ev_ex_bind hq ?_)
            cases hn : nextS (c :: t) with
            | none =>
              rw [hn] at hqr
              have hst : step1 (c :: t) = .bad (c :: t) := by
                unfold step1
                rw [hsk]
                simp only [if_true]
                rw [if_neg (by simp), hn]
              rw [lexS_bad hst]
              simp only [NextR] at hqr
              exact ev_ex_neg (by rw [hqr]; simp) ⟨_, ev_now rfl, rfl⟩
            | some kxr =>
              obtain ⟨kk, x, r⟩ := kxr
              rw [hn] at hqr
              simp only [NextR] at hqr
              subst hqr
              have hst : step1 (c :: t) = .tok kk x (c :: t) r := by
                unfold step1
                rw [hsk]
                simp only [if_true]
                rw [if_neg (by simp), hn]
              have hsf := step1_suf hst
              rw [lexS_tok hst]
              refine ev_ex_pos rfl (ev_ex_pos (by omega) ?_)
              have hrl := hsf.2.2.1
              simp only [List.length_cons] at hrl
              obtain ⟨q', h1, h2⟩ := ih r (acc ++ [mkT a (kk, x, (c :: t).length)]) (by omega) (hsf.2.1.trans h) (by simp; omega)
              refine ⟨q', h1, ?_⟩
              cases hl : (lexS r) with
              | mk o ts =>
                rw [hl] at h2
                cases o with
                | none => simpa [ScanR] using h2
                | some v => exact h2
end Go.Proofs.Ytgbielhbjgipoaa.Pure
