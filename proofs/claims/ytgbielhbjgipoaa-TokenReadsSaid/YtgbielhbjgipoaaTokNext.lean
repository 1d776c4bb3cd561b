import Derived.Test.YtgbielhbjgipoaaTokWalk
/-! The token at the head of a text, as the program reads it. -/
namespace Go.Proofs.Ytgbielhbjgipoaa.Pure
set_option linter.unusedVariables false
set_option linter.unusedSimpArgs false
open Go.RowKit Go.Proofs.YtgbielhbjgipoaaW.PrintWords Go.Proofs.YtgbielhbjgipoaaW.PrintLast Go.Proofs.YtgbielhbjgipoaaW.PrintMore Go.Proofs.Ytgbielhbjgipoaa.Q
theorem chainB {x a : By} {l : List By} {r : Option Bool} (h : r = some (decide (x ∈ l))) : (if x = a then some true else r) = some (decide (x ∈ a :: l)) := by
  by_cases e : x = a
  · simp [e]
  · simp [e, h]
theorem isKey_eq (b : ByteArray) : token_isKey.f b = some (decide (L b ∈ keys)) := by
  unfold token_isKey.f keys
  simp only [toList_L]
  repeat (refine chainB ?_)
  simp
/-- One value for each of some texts; else something else. -/
def chainE {α : Type} (x : By) (y : α) (R : Nat → Option α) : List By → Nat → Option α
  | [] => R
  | a :: l => fun k => if x = a then some y else chainE x y R l k
theorem chainE_in {α : Type} {x : By} {y : α} {R : Nat → Option α} {l : List By} (h : x ∈ l) : Ev (chainE x y R l) y := by
  induction l with
  | nil => cases h
  | cons a l ih =>
    by_cases e : x = a
    · exact ev_pos e (ev_now rfl)
    · exact ev_neg e (ih (by simpa [e] using h))
theorem chainE_out {α : Type} {x : By} {y r : α} {R : Nat → Option α} {l : List By} (h : x ∉ l) (k : Ev R r) : Ev (chainE x y R l) r := by
  induction l with
  | nil => exact k
  | cons a l ih =>
    simp only [List.mem_cons, not_or] at h
    exact ev_neg h.1 (ih h.2)
theorem signAt_ev (t : By) (ht : Fits (ofL t)) : ∀ n : Nat, n ≤ t.length → Ev (fun k => token_signAt.l0 k (ofL t) n) (ofL (t.take (signN n t)))
  | 0, _ => by
    refine Ev.step (fun k => by rw [token_signAt.l0]) ?_
    exact ev_neg (by omega) (ev_now rfl)
  | n + 1, hn => by
    refine Ev.step (fun k => by rw [token_signAt.l0]) ?_
    refine ev_pos (by omega) (ev_pos (by omega) (ev_pos (by rw [size_ofL]; omega) ?_))
    have e1 : ((n + 1 : Nat) : Int).toNat = n + 1 := by omega
    have e2 : (ofL t).extract 0 (n + 1) = ofL (t.take (n + 1)) := by
      apply L_inj
      rw [L_extract, L_ofL, L_ofL]
      simp
    have e3 : wrap64 (((n + 1 : Nat) : Int) - 1) = (n : Int) := by
      have := ht
      unfold Fits at this
      rw [size_ofL] at this
      unfold wrap64; omega
    simp only [e1, e2, e3, toList_L, L_ofL]
    rw [signN]
    by_cases h : t.take (n + 1) ∈ signs
    · rw [if_pos ⟨hn, h⟩]
      exact chainE_in (R := fun k => token_signAt.l0 k (ofL t) n) (l := signs) h
    · rw [if_neg (fun hh => h hh.2)]
      exact chainE_out (R := fun k => token_signAt.l0 k (ofL t) n) (l := signs) h (signAt_ev t ht n (by omega))
theorem signN_min (t : By) (n : Nat) : signN n t = signN (min n t.length) t := by
  induction n with
  | zero => simp
  | succ n ih =>
    by_cases h : n + 1 ≤ t.length
    · rw [Nat.min_eq_left h]
    · rw [signN, if_neg (fun hh => h hh.1), ih]
      congr 1
      omega
theorem signAt_ev' (t : By) (ht : Fits (ofL t)) : Ev (fun k => token_signAt.f k (ofL t)) (ofL (t.take (signN 3 t))) := by
  unfold token_signAt.f
  have e : mn 3 ((ofL t).size : Int) = ((min 3 t.length : Nat) : Int) := by
    rw [size_ofL]; unfold mn; split <;> omega
  rw [e, signN_min t 3]
  exact signAt_ev t ht _ (by omega)
/-- What a number's reader answers where the digits end. -/
def numE (a : ByteArray) (x6 x7 x1 : Int) : Option (Int × Bool) :=
  if (wrap64 (x1 - x7)) ≥ 1 then (if (wrap64 (x1 - x7)) ≤ 18 then (if 0 ≤ x7 then (if x7 < (a.size : Int) then (if (bt a x7) = 48 then (if (wrap64 (x1 - x7)) = 1 then (some (x1, (x6 == x7))) else (some (x1, false))) else (some (x1, true))) else (none)) else (none)) else (some (x1, false))) else (some (x1, false))
theorem digits_ev {a : ByteArray} (ha : Fits a) (x6 x7 : Int) (r : Int × Bool) : ∀ u, u <:+ L a → numE a x6 x7 (at_ a (u.dropWhile di)) = some r → Ev (fun k => token_number.l0 k a (at_ a u) x6 x7) r
  | [], _, hr => by
    refine Ev.step (fun k => by rw [token_number.l0]) ?_
    exact ev_neg (by rw [at_nil]; omega) (ev_const hr)
  | c :: u, h, hr => by
    refine Ev.step (fun k => by rw [token_number.l0]) ?_
    refine ev_pos (at_lt a c u) (ev_pos (at_nonneg h) ?_)
    rw [bt_of h]
    refine ev_bind0 (digit_eq _) ?_
    by_cases hd : di c = true
    · refine ev_pos hd ?_
      rw [at_succ ha h]
      rw [List.dropWhile_cons_of_pos hd] at hr
      exact digits_ev ha x6 x7 r u (suf_tail h) hr
    · refine ev_neg hd (ev_const ?_)
      rw [List.dropWhile_cons_of_neg hd] at hr
      exact hr
theorem numE_eq {a : ByteArray} (ha : Fits a) (x6 : Int) {ds rest : By} (h : ds ++ rest <:+ L a) : numE a x6 (at_ a (ds ++ rest)) (at_ a rest) = some (at_ a rest, intOk (!(x6 == at_ a (ds ++ rest))) ds) := by
  have e : wrap64 (at_ a rest - at_ a (ds ++ rest)) = ds.length := by
    have h1 := suf_len h
    unfold Fits at ha
    simp only [List.length_append] at h1
    unfold at_ wrap64
    simp only [List.length_append]
    omega
  unfold numE intOk
  rw [e]
  cases ds with
  | nil => simp
  | cons c ds =>
    rw [if_pos (by simp; omega)]
    simp only [List.cons_append] at *
    by_cases hl : (c :: ds).length ≤ 18
    · rw [if_pos (by omega), if_pos (at_nonneg h), if_pos (at_lt a _ _), bt_of h]
      by_cases h48 : (c.toNat : Int) = 48
      · rw [if_pos h48]
        simp only [h48, if_true]
        by_cases h1 : (c :: ds).length = 1
        · rw [if_pos (by omega)]
          simp [h1]
        · rw [if_neg (by omega)]
          have : ((c :: ds).length == 1) = false := beq_eq_false_iff_ne.mpr h1
          simp only [this, Bool.false_and, Bool.and_false]
      · rw [if_neg h48]
        simp only [h48, if_false, Bool.and_true, Option.some.injEq, Prod.mk.injEq, true_and]
        simp only [List.length_cons] at hl
        simp [hl]
    · rw [if_neg (by omega)]
      have : decide ((c :: ds).length ≤ 18) = false := decide_eq_false hl
      simp only [this, Bool.false_and, Bool.and_false]
theorem quoted_ev {a : ByteArray} (ha : Fits a) (q : UInt8) (most : Int) : ∀ (t : By) (acc : By), t <:+ L a → acc.length + t.length ≤ a.size →
    (∀ w r, quotedS q t = some (w, r) → Ev (fun k => token_quoted.l0 k a (at_ a t) most q.toNat (acc.map fun c => (c.toNat : Int))) (ofL (acc ++ w), at_ a r, decide (((acc ++ w).length : Int) ≤ most))) ∧
    (quotedS q t = none → ∃ x p, Ev (fun k => token_quoted.l0 k a (at_ a t) most q.toNat (acc.map fun c => (c.toNat : Int))) (x, p, false))
  | [], acc, _, _ => by
    refine ⟨fun w r h => by simp [quotedS] at h, fun _ => ⟨⟨#[]⟩, 0, ?_⟩⟩
    refine Ev.step (fun k => by rw [token_quoted.l0]) ?_
    exact ev_neg (by rw [at_nil]; omega) (ev_now rfl)
  | c :: t, acc, h, hl => by
    have h1 := suf_tail h
    simp only [List.length_cons] at hl
    have hq : ((c.toNat : Int) = (q.toNat : Int)) ↔ c = q := by rw [Int.ofNat_inj, UInt8.toNat_inj]
    have hfull : (acc.map fun c => (c.toNat : Int)).length < 140737488355328 := by rw [List.length_map]; unfold Fits at ha; omega
    by_cases hcq : c = q
    · have ho : quotedS q (c :: t) = some ([], t) := by
        cases t <;> simp [quotedS, hcq]
      refine ⟨fun w r hh => ?_, fun hh => by rw [ho] at hh; cases hh⟩
      rw [ho] at hh
      simp only [Option.some.injEq, Prod.mk.injEq] at hh
      obtain ⟨rfl, rfl⟩ := hh
      refine Ev.step (fun k => by rw [token_quoted.l0]) ?_
      refine ev_pos (at_lt a c t) (ev_pos (at_nonneg h) ?_)
      rw [bt_of h, at_succ ha h]
      refine ev_pos (hq.2 hcq) (ev_now ?_)
      rw [strOf]
      simp
    · by_cases h92 : (c.toNat : Int) = 92
      · cases t with
        | nil =>
          refine ⟨fun w r hh => by simp [quotedS, hcq] at hh, fun _ => ⟨⟨#[]⟩, 0, ?_⟩⟩
          refine Ev.step (fun k => by rw [token_quoted.l0]) ?_
          refine ev_pos (at_lt a c _) (ev_pos (at_nonneg h) ?_)
          rw [bt_of h, at_succ ha h]
          exact ev_neg (fun e => hcq (hq.1 e)) (ev_pos h92 (ev_pos (at_nil a) (ev_now rfl)))
        | cons d t =>
          have h2 := suf_tail h1
          simp only [List.length_cons] at hl
          have hdq : ((d.toNat : Int) = (q.toNat : Int)) ↔ d = q := by rw [Int.ofNat_inj, UInt8.toNat_inj]
          have go : ∀ r, Ev (fun k => token_quoted.j1 k a (at_ a (d :: t)) most q.toNat (acc.map fun c => (c.toNat : Int)) d.toNat (decide (d = q ∨ (d.toNat : Int) = 92))) r →
              Ev (fun k => token_quoted.l0 k a (at_ a (c :: d :: t)) most q.toNat (acc.map fun c => (c.toNat : Int))) r := by
            intro r hr
            refine Ev.step (fun k => by rw [token_quoted.l0]) ?_
            refine ev_pos (at_lt a c _) (ev_pos (at_nonneg h) ?_)
            rw [bt_of h, at_succ ha h, bt_of h1]
            refine ev_neg (fun e => hcq (hq.1 e)) (ev_pos h92 (ev_neg (by have := at_lt a d t; omega) (ev_pos (at_nonneg h1) (ev_pos (at_lt a d t) ?_))))
            by_cases hd : d = q
            · refine ev_pos (hdq.2 hd) ?_
              have : ((d.toNat : Int) == (q.toNat : Int)) = decide (d = q ∨ (d.toNat : Int) = 92) := by simp [hd]
              rw [this]; exact hr
            · refine ev_neg (fun e => hd (hdq.1 e)) ?_
              have : ((d.toNat : Int) == 92) = decide (d = q ∨ (d.toNat : Int) = 92) := by
                simp only [hd, false_or]
                rfl
              rw [this]; exact hr
          have ho : quotedS q (c :: d :: t) = if d = q ∨ (d.toNat : Int) = 92 then (quotedS q t).map (fun r => (d :: r.1, r.2)) else if (d.toNat : Int) = 110 then (quotedS q t).map (fun r => (10 :: r.1, r.2)) else none := by
            rw [quotedS, if_neg hcq, if_pos h92]
          rw [ho]
          by_cases he : d = q ∨ (d.toNat : Int) = 92
          · rw [if_pos he]
            obtain ⟨i1, i2⟩ := quoted_ev ha q most t (acc ++ [d]) h2 (by simp; omega)
            simp only [List.map_append, List.map_cons, List.map_nil, List.append_assoc, List.cons_append, List.nil_append] at i1 i2
            have nx : ∀ r, Ev (fun k => token_quoted.l0 k a (at_ a t) most q.toNat ((acc.map fun c => (c.toNat : Int)) ++ [(d.toNat : Int)])) r → Ev (fun k => token_quoted.l0 k a (at_ a (c :: d :: t)) most q.toNat (acc.map fun c => (c.toNat : Int))) r := by
              intro r hr
              refine go r (Ev.step (fun k => by rw [token_quoted.j1]) ?_)
              refine ev_pos (decide_eq_true he) (ev_pos (at_nonneg h1) (ev_pos (at_lt a d t) (ev_pos hfull ?_)))
              rw [bt_of h1, at_succ ha h1]
              exact hr
            refine ⟨fun w r hh => ?_, fun hh => ?_⟩
            · obtain ⟨⟨w', r'⟩, e1, e2⟩ := Option.map_eq_some_iff.1 hh
              simp only [Prod.mk.injEq] at e2
              obtain ⟨rfl, rfl⟩ := e2
              exact nx _ (i1 w' r' e1)
            · obtain ⟨x, p, hx⟩ := i2 (by simpa using hh)
              exact ⟨x, p, nx _ hx⟩
          · rw [if_neg he]
            by_cases h110 : (d.toNat : Int) = 110
            · rw [if_pos h110]
              obtain ⟨i1, i2⟩ := quoted_ev ha q most t (acc ++ [10]) h2 (by simp; omega)
              simp only [List.map_append, List.map_cons, List.map_nil, List.append_assoc, List.cons_append, List.nil_append] at i1 i2
              have nx : ∀ r, Ev (fun k => token_quoted.l0 k a (at_ a t) most q.toNat ((acc.map fun c => (c.toNat : Int)) ++ [10])) r → Ev (fun k => token_quoted.l0 k a (at_ a (c :: d :: t)) most q.toNat (acc.map fun c => (c.toNat : Int))) r := by
                intro r hr
                refine go r (Ev.step (fun k => by rw [token_quoted.j1]) ?_)
                refine ev_neg (by simpa using he) (ev_pos h110 (ev_pos hfull ?_))
                rw [at_succ ha h1]
                exact hr
              refine ⟨fun w r hh => ?_, fun hh => ?_⟩
              · obtain ⟨⟨w', r'⟩, e1, e2⟩ := Option.map_eq_some_iff.1 hh
                simp only [Prod.mk.injEq] at e2
                obtain ⟨rfl, rfl⟩ := e2
                exact nx _ (i1 w' r' e1)
              · obtain ⟨x, p, hx⟩ := i2 (by simpa using hh)
                exact ⟨x, p, nx _ hx⟩
            · rw [if_neg h110]
              refine ⟨fun w r hh => (by cases hh), fun _ => ⟨⟨#[]⟩, 0, go _ (Ev.step (fun k => by rw [token_quoted.j1]) ?_)⟩⟩
              exact ev_neg (by simpa using he) (ev_neg h110 (ev_now rfl))
      · by_cases hr : (c.toNat : Int) < 32 ∨ (c.toNat : Int) > 126
        · have ho : quotedS q (c :: t) = none := by
            cases t with
            | nil => simp [quotedS, hcq]
            | cons d t => rw [quotedS, if_neg hcq, if_neg h92, if_pos hr]
          rw [ho]
          refine ⟨fun w r hh => (by cases hh), fun _ => ⟨⟨#[]⟩, 0, ?_⟩⟩
          refine Ev.step (fun k => by rw [token_quoted.l0]) ?_
          refine ev_pos (at_lt a c _) (ev_pos (at_nonneg h) ?_)
          rw [bt_of h]
          refine ev_neg (fun e => hcq (hq.1 e)) (ev_neg h92 ?_)
          by_cases h32 : (c.toNat : Int) < 32
          · exact ev_pos h32 (ev_now rfl)
          · exact ev_neg h32 (ev_pos (by omega) (ev_now rfl))
        · have ho : quotedS q (c :: t) = (quotedS q t).map (fun r => (c :: r.1, r.2)) := by
            cases t with
            | nil => simp [quotedS, hcq]
            | cons d t => rw [quotedS, if_neg hcq, if_neg h92, if_neg hr]
          rw [ho]
          obtain ⟨i1, i2⟩ := quoted_ev ha q most t (acc ++ [c]) h1 (by simp; omega)
          simp only [List.map_append, List.map_cons, List.map_nil, List.append_assoc, List.cons_append, List.nil_append] at i1 i2
          have nx : ∀ r, Ev (fun k => token_quoted.l0 k a (at_ a t) most q.toNat ((acc.map fun c => (c.toNat : Int)) ++ [(c.toNat : Int)])) r → Ev (fun k => token_quoted.l0 k a (at_ a (c :: t)) most q.toNat (acc.map fun c => (c.toNat : Int))) r := by
            intro r hr'
            refine Ev.step (fun k => by rw [token_quoted.l0]) ?_
            refine ev_pos (at_lt a c _) (ev_pos (at_nonneg h) ?_)
            rw [bt_of h, at_succ ha h]
            exact ev_neg (fun e => hcq (hq.1 e)) (ev_neg h92 (ev_neg (by omega) (ev_neg (by omega) (ev_pos hfull hr'))))
          refine ⟨fun w r hh => ?_, fun hh => ?_⟩
          · obtain ⟨⟨w', r'⟩, e1, e2⟩ := Option.map_eq_some_iff.1 hh
            simp only [Prod.mk.injEq] at e2
            obtain ⟨rfl, rfl⟩ := e2
            exact nx _ (i1 w' r' e1)
          · obtain ⟨x, p, hx⟩ := i2 (by simpa using hh)
            exact ⟨x, p, nx _ hx⟩
end Go.Proofs.Ytgbielhbjgipoaa.Pure
