import Derived.Test.YtgbielhbjgipoaaTokRef
import Derived.Test.YtgbielhbjgipoaaTokRead
import Derived.Test.YtgbielhbjgipoaaQ20
/-! The reference's reader of one token, against the specification: its parts. -/
namespace Go.Proofs.Ytgbielhbjgipoaa.Pure
set_option linter.unusedVariables false
set_option linter.unusedSimpArgs false
open Go.RowKit Go.Proofs.YtgbielhbjgipoaaW.PrintWords Go.Proofs.YtgbielhbjgipoaaW.PrintLast Go.Proofs.YtgbielhbjgipoaaW.PrintMore Go.Proofs.Ytgbielhbjgipoaa.Q
theorem keys_pieces : pieces [32, 97, 110, 100, 116, 104, 101, 110, 32, 97, 116, 32, 98, 121, 32, 99, 97, 115, 101, 32, 99, 97, 116, 99, 104, 32, 99, 104, 111, 105, 99, 101, 32, 100, 105, 118, 32, 100, 111, 32, 101, 97, 99, 104, 32, 101, 108, 115, 101, 32, 101, 110, 100, 32, 102, 111, 114, 32, 102, 117, 110, 32, 105, 102, 32, 105, 110, 32, 108, 97, 122, 121, 32, 108, 111, 99, 97, 108, 32, 108, 111, 99, 107, 32, 109, 111, 100, 32, 111, 114, 101, 108, 115, 101, 32, 112, 114, 111, 99, 32, 114, 97, 105, 115, 101, 32, 115, 107, 105, 112, 32, 116, 104, 101, 110, 32, 116, 104, 114, 101, 97, 100, 32, 116, 114, 121, 32, 111, 102, 32] = keys := by
  decide +kernel
theorem signs_pieces : pieces [32, 40, 32, 41, 32, 123, 32, 125, 32, 91, 32, 93, 32, 91, 93, 32, 46, 32, 124, 32, 35, 32, 61, 32, 92, 61, 32, 61, 61, 32, 60, 32, 61, 60, 32, 62, 32, 62, 61, 32, 43, 32, 45, 32, 42, 32, 126, 32, 58, 61, 32, 64, 32, 33, 33, 32, 58, 32, 46, 46, 46, 32, 36, 32, 95, 32] = signs := by
  decide +kernel
theorem keys_sp : ∀ w ∈ keys, w ≠ [] ∧ ∀ c ∈ w, sp c = true := by decide +kernel
theorem signs_sp : ∀ w ∈ signs, w ≠ [] ∧ ∀ c ∈ w, sp c = true := by decide +kernel
theorem risKey_ev {s : ByteArray} (hs : Fits s) : Ev (fun k => manystrandref01_IsKey.f k s) (decide (L s ∈ keys)) := by
  unfold manystrandref01_IsKey.f
  exact Ev.bind (among_ev hs (by decide +kernel) keys keys_pieces keys_sp) (ev_now rfl)
theorem risSign_ev {s : ByteArray} (hs : Fits s) : Ev (fun k => manystrandref01_IsSign.f k s) (decide (L s ∈ signs)) := by
  unfold manystrandref01_IsSign.f
  exact Ev.bind (among_ev hs (by decide +kernel) signs signs_pieces signs_sp) (ev_now rfl)
theorem isNumber0_ev {b : ByteArray} (hb : Fits b) : ∀ t, t <:+ L b → Ev (fun k => manystrandref01_IsNumber.l0 k b (at_ b t)) (t.all di && intOk false (L b))
  | [], h => by
    refine Ev.step (fun k => by rw [manystrandref01_IsNumber.l0]) ?_
    rw [at_nil, List.all_nil, Bool.true_and, toList_L]
    refine ev_neg (by omega) ?_
    by_cases hn : L b = []
    · exact ev_pos hn (ev_now (by rw [hn]; rfl))
    · refine ev_neg hn ?_
      have hl := L_length b
      cases hx : L b with
      | nil => exact absurd hx hn
      | cons c ds =>
        rw [hx] at hl
        have h0 : bt b 0 = (c.toNat : Int) := by
          have := bt_of (a := b) (c := c) (t := ds) (by rw [hx]; exact List.suffix_refl _)
          rw [← hx, at_all] at this
          exact this
        simp only [List.length_cons] at hl
        unfold intOk
        by_cases h18 : (b.size : Int) ≤ 18
        · refine ev_pos h18 (ev_pos (by omega) ?_)
          rw [h0]
          have e1 : decide (1 ≤ (c :: ds).length) = true := decide_eq_true (by simp)
          have e2 : decide ((c :: ds).length ≤ 18) = true := decide_eq_true (by simp; omega)
          rw [e1, e2]
          by_cases h48 : (c.toNat : Int) = 48
          · refine ev_pos h48 (ev_now ?_)
            simp only [h48, if_true, Bool.true_and, Bool.not_false, Bool.and_true]
            rw [Bool.eq_iff_iff, beq_iff_eq, beq_iff_eq, List.length_cons]
            omega
          · refine ev_neg h48 (ev_now ?_)
            simp [h48]
        · refine ev_neg h18 (ev_now ?_)
          have e2 : decide ((c :: ds).length ≤ 18) = false := decide_eq_false (by simp; omega)
          rw [e2]
          simp
  | c :: t, h => by
    refine Ev.step (fun k => by rw [manystrandref01_IsNumber.l0]) ?_
    refine ev_pos (at_lt b c t) (ev_pos (at_nonneg h) ?_)
    rw [bt_of h, at_succ hb h]
    refine ev_bind0 (rdigit_eq _) ?_
    rw [List.all_cons]
    cases hd : di c with
    | true =>
      refine ev_pos hd ?_
      rw [Bool.true_and]
      exact isNumber0_ev hb t (suf_tail h)
    | false => exact ev_neg (by show ¬ di c = true; rw [hd]; simp) (ev_now rfl)
theorem isNumber_ev {b : ByteArray} (hb : Fits b) : Ev (fun k => manystrandref01_IsNumber.f k b) ((L b).all di && intOk false (L b)) := by
  unfold manystrandref01_IsNumber.f
  have h := isNumber0_ev hb (L b) (List.suffix_refl _)
  rw [at_all] at h
  exact h
def numS (s : By) : Bool := s.all di && intOk false s
/-- Is a text that of an int? -/
def intS (s : By) : Bool := match s with
  | c :: ds => if (c.toNat : Int) = 126 then (if c :: ds = [126, 48] then false else numS ds) else numS s
  | [] => numS []
theorem isInt_ev {b : ByteArray} (hb : Fits b) : Ev (fun k => manystrandref01_IsInt.f k b) (intS (L b)) := by
  unfold manystrandref01_IsInt.f
  have j : Ev (fun k => manystrandref01_IsInt.j0 k b false) (numS (L b)) := by
    refine Ev.step (fun k => by rw [manystrandref01_IsInt.j0]) ?_
    exact ev_neg (by simp) (Ev.bind (isNumber_ev hb) (ev_now rfl))
  rw [toList_L]
  by_cases hn : L b = []
  · refine ev_pos hn ?_
    rw [hn] at j ⊢
    exact j
  · refine ev_neg hn ?_
    have hl := L_length b
    cases hx : L b with
    | nil => exact absurd hx hn
    | cons c ds =>
      rw [hx] at hl j
      simp only [List.length_cons] at hl
      have hsuf : c :: ds <:+ L b := by rw [hx]; exact List.suffix_refl _
      have h0 : bt b 0 = (c.toNat : Int) := by
        have := bt_of hsuf
        rw [← hx, at_all] at this
        exact this
      refine ev_pos (by omega) ?_
      rw [h0, intS]
      by_cases h126 : (c.toNat : Int) = 126
      · rw [if_pos h126]
        simp only [h126]
        refine Ev.step (fun k => by rw [manystrandref01_IsInt.j0]) ?_
        refine ev_pos rfl ?_
        rw [toList_L, hx]
        by_cases h48 : c :: ds = [126, 48]
        · rw [if_pos h48]
          exact ev_pos h48 (ev_now rfl)
        · rw [if_neg h48]
          refine ev_neg h48 (ev_pos (by omega) ?_)
          have ha : at_ b ds = 1 := by unfold at_; omega
          have he : b.extract 1 b.size = ofL ds := by
            have := ex_rest (a := b) (t := ds) (suf_tail hsuf)
            rwa [ha] at this
          rw [he]
          have := isNumber_ev (b := ofL ds) (by unfold Fits at hb ⊢; rw [size_ofL]; omega)
          rw [L_ofL] at this
          exact Ev.bind this (ev_now rfl)
      · rw [if_neg h126, beq_eq_false_iff_ne.mpr h126]
        exact j
theorem run_di_ev {a : ByteArray} (ha : Fits a) : ∀ u, u <:+ L a → Ev (fun k => manystrandref01_run.l0 k a (at_ a u) true) (at_ a (u.dropWhile di))
  | [], _ => by
    refine Ev.step (fun k => by rw [manystrandref01_run.l0]) ?_
    exact ev_neg (by rw [at_nil]; omega) (ev_now rfl)
  | c :: u, h => by
    refine Ev.step (fun k => by rw [manystrandref01_run.l0]) ?_
    refine ev_pos (at_lt a c u) (ev_pos (at_nonneg h) ?_)
    rw [bt_of h, at_succ ha h]
    refine ev_bind0 (rdigit_eq _) ?_
    cases hd : di c with
    | true =>
      refine ev_pos hd ?_
      rw [List.dropWhile_cons_of_pos hd]
      exact run_di_ev ha u (suf_tail h)
    | false =>
      rw [List.dropWhile_cons_of_neg (by simp [hd])]
      exact ev_neg (by show ¬ di c = true; rw [hd]; simp) (ev_pos rfl (ev_now rfl))
theorem di_wo {c : UInt8} (h : di c = true) : wo c = true := by
  unfold di at h
  unfold wo isWo
  rw [h]; simp
theorem run_wo_ev {a : ByteArray} (ha : Fits a) : ∀ u, u <:+ L a → Ev (fun k => manystrandref01_run.l0 k a (at_ a u) false) (at_ a (u.dropWhile wo))
  | [], _ => by
    refine Ev.step (fun k => by rw [manystrandref01_run.l0]) ?_
    exact ev_neg (by rw [at_nil]; omega) (ev_now rfl)
  | c :: u, h => by
    have ih := run_wo_ev ha u (suf_tail h)
    refine Ev.step (fun k => by rw [manystrandref01_run.l0]) ?_
    refine ev_pos (at_lt a c u) (ev_pos (at_nonneg h) ?_)
    rw [bt_of h, at_succ ha h]
    refine ev_bind0 (rdigit_eq _) ?_
    cases hd : di c with
    | true =>
      refine ev_pos hd ?_
      rw [List.dropWhile_cons_of_pos (di_wo hd)]
      exact ih
    | false =>
      refine ev_neg (by show ¬ di c = true; rw [hd]; simp) (ev_neg (by simp) (ev_bind0 (inner_eq _) ?_))
      cases hw : wo c with
      | true =>
        refine ev_pos hw ?_
        rw [List.dropWhile_cons_of_pos hw]
        exact ih
      | false =>
        rw [List.dropWhile_cons_of_neg (by simp [hw])]
        exact ev_neg (by show ¬ wo c = true; rw [hw]; simp) (ev_now rfl)
theorem begins_eq {a : ByteArray} (ha : Fits a) (x y : UInt8) : ∀ t, t <:+ L a → manystrandref01_begins.f a (at_ a t) (⟨#[x, y]⟩ : ByteArray) = some (pre2 x.toNat y.toNat t) := by
  intro t h
  have hb : (⟨#[x, y]⟩ : ByteArray).size = 2 := rfl
  have hl : L (⟨#[x, y]⟩ : ByteArray) = [x, y] := rfl
  have h0 := at_nonneg h
  have hle := at_le a t
  have hlen := suf_len h
  have ha' := ha
  unfold Fits at ha'
  unfold manystrandref01_begins.f
  have e1 : wrap64 ((a.size : Int) - at_ a t) = t.length := by unfold at_ wrap64; omega
  have e2 : wrap64 (at_ a t + (2 : Nat)) = at_ a t + 2 := by unfold wrap64; omega
  rw [hb, e1, e2]
  match t, h with
  | [], _ => simp [pre2]
  | [c], _ => simp [pre2]
  | c :: d :: t, h =>
    have e3 : at_ a (c :: d :: t) + 2 ≤ (a.size : Int) := by unfold at_; simp; omega
    rw [if_pos (by simp; omega), if_pos h0, if_pos (by omega), if_pos e3, toList_L, toList_L, L_extract, suf_eq h, hl]
    have e4 : (at_ a (c :: d :: t) + 2).toNat - (at_ a (c :: d :: t)).toNat = 2 := by omega
    rw [e4]
    simp only [pre2, Option.some.injEq]
    rw [Bool.eq_iff_iff]
    simp [Int.ofNat_inj, UInt8.toNat_inj]
theorem rrem0_ev {a : ByteArray} (ha : Fits a) : ∀ t, t <:+ L a → Ev (fun k => manystrandref01_remark.l0 k a (at_ a t)) (at_ a (t.dropWhile fun c => !((c.toNat : Int) == 10)))
  | [], _ => by
    refine Ev.step (fun k => by rw [manystrandref01_remark.l0]) ?_
    exact ev_neg (by rw [at_nil]; omega) (ev_now rfl)
  | c :: t, h => by
    refine Ev.step (fun k => by rw [manystrandref01_remark.l0]) ?_
    refine ev_pos (at_lt a c t) (ev_pos (at_nonneg h) ?_)
    rw [bt_of h, at_succ ha h]
    by_cases hc : (c.toNat : Int) = 10
    · refine ev_pos hc (ev_now ?_)
      rw [List.dropWhile_cons_of_neg (by simp [hc])]
    · refine ev_neg hc ?_
      rw [List.dropWhile_cons_of_pos (by simp [beq_eq_false_iff_ne.mpr hc])]
      exact rrem0_ev ha t (suf_tail h)
theorem rrem1_ev {a : ByteArray} (ha : Fits a) : ∀ (d : Int) (t : By), t <:+ L a → 1 ≤ d → d + t.length ≤ 281474976710656 → Ev (fun k => manystrandref01_remark.l1 k a d (at_ a t)) (posO a (rem1 d t))
  | d, [], _, _, _ => by
    refine Ev.step (fun k => by rw [manystrandref01_remark.l1]) ?_
    rw [at_nil]
    exact ev_neg (by omega) (ev_now rfl)
  | d, [c], h, hd, hb => by
    refine Ev.step (fun k => by rw [manystrandref01_remark.l1]) ?_
    refine ev_pos (at_lt a c []) ?_
    refine ev_bind0 (begins_eq ha _ _ _ h) (ev_neg (by simp [pre2]) (ev_bind0 (begins_eq ha _ _ _ h) (ev_neg (by simp [pre2]) ?_)))
    rw [at_succ ha h]
    refine Ev.step (fun k => by rw [manystrandref01_remark.l1]) ?_
    rw [at_nil]
    exact ev_neg (by omega) (ev_now rfl)
  | d, x :: y :: t, h, hd, hb => by
    have h1 := suf_tail h
    have h2 := suf_tail h1
    simp only [List.length_cons] at hb
    refine Ev.step (fun k => by rw [manystrandref01_remark.l1]) ?_
    refine ev_pos (at_lt a _ _) ?_
    refine ev_bind0 (begins_eq ha _ _ _ h) ?_
    rw [at_succ ha h, at_succ ha h1, rem1]
    by_cases c1 : (x.toNat : Int) = 47 ∧ (y.toNat : Int) = 42
    · rw [if_pos c1]
      refine ev_pos (by simpa [pre2] using c1) ?_
      have e : wrap64 (d + 1) = d + 1 := by unfold wrap64; omega
      rw [e]
      exact rrem1_ev ha (d + 1) t h2 (by omega) (by omega)
    · rw [if_neg c1]
      refine ev_neg (by simpa [pre2] using c1) (ev_bind0 (begins_eq ha _ _ _ h) ?_)
      have e : wrap64 (d - 1) = d - 1 := by unfold wrap64; omega
      rw [e]
      by_cases c2 : (x.toNat : Int) = 42 ∧ (y.toNat : Int) = 47
      · rw [if_pos c2]
        refine ev_pos (by simpa [pre2] using c2) ?_
        by_cases c3 : d = 1
        · rw [if_pos c3]
          exact ev_pos (by omega) (ev_now rfl)
        · rw [if_neg c3]
          exact ev_neg (by omega) (rrem1_ev ha (d - 1) t h2 (by omega) (by omega))
      · rw [if_neg c2]
        exact ev_neg (by simpa [pre2] using c2) (rrem1_ev ha d (y :: t) h1 hd (by simp; omega))
/-- Behind what the reference takes for a blank or a remark; none: it does not end. -/
def remS : By → Option By
  | [] => some []
  | c :: t => if blank c then some t else if (c.toNat : Int) = 37 then some ((c :: t).dropWhile fun c => !((c.toNat : Int) == 10))
      else if pre2 47 42 (c :: t) then rem1 1 (t.drop 1) else some (c :: t)
theorem rremark_ev {a : ByteArray} (ha : Fits a) {c : UInt8} {t : By} (h : c :: t <:+ L a) : Ev (fun k => manystrandref01_remark.f k a (at_ a (c :: t))) (posO a (remS (c :: t))) := by
  unfold manystrandref01_remark.f
  refine ev_pos (at_nonneg h) (ev_pos (at_lt a c t) ?_)
  rw [bt_of h]
  have main : Ev (fun k => manystrandref01_remark.j0 k a (at_ a (c :: t)) c.toNat (blank c)) (posO a (remS (c :: t))) := by
    refine Ev.step (fun k => by rw [manystrandref01_remark.j0]) ?_
    rw [remS]
    cases hb : blank c with
    | true =>
      refine ev_pos rfl (ev_now ?_)
      rw [at_succ ha h]
      rfl
    | false =>
      refine ev_neg (by simp) ?_
      simp only [Bool.false_eq_true, if_false]
      by_cases h37 : (c.toNat : Int) = 37
      · rw [if_pos h37]
        exact ev_pos h37 (rrem0_ev ha _ h)
      · rw [if_neg h37]
        refine ev_neg h37 (ev_bind0 (begins_eq ha _ _ _ h) ?_)
        by_cases hp : pre2 47 42 (c :: t) = true
        · rw [if_pos hp]
          refine ev_pos hp ?_
          obtain ⟨d, u, rfl, _, _⟩ := (pre2_gap hb h37).1 hp
          rw [at_succ2 ha h]
          have hl := suf_len h
          unfold Fits at ha
          simp only [List.length_cons] at hl
          exact rrem1_ev ha 1 u (suf_tail (suf_tail h)) (by omega) (by omega)
        · rw [if_neg hp]
          exact ev_neg hp (ev_now rfl)
  refine Ev.congr (f := fun k => manystrandref01_remark.j0 k a (at_ a (c :: t)) c.toNat (blank c)) (fun k => ?_) main
  unfold blank
  by_cases b1 : (c.toNat : Int) = 32
  · simp [b1]
  · by_cases b2 : (c.toNat : Int) = 9
    · simp [b2]
    · by_cases b3 : (c.toNat : Int) = 10
      · simp [b3]
      · rw [if_neg b1, if_neg b2, if_neg b3, beq_eq_false_iff_ne.mpr b1, beq_eq_false_iff_ne.mpr b2, beq_eq_false_iff_ne.mpr b3]
        rfl
end Go.Proofs.Ytgbielhbjgipoaa.Pure
