import Derived.Test.YtgbielhbjgipoaaEvBase
/-! The tokens of a text, said over lists of bytes: what is left to read stands for a place. -/
namespace Go.Proofs.Ytgbielhbjgipoaa.Pure
set_option linter.unusedVariables false
set_option linter.unusedSimpArgs false
open Go.RowKit Go.Proofs.YtgbielhbjgipoaaW.PrintWords Go.Proofs.YtgbielhbjgipoaaW.PrintLast Go.Proofs.YtgbielhbjgipoaaW.PrintMore
def isUp (x : Int) : Bool := decide (65 ≤ x) && decide (x ≤ 90)
def isLo (x : Int) : Bool := decide (97 ≤ x) && decide (x ≤ 122)
def isDi (x : Int) : Bool := decide (48 ≤ x) && decide (x ≤ 57)
def isWo (x : Int) : Bool := isUp x || isLo x || isDi x || (x == 95)
def up (c : UInt8) : Bool := isUp c.toNat
def lo (c : UInt8) : Bool := isLo c.toNat
def di (c : UInt8) : Bool := isDi c.toNat
def wo (c : UInt8) : Bool := isWo c.toNat
/-- Behind a remark up to the line's end. -/
def rem0 : By → By
  | [] => []
  | c :: t => if (c.toNat : Int) = 10 then t else rem0 t
/-- Behind a remark that nests, d deep. -/
def rem1 : Int → By → Option By
  | _, [] => none
  | _, [_] => none
  | d, a :: b :: t => if (a.toNat : Int) = 47 ∧ (b.toNat : Int) = 42 then rem1 (d + 1) t
      else if (a.toNat : Int) = 42 ∧ (b.toNat : Int) = 47 then (if d = 1 then some t else rem1 (d - 1) t)
      else rem1 d (b :: t)
theorem rem0_len (t : By) : (rem0 t).length ≤ t.length := by
  induction t with
  | nil => simp [rem0]
  | cons c t ih => simp only [rem0]; split <;> simp <;> omega
theorem rem0_suf (t : By) : rem0 t <:+ t := by
  induction t with
  | nil => simp [rem0]
  | cons c t ih =>
    simp only [rem0]
    split
    · exact List.suffix_cons c t
    · exact ih.trans (List.suffix_cons c t)
theorem rem1_suf : ∀ (d : Int) (t u : By), rem1 d t = some u → u <:+ t ∧ u.length < t.length
  | _, [], _, h => by simp [rem1] at h
  | _, [_], _, h => by simp [rem1] at h
  | d, a :: b :: t, u, h => by
    have s2 : t <:+ a :: b :: t := ⟨[a, b], rfl⟩
    have s1 : b :: t <:+ a :: b :: t := ⟨[a], rfl⟩
    simp only [rem1] at h
    split at h
    · have := rem1_suf (d + 1) t u h
      exact ⟨this.1.trans s2, by simp; omega⟩
    · split at h
      · split at h
        · injection h with h
          subst h
          exact ⟨s2, by simp; omega⟩
        · have := rem1_suf (d - 1) t u h
          exact ⟨this.1.trans s2, by simp; omega⟩
      · have := rem1_suf d (b :: t) u h
        exact ⟨this.1.trans s1, by simp at this ⊢; omega⟩
def blank (c : UInt8) : Bool := (c.toNat : Int) == 32 || (c.toNat : Int) == 9 || (c.toNat : Int) == 10 || (c.toNat : Int) == 13
/-- What stands in front of a tail: a blank or a remark, and what is behind it; none: neither; some none: a remark that does not end. -/
def gap1 : By → Option (Option By)
  | [] => none
  | [c] => if blank c then some (some []) else if (c.toNat : Int) = 37 then some (some []) else none
  | c :: b :: t => if blank c then some (some (b :: t)) else if (c.toNat : Int) = 37 then some (some (rem0 (b :: t)))
      else if (c.toNat : Int) = 47 ∧ (b.toNat : Int) = 42 then some (rem1 1 t) else none
theorem gap1_suf (t u : By) (h : gap1 t = some (some u)) : u <:+ t ∧ u.length < t.length := by
  match t, h with
  | [], h => simp [gap1] at h
  | [c], h =>
    have : u = [] := by
      simp only [gap1] at h
      split at h
      · simpa using h.symm
      · split at h
        · simpa using h.symm
        · simp at h
    subst this
    simp
  | c :: b :: t, h =>
    have s2 : t <:+ c :: b :: t := ⟨[c, b], rfl⟩
    have s1 : b :: t <:+ c :: b :: t := ⟨[c], rfl⟩
    simp only [gap1] at h
    split at h
    · simp only [Option.some.injEq] at h
      subst h
      exact ⟨s1, by simp⟩
    · split at h
      · simp only [Option.some.injEq] at h
        subst h
        have := rem0_len (b :: t)
        exact ⟨(rem0_suf _).trans s1, by simp at this ⊢; omega⟩
      · split at h
        · simp only [Option.some.injEq] at h
          have := rem1_suf 1 t u h
          exact ⟨this.1.trans s2, by simp; omega⟩
        · simp at h
/-- Behind blanks and remarks; false: a remark does not end, and where it begins. -/
def skipS (t : By) : By × Bool :=
  match _h : gap1 t with
  | none => (t, true)
  | some none => (t, false)
  | some (some u) => skipS u
termination_by t.length
decreasing_by exact (gap1_suf t u _h).2
theorem skipS_none {t : By} (h : gap1 t = none) : skipS t = (t, true) := by
  rw [skipS]; split <;> simp_all
theorem skipS_bad {t : By} (h : gap1 t = some none) : skipS t = (t, false) := by
  rw [skipS]; split <;> simp_all
theorem skipS_some {t u : By} (h : gap1 t = some (some u)) : skipS t = skipS u := by
  rw [skipS]; split <;> simp_all
theorem skipS_suf (n : Nat) : ∀ t : By, t.length ≤ n → (skipS t).1 <:+ t := by
  induction n with
  | zero =>
    intro t ht
    obtain rfl : t = [] := List.eq_nil_of_length_eq_zero (by omega)
    rw [skipS_none rfl]
    exact List.suffix_refl _
  | succ n ih =>
    intro t ht
    cases hg : gap1 t with
    | none => rw [skipS_none hg]; exact List.suffix_refl _
    | some o =>
      cases o with
      | none => rw [skipS_bad hg]; exact List.suffix_refl _
      | some u =>
        rw [skipS_some hg]
        have := gap1_suf t u hg
        exact (ih u (by omega)).trans this.1
/-- What stands in quotes q, and what is behind it. -/
def quotedS (q : UInt8) : By → Option (By × By)
  | [] => none
  | [c] => if c = q then some ([], []) else none
  | c :: d :: t => if c = q then some ([], d :: t)
      else if (c.toNat : Int) = 92 then
        (if d = q ∨ (d.toNat : Int) = 92 then (quotedS q t).map (fun r => (d :: r.1, r.2)) else if (d.toNat : Int) = 110 then (quotedS q t).map (fun r => (10 :: r.1, r.2)) else none)
      else if (c.toNat : Int) < 32 ∨ (c.toNat : Int) > 126 then none
      else (quotedS q (d :: t)).map (fun r => (c :: r.1, r.2))
theorem quotedS_suf (q : UInt8) : ∀ (t w u : By), quotedS q t = some (w, u) → u <:+ t ∧ u.length < t.length
  | [], _, _, h => by simp [quotedS] at h
  | [c], w, u, h => by
    simp only [quotedS] at h
    split at h
    · simp only [Option.some.injEq, Prod.mk.injEq] at h
      obtain ⟨-, rfl⟩ := h
      simp
    · simp at h
  | c :: d :: t, w, u, h => by
    have s2 : t <:+ c :: d :: t := ⟨[c, d], rfl⟩
    have s1 : d :: t <:+ c :: d :: t := ⟨[c], rfl⟩
    have one : ∀ (f : By × By → By × By), (∀ r, (f r).2 = r.2) → (quotedS q t).map f = some (w, u) → u <:+ c :: d :: t ∧ u.length < (c :: d :: t).length := by
      intro f hf hh
      obtain ⟨⟨w', u'⟩, h1, h2⟩ := Option.map_eq_some_iff.1 hh
      have := quotedS_suf q t w' u' h1
      have h3 := hf (w', u')
      rw [h2] at h3
      obtain rfl : u = u' := h3
      exact ⟨this.1.trans s2, by simp; omega⟩
    simp only [quotedS] at h
    split at h
    · simp only [Option.some.injEq, Prod.mk.injEq] at h
      obtain ⟨-, rfl⟩ := h
      exact ⟨s1, by simp⟩
    · split at h
      · split at h
        · exact one (fun r => (d :: r.1, r.2)) (fun _ => rfl) h
        · split at h
          · exact one (fun r => (10 :: r.1, r.2)) (fun _ => rfl) h
          · simp at h
      · split at h
        · simp at h
        · obtain ⟨⟨w', u'⟩, h1, h2⟩ := Option.map_eq_some_iff.1 h
          have := quotedS_suf q (d :: t) w' u' h1
          simp only [Prod.mk.injEq] at h2
          obtain ⟨-, rfl⟩ := h2
          exact ⟨this.1.trans s1, by simp at this ⊢; omega⟩
/-- A char, from behind its &. -/
def charS : By → Option (By × By)
  | [] => none
  | c :: t => if (c.toNat : Int) = 92 then
      (match t with
      | [] => none
      | d :: u => if (d.toNat : Int) = 110 then some ([10], u) else if (d.toNat : Int) = 115 then some ([32], u) else if (d.toNat : Int) = 92 then some ([92], u) else none)
    else if (c.toNat : Int) ≥ 33 ∧ (c.toNat : Int) ≤ 126 then some ([c], t) else none
/-- Digits: are they an int? (with a sign in front, or not) -/
def intOk (signed : Bool) (ds : By) : Bool :=
  decide (1 ≤ ds.length) && decide (ds.length ≤ 18) && (match ds with
    | [] => false
    | c :: _ => if (c.toNat : Int) = 48 then ds.length == 1 && !signed else true)
def signs : List By := [[40], [41], [123], [125], [91], [93], [91, 93], [46], [124], [35], [61], [92, 61], [61, 61], [60], [61, 60], [62], [62, 61], [43], [45], [42], [126], [58, 61], [64], [33, 33], [58], [46, 46, 46], [36], [95]]
def keys : List By := [[97, 110, 100, 116, 104, 101, 110], [97, 116], [98, 121], [99, 97, 115, 101], [99, 97, 116, 99, 104], [99, 104, 111, 105, 99, 101], [100, 105, 118], [100, 111], [101, 97, 99, 104], [101, 108, 115, 101], [101, 110, 100], [102, 111, 114], [102, 117, 110], [105, 102], [105, 110], [108, 97, 122, 121], [108, 111, 99, 97, 108], [108, 111, 99, 107], [109, 111, 100], [111, 114, 101, 108, 115, 101], [112, 114, 111, 99], [114, 97, 105, 115, 101], [115, 107, 105, 112], [116, 104, 101, 110], [116, 104, 114, 101, 97, 100], [116, 114, 121], [111, 102]]
/-- How long the longest sign is with which a text begins, of those of at most n bytes; 0: none. -/
def signN : Nat → By → Nat
  | 0, _ => 0
  | n + 1, t => if n + 1 ≤ t.length ∧ t.take (n + 1) ∈ signs then n + 1 else signN n t
def kVar : By := [118, 97, 114]
def kAtom : By := [97, 116, 111, 109]
def kKey : By := [107, 101, 121]
def kText : By := [116, 101, 120, 116]
def kChar : By := [99, 104, 97, 114]
def kInt : By := [105, 110, 116]
def kSign : By := [115, 105, 103, 110]
/-- The token at the head of a text: its kind, its text, what is behind it. -/
def nextS : By → Option (By × By × By)
  | [] => none
  | c :: t =>
    if up c || lo c then
      let w := (c :: t).takeWhile wo
      if w.length ≤ 60 then some (if up c then kVar else if w ∈ keys then kKey else kAtom, w, (c :: t).dropWhile wo) else none
    else if (c.toNat : Int) = 39 then
      (match quotedS c t with
      | some (w, r) => if w.length ≤ 60 then some (kAtom, w, r) else none
      | none => none)
    else if (c.toNat : Int) = 34 then
      (match quotedS c t with
      | some (w, r) => if w.length ≤ 200 then some (kText, w, r) else none
      | none => none)
    else if (c.toNat : Int) = 38 then
      (match charS t with
      | some (w, r) => some (kChar, w, r)
      | none => none)
    else if di c then
      (if intOk false ((c :: t).takeWhile di) then some (kInt, (c :: t).takeWhile di, (c :: t).dropWhile di) else none)
    else if (c.toNat : Int) = 126 ∧ (t.takeWhile di) ≠ [] then
      (if t.takeWhile di = [48] then some (kSign, [126], t)
      else if intOk true (t.takeWhile di) then some (kInt, c :: t.takeWhile di, t.dropWhile di) else none)
    else if signN 3 (c :: t) = 0 then none else some (kSign, (c :: t).take (signN 3 (c :: t)), (c :: t).drop (signN 3 (c :: t)))
theorem nextS_word {c : UInt8} {t : By} (hc : (up c || lo c) = true) : nextS (c :: t) = if ((c :: t).takeWhile wo).length ≤ 60 then some (if up c then kVar else if (c :: t).takeWhile wo ∈ keys then kKey else kAtom, (c :: t).takeWhile wo, (c :: t).dropWhile wo) else none := by
  show (if (up c || lo c) = true then _ else _) = _
  rw [if_pos hc]
theorem nextS_39 {c : UInt8} {t : By} (hc : ¬(up c || lo c) = true) (h : (c.toNat : Int) = 39) : nextS (c :: t) = match quotedS c t with | some (w, r) => if w.length ≤ 60 then some (kAtom, w, r) else none | none => none := by
  show (if (up c || lo c) = true then _ else if _ then _ else _) = _
  rw [if_neg hc, if_pos h]
theorem nextS_34 {c : UInt8} {t : By} (hc : ¬(up c || lo c) = true) (h : (c.toNat : Int) = 34) : nextS (c :: t) = match quotedS c t with | some (w, r) => if w.length ≤ 200 then some (kText, w, r) else none | none => none := by
  show (if (up c || lo c) = true then _ else if _ then _ else if _ then _ else _) = _
  rw [if_neg hc, if_neg (by omega), if_pos h]
theorem nextS_38 {c : UInt8} {t : By} (hc : ¬(up c || lo c) = true) (h : (c.toNat : Int) = 38) : nextS (c :: t) = match charS t with | some (w, r) => some (kChar, w, r) | none => none := by
  show (if (up c || lo c) = true then _ else if _ then _ else if _ then _ else if _ then _ else _) = _
  rw [if_neg hc, if_neg (by omega), if_neg (by omega), if_pos h]
theorem nextS_di {c : UInt8} {t : By} (hc : ¬(up c || lo c) = true) (h1 : ¬(c.toNat : Int) = 39) (h2 : ¬(c.toNat : Int) = 34) (h3 : ¬(c.toNat : Int) = 38) (h : di c = true) :
    nextS (c :: t) = if intOk false ((c :: t).takeWhile di) then some (kInt, (c :: t).takeWhile di, (c :: t).dropWhile di) else none := by
  show (if (up c || lo c) = true then _ else if _ then _ else if _ then _ else if _ then _ else if _ then _ else _) = _
  rw [if_neg hc, if_neg h1, if_neg h2, if_neg h3, if_pos h]
theorem nextS_til {c : UInt8} {t : By} (hc : ¬(up c || lo c) = true) (h : (c.toNat : Int) = 126) (hd : t.takeWhile di ≠ []) :
    nextS (c :: t) = if t.takeWhile di = [48] then some (kSign, [126], t) else if intOk true (t.takeWhile di) then some (kInt, c :: t.takeWhile di, t.dropWhile di) else none := by
  have h4 : ¬ di c = true := by unfold di isDi; simp; omega
  show (if (up c || lo c) = true then _ else if _ then _ else if _ then _ else if _ then _ else if _ then _ else if _ then _ else _) = _
  rw [if_neg hc, if_neg (by omega), if_neg (by omega), if_neg (by omega), if_neg h4, if_pos ⟨h, hd⟩]
theorem nextS_sign {c : UInt8} {t : By} (hc : ¬(up c || lo c) = true) (h1 : ¬(c.toNat : Int) = 39) (h2 : ¬(c.toNat : Int) = 34) (h3 : ¬(c.toNat : Int) = 38) (h4 : ¬di c = true) (h5 : ¬((c.toNat : Int) = 126 ∧ t.takeWhile di ≠ [])) :
    nextS (c :: t) = if signN 3 (c :: t) = 0 then none else some (kSign, (c :: t).take (signN 3 (c :: t)), (c :: t).drop (signN 3 (c :: t))) := by
  show (if (up c || lo c) = true then _ else if _ then _ else if _ then _ else if _ then _ else if _ then _ else if _ then _ else _) = _
  rw [if_neg hc, if_neg h1, if_neg h2, if_neg h3, if_neg h4, if_neg h5]
theorem signN_le (n : Nat) (t : By) : signN n t ≤ n ∧ signN n t ≤ t.length := by
  induction n with
  | zero => simp [signN]
  | succ n ih =>
    simp only [signN]
    split
    · omega
    · omega
theorem drop_suf_lt {n : Nat} {c : UInt8} {t : By} (h : 0 < n) : (c :: t).drop n <:+ c :: t ∧ ((c :: t).drop n).length < (c :: t).length := by
  refine ⟨List.drop_suffix _ _, ?_⟩
  simp
  omega
theorem dropWhile_lt {p : UInt8 → Bool} {c : UInt8} {t : By} (h : p c = true) : (c :: t).dropWhile p <:+ c :: t ∧ ((c :: t).dropWhile p).length < (c :: t).length := by
  refine ⟨List.dropWhile_suffix _, ?_⟩
  rw [List.dropWhile_cons_of_pos h]
  have := (List.dropWhile_suffix p (l := t)).length_le
  simp
  omega
theorem up_wo {c : UInt8} (h : (up c || lo c) = true) : wo c = true := by
  unfold wo isWo up lo at *
  simp only [Bool.or_eq_true] at h ⊢
  rcases h with h | h <;> simp [h]
theorem nextS_suf {t k x r : By} (h : nextS t = some (k, x, r)) : r <:+ t ∧ r.length < t.length := by
  cases t with
  | nil => simp [nextS] at h
  | cons c t =>
    have tail : ∀ {u : By}, u <:+ t ∧ u.length < t.length → u <:+ c :: t ∧ u.length < (c :: t).length := by
      intro u hu
      exact ⟨hu.1.trans (List.suffix_cons c t), by simp; omega⟩
    simp only [nextS] at h
    split at h
    · rename_i hc
      split at h
      · simp only [Option.some.injEq, Prod.mk.injEq] at h
        obtain ⟨-, -, rfl⟩ := h
        exact dropWhile_lt (up_wo hc)
      · simp at h
    · split at h
      · split at h
        · rename_i hq
          split at h
          · simp only [Option.some.injEq, Prod.mk.injEq] at h
            obtain ⟨-, -, rfl⟩ := h
            exact tail (quotedS_suf _ _ _ _ hq)
          · simp at h
        · simp at h
      · split at h
        · split at h
          · rename_i hq
            split at h
            · simp only [Option.some.injEq, Prod.mk.injEq] at h
              obtain ⟨-, -, rfl⟩ := h
              exact tail (quotedS_suf _ _ _ _ hq)
            · simp at h
          · simp at h
        · split at h
          · split at h
            · rename_i r' hq
              simp only [Option.some.injEq, Prod.mk.injEq] at h
              obtain ⟨-, -, rfl⟩ := h
              cases t with
              | nil => simp [charS] at hq
              | cons d t =>
                have s1 : t <:+ c :: d :: t := ⟨[c, d], rfl⟩
                simp only [charS] at hq
                split at hq
                · cases t with
                  | nil => simp at hq
                  | cons e t =>
                    have s2 : t <:+ c :: d :: e :: t := ⟨[c, d, e], rfl⟩
                    have : r' = t := by
                      simp only at hq
                      split at hq
                      · simp only [Option.some.injEq, Prod.mk.injEq] at hq; exact hq.2.symm
                      · split at hq
                        · simp only [Option.some.injEq, Prod.mk.injEq] at hq; exact hq.2.symm
                        · split at hq
                          · simp only [Option.some.injEq, Prod.mk.injEq] at hq; exact hq.2.symm
                          · simp at hq
                    subst this
                    exact ⟨s2, by simp; omega⟩
                · split at hq
                  · simp only [Option.some.injEq, Prod.mk.injEq] at hq
                    obtain ⟨-, rfl⟩ := hq
                    exact ⟨s1, by simp; omega⟩
                  · simp at hq
            · simp at h
          · split at h
            · rename_i hd
              split at h
              · simp only [Option.some.injEq, Prod.mk.injEq] at h
                obtain ⟨-, -, rfl⟩ := h
                exact dropWhile_lt hd
              · simp at h
            · split at h
              · rename_i hn
                split at h
                · simp only [Option.some.injEq, Prod.mk.injEq] at h
                  obtain ⟨-, -, rfl⟩ := h
                  exact ⟨List.suffix_cons _ _, by simp⟩
                · split at h
                  · simp only [Option.some.injEq, Prod.mk.injEq] at h
                    obtain ⟨-, -, rfl⟩ := h
                    have := (List.dropWhile_suffix di (l := t))
                    exact ⟨this.trans (List.suffix_cons _ _), by have := this.length_le; simp; omega⟩
                  · simp at h
              · split at h
                · simp at h
                · rename_i hs
                  simp only [Option.some.injEq, Prod.mk.injEq] at h
                  obtain ⟨-, -, rfl⟩ := h
                  exact drop_suf_lt (by omega)
inductive St where
  | bad (u : By)
  | done
  | tok (k x u r : By)
/-- The next token of a text: behind blanks and remarks. -/
def step1 (t : By) : St :=
  if (skipS t).2 = true then
    (if (skipS t).1 = [] then .done else
      match nextS (skipS t).1 with
      | none => .bad (skipS t).1
      | some (k, x, r) => .tok k x (skipS t).1 r)
  else .bad (skipS t).1
theorem step1_suf {t k x u r : By} (h : step1 t = .tok k x u r) : u <:+ t ∧ r <:+ u ∧ r.length < u.length ∧ r.length < t.length := by
  unfold step1 at h
  have hs := skipS_suf t.length t (Nat.le_refl _)
  split at h
  · split at h
    · cases h
    · split at h
      · cases h
      · rename_i hn
        injection h with h1 h2 h3 h4
        subst h1 h2 h3 h4
        have := nextS_suf hn
        exact ⟨hs, this.1, this.2, by have := hs.length_le; omega⟩
  · cases h
/-- A token: its kind, its text, how much of the text was left where it begins. -/
abbrev Tok := By × By × Nat
/-- The tokens of a text; or where it is bad. -/
def lexS (t : By) : Option By × List Tok :=
  match _h : step1 t with
  | .bad u => (some u, [])
  | .done => (none, [])
  | .tok k x u r => ((lexS r).1, (k, x, u.length) :: (lexS r).2)
termination_by t.length
decreasing_by all_goals exact (step1_suf _h).2.2.2
theorem lexS_bad {t u : By} (h : step1 t = .bad u) : lexS t = (some u, []) := by
  rw [lexS]; split <;> simp_all
theorem lexS_done {t : By} (h : step1 t = .done) : lexS t = (none, []) := by
  rw [lexS]; split <;> simp_all
theorem lexS_tok {t k x u r : By} (h : step1 t = .tok k x u r) : lexS t = ((lexS r).1, (k, x, u.length) :: (lexS r).2) := by
  rw [lexS]; split <;> simp_all
end Go.Proofs.Ytgbielhbjgipoaa.Pure
