import Derived.Test.YtgbielhbjgipoaaV
import Derived.Test.YtgbielhbjgipoaaBTokenWritesq1
import Derived.Test.YtgbielhbjgipoaaBTokenWritesq2
import Derived.Test.YtgbielhbjgipoaaBTokenWritesq3
import Derived.Test.YtgbielhbjgipoaaBTokenWritesq0
import Derived.ChangeSlices
import Derived.ChangeArms
import Derived.DataReads
import Derived.DataElems
/-! Words on 'from some number of rounds on', and on a text as a list of bytes of which a tail is still to be read. -/
namespace Go.Proofs.Ytgbielhbjgipoaa.Pure
set_option linter.unusedVariables false
set_option linter.unusedSimpArgs false
open Go.RowKit Go.Proofs.YtgbielhbjgipoaaW.PrintWords Go.Proofs.YtgbielhbjgipoaaW.PrintLast Go.Proofs.YtgbielhbjgipoaaW.PrintMore
theorem ev_pos {α : Type} {c : Prop} [Decidable c] {A B : Nat → Option α} {r : α} (h : c) (e : Ev A r) : Ev (fun k => if c then A k else B k) r := by
  simp only [if_pos h]; exact e
theorem ev_neg {α : Type} {c : Prop} [Decidable c] {A B : Nat → Option α} {r : α} (h : ¬c) (e : Ev B r) : Ev (fun k => if c then A k else B k) r := by
  simp only [if_neg h]; exact e
theorem ev_now {α : Type} {r r' : α} (h : r = r') : Ev (fun _ => some r) r' := ⟨0, fun _ _ => by rw [h]⟩
theorem ev_const {α : Type} {g : Option α} {r : α} (h : g = some r) : Ev (fun _ => g) r := ⟨0, fun _ _ => h⟩
theorem ev_bind0 {α β : Type} {g : Option α} {f : Nat → α → Option β} {a : α} {r : β} (h : g = some a) (k : Ev (fun n => f n a) r) : Ev (fun n => g.bind (f n)) r := by
  simp only [h, Option.bind_some]; exact k
abbrev By := List UInt8
/-- A text's bytes. -/
def L (a : ByteArray) : By := a.data.toList
/-- Where a tail of a text begins. -/
def at_ (a : ByteArray) (t : By) : Int := (a.size : Int) - (t.length : Int)
theorem L_length (a : ByteArray) : (L a).length = a.size := data_length a
theorem suf_tail {c : UInt8} {t l : By} (h : c :: t <:+ l) : t <:+ l := (List.suffix_cons c t).trans h
theorem suf_drop {t l : By} (n : Nat) (h : t <:+ l) : t.drop n <:+ l := (List.drop_suffix n t).trans h
theorem suf_len {a : ByteArray} {t : By} (h : t <:+ L a) : t.length ≤ a.size := by have := h.length_le; rwa [L_length] at this
theorem at_nil (a : ByteArray) : at_ a [] = a.size := by simp [at_]
theorem at_all (a : ByteArray) : at_ a (L a) = 0 := by simp [at_, L_length]
theorem at_cons (a : ByteArray) (c : UInt8) (t : By) : at_ a (c :: t) = at_ a t - 1 := by simp [at_]; omega
theorem at_nonneg {a : ByteArray} {t : By} (h : t <:+ L a) : 0 ≤ at_ a t := by have := suf_len h; unfold at_; omega
theorem at_le (a : ByteArray) (t : By) : at_ a t ≤ a.size := by unfold at_; omega
theorem at_lt (a : ByteArray) (c : UInt8) (t : By) : at_ a (c :: t) < a.size := by unfold at_; simp; omega
theorem suf_eq {a : ByteArray} {t : By} (h : t <:+ L a) : (L a).drop (at_ a t).toNat = t := by
  obtain ⟨p, hp⟩ := h
  have hl : a.size = p.length + t.length := by rw [← L_length, ← hp, List.length_append]
  have e : (at_ a t).toNat = p.length := by unfold at_; omega
  rw [e, ← hp, List.drop_left]
theorem L_get {a : ByteArray} (n : Nat) (h : n < a.size) : (L a)[n]'(by rw [L_length]; exact h) = a[n]'h := by
  simp [L]; rfl
theorem bt_of {a : ByteArray} {t : By} {c : UInt8} (h : c :: t <:+ L a) : bt a (at_ a (c :: t)) = (c.toNat : Int) := by
  have hn := at_nonneg h
  have hlt := at_lt a c t
  have hl : (at_ a (c :: t)).toNat < a.size := by omega
  rw [← bt_at a _ hl, ← L_get _ hl]
  have hs := suf_eq h
  have : (L a)[(at_ a (c :: t)).toNat]? = some c := by rw [← List.head?_drop, hs]; rfl
  rw [List.getElem?_eq_getElem (by rw [L_length]; exact hl)] at this
  injection this with this
  rw [this]
/-- A text of bytes. -/
def ofL (l : By) : ByteArray := ⟨l.toArray⟩
theorem L_ofL (l : By) : L (ofL l) = l := by simp [L, ofL]
theorem ofL_L (a : ByteArray) : ofL (L a) = a := by simp [L, ofL]
theorem L_inj {a b : ByteArray} (h : L a = L b) : a = b := by rw [← ofL_L a, ← ofL_L b, h]
theorem size_ofL (l : By) : (ofL l).size = l.length := by rw [← L_length, L_ofL]
theorem L_append (a b : ByteArray) : L (a ++ b) = L a ++ L b := by simp [L, ByteArray.data_append]
theorem L_extract (a : ByteArray) (i j : Nat) : L (a.extract i j) = ((L a).drop i).take (j - i) := by
  simp [L, ByteArray.data_extract]
theorem toList_L (a : ByteArray) : a.toList = L a := ByteArray.toList_eq a
theorem u8_range (c : UInt8) : 0 ≤ (c.toNat : Int) ∧ (c.toNat : Int) < 256 := by
  have := c.toNat_lt; omega
/-- What stands between two tails. -/
theorem ex_between {a : ByteArray} {w r : By} (h : w ++ r <:+ L a) : a.extract (at_ a (w ++ r)).toNat (at_ a r).toNat = ofL w := by
  apply L_inj
  rw [L_extract, L_ofL, suf_eq h]
  have hn := at_nonneg h
  have hl := suf_len h
  have e : (at_ a r).toNat - (at_ a (w ++ r)).toNat = w.length := by simp [at_] at hn hl ⊢; omega
  rw [e]; simp
theorem ex_rest {a : ByteArray} {t : By} (h : t <:+ L a) : a.extract (at_ a t).toNat a.size = ofL t := by
  apply L_inj
  rw [L_extract, L_ofL, suf_eq h]
  have hn := at_nonneg h
  have hl := suf_len h
  have e : a.size - (at_ a t).toNat = t.length := by simp [at_] at hn hl ⊢; omega
  rw [e, List.take_length]
theorem strOf (l : By) : strOfNums (l.map fun c => (c.toNat : Int)) = ofL l := by
  unfold strOfNums ofL
  rw [List.map_map]
  congr 1
  have : ((fun n : Int => UInt8.ofNat n.toNat) ∘ fun c : UInt8 => (c.toNat : Int)) = id := by
    funext c
    simp
  rw [this, List.map_id]
/-- Sizes that the statements let in. -/
abbrev Fits (a : ByteArray) : Prop := a.size ≤ 140737488351232
theorem at_succ {a : ByteArray} {c : UInt8} {t : By} (ha : Fits a) (h : c :: t <:+ L a) : wrap64 (at_ a (c :: t) + 1) = at_ a t := by
  have h1 := at_nonneg h
  have h2 := at_le a t
  rw [at_cons] at h1 ⊢
  unfold wrap64; omega
theorem at_succ2 {a : ByteArray} {c d : UInt8} {t : By} (ha : Fits a) (h : c :: d :: t <:+ L a) : wrap64 (at_ a (c :: d :: t) + 2) = at_ a t := by
  have h1 := at_nonneg h
  have h2 := at_le a t
  rw [at_cons, at_cons] at h1 ⊢
  unfold wrap64; omega
theorem at_succ3 {a : ByteArray} {c d e : UInt8} {t : By} (ha : Fits a) (h : c :: d :: e :: t <:+ L a) : wrap64 (at_ a (c :: d :: e :: t) + 3) = at_ a t := by
  have h1 := at_nonneg h
  have h2 := at_le a t
  rw [at_cons, at_cons, at_cons] at h1 ⊢
  unfold wrap64; omega
end Go.Proofs.Ytgbielhbjgipoaa.Pure
/-! The tokens of a text, said over lists of bytes: what is left to read stands for a place. -/
namespace Go.Proofs.Ytgbielhbjgipoaa.Pure
set_option linter.unusedVariables false
set_option linter.unusedSimpArgs false
open Go.RowKit Go.Proofs.YtgbielhbjgipoaaW.PrintWords Go.Proofs.YtgbielhbjgipoaaW.PrintLast Go.Proofs.YtgbielhbjgipoaaW.PrintMore
def isUp (x : Int) : Bool := decide (65 ≤ x) && decide (x ≤ 90)
def isLo (x : Int) : Bool := decide (97 ≤ x) && decide (x ≤ 122)
def isDi (x : Int) : Bool := decide (48 ≤ x) && decide (x ≤ 57)
def isWo (x : Int) : Bool := isUp x || isLo x || isDi x || (x == 95)
def up (c : UInt8) : Bool := isUp c.toNat
def lo (c : UInt8) : Bool := isLo c.toNat
def di (c : UInt8) : Bool := isDi c.toNat
def wo (c : UInt8) : Bool := isWo c.toNat
/-- Behind a remark up to the line's end. -/
def rem0 : By → By
  | [] => []
  | c :: t => if (c.toNat : Int) = 10 then t else rem0 t
/-- Behind a remark that nests, d deep. -/
def rem1 : Int → By → Option By
  | _, [] => none
  | _, [_] => none
  | d, a :: b :: t => if (a.toNat : Int) = 47 ∧ (b.toNat : Int) = 42 then rem1 (d + 1) t
      else if (a.toNat : Int) = 42 ∧ (b.toNat : Int) = 47 then (if d = 1 then some t else rem1 (d - 1) t)
      else rem1 d (b :: t)
theorem rem0_len (t : By) : (rem0 t).length ≤ t.length := by
  induction t with
  | nil => simp [rem0]
  | cons c t ih => simp only [rem0]; split <;> simp <;> omega
theorem rem0_suf (t : By) : rem0 t <:+ t := by
  induction t with
  | nil => simp [rem0]
  | cons c t ih =>
    simp only [rem0]
    split
    · exact List.suffix_cons c t
    · exact ih.trans (List.suffix_cons c t)
theorem rem1_suf : ∀ (d : Int) (t u : By), rem1 d t = some u → u <:+ t ∧ u.length < t.length
  | _, [], _, h => by simp [rem1] at h
  | _, [_], _, h => by simp [rem1] at h
  | d, a :: b :: t, u, h => by
    have s2 : t <:+ a :: b :: t := ⟨[a, b], rfl⟩
    have s1 : b :: t <:+ a :: b :: t := ⟨[a], rfl⟩
    simp only [rem1] at h
    split at h
    · have := rem1_suf (d + 1) t u h
      exact ⟨this.1.trans s2, by simp; omega⟩
    · split at h
      · split at h
        · injection h with h
          subst h
          exact ⟨s2, by simp; omega⟩
        · have := rem1_suf (d - 1) t u h
          exact ⟨this.1.trans s2, by simp; omega⟩
      · have := rem1_suf d (b :: t) u h
        exact ⟨this.1.trans s1, by simp at this ⊢; omega⟩
def blank (c : UInt8) : Bool := (c.toNat : Int) == 32 || (c.toNat : Int) == 9 || (c.toNat : Int) == 10 || (c.toNat : Int) == 13
/-- What stands in front of a tail: a blank or a remark, and what is behind it; none: neither; some none: a remark that does not end. -/
def gap1 : By → Option (Option By)
  | [] => none
  | [c] => if blank c then some (some []) else if (c.toNat : Int) = 37 then some (some []) else none
  | c :: b :: t => if blank c then some (some (b :: t)) else if (c.toNat : Int) = 37 then some (some (rem0 (b :: t)))
      else if (c.toNat : Int) = 47 ∧ (b.toNat : Int) = 42 then some (rem1 1 t) else none
theorem gap1_suf (t u : By) (h : gap1 t = some (some u)) : u <:+ t ∧ u.length < t.length := by
  match t, h with
  | [], h => simp [gap1] at h
  | [c], h =>
    have : u = [] := by
      simp only [gap1] at h
      split at h
      · simpa using h.symm
      · split at h
        · simpa using h.symm
        · simp at h
    subst this
    simp
  | c :: b :: t, h =>
    have s2 : t <:+ c :: b :: t := ⟨[c, b], rfl⟩
    have s1 : b :: t <:+ c :: b :: t := ⟨[c], rfl⟩
    simp only [gap1] at h
    split at h
    · simp only [Option.some.injEq] at h
      subst h
      exact ⟨s1, by simp⟩
    · split at h
      · simp only [Option.some.injEq] at h
        subst h
        have := rem0_len (b :: t)
        exact ⟨(rem0_suf _).trans s1, by simp at this ⊢; omega⟩
      · split at h
        · simp only [Option.some.injEq] at h
          have := rem1_suf 1 t u h
          exact ⟨this.1.trans s2, by simp; omega⟩
        · simp at h
/-- Behind blanks and remarks; false: a remark does not end, and where it begins. -/
def skipS (t : By) : By × Bool :=
  match _h : gap1 t with
  | none => (t, true)
  | some none => (t, false)
  | some (some u) => skipS u
termination_by t.length
decreasing_by exact (gap1_suf t u _h).2
theorem skipS_none {t : By} (h : gap1 t = none) : skipS t = (t, true) := by
  rw [skipS]; split <;> simp_all
theorem skipS_bad {t : By} (h : gap1 t = some none) : skipS t = (t, false) := by
  rw [skipS]; split <;> simp_all
theorem skipS_some {t u : By} (h : gap1 t = some (some u)) : skipS t = skipS u := by
  rw [skipS]; split <;> simp_all
theorem skipS_suf (n : Nat) : ∀ t : By, t.length ≤ n → (skipS t).1 <:+ t := by
  induction n with
  | zero =>
    intro t ht
    obtain rfl : t = [] := List.eq_nil_of_length_eq_zero (by omega)
    rw [skipS_none rfl]
    exact List.suffix_refl _
  | succ n ih =>
    intro t ht
    cases hg : gap1 t with
    | none => rw [skipS_none hg]; exact List.suffix_refl _
    | some o =>
      cases o with
      | none => rw [skipS_bad hg]; exact List.suffix_refl _
      | some u =>
        rw [skipS_some hg]
        have := gap1_suf t u hg
        exact (ih u (by omega)).trans this.1
/-- What stands in quotes q, and what is behind it. -/
def quotedS (q : UInt8) : By → Option (By × By)
  | [] => none
  | [c] => if c = q then some ([], []) else none
  | c :: d :: t => if c = q then some ([], d :: t)
      else if (c.toNat : Int) = 92 then
        (if d = q ∨ (d.toNat : Int) = 92 then (quotedS q t).map (fun r => (d :: r.1, r.2)) else if (d.toNat : Int) = 110 then (quotedS q t).map (fun r => (10 :: r.1, r.2)) else none)
      else if (c.toNat : Int) < 32 ∨ (c.toNat : Int) > 126 then none
      else (quotedS q (d :: t)).map (fun r => (c :: r.1, r.2))
theorem quotedS_suf (q : UInt8) : ∀ (t w u : By), quotedS q t = some (w, u) → u <:+ t ∧ u.length < t.length
  | [], _, _, h => by simp [quotedS] at h
  | [c], w, u, h => by
    simp only [quotedS] at h
    split at h
    · simp only [Option.some.injEq, Prod.mk.injEq] at h
      obtain ⟨-, rfl⟩ := h
      simp
    · simp at h
  | c :: d :: t, w, u, h => by
    have s2 : t <:+ c :: d :: t := ⟨[c, d], rfl⟩
    have s1 : d :: t <:+ c :: d :: t := ⟨[c], rfl⟩
    have one : ∀ (f : By × By → By × By), (∀ r, (f r).2 = r.2) → (quotedS q t).map f = some (w, u) → u <:+ c :: d :: t ∧ u.length < (c :: d :: t).length := by
      intro f hf hh
      obtain ⟨⟨w', u'⟩, h1, h2⟩ := Option.map_eq_some_iff.1 hh
      have := quotedS_suf q t w' u' h1
      have h3 := hf (w', u')
      rw [h2] at h3
      obtain rfl : u = u' := h3
      exact ⟨this.1.trans s2, by simp; omega⟩
    simp only [quotedS] at h
    split at h
    · simp only [Option.some.injEq, Prod.mk.injEq] at h
      obtain ⟨-, rfl⟩ := h
      exact ⟨s1, by simp⟩
    · split at h
      · split at h
        · exact one (fun r => (d :: r.1, r.2)) (fun _ => rfl) h
        · split at h
          · exact one (fun r => (10 :: r.1, r.2)) (fun _ => rfl) h
          · simp at h
      · split at h
        · simp at h
        · obtain ⟨⟨w', u'⟩, h1, h2⟩ := Option.map_eq_some_iff.1 h
          have := quotedS_suf q (d :: t) w' u' h1
          simp only [Prod.mk.injEq] at h2
          obtain ⟨-, rfl⟩ := h2
          exact ⟨this.1.trans s1, by simp at this ⊢; omega⟩
/-- A char, from behind its &. -/
def charS : By → Option (By × By)
  | [] => none
  | c :: t => if (c.toNat : Int) = 92 then
      (match t with
      | [] => none
      | d :: u => if (d.toNat : Int) = 110 then some ([10], u) else if (d.toNat : Int) = 115 then some ([32], u) else if (d.toNat : Int) = 92 then some ([92], u) else none)
    else if (c.toNat : Int) ≥ 33 ∧ (c.toNat : Int) ≤ 126 then some ([c], t) else none
/-- Digits: are they an int? (with a sign in front, or not) -/
def intOk (signed : Bool) (ds : By) : Bool :=
  decide (1 ≤ ds.length) && decide (ds.length ≤ 18) && (match ds with
    | [] => false
    | c :: _ => if (c.toNat : Int) = 48 then ds.length == 1 && !signed else true)
def signs : List By := [[40], [41], [123], [125], [91], [93], [91, 93], [46], [124], [35], [61], [92, 61], [61, 61], [60], [61, 60], [62], [62, 61], [43], [45], [42], [126], [58, 61], [64], [33, 33], [58], [46, 46, 46], [36], [95]]
def keys : List By := [[97, 110, 100, 116, 104, 101, 110], [97, 116], [98, 121], [99, 97, 115, 101], [99, 97, 116, 99, 104], [99, 104, 111, 105, 99, 101], [100, 105, 118], [100, 111], [101, 97, 99, 104], [101, 108, 115, 101], [101, 110, 100], [102, 111, 114], [102, 117, 110], [105, 102], [105, 110], [108, 97, 122, 121], [108, 111, 99, 97, 108], [108, 111, 99, 107], [109, 111, 100], [111, 114, 101, 108, 115, 101], [112, 114, 111, 99], [114, 97, 105, 115, 101], [115, 107, 105, 112], [116, 104, 101, 110], [116, 104, 114, 101, 97, 100], [116, 114, 121], [111, 102]]
/-- How long the longest sign is with which a text begins, of those of at most n bytes; 0: none. -/
def signN : Nat → By → Nat
  | 0, _ => 0
  | n + 1, t => if n + 1 ≤ t.length ∧ t.take (n + 1) ∈ signs then n + 1 else signN n t
def kVar : By := [118, 97, 114]
def kAtom : By := [97, 116, 111, 109]
def kKey : By := [107, 101, 121]
def kText : By := [116, 101, 120, 116]
def kChar : By := [99, 104, 97, 114]
def kInt : By := [105, 110, 116]
def kSign : By := [115, 105, 103, 110]
/-- The token at the head of a text: its kind, its text, what is behind it. -/
def nextS : By → Option (By × By × By)
  | [] => none
  | c :: t =>
    if up c || lo c then
      let w := (c :: t).takeWhile wo
      if w.length ≤ 60 then some (if up c then kVar else if w ∈ keys then kKey else kAtom, w, (c :: t).dropWhile wo) else none
    else if (c.toNat : Int) = 39 then
      (match quotedS c t with
      | some (w, r) => if w.length ≤ 60 then some (kAtom, w, r) else none
      | none => none)
    else if (c.toNat : Int) = 34 then
      (match quotedS c t with
      | some (w, r) => if w.length ≤ 200 then some (kText, w, r) else none
      | none => none)
    else if (c.toNat : Int) = 38 then
      (match charS t with
      | some (w, r) => some (kChar, w, r)
      | none => none)
    else if di c then
      (if intOk false ((c :: t).takeWhile di) then some (kInt, (c :: t).takeWhile di, (c :: t).dropWhile di) else none)
    else if (c.toNat : Int) = 126 ∧ (t.takeWhile di) ≠ [] then
      (if t.takeWhile di = [48] then some (kSign, [126], t)
      else if intOk true (t.takeWhile di) then some (kInt, c :: t.takeWhile di, t.dropWhile di) else none)
    else if signN 3 (c :: t) = 0 then none else some (kSign, (c :: t).take (signN 3 (c :: t)), (c :: t).drop (signN 3 (c :: t)))
theorem nextS_word {c : UInt8} {t : By} (hc : (up c || lo c) = true) : nextS (c :: t) = if ((c :: t).takeWhile wo).length ≤ 60 then some (if up c then kVar else if (c :: t).takeWhile wo ∈ keys then kKey else kAtom, (c :: t).takeWhile wo, (c :: t).dropWhile wo) else none := by
  show (if (up c || lo c) = true then _ else _) = _
  rw [if_pos hc]
theorem nextS_39 {c : UInt8} {t : By} (hc : ¬(up c || lo c) = true) (h : (c.toNat : Int) = 39) : nextS (c :: t) = match quotedS c t with | some (w, r) => if w.length ≤ 60 then some (kAtom, w, r) else none | none => none := by
  show (if (up c || lo c) = true then _ else if _ then _ else _) = _
  rw [if_neg hc, if_pos h]
theorem nextS_34 {c : UInt8} {t : By} (hc : ¬(up c || lo c) = true) (h : (c.toNat : Int) = 34) : nextS (c :: t) = match quotedS c t with | some (w, r) => if w.length ≤ 200 then some (kText, w, r) else none | none => none := by
  show (if (up c || lo c) = true then _ else if _ then _ else if _ then _ else _) = _
  rw [if_neg hc, if_neg (by omega), if_pos h]
theorem nextS_38 {c : UInt8} {t : By} (hc : ¬(up c || lo c) = true) (h : (c.toNat : Int) = 38) : nextS (c :: t) = match charS t with | some (w, r) => some (kChar, w, r) | none => none := by
  show (if (up c || lo c) = true then _ else if _ then _ else if _ then _ else if _ then _ else _) = _
  rw [if_neg hc, if_neg (by omega), if_neg (by omega), if_pos h]
theorem nextS_di {c : UInt8} {t : By} (hc : ¬(up c || lo c) = true) (h1 : ¬(c.toNat : Int) = 39) (h2 : ¬(c.toNat : Int) = 34) (h3 : ¬(c.toNat : Int) = 38) (h : di c = true) :
    nextS (c :: t) = if intOk false ((c :: t).takeWhile di) then some (kInt, (c :: t).takeWhile di, (c :: t).dropWhile di) else none := by
  show (if (up c || lo c) = true then _ else if _ then _ else if _ then _ else if _ then _ else if _ then _ else _) = _
  rw [if_neg hc, if_neg h1, if_neg h2, if_neg h3, if_pos h]
theorem nextS_til {c : UInt8} {t : By} (hc : ¬(up c || lo c) = true) (h : (c.toNat : Int) = 126) (hd : t.takeWhile di ≠ []) :
    nextS (c :: t) = if t.takeWhile di = [48] then some (kSign, [126], t) else if intOk true (t.takeWhile di) then some (kInt, c :: t.takeWhile di, t.dropWhile di) else none := by
  have h4 : ¬ di c = true := by unfold di isDi; simp; omega
  show (if (up c || lo c) = true then _ else if _ then _ else if _ then _ else if _ then _ else if _ then _ else if _ then _ else _) = _
  rw [if_neg hc, if_neg (by omega), if_neg (by omega), if_neg (by omega), if_neg h4, if_pos ⟨h, hd⟩]
theorem nextS_sign {c : UInt8} {t : By} (hc : ¬(up c || lo c) = true) (h1 : ¬(c.toNat : Int) = 39) (h2 : ¬(c.toNat : Int) = 34) (h3 : ¬(c.toNat : Int) = 38) (h4 : ¬di c = true) (h5 : ¬((c.toNat : Int) = 126 ∧ t.takeWhile di ≠ [])) :
    nextS (c :: t) = if signN 3 (c :: t) = 0 then none else some (kSign, (c :: t).take (signN 3 (c :: t)), (c :: t).drop (signN 3 (c :: t))) := by
  show (if (up c || lo c) = true then _ else if _ then _ else if _ then _ else if _ then _ else if _ then _ else if _ then _ else _) = _
  rw [if_neg hc, if_neg h1, if_neg h2, if_neg h3, if_neg h4, if_neg h5]
theorem signN_le (n : Nat) (t : By) : signN n t ≤ n ∧ signN n t ≤ t.length := by
  induction n with
  | zero => simp [signN]
  | succ n ih =>
    simp only [signN]
    split
    · omega
    · omega
theorem drop_suf_lt {n : Nat} {c : UInt8} {t : By} (h : 0 < n) : (c :: t).drop n <:+ c :: t ∧ ((c :: t).drop n).length < (c :: t).length := by
  refine ⟨List.drop_suffix _ _, ?_⟩
  simp
  omega
theorem dropWhile_lt {p : UInt8 → Bool} {c : UInt8} {t : By} (h : p c = true) : (c :: t).dropWhile p <:+ c :: t ∧ ((c :: t).dropWhile p).length < (c :: t).length := by
  refine ⟨List.dropWhile_suffix _, ?_⟩
  rw [List.dropWhile_cons_of_pos h]
  have := (List.dropWhile_suffix p (l := t)).length_le
  simp
  omega
theorem up_wo {c : UInt8} (h : (up c || lo c) = true) : wo c = true := by
  unfold wo isWo up lo at *
  simp only [Bool.or_eq_true] at h ⊢
  rcases h with h | h <;> simp [h]
theorem nextS_suf {t k x r : By} (h : nextS t = some (k, x, r)) : r <:+ t ∧ r.length < t.length := by
  cases t with
  | nil => simp [nextS] at h
  | cons c t =>
    have tail : ∀ {u : By}, u <:+ t ∧ u.length < t.length → u <:+ c :: t ∧ u.length < (c :: t).length := by
      intro u hu
      exact ⟨hu.1.trans (List.suffix_cons c t), by simp; omega⟩
    simp only [nextS] at h
    split at h
    · rename_i hc
      split at h
      · simp only [Option.some.injEq, Prod.mk.injEq] at h
        obtain ⟨-, -, rfl⟩ := h
        exact dropWhile_lt (up_wo hc)
      · simp at h
    · split at h
      · split at h
        · rename_i hq
          split at h
          · simp only [Option.some.injEq, Prod.mk.injEq] at h
            obtain ⟨-, -, rfl⟩ := h
            exact tail (quotedS_suf _ _ _ _ hq)
          · simp at h
        · simp at h
      · split at h
        · split at h
          · rename_i hq
            split at h
            · simp only [Option.some.injEq, Prod.mk.injEq] at h
              obtain ⟨-, -, rfl⟩ := h
              exact tail (quotedS_suf _ _ _ _ hq)
            · simp at h
          · simp at h
        · split at h
          · split at h
            · rename_i r' hq
              simp only [Option.some.injEq, Prod.mk.injEq] at h
              obtain ⟨-, -, rfl⟩ := h
              cases t with
              | nil => simp [charS] at hq
              | cons d t =>
                have s1 : t <:+ c :: d :: t := ⟨[c, d], rfl⟩
                simp only [charS] at hq
                split at hq
                · cases t with
                  | nil => simp at hq
                  | cons e t =>
                    have s2 : t <:+ c :: d :: e :: t := ⟨[c, d, e], rfl⟩
                    have : r' = t := by
                      simp only at hq
                      split at hq
                      · simp only [Option.some.injEq, Prod.mk.injEq] at hq; exact hq.2.symm
                      · split at hq
                        · simp only [Option.some.injEq, Prod.mk.injEq] at hq; exact hq.2.symm
                        · split at hq
                          · simp only [Option.some.injEq, Prod.mk.injEq] at hq; exact hq.2.symm
                          · simp at hq
                    subst this
                    exact ⟨s2, by simp; omega⟩
                · split at hq
                  · simp only [Option.some.injEq, Prod.mk.injEq] at hq
                    obtain ⟨-, rfl⟩ := hq
                    exact ⟨s1, by simp; omega⟩
                  · simp at hq
            · simp at h
          · split at h
            · rename_i hd
              split at h
              · simp only [Option.some.injEq, Prod.mk.injEq] at h
                obtain ⟨-, -, rfl⟩ := h
                exact dropWhile_lt hd
              · simp at h
            · split at h
              · rename_i hn
                split at h
                · simp only [Option.some.injEq, Prod.mk.injEq] at h
                  obtain ⟨-, -, rfl⟩ := h
                  exact ⟨List.suffix_cons _ _, by simp⟩
                · split at h
                  · simp only [Option.some.injEq, Prod.mk.injEq] at h
                    obtain ⟨-, -, rfl⟩ := h
                    have := (List.dropWhile_suffix di (l := t))
                    exact ⟨this.trans (List.suffix_cons _ _), by have := this.length_le; simp; omega⟩
                  · simp at h
              · split at h
                · simp at h
                · rename_i hs
                  simp only [Option.some.injEq, Prod.mk.injEq] at h
                  obtain ⟨-, -, rfl⟩ := h
                  exact drop_suf_lt (by omega)
inductive St where
  | bad (u : By)
  | done
  | tok (k x u r : By)
/-- The next token of a text: behind blanks and remarks. -/
def step1 (t : By) : St :=
  if (skipS t).2 = true then
    (if (skipS t).1 = [] then .done else
      match nextS (skipS t).1 with
      | none => .bad (skipS t).1
      | some (k, x, r) => .tok k x (skipS t).1 r)
  else .bad (skipS t).1
theorem step1_suf {t k x u r : By} (h : step1 t = .tok k x u r) : u <:+ t ∧ r <:+ u ∧ r.length < u.length ∧ r.length < t.length := by
  unfold step1 at h
  have hs := skipS_suf t.length t (Nat.le_refl _)
  split at h
  · split at h
    · cases h
    · split at h
      · cases h
      · rename_i hn
        injection h with h1 h2 h3 h4
        subst h1 h2 h3 h4
        have := nextS_suf hn
        exact ⟨hs, this.1, this.2, by have := hs.length_le; omega⟩
  · cases h
/-- A token: its kind, its text, how much of the text was left where it begins. -/
abbrev Tok := By × By × Nat
/-- The tokens of a text; or where it is bad. -/
def lexS (t : By) : Option By × List Tok :=
  match _h : step1 t with
  | .bad u => (some u, [])
  | .done => (none, [])
  | .tok k x u r => ((lexS r).1, (k, x, u.length) :: (lexS r).2)
termination_by t.length
decreasing_by all_goals exact (step1_suf _h).2.2.2
theorem lexS_bad {t u : By} (h : step1 t = .bad u) : lexS t = (some u, []) := by
  rw [lexS]; split <;> simp_all
theorem lexS_done {t : By} (h : step1 t = .done) : lexS t = (none, []) := by
  rw [lexS]; split <;> simp_all
theorem lexS_tok {t k x u r : By} (h : step1 t = .tok k x u r) : lexS t = ((lexS r).1, (k, x, u.length) :: (lexS r).2) := by
  rw [lexS]; split <;> simp_all
end Go.Proofs.Ytgbielhbjgipoaa.Pure
/-! What becomes of the tokens of a text when blanks, remarks or another text are put in. -/
namespace Go.Proofs.Ytgbielhbjgipoaa.Pure
set_option linter.unusedVariables false
set_option linter.unusedSimpArgs false
/-- A byte that ends what stands in front of it: a blank, or the first one of a remark. -/
def gapc (c : UInt8) : Prop := blank c = true ∨ (c.toNat : Int) = 37 ∨ (c.toNat : Int) = 47
theorem gapc_of {c : UInt8} : gapc c ↔ ((c.toNat : Int) = 32 ∨ (c.toNat : Int) = 9 ∨ (c.toNat : Int) = 10 ∨ (c.toNat : Int) = 13 ∨ (c.toNat : Int) = 37 ∨ (c.toNat : Int) = 47) := by
  unfold gapc blank
  simp only [Bool.or_eq_true, beq_iff_eq]
  omega
theorem rem0_app : ∀ (t u : By), rem0 t = u → u ≠ [] → ∃ b, t = b ++ u ∧ ∀ w, rem0 (b ++ w) = w
  | [], u, h, hu => by rw [rem0] at h; exact absurd h.symm hu
  | c :: t, u, h, hu => by
    rw [rem0] at h
    split at h
    · rename_i hc
      subst h
      exact ⟨[c], rfl, fun w => by simp [rem0, hc]⟩
    · rename_i hc
      obtain ⟨b, rfl, hb⟩ := rem0_app t u h hu
      exact ⟨c :: b, rfl, fun w => by simp [rem0, hc, hb]⟩
theorem rem0_end : ∀ (t : By), rem0 t = [] → ∀ w, rem0 (t ++ 10 :: w) = w ∨ rem0 (t ++ 10 :: w) = 10 :: w
  | [], _, w => by left; simp [rem0]
  | c :: t, h, w => by
    rw [rem0] at h
    rw [List.cons_append, rem0]
    split at h
    · rename_i hc
      subst h
      rw [if_pos hc]
      right; rfl
    · rename_i hc
      rw [if_neg hc]
      exact rem0_end t h w
theorem rem1_app : ∀ (d : Int) (t u : By), rem1 d t = some u → ∃ b, t = b ++ u ∧ ∀ w, rem1 d (b ++ w) = some w
  | _, [], _, h => by simp [rem1] at h
  | _, [_], _, h => by simp [rem1] at h
  | d, x :: y :: t, u, h => by
    simp only [rem1] at h
    split at h
    · rename_i h1
      obtain ⟨b, rfl, hb⟩ := rem1_app (d + 1) t u h
      refine ⟨x :: y :: b, rfl, fun w => ?_⟩
      simp only [List.cons_append, rem1, if_pos h1, hb]
    · rename_i h1
      split at h
      · rename_i h2
        split at h
        · rename_i h3
          simp only [Option.some.injEq] at h
          subst h
          refine ⟨[x, y], rfl, fun w => ?_⟩
          simp only [List.cons_append, List.nil_append, rem1, if_neg h1, if_pos h2, if_pos h3]
        · rename_i h3
          obtain ⟨b, rfl, hb⟩ := rem1_app (d - 1) t u h
          refine ⟨x :: y :: b, rfl, fun w => ?_⟩
          simp only [List.cons_append, rem1, if_neg h1, if_pos h2, if_neg h3, hb]
      · rename_i h2
        obtain ⟨b, e, hb⟩ := rem1_app d (y :: t) u h
        cases b with
        | nil =>
          exfalso
          have := rem1_suf d (y :: t) u h
          simp only [List.nil_append] at e
          rw [e] at this
          omega
        | cons z b =>
          simp only [List.cons_append, List.cons.injEq] at e
          obtain ⟨rfl, rfl⟩ := e
          refine ⟨x :: y :: b, rfl, fun w => ?_⟩
          have := hb w
          simp only [List.cons_append] at this ⊢
          rw [rem1, if_neg h1, if_neg h2, this]
theorem gap1_blank {c : UInt8} (h : blank c = true) (w : By) : gap1 (c :: w) = some (some w) := by
  cases w <;> simp [gap1, h]
theorem gap1_line {c : UInt8} (h : blank c = false) (hc : (c.toNat : Int) = 37) (w : By) : gap1 (c :: w) = some (some (rem0 w)) := by
  cases w <;> simp [gap1, h, hc, rem0]
theorem gap1_nest {c d : UInt8} (h : blank c = false) (h7 : ¬ (c.toNat : Int) = 37) (hc : (c.toNat : Int) = 47 ∧ (d.toNat : Int) = 42) (w : By) : gap1 (c :: d :: w) = some (rem1 1 w) := by
  simp [gap1, h, h7, hc]
theorem gap1_no {c : UInt8} (h : ¬ gapc c) (w : By) : gap1 (c :: w) = none := by
  unfold gapc at h
  simp only [not_or] at h
  obtain ⟨h1, h2, h3⟩ := h
  have hb : blank c = false := by simpa using h1
  cases w <;> simp [gap1, hb, h2, h3]
theorem skip_no {c : UInt8} (h : ¬ gapc c) (w : By) : skipS (c :: w) = (c :: w, true) := skipS_none (gap1_no h w)
theorem blank_ten : blank 10 = true := by decide
theorem skip_ten (w : By) : skipS (10 :: w) = skipS w := skipS_some (gap1_blank blank_ten w)
/-- What a blank or a remark at the head of a text is: what kind, and that it does not look further. -/
theorem gap1_app {t u : By} (h : gap1 t = some (some u)) (hu : u ≠ []) : ∃ b, t = b ++ u ∧ (∀ w, gap1 (b ++ w) = some (some w)) ∧ ∃ c b', b = c :: b' ∧ gapc c := by
  cases t with
  | nil => simp [gap1] at h
  | cons c t =>
    cases hb : blank c with
    | true =>
      rw [gap1_blank hb] at h
      simp only [Option.some.injEq] at h
      subst h
      exact ⟨[c], rfl, fun w => gap1_blank hb w, c, [], rfl, .inl hb⟩
    | false =>
      by_cases h37 : (c.toNat : Int) = 37
      · rw [gap1_line hb h37] at h
        simp only [Option.some.injEq] at h
        obtain ⟨b, rfl, hr⟩ := rem0_app t u h hu
        exact ⟨c :: b, rfl, fun w => by rw [List.cons_append, gap1_line hb h37, hr], c, b, rfl, .inr (.inl h37)⟩
      · cases t with
        | nil => simp [gap1, hb, h37] at h
        | cons d t =>
          by_cases hc : (c.toNat : Int) = 47 ∧ (d.toNat : Int) = 42
          · rw [gap1_nest hb h37 hc] at h
            simp only [Option.some.injEq] at h
            obtain ⟨b, rfl, hr⟩ := rem1_app 1 t u h
            exact ⟨c :: d :: b, rfl, fun w => by rw [List.cons_append, List.cons_append, gap1_nest hb h37 hc, hr], c, d :: b, rfl, .inr (.inr hc.1)⟩
          · simp [gap1, hb, h37, hc] at h
theorem gap1_end {t : By} (h : gap1 t = some (some [])) : (∀ w, skipS (t ++ 10 :: w) = skipS w) ∧ ∃ c b', t = c :: b' ∧ gapc c := by
  cases t with
  | nil => simp [gap1] at h
  | cons c t =>
    cases hb : blank c with
    | true =>
      rw [gap1_blank hb] at h
      simp only [Option.some.injEq] at h
      subst h
      exact ⟨fun w => by rw [List.cons_append, skipS_some (gap1_blank hb _)]; exact skip_ten w, c, [], rfl, .inl hb⟩
    | false =>
      by_cases h37 : (c.toNat : Int) = 37
      · rw [gap1_line hb h37] at h
        simp only [Option.some.injEq] at h
        refine ⟨fun w => ?_, c, t, rfl, .inr (.inl h37)⟩
        rw [List.cons_append, skipS_some (gap1_line hb h37 _)]
        rcases rem0_end t h w with e | e
        · rw [e]
        · rw [e, skip_ten]
      · cases t with
        | nil => simp [gap1, hb, h37] at h
        | cons d t =>
          by_cases hc : (c.toNat : Int) = 47 ∧ (d.toNat : Int) = 42
          · rw [gap1_nest hb h37 hc] at h
            simp only [Option.some.injEq] at h
            obtain ⟨b, e, hr⟩ := rem1_app 1 t [] h
            rw [List.append_nil] at e
            subst e
            refine ⟨fun w => ?_, c, d :: t, rfl, .inr (.inr hc.1)⟩
            rw [List.cons_append, List.cons_append, skipS_some (by rw [gap1_nest hb h37 hc, hr]), skip_ten]
          · simp [gap1, hb, h37, hc] at h
theorem skip_split (n : Nat) : ∀ (t u : By), t.length ≤ n → skipS t = (u, true) → u ≠ [] → ∃ b, t = b ++ u ∧ (∀ w, skipS (b ++ w) = skipS w) ∧ (b = [] ∨ ∃ c b', b = c :: b' ∧ gapc c) := by
  induction n with
  | zero =>
    intro t u ht h hu
    obtain rfl : t = [] := List.eq_nil_of_length_eq_zero (by omega)
    rw [skipS_none rfl] at h
    simp only [Prod.mk.injEq, and_true] at h
    exact absurd h.symm hu
  | succ n ih =>
    intro t u ht h hu
    cases hg : gap1 t with
    | none =>
      rw [skipS_none hg] at h
      simp only [Prod.mk.injEq, and_true] at h
      subst h
      exact ⟨[], rfl, fun w => rfl, .inl rfl⟩
    | some o =>
      cases o with
      | none => rw [skipS_bad hg] at h; simp at h
      | some v =>
        rw [skipS_some hg] at h
        have hv := gap1_suf t v hg
        have hvn : v ≠ [] := by
          rintro rfl
          rw [skipS_none rfl] at h
          simp only [Prod.mk.injEq, and_true] at h
          exact hu h.symm
        obtain ⟨b1, rfl, g1, c, b', rfl, hc⟩ := gap1_app hg hvn
        obtain ⟨b2, rfl, g2, _⟩ := ih v u (by omega) h hu
        refine ⟨(c :: b') ++ b2, by simp, fun w => ?_, .inr ⟨c, b' ++ b2, rfl, hc⟩⟩
        rw [List.append_assoc, skipS_some (g1 _), g2]
theorem skip_end (n : Nat) : ∀ (t : By), t.length ≤ n → skipS t = ([], true) → (∀ w, skipS (t ++ 10 :: w) = skipS w) ∧ (t = [] ∨ ∃ c b', t = c :: b' ∧ gapc c) := by
  induction n with
  | zero =>
    intro t ht h
    obtain rfl : t = [] := List.eq_nil_of_length_eq_zero (by omega)
    exact ⟨fun w => skip_ten w, .inl rfl⟩
  | succ n ih =>
    intro t ht h
    cases hg : gap1 t with
    | none =>
      rw [skipS_none hg] at h
      simp only [Prod.mk.injEq, and_true] at h
      subst h
      exact ⟨fun w => skip_ten w, .inl rfl⟩
    | some o =>
      cases o with
      | none => rw [skipS_bad hg] at h; simp at h
      | some v =>
        rw [skipS_some hg] at h
        have hv := gap1_suf t v hg
        by_cases hvn : v = []
        · subst hvn
          obtain ⟨h1, h2⟩ := gap1_end hg
          exact ⟨h1, .inr h2⟩
        · obtain ⟨b1, rfl, g1, c, b', rfl, hc⟩ := gap1_app hg hvn
          obtain ⟨h1, _⟩ := ih v (by omega) h
          refine ⟨fun w => ?_, .inr ⟨c, b' ++ v, rfl, hc⟩⟩
          rw [List.append_assoc, skipS_some (g1 _), h1]
/-- Nothing goes on here. -/
def stop (w : By) : Prop := w = [] ∨ ∃ c w', w = c :: w' ∧ gapc c
/-- What follows a token may be w in the place of r. -/
def Compat (r w : By) : Prop := stop w ∨ ∃ c r' w', r = c :: r' ∧ w = c :: w' ∧ (stop w' ∨ ∃ d r'' w'', r' = d :: r'' ∧ w' = d :: w'')
theorem compat_refl_ten (r t : By) : Compat r (r ++ 10 :: t) := by
  have hs : stop (10 :: t) := .inr ⟨10, t, rfl, .inl blank_ten⟩
  match r with
  | [] => exact .inl hs
  | [c] => exact .inr ⟨c, [], 10 :: t, rfl, rfl, .inl hs⟩
  | c :: d :: r => exact .inr ⟨c, d :: r, d :: (r ++ 10 :: t), rfl, rfl, .inr ⟨d, r, r ++ 10 :: t, rfl, rfl⟩⟩
theorem compat_more {s r w : By} (h : Compat r w) (hs : s ≠ []) : Compat (s ++ r) (s ++ w) := by
  match s with
  | [] => exact absurd rfl hs
  | [c] =>
    refine .inr ⟨c, r, w, rfl, rfl, ?_⟩
    rcases h with h | ⟨d, r', w', rfl, rfl, _⟩
    · exact .inl h
    · exact .inr ⟨d, r', w', rfl, rfl⟩
  | c :: d :: s => exact .inr ⟨c, d :: (s ++ r), d :: (s ++ w), rfl, rfl, .inr ⟨d, s ++ r, s ++ w, rfl, rfl⟩⟩
/-- The head of what follows: none, or one that fails. -/
def fails (p : UInt8 → Bool) (w : By) : Prop := w = [] ∨ ∃ c w', w = c :: w' ∧ p c = false
theorem take_app {p : UInt8 → Bool} : ∀ {s w : By}, (∀ c ∈ s, p c = true) → fails p w → (s ++ w).takeWhile p = s ∧ (s ++ w).dropWhile p = w
  | [], w, _, h => by
    rcases h with rfl | ⟨c, w', rfl, hc⟩
    · simp
    · simp [List.takeWhile_cons_of_neg, List.dropWhile_cons_of_neg, hc]
  | c :: s, w, hs, h => by
    have hc := hs c (by simp)
    obtain ⟨h1, h2⟩ := take_app (p := p) (s := s) (w := w) (fun d hd => hs d (by simp [hd])) h
    simp [List.takeWhile_cons_of_pos hc, List.dropWhile_cons_of_pos hc, h1, h2]
theorem all_take {p : UInt8 → Bool} : ∀ (t : By), ∀ c ∈ t.takeWhile p, p c = true
  | [], c, h => by simp at h
  | d :: t, c, h => by
    cases hd : p d with
    | true =>
      rw [List.takeWhile_cons_of_pos hd] at h
      rcases List.mem_cons.1 h with rfl | h
      · exact hd
      · exact all_take t c h
    | false => rw [List.takeWhile_cons_of_neg (by simp [hd])] at h; simp at h
theorem drop_fails {p : UInt8 → Bool} : ∀ (t : By), fails p (t.dropWhile p)
  | [] => .inl rfl
  | d :: t => by
    cases hd : p d with
    | true => rw [List.dropWhile_cons_of_pos hd]; exact drop_fails t
    | false => rw [List.dropWhile_cons_of_neg (by simp [hd])]; exact .inr ⟨d, t, rfl, hd⟩
theorem gapc_wo {c : UInt8} (h : gapc c) : wo c = false := by
  rw [gapc_of] at h
  unfold wo isWo isUp isLo isDi
  simp only [Bool.or_eq_false_iff, Bool.and_eq_false_iff, decide_eq_false_iff_not, beq_eq_false_iff_ne]
  omega
theorem gapc_di {c : UInt8} (h : gapc c) : di c = false := by
  rw [gapc_of] at h
  unfold di isDi
  simp only [Bool.and_eq_false_iff, decide_eq_false_iff_not]
  omega
theorem stop_fails {p : UInt8 → Bool} (hp : ∀ c, gapc c → p c = false) {w : By} (h : stop w) : fails p w := by
  rcases h with rfl | ⟨c, w', rfl, hc⟩
  · exact .inl rfl
  · exact .inr ⟨c, w', rfl, hp c hc⟩
theorem compat_fails {p : UInt8 → Bool} (hp : ∀ c, gapc c → p c = false) {r w : By} (h : Compat r w) (hr : fails p r) : fails p w := by
  rcases h with h | ⟨c, r', w', rfl, rfl, _⟩
  · exact stop_fails hp h
  · rcases hr with hr | ⟨d, r'', hr, hd⟩
    · cases hr
    · simp only [List.cons.injEq] at hr
      obtain ⟨rfl, rfl⟩ := hr
      exact .inr ⟨c, w', rfl, hd⟩
theorem quoted_app (q : UInt8) : ∀ (t x r : By), quotedS q t = some (x, r) → ∃ s, t = s ++ r ∧ ∀ w, quotedS q (s ++ w) = some (x, w)
  | [], _, _, h => by simp [quotedS] at h
  | [c], x, r, h => by
    simp only [quotedS] at h
    split at h
    · rename_i hc
      simp only [Option.some.injEq, Prod.mk.injEq] at h
      obtain ⟨rfl, rfl⟩ := h
      exact ⟨[c], rfl, fun w => by cases w <;> simp [quotedS, hc]⟩
    · simp at h
  | c :: d :: t, x, r, h => by
    simp only [quotedS] at h
    split at h
    · rename_i hc
      simp only [Option.some.injEq, Prod.mk.injEq] at h
      obtain ⟨rfl, rfl⟩ := h
      exact ⟨[c], rfl, fun w => by cases w <;> simp [quotedS, hc]⟩
    · rename_i hc
      split at h
      · rename_i h92
        split at h
        · rename_i hd
          obtain ⟨⟨x', r'⟩, e1, e2⟩ := Option.map_eq_some_iff.1 h
          simp only [Prod.mk.injEq] at e2
          obtain ⟨rfl, rfl⟩ := e2
          obtain ⟨s, rfl, hs⟩ := quoted_app q t x' r' e1
          exact ⟨c :: d :: s, rfl, fun w => by simp only [List.cons_append]; rw [quotedS, if_neg hc, if_pos h92, if_pos hd, hs]; rfl⟩
        · rename_i hd
          split at h
          · rename_i hn
            obtain ⟨⟨x', r'⟩, e1, e2⟩ := Option.map_eq_some_iff.1 h
            simp only [Prod.mk.injEq] at e2
            obtain ⟨rfl, rfl⟩ := e2
            obtain ⟨s, rfl, hs⟩ := quoted_app q t x' r' e1
            exact ⟨c :: d :: s, rfl, fun w => by simp only [List.cons_append]; rw [quotedS, if_neg hc, if_pos h92, if_neg hd, if_pos hn, hs]; rfl⟩
          · simp at h
      · rename_i h92
        split at h
        · simp at h
        · rename_i hr
          obtain ⟨⟨x', r'⟩, e1, e2⟩ := Option.map_eq_some_iff.1 h
          simp only [Prod.mk.injEq] at e2
          obtain ⟨rfl, rfl⟩ := e2
          obtain ⟨s, e, hs⟩ := quoted_app q (d :: t) x' r' e1
          cases s with
          | nil =>
            exfalso
            have := quotedS_suf q (d :: t) x' r' e1
            simp only [List.nil_append] at e
            rw [e] at this
            omega
          | cons z s =>
            simp only [List.cons_append, List.cons.injEq] at e
            obtain ⟨rfl, rfl⟩ := e
            refine ⟨c :: d :: s, rfl, fun w => ?_⟩
            have := hs w
            simp only [List.cons_append] at this ⊢
            rw [quotedS, if_neg hc, if_neg h92, if_neg hr, this]
            rfl
theorem char_app (t x r : By) (h : charS t = some (x, r)) : ∃ s, t = s ++ r ∧ ∀ w, charS (s ++ w) = some (x, w) := by
  cases t with
  | nil => simp [charS] at h
  | cons c t =>
    simp only [charS] at h
    split at h
    · rename_i h92
      cases t with
      | nil => simp at h
      | cons d t =>
        simp only at h
        split at h
        · rename_i h1
          simp only [Option.some.injEq, Prod.mk.injEq] at h
          obtain ⟨rfl, rfl⟩ := h
          exact ⟨[c, d], rfl, fun w => by simp [charS, h92, h1]⟩
        · rename_i h1
          split at h
          · rename_i h2
            simp only [Option.some.injEq, Prod.mk.injEq] at h
            obtain ⟨rfl, rfl⟩ := h
            exact ⟨[c, d], rfl, fun w => by simp [charS, h92, h2]⟩
          · rename_i h2
            split at h
            · rename_i h3
              simp only [Option.some.injEq, Prod.mk.injEq] at h
              obtain ⟨rfl, rfl⟩ := h
              exact ⟨[c, d], rfl, fun w => by simp [charS, h92, h3]⟩
            · simp at h
    · rename_i h92
      split at h
      · rename_i h1
        simp only [Option.some.injEq, Prod.mk.injEq] at h
        obtain ⟨rfl, rfl⟩ := h
        refine ⟨[c], rfl, fun w => ?_⟩
        simp only [List.cons_append, List.nil_append, charS]
        rw [if_neg h92, if_pos h1]
      · simp at h
theorem sign_gap : ∀ x ∈ signs, ∀ c ∈ x, ¬ gapc c := by
  intro x hx c hc
  rw [gapc_of]
  simp only [signs, List.mem_cons, List.not_mem_nil, or_false] at hx
  rcases hx with rfl | rfl | rfl | rfl | rfl | rfl | rfl | rfl | rfl | rfl | rfl | rfl | rfl | rfl | rfl | rfl | rfl | rfl | rfl | rfl | rfl | rfl | rfl | rfl | rfl | rfl | rfl | rfl <;>
    simp only [List.mem_cons, List.not_mem_nil, or_false] at hc <;> (first | (subst hc; decide) | (rcases hc with rfl | rfl <;> decide) | (rcases hc with rfl | rfl | rfl <;> decide))
theorem signN_at (n : Nat) (t : By) (h : signN n t ≠ 0) : t.take (signN n t) ∈ signs := by
  induction n with
  | zero => exact absurd rfl h
  | succ n ih =>
    rw [signN] at h ⊢
    split
    · rename_i hh; exact hh.2
    · rename_i hh
      rw [if_neg hh] at h
      exact ih h
theorem signN_max (n : Nat) (t : By) : ∀ m, signN n t < m → m ≤ n → ¬ (m ≤ t.length ∧ t.take m ∈ signs) := by
  induction n with
  | zero => intro m h1 h2; omega
  | succ n ih =>
    intro m h1 h2 hh
    rw [signN] at h1
    split at h1
    · omega
    · rename_i hx
      by_cases hm : m = n + 1
      · subst hm; exact hx hh
      · exact ih m h1 (by omega) hh
theorem signN_eq {n k : Nat} {t : By} (hk : k ≤ n) (h1 : k = 0 ∨ (k ≤ t.length ∧ t.take k ∈ signs)) (h2 : ∀ m, k < m → m ≤ n → ¬ (m ≤ t.length ∧ t.take m ∈ signs)) : signN n t = k := by
  induction n with
  | zero => rw [signN]; omega
  | succ n ih =>
    rw [signN]
    by_cases e : k = n + 1
    · rcases h1 with h1 | h1
      · omega
      · rw [if_pos (by rw [← e]; exact h1), e]
    · rw [if_neg (h2 (n + 1) (by omega) (Nat.le_refl _))]
      exact ih (by omega) (fun m hm hn => h2 m hm (by omega))
theorem sign_app {t r : By} (hn : signN 3 t ≠ 0) (hr : r = t.drop (signN 3 t)) {w : By} (hw : Compat r w) : signN 3 (t.take (signN 3 t) ++ w) = signN 3 t := by
  have hle := signN_le 3 t
  have hat := signN_at 3 t hn
  have hmax := signN_max 3 t
  generalize hk : signN 3 t = k at *
  have hlen : (t.take k).length = k := by rw [List.length_take]; omega
  have ht : t = t.take k ++ r := by rw [hr, List.take_append_drop]
  refine signN_eq hle.1 (.inr ⟨by rw [List.length_append]; omega, ?_⟩) ?_
  · rw [List.take_append_of_le_length (by omega), List.take_take, Nat.min_self]
    exact hat
  · rintro m h1 h2 ⟨h3, h4⟩
    have e1 : (t.take k ++ w).take m = t.take k ++ w.take (m - k) := by rw [List.take_append, List.take_of_length_le (by omega), hlen]
    rw [e1] at h4
    rw [List.length_append, hlen] at h3
    have ng : ∀ c ∈ w.take (m - k), ¬ gapc c := fun c hc => sign_gap _ h4 c (by simp [hc])
    have notstop : ∀ {v : By} {c : UInt8} {v' : By}, v = c :: v' → c ∈ w.take (m - k) → ¬ stop v := by
      rintro v c v' rfl hc (h | ⟨d, w', h, hd⟩)
      · cases h
      · simp only [List.cons.injEq] at h
        exact ng c hc (h.1 ▸ hd)
    cases w with
    | nil => simp only [List.length_nil] at h3; omega
    | cons c w =>
      have hm : m - k = (m - k - 1) + 1 := by omega
      rcases hw with hw | ⟨c', r', w', rfl, e, hw⟩
      · exact notstop rfl (by rw [hm]; simp) hw
      · simp only [List.cons.injEq] at e
        obtain ⟨rfl, rfl⟩ := e
        by_cases h5 : m - k = 1
        · refine hmax m h1 h2 ⟨by rw [ht, List.length_append, hlen]; simp; omega, ?_⟩
          rw [ht, List.take_append, List.take_of_length_le (by omega), hlen, h5]
          rw [h5] at h4
          simpa using h4
        · have h6 : m - k = 2 := by omega
          rw [h6] at h4 ng notstop
          cases w with
          | nil => simp only [List.length_cons, List.length_nil] at h3; omega
          | cons d w =>
            rcases hw with hw | ⟨d', r'', w'', rfl, e⟩
            · exact notstop rfl (by simp) hw
            · simp only [List.cons.injEq] at e
              obtain ⟨rfl, rfl⟩ := e
              refine hmax m h1 h2 ⟨by rw [ht, List.length_append, hlen]; simp; omega, ?_⟩
              rw [ht, List.take_append, List.take_of_length_le (by omega), hlen, h6]
              simpa using h4
theorem til_sign (w : By) : signN 3 (126 :: w) = 1 := by
  refine signN_eq (by omega) (.inr ⟨by simp, by simp [signs]⟩) ?_
  rintro m h1 h2 ⟨h3, h4⟩
  have : m = 2 ∨ m = 3 := by omega
  rcases this with rfl | rfl
  · cases w with
    | nil => simp at h3
    | cons c w => simp [signs] at h4
  · match w with
    | [] => simp at h3
    | [c] => simp at h3
    | c :: d :: w => simp [signs] at h4
theorem u8_eq {c d : UInt8} (h : (c.toNat : Int) = (d.toNat : Int)) : c = d := UInt8.toNat_inj.1 (by omega)
theorem notcond {c : UInt8} (h : (c.toNat : Int) = 126) : ¬(up c || lo c) = true ∧ ¬ di c = true := by
  unfold up lo di isUp isLo isDi
  simp only [Bool.or_eq_true, Bool.and_eq_true, decide_eq_true_eq]
  omega
/-- The token at the head is the same, whatever stands behind it in the place of what stood there. -/
theorem next_app {t k x r : By} (h : nextS t = some (k, x, r)) : ∃ c s, t = c :: (s ++ r) ∧ ¬ gapc c ∧ ∀ w, Compat r w → nextS (c :: (s ++ w)) = some (k, x, w) := by
  cases t with
  | nil => simp [nextS] at h
  | cons c t =>
    by_cases hc : (up c || lo c) = true
    · rw [nextS_word hc] at h
      split at h
      · rename_i hl
        simp only [Option.some.injEq, Prod.mk.injEq] at h
        obtain ⟨rfl, rfl, rfl⟩ := h
        have hw := up_wo hc
        have e1 : (c :: t).takeWhile wo = c :: t.takeWhile wo := List.takeWhile_cons_of_pos hw
        have e2 : (c :: t).dropWhile wo = t.dropWhile wo := List.dropWhile_cons_of_pos hw
        rw [e1] at hl ⊢
        rw [e2]
        refine ⟨c, t.takeWhile wo, by rw [List.takeWhile_append_dropWhile], (fun hg => by rw [gapc_wo hg] at hw; cases hw), fun w hcw => ?_⟩
        obtain ⟨f1, f2⟩ := take_app (p := wo) (all_take t) (compat_fails (fun _ => gapc_wo) hcw (drop_fails t))
        rw [nextS_word hc, List.takeWhile_cons_of_pos hw, List.dropWhile_cons_of_pos hw, f1, f2, if_pos hl]
      · cases h
    · by_cases h39 : (c.toNat : Int) = 39
      · rw [nextS_39 hc h39] at h
        split at h
        · rename_i x' r' hq
          split at h
          · rename_i hl
            simp only [Option.some.injEq, Prod.mk.injEq] at h
            obtain ⟨rfl, rfl, rfl⟩ := h
            obtain ⟨s, rfl, hs⟩ := quoted_app c t _ _ hq
            refine ⟨c, s, rfl, fun hg => by rw [gapc_of] at hg; omega, fun w _ => ?_⟩
            rw [nextS_39 hc h39, hs w]
            simp only [hl, if_true]
          · cases h
        · cases h
      · by_cases h34 : (c.toNat : Int) = 34
        · rw [nextS_34 hc h34] at h
          split at h
          · rename_i x' r' hq
            split at h
            · rename_i hl
              simp only [Option.some.injEq, Prod.mk.injEq] at h
              obtain ⟨rfl, rfl, rfl⟩ := h
              obtain ⟨s, rfl, hs⟩ := quoted_app c t _ _ hq
              refine ⟨c, s, rfl, fun hg => by rw [gapc_of] at hg; omega, fun w _ => ?_⟩
              rw [nextS_34 hc h34, hs w]
              simp only [hl, if_true]
            · cases h
          · cases h
        · by_cases h38 : (c.toNat : Int) = 38
          · rw [nextS_38 hc h38] at h
            split at h
            · rename_i x' r' hq
              simp only [Option.some.injEq, Prod.mk.injEq] at h
              obtain ⟨rfl, rfl, rfl⟩ := h
              obtain ⟨s, rfl, hs⟩ := char_app t _ _ hq
              refine ⟨c, s, rfl, fun hg => by rw [gapc_of] at hg; omega, fun w _ => ?_⟩
              rw [nextS_38 hc h38, hs w]
            · cases h
          · by_cases hd : di c = true
            · rw [nextS_di hc h39 h34 h38 hd] at h
              have e1 : (c :: t).takeWhile di = c :: t.takeWhile di := List.takeWhile_cons_of_pos hd
              have e2 : (c :: t).dropWhile di = t.dropWhile di := List.dropWhile_cons_of_pos hd
              rw [e1, e2] at h
              split at h
              · rename_i hi
                simp only [Option.some.injEq, Prod.mk.injEq] at h
                obtain ⟨rfl, rfl, rfl⟩ := h
                refine ⟨c, t.takeWhile di, by rw [List.takeWhile_append_dropWhile], (fun hg => by rw [gapc_di hg] at hd; cases hd), fun w hcw => ?_⟩
                obtain ⟨f1, f2⟩ := take_app (p := di) (all_take t) (compat_fails (fun _ => gapc_di) hcw (drop_fails t))
                rw [nextS_di hc h39 h34 h38 hd, List.takeWhile_cons_of_pos hd, List.dropWhile_cons_of_pos hd, f1, f2, if_pos hi]
              · cases h
            · by_cases ht : (c.toNat : Int) = 126 ∧ t.takeWhile di ≠ []
              · obtain ⟨h126, htd⟩ := ht
                have hng : ¬ gapc c := fun hg => by rw [gapc_of] at hg; omega
                rw [nextS_til hc h126 htd] at h
                split at h
                · rename_i h48
                  simp only [Option.some.injEq, Prod.mk.injEq] at h
                  obtain ⟨rfl, rfl, rfl⟩ := h
                  refine ⟨c, [], rfl, hng, fun w hcw => ?_⟩
                  simp only [List.nil_append]
                  have hsp := List.takeWhile_append_dropWhile (p := di) (l := t)
                  have hf := drop_fails (p := di) t
                  have sgn : w.takeWhile di = [] → nextS (c :: w) = some (kSign, [126], w) := by
                    intro hw
                    have hc126 : c = 126 := u8_eq (d := 126) h126
                    subst hc126
                    rw [nextS_sign hc h39 h34 h38 hd (fun hh => hh.2 hw), til_sign]
                    simp
                  have til : w.takeWhile di = [48] → nextS (c :: w) = some (kSign, [126], w) := by
                    intro hw
                    rw [nextS_til hc h126 (by rw [hw]; simp), if_pos hw]
                  rw [h48] at hsp
                  generalize t.dropWhile di = t' at hsp hf
                  subst hsp
                  have stopd : ∀ {v : By}, stop v → v.takeWhile di = [] := by
                    intro v hv
                    have := (take_app (p := di) (s := []) (w := v) (by simp) (stop_fails (fun _ => gapc_di) hv)).1
                    simpa using this
                  rcases hcw with hcw | ⟨d, r', w', e1, rfl, hcw⟩
                  · exact sgn (stopd hcw)
                  · simp only [List.cons_append, List.nil_append, List.cons.injEq] at e1
                    obtain ⟨rfl, rfl⟩ := e1
                    have d48 : di 48 = true := by decide
                    refine til ?_
                    rw [List.takeWhile_cons_of_pos d48]
                    rcases hcw with hcw | ⟨d, r'', w'', rfl, rfl⟩
                    · rw [stopd hcw]
                    · rcases hf with hf | ⟨d', r3, hf, hdf⟩
                      · cases hf
                      · simp only [List.cons.injEq] at hf
                        obtain ⟨rfl, rfl⟩ := hf
                        rw [List.takeWhile_cons_of_neg (by simp [hdf])]
                · rename_i h48
                  split at h
                  · rename_i hi
                    simp only [Option.some.injEq, Prod.mk.injEq] at h
                    obtain ⟨rfl, rfl, rfl⟩ := h
                    refine ⟨c, t.takeWhile di, by rw [List.takeWhile_append_dropWhile], hng, fun w hcw => ?_⟩
                    obtain ⟨f1, f2⟩ := take_app (p := di) (all_take t) (compat_fails (fun _ => gapc_di) hcw (drop_fails t))
                    rw [nextS_til hc h126 (by rw [f1]; exact htd), f1, f2, if_neg h48, if_pos hi]
                  · cases h
              · rw [nextS_sign hc h39 h34 h38 hd ht] at h
                split at h
                · cases h
                · rename_i hn
                  simp only [Option.some.injEq, Prod.mk.injEq] at h
                  obtain ⟨rfl, rfl, hr⟩ := h
                  have hle := signN_le 3 (c :: t)
                  have hat := signN_at 3 (c :: t) hn
                  obtain ⟨n, hk⟩ : ∃ n, signN 3 (c :: t) = n + 1 := ⟨signN 3 (c :: t) - 1, by omega⟩
                  have hng : ¬ gapc c := sign_gap _ hat c (by rw [hk]; simp)
                  have e1 : (c :: t).take (signN 3 (c :: t)) = c :: t.take n := by rw [hk]; rfl
                  have e2 : r = t.drop n := by rw [← hr, hk]; rfl
                  refine ⟨c, t.take n, by rw [e2, List.take_append_drop], hng, fun w hcw => ?_⟩
                  have hsg := sign_app hn hr.symm hcw
                  rw [e1, List.cons_append] at hsg
                  have hnt : ¬((c.toNat : Int) = 126 ∧ (t.take n ++ w).takeWhile di ≠ []) := by
                    rintro ⟨h126, hh⟩
                    have hc126 : c = 126 := u8_eq (d := 126) h126
                    subst hc126
                    rw [til_sign] at hk
                    obtain rfl : n = 0 := by omega
                    simp only [List.take_zero, List.nil_append, List.drop_zero] at hh e2
                    subst e2
                    apply hh
                    have hf : fails di r := by
                      cases r with
                      | nil => exact .inl rfl
                      | cons d r =>
                        refine .inr ⟨d, r, rfl, ?_⟩
                        cases hx : di d with
                        | false => rfl
                        | true => exact absurd ⟨h126, by rw [List.takeWhile_cons_of_pos hx]; simp⟩ ht
                    have := (take_app (p := di) (s := []) (w := w) (by simp) (compat_fails (fun _ => gapc_di) hcw hf)).1
                    simpa using this
                  rw [nextS_sign hc h39 h34 h38 hd hnt, hsg, if_neg hn, e1]
                  have hlen : (c :: t.take n).length = signN 3 (c :: t) := by rw [← e1, List.length_take]; omega
                  rw [← List.cons_append, ← hlen]
                  simp
theorem lexS_congr {s t : By} (h : step1 s = step1 t) : lexS s = lexS t := by
  cases hs : step1 t with
  | bad u => rw [lexS_bad hs, lexS_bad (h.trans hs)]
  | done => rw [lexS_done hs, lexS_done (h.trans hs)]
  | tok k x u r => rw [lexS_tok hs, lexS_tok (h.trans hs)]
theorem step1_congr {s t : By} (h : skipS s = skipS t) : step1 s = step1 t := by
  unfold step1; rw [h]
/-- What a step that finds a token says of a text. -/
theorem step1_tok {t k x u r : By} (h : step1 t = .tok k x u r) : ∃ b c s, t = b ++ u ∧ u = c :: (s ++ r) ∧ (∀ w, skipS (b ++ w) = skipS w) ∧ (b = [] ∨ ∃ d b', b = d :: b' ∧ gapc d) ∧ ¬ gapc c ∧
    ∀ w, Compat r w → step1 (c :: (s ++ w)) = .tok k x (c :: (s ++ w)) w := by
  unfold step1 at h
  split at h
  · rename_i h2
    split at h
    · cases h
    · rename_i h1
      cases hn : nextS (skipS t).1 with
      | none => rw [hn] at h; cases h
      | some q =>
        obtain ⟨k', x', r'⟩ := q
        rw [hn] at h
        simp only [St.tok.injEq] at h
        obtain ⟨rfl, rfl, rfl, rfl⟩ := h
        obtain ⟨b, e, hb, hb2⟩ := skip_split t.length t (skipS t).1 (Nat.le_refl _) (by rw [← h2]) h1
        obtain ⟨c, s, e2, hc, hw⟩ := next_app hn
        refine ⟨b, c, s, e, e2, hb, hb2, hc, fun w hcw => ?_⟩
        unfold step1
        rw [skip_no hc]
        simp only [if_true]
        rw [if_neg (by simp), hw w hcw]
  · cases h
theorem step1_done {t : By} (h : step1 t = .done) : (∀ w, skipS (t ++ 10 :: w) = skipS w) ∧ (t = [] ∨ ∃ c b', t = c :: b' ∧ gapc c) := by
  unfold step1 at h
  split at h
  · rename_i h2
    split at h
    · rename_i h1
      exact skip_end t.length t (Nat.le_refl _) (by rw [← h1, ← h2])
    · split at h <;> cases h
  · cases h
/-- A token further on, by so much that there is more behind it. -/
def shift (n : Nat) (x : Tok) : Tok := (x.1, x.2.1, x.2.2 + n)
theorem lex_join (t : By) (n : Nat) : ∀ (s : By) (ts : List Tok), s.length ≤ n → lexS s = (none, ts) → lexS (s ++ 10 :: t) = ((lexS t).1, ts.map (shift (t.length + 1)) ++ (lexS t).2) := by
  induction n with
  | zero =>
    intro s ts hs h
    obtain rfl : s = [] := List.eq_nil_of_length_eq_zero (by omega)
    have hd : step1 [] = .done := by unfold step1; rw [skipS_none rfl]; rfl
    rw [lexS_done hd] at h
    simp only [Prod.mk.injEq, true_and] at h
    subst h
    rw [lexS_congr (step1_congr ((step1_done hd).1 t))]
    rfl
  | succ n ih =>
    intro s ts hs h
    cases hst : step1 s with
    | bad u => rw [lexS_bad hst] at h; simp at h
    | done =>
      rw [lexS_done hst] at h
      simp only [Prod.mk.injEq, true_and] at h
      subst h
      rw [lexS_congr (step1_congr ((step1_done hst).1 t))]
      rfl
    | tok k x u r =>
      rw [lexS_tok hst] at h
      simp only [Prod.mk.injEq] at h
      obtain ⟨h1, rfl⟩ := h
      have hsuf := step1_suf hst
      have hr := ih r (lexS r).2 (by omega) (by rw [← h1])
      obtain ⟨b, c, s', rfl, rfl, hb, _, hc, hw⟩ := step1_tok hst
      have e : (b ++ c :: (s' ++ r)) ++ 10 :: t = b ++ (c :: (s' ++ (r ++ 10 :: t))) := by simp
      have hst2 : step1 ((b ++ c :: (s' ++ r)) ++ 10 :: t) = .tok k x (c :: (s' ++ (r ++ 10 :: t))) (r ++ 10 :: t) := by
        rw [e, step1_congr (hb _), hw _ (compat_refl_ten r t)]
      rw [lexS_tok hst2, hr]
      simp only [List.map_cons, List.cons_append, Prod.mk.injEq, true_and, List.cons.injEq, and_true, shift]
      simp only [List.length_cons, List.length_append]
      omega
/-- Blanks and remarks: what is behind them is all that counts. -/
def Gap (b : By) : Prop := (∀ w, skipS (b ++ w) = skipS w) ∧ (b = [] ∨ ∃ c b', b = c :: b' ∧ gapc c)
/-- A text with a gap put in front of each of its tokens, and a line's end and a gap behind it. v: what is left of it, from the last token's begin on. -/
def bld (g : Nat → By) (g0 : By) : Nat → By → List Tok → By
  | _, v, [] => v ++ 10 :: g0
  | i, v, x :: ts => v.take (v.length - x.2.2) ++ (g i ++ bld g g0 (i + 1) (v.drop (v.length - x.2.2)) ts)
/-- A token's kind and text. -/
def kx (x : Tok) : By × By := (x.1, x.2.1)
theorem skip_nil : skipS [] = ([], true) := skipS_none rfl
theorem lex_blanks (g : Nat → By) (g0 : By) (hg : ∀ i, Gap (g i)) (hg0 : Gap g0) (n : Nat) : ∀ (t : By) (ts : List Tok), t.length ≤ n → lexS t = (none, ts) → ∀ (p : By) (i : Nat), ∃ t', bld g g0 i (p ++ t) ts = p ++ t' ∧ Compat t t' ∧ (lexS t').1 = none ∧ (lexS t').2.map kx = ts.map kx := by
  have fin : ∀ (t : By) (ts : List Tok), step1 t = .done → lexS t = (none, ts) → ∀ (p : By) (i : Nat), ∃ t', bld g g0 i (p ++ t) ts = p ++ t' ∧ Compat t t' ∧ (lexS t').1 = none ∧ (lexS t').2.map kx = ts.map kx := by
    intro t ts hst h p i
    rw [lexS_done hst] at h
    simp only [Prod.mk.injEq, true_and] at h
    subst h
    obtain ⟨h1, h2⟩ := step1_done hst
    have hs : step1 (t ++ 10 :: g0) = .done := by
      rw [step1_congr (t := []) (by rw [h1]; have := hg0.1 []; rwa [List.append_nil] at this)]
      unfold step1
      rw [skip_nil]
      rfl
    refine ⟨t ++ 10 :: g0, by simp [bld], .inl ?_, by rw [lexS_done hs], by rw [lexS_done hs]⟩
    rcases h2 with rfl | ⟨c, b', rfl, hc⟩
    · exact .inr ⟨10, g0, rfl, .inl blank_ten⟩
    · exact .inr ⟨c, b' ++ 10 :: g0, rfl, hc⟩
  induction n with
  | zero =>
    intro t ts ht h p i
    obtain rfl : t = [] := List.eq_nil_of_length_eq_zero (by omega)
    exact fin [] ts (by unfold step1; rw [skip_nil]; rfl) h p i
  | succ n ih =>
    intro t ts ht h p i
    cases hst : step1 t with
    | bad u => rw [lexS_bad hst] at h; simp at h
    | done => exact fin t ts hst h p i
    | tok k x u r =>
      rw [lexS_tok hst] at h
      simp only [Prod.mk.injEq] at h
      obtain ⟨h1, rfl⟩ := h
      have hsuf := step1_suf hst
      obtain ⟨b, c, s, rfl, rfl, hb, hb2, hc, hw⟩ := step1_tok hst
      obtain ⟨r', e1, e2, e3, e4⟩ := ih r (lexS r).2 (by omega) (by rw [← h1]) (c :: s) (i + 1)
      have hst2 : step1 (b ++ (g i ++ (c :: (s ++ r')))) = .tok k x (c :: (s ++ r')) r' := by
        rw [step1_congr ((hb _).trans ((hg i).1 _)), hw _ e2]
      refine ⟨b ++ (g i ++ (c :: (s ++ r'))), ?_, ?_, by rw [lexS_tok hst2]; exact e3, by rw [lexS_tok hst2]; simp only [List.map_cons, e4]; rfl⟩
      · have hl : (p ++ (b ++ c :: (s ++ r))).length - (c :: (s ++ r)).length = (p ++ b).length := by simp; omega
        have ha : p ++ (b ++ c :: (s ++ r)) = (p ++ b) ++ c :: (s ++ r) := by simp
        rw [bld]
        simp only
        rw [hl, ha, List.take_left, List.drop_left]
        simp only [List.cons_append] at e1
        rw [e1]
        simp
      · rcases hb2 with rfl | ⟨d, b', rfl, hd⟩
        · rcases (hg i).2 with hgi | ⟨d, b', hgi, hd⟩
          · rw [hgi]
            exact compat_more (s := c :: s) e2 (by simp)
          · rw [hgi]
            exact .inl (.inr ⟨d, _, rfl, hd⟩)
        · exact .inl (.inr ⟨d, _, rfl, hd⟩)
/-- Tokens stand one behind the other. -/
def Desc : Nat → List Tok → Prop
  | _, [] => True
  | m, x :: ts => 0 < x.2.2 ∧ x.2.2 ≤ m ∧ Desc x.2.2 ts
theorem desc_le : ∀ {ts : List Tok} {m m' : Nat}, Desc m ts → m ≤ m' → Desc m' ts
  | [], _, _, _, _ => trivial
  | _ :: _, _, _, h, hm => ⟨h.1, Nat.le_trans h.2.1 hm, h.2.2⟩
theorem lex_desc (n : Nat) : ∀ (t : By), t.length ≤ n → Desc t.length (lexS t).2 := by
  induction n with
  | zero =>
    intro t ht
    cases hs : step1 t with
    | bad v => rw [lexS_bad hs]; trivial
    | done => rw [lexS_done hs]; trivial
    | tok k x v r => have := step1_suf hs; omega
  | succ n ih =>
    intro t ht
    cases hs : step1 t with
    | bad v => rw [lexS_bad hs]; trivial
    | done => rw [lexS_done hs]; trivial
    | tok k x v r =>
      have h1 := step1_suf hs
      rw [lexS_tok hs]
      exact ⟨by show 0 < v.length; omega, h1.1.length_le, desc_le (ih r (by omega)) (by show r.length ≤ v.length; omega)⟩
theorem bld_length (g : Nat → By) (g0 : By) (hg : ∀ i, (g i).length ≤ 11) (hg0 : g0.length ≤ 11) : ∀ (ts : List Tok) (i : Nat) (v : By), (bld g g0 i v ts).length ≤ v.length + 12 + 11 * ts.length
  | [], i, v => by simp [bld]; omega
  | x :: ts, i, v => by
    have h1 := hg i
    have h2 := bld_length g g0 hg hg0 ts (i + 1) (v.drop (v.length - x.2.2))
    have h3 := congrArg List.length (List.take_append_drop (v.length - x.2.2) v)
    rw [List.length_append] at h3
    simp only [bld, List.length_append, List.length_cons]
    omega
end Go.Proofs.Ytgbielhbjgipoaa.Pure
/-! The sources of tokens, and that they are read back. -/
namespace Go.Proofs.Ytgbielhbjgipoaa.Pure
set_option linter.unusedVariables false
set_option linter.unusedSimpArgs false
def hdB (p : UInt8 → Bool) : By → Bool
  | [] => false
  | c :: _ => p c
def varS (s : By) : Bool := hdB up s && s.all wo && decide (s.length ≤ 60)
def plainS (s : By) : Bool := hdB lo s && s.all wo && decide (s.length ≤ 60) && !decide (s ∈ keys)
/-- A byte that may stand in quotes. -/
def pr (c : UInt8) : Bool := (c.toNat : Int) == 10 || (decide (32 ≤ (c.toNat : Int)) && decide ((c.toNat : Int) ≤ 126))
def printS (s : By) (most : Nat) : Bool := s.all pr && decide (s.length ≤ most)
/-- A text with the signs that it wants inside quotes. -/
def escS (q : UInt8) : By → By
  | [] => []
  | c :: t => if c = q ∨ (c.toNat : Int) = 92 then 92 :: c :: escS q t else if (c.toNat : Int) = 10 then 92 :: 110 :: escS q t else c :: escS q t
def inQ (q : UInt8) (s : By) : By := q :: (escS q s ++ [q])
def numS (s : By) : Bool := s.all di && intOk false s
/-- Is a text that of an int? -/
def intS (s : By) : Bool := match s with
  | c :: ds => if (c.toNat : Int) = 126 then (if c :: ds = [126, 48] then false else numS ds) else numS s
  | [] => numS []
def validS (k x : By) : Bool :=
  if k = kVar then varS x else if k = kAtom then printS x 60 else if k = kText then printS x 200 else if k = kInt then intS x
  else if k = kChar then x.length == 1 && hdB pr x else if k = kKey then decide (x ∈ keys) else if k = kSign then decide (x ∈ signs) else false
def charT (x : By) : By := if x = [10] then [38, 92, 110] else if x = [32] then [38, 92, 115] else if x = [92] then [38, 92, 92] else 38 :: x
/-- The shortest source of a token. -/
def textS (k x : By) : By := if k = kAtom then (if plainS x then x else inQ 39 x) else if k = kText then inQ 34 x else if k = kChar then charT x else x
theorem takeWhile_all {p : UInt8 → Bool} {s : By} (h : s.all p = true) : s.takeWhile p = s ∧ s.dropWhile p = [] := by
  have := take_app (p := p) (s := s) (w := []) (List.all_eq_true.1 h) (.inl rfl)
  simpa using this
theorem quoted_esc {q c : UInt8} (h92 : ¬ (q.toNat : Int) = 92) (hc : c = q ∨ (c.toNat : Int) = 92) (t : By) : quotedS q (92 :: c :: t) = (quotedS q t).map (fun r => (c :: r.1, r.2)) := by
  have h : ¬ (92 : UInt8) = q := by
    rintro rfl
    exact h92 (by decide)
  rw [quotedS, if_neg h, if_pos (by decide), if_pos hc]
theorem quoted_nl {q : UInt8} (h92 : ¬ (q.toNat : Int) = 92) (h110 : ¬ (q.toNat : Int) = 110) (t : By) : quotedS q (92 :: 110 :: t) = (quotedS q t).map (fun r => (10 :: r.1, r.2)) := by
  have h : ¬ (92 : UInt8) = q := by
    rintro rfl
    exact h92 (by decide)
  have h2 : ¬ ((110 : UInt8) = q ∨ ((110 : UInt8).toNat : Int) = 92) := by
    rintro (rfl | h2)
    · exact h110 (by decide)
    · exact absurd h2 (by decide)
  rw [quotedS, if_neg h, if_pos (by decide), if_neg h2, if_pos (by decide)]
theorem quoted_pr {q c : UInt8} (hq : ¬ c = q) (h92 : ¬ (c.toNat : Int) = 92) (h1 : 32 ≤ (c.toNat : Int)) (h2 : (c.toNat : Int) ≤ 126) (t : By) : quotedS q (c :: t) = (quotedS q t).map (fun r => (c :: r.1, r.2)) := by
  cases t with
  | nil => simp [quotedS, hq]
  | cons d t => rw [quotedS, if_neg hq, if_neg h92, if_neg (by omega)]
theorem quoted_end (q : UInt8) (w : By) : quotedS q (q :: w) = some ([], w) := by
  cases w <;> simp [quotedS]
theorem quoted_text {q : UInt8} (h92 : ¬ (q.toNat : Int) = 92) (h110 : ¬ (q.toNat : Int) = 110) (w : By) : ∀ s : By, s.all pr = true → quotedS q (escS q s ++ q :: w) = some (s, w)
  | [], _ => by simp only [escS, List.nil_append]; exact quoted_end q w
  | c :: s, h => by
    rw [List.all_cons, Bool.and_eq_true] at h
    have ih := quoted_text h92 h110 w s h.2
    rw [escS]
    split
    · rename_i hc
      simp only [List.cons_append]
      rw [quoted_esc h92 hc, ih]
      rfl
    · rename_i hc
      split
      · rename_i h10
        simp only [List.cons_append]
        rw [quoted_nl h92 h110, ih]
        have : c = 10 := u8_eq (d := 10) h10
        rw [this]
        rfl
      · rename_i h10
        have hp := h.1
        unfold pr at hp
        rw [beq_eq_false_iff_ne.mpr h10, Bool.false_or, Bool.and_eq_true, decide_eq_true_eq, decide_eq_true_eq] at hp
        simp only [List.cons_append]
        rw [quoted_pr (fun e => hc (.inl e)) (fun e => hc (.inr e)) hp.1 hp.2, ih]
        rfl
theorem hdB_cons {p : UInt8 → Bool} {s : By} (h : hdB p s = true) : ∃ c t, s = c :: t ∧ p c = true := by
  cases s with
  | nil => cases h
  | cons c t => exact ⟨c, t, rfl, h⟩
theorem next_key : ∀ x ∈ keys, nextS x = some (kKey, x, []) := by decide +kernel
theorem next_sign : ∀ x ∈ signs, nextS x = some (kSign, x, []) := by decide +kernel
theorem next_var {x : By} (h : varS x = true) : nextS x = some (kVar, x, []) := by
  unfold varS at h
  simp only [Bool.and_eq_true, decide_eq_true_eq] at h
  obtain ⟨⟨h1, h2⟩, h3⟩ := h
  obtain ⟨c, t, rfl, hc⟩ := hdB_cons h1
  obtain ⟨e1, e2⟩ := takeWhile_all h2
  rw [nextS_word (by rw [hc]; rfl), e1, e2, if_pos h3, if_pos hc]
theorem lo_up {c : UInt8} (h : lo c = true) : ¬ up c = true := by
  unfold lo isLo at h
  unfold up isUp
  simp only [Bool.and_eq_true, decide_eq_true_eq] at h ⊢
  omega
theorem next_plain {x : By} (h : plainS x = true) : nextS x = some (kAtom, x, []) := by
  unfold plainS at h
  simp only [Bool.and_eq_true, decide_eq_true_eq, Bool.not_eq_true', decide_eq_false_iff_not] at h
  obtain ⟨⟨⟨h1, h2⟩, h3⟩, h4⟩ := h
  obtain ⟨c, t, rfl, hc⟩ := hdB_cons h1
  obtain ⟨e1, e2⟩ := takeWhile_all h2
  rw [nextS_word (by rw [hc]; simp), e1, e2, if_pos h3, if_neg (lo_up hc), if_neg h4]
theorem next_q39 {x : By} (h : printS x 60 = true) : nextS (inQ 39 x) = some (kAtom, x, []) := by
  unfold printS at h
  simp only [Bool.and_eq_true, decide_eq_true_eq] at h
  unfold inQ
  rw [nextS_39 (by decide) (by decide), quoted_text (by decide) (by decide) [] x h.1]
  simp only [h.2, if_true]
theorem next_q34 {x : By} (h : printS x 200 = true) : nextS (inQ 34 x) = some (kText, x, []) := by
  unfold printS at h
  simp only [Bool.and_eq_true, decide_eq_true_eq] at h
  unfold inQ
  rw [nextS_34 (by decide) (by decide), quoted_text (by decide) (by decide) [] x h.1]
  simp only [h.2, if_true]
theorem intOk_ne {b : Bool} {s : By} (h : intOk b s = true) : s ≠ [] := by
  rintro rfl
  simp [intOk] at h
theorem di_cond {c : UInt8} (h : di c = true) : ¬ (up c || lo c) = true ∧ ¬ (c.toNat : Int) = 39 ∧ ¬ (c.toNat : Int) = 34 ∧ ¬ (c.toNat : Int) = 38 := by
  unfold di isDi at h
  unfold up lo isUp isLo
  simp only [Bool.and_eq_true, decide_eq_true_eq, Bool.or_eq_true] at h ⊢
  omega
theorem next_num {x : By} (h : numS x = true) : nextS x = some (kInt, x, []) := by
  unfold numS at h
  rw [Bool.and_eq_true] at h
  obtain ⟨h1, h2⟩ := h
  have hne := intOk_ne h2
  cases x with
  | nil => exact absurd rfl hne
  | cons c t =>
    have hd : di c = true := by rw [List.all_cons, Bool.and_eq_true] at h1; exact h1.1
    obtain ⟨d1, d2, d3, d4⟩ := di_cond hd
    obtain ⟨e1, e2⟩ := takeWhile_all h1
    rw [nextS_di d1 d2 d3 d4 hd, e1, e2, if_pos h2]
theorem intOk_signed {ds : By} (h48 : ds ≠ [48]) : intOk true ds = intOk false ds := by
  unfold intOk
  cases ds with
  | nil => rfl
  | cons c ds =>
    by_cases hc : (c.toNat : Int) = 48
    · simp only [hc, if_true, Bool.not_false, Bool.and_true, Bool.not_true, Bool.and_false]
      have : ((c :: ds).length == 1) = false := by
        rw [beq_eq_false_iff_ne]
        intro h
        have hds : ds = [] := by simpa using h
        exact h48 (by rw [hds, u8_eq (d := 48) hc])
      simp only [this, Bool.and_false]
    · simp only [hc, if_false]
theorem next_int {x : By} (h : intS x = true) : nextS x = some (kInt, x, []) := by
  unfold intS at h
  cases x with
  | nil => exact next_num h
  | cons c ds =>
    simp only at h
    by_cases hc : (c.toNat : Int) = 126
    · rw [if_pos hc] at h
      split at h
      · cases h
      · rename_i h48
        have hc126 : c = 126 := u8_eq (d := 126) hc
        subst hc126
        have hd48 : ds ≠ [48] := fun e => h48 (by rw [e])
        unfold numS at h
        rw [Bool.and_eq_true] at h
        obtain ⟨e1, e2⟩ := takeWhile_all h.1
        rw [nextS_til (by decide) (by decide) (by rw [e1]; exact intOk_ne h.2), e1, e2, if_neg hd48, intOk_signed hd48, if_pos h.2]
    · rw [if_neg hc] at h
      exact next_num h
theorem next_char {x : By} (h : (x.length == 1 && hdB pr x) = true) : nextS (charT x) = some (kChar, x, []) := by
  rw [Bool.and_eq_true, beq_iff_eq] at h
  obtain ⟨c, t, rfl, hc⟩ := hdB_cons h.2
  have ht : t = [] := by simpa using h.1
  subst ht
  unfold charT
  split
  · rename_i e; rw [e]; decide +kernel
  · rename_i e1
    split
    · rename_i e; rw [e]; decide +kernel
    · rename_i e2
      split
      · rename_i e; rw [e]; decide +kernel
      · rename_i e3
        have h10 : ¬ (c.toNat : Int) = 10 := fun e => e1 (by rw [u8_eq (d := 10) e])
        have h32 : ¬ (c.toNat : Int) = 32 := fun e => e2 (by rw [u8_eq (d := 32) e])
        have h92 : ¬ (c.toNat : Int) = 92 := fun e => e3 (by rw [u8_eq (d := 92) e])
        unfold pr at hc
        rw [beq_eq_false_iff_ne.mpr h10, Bool.false_or, Bool.and_eq_true, decide_eq_true_eq, decide_eq_true_eq] at hc
        rw [nextS_38 (by decide) (by decide)]
        simp only [charS]
        rw [if_neg h92, if_pos (by omega)]
theorem next_text {k x : By} (h : validS k x = true) : nextS (textS k x) = some (k, x, []) := by
  unfold validS at h
  unfold textS
  by_cases k1 : k = kVar
  · subst k1
    rw [if_pos rfl] at h
    rw [if_neg (by decide), if_neg (by decide), if_neg (by decide)]
    exact next_var h
  · rw [if_neg k1] at h
    by_cases k2 : k = kAtom
    · subst k2
      rw [if_pos rfl] at h ⊢
      split
      · rename_i hp; exact next_plain hp
      · exact next_q39 h
    · rw [if_neg k2] at h ⊢
      by_cases k3 : k = kText
      · subst k3
        rw [if_pos rfl] at h ⊢
        exact next_q34 h
      · rw [if_neg k3] at h ⊢
        by_cases k4 : k = kInt
        · subst k4
          rw [if_pos rfl] at h
          rw [if_neg (by decide)]
          exact next_int h
        · rw [if_neg k4] at h
          by_cases k5 : k = kChar
          · subst k5
            rw [if_pos rfl] at h ⊢
            exact next_char h
          · rw [if_neg k5] at h ⊢
            by_cases k6 : k = kKey
            · subst k6
              rw [if_pos rfl] at h
              exact next_key x (of_decide_eq_true h)
            · rw [if_neg k6] at h
              by_cases k7 : k = kSign
              · subst k7
                rw [if_pos rfl] at h
                exact next_sign x (of_decide_eq_true h)
              · rw [if_neg k7] at h
                cases h
/-- A text with a space between each two. -/
def joinS : List By → By
  | [] => []
  | [x] => x
  | x :: y :: l => x ++ 32 :: joinS (y :: l)
theorem step1_text {k x : By} (h : validS k x = true) (w : By) (hw : stop w) : step1 (textS k x ++ w) = .tok k x (textS k x ++ w) w := by
  obtain ⟨c, s, e, hc, hn⟩ := next_app (next_text h)
  rw [List.append_nil] at e
  rw [e, List.cons_append]
  unfold step1
  rw [skip_no hc]
  simp only [if_true]
  rw [if_neg (by simp), hn w (.inl hw)]
theorem lex_nil : lexS [] = (none, []) := lexS_done (by unfold step1; rw [skip_nil]; rfl)
theorem lexS_space (w : By) : lexS (32 :: w) = lexS w := lexS_congr (step1_congr (skipS_some (gap1_blank (by decide) w)))
theorem lex_texts : ∀ l : List (By × By), (∀ x ∈ l, validS x.1 x.2 = true) → (lexS (joinS (l.map fun x => textS x.1 x.2))).1 = none ∧ (lexS (joinS (l.map fun x => textS x.1 x.2))).2.map kx = l
  | [], _ => by simp [joinS, lex_nil]
  | [x], h => by
    have h1 := step1_text (h x (by simp)) [] (.inl rfl)
    rw [List.append_nil] at h1
    simp only [List.map_cons, List.map_nil, joinS]
    rw [lexS_tok h1, lex_nil]
    exact ⟨rfl, rfl⟩
  | x :: y :: l, h => by
    obtain ⟨i1, i2⟩ := lex_texts (y :: l) (fun z hz => h z (by simp [hz]))
    have h1 := step1_text (h x (by simp)) (32 :: joinS ((y :: l).map fun x => textS x.1 x.2)) (.inr ⟨32, _, rfl, .inl (by decide)⟩)
    simp only [List.map_cons, joinS] at i1 i2 h1 ⊢
    rw [lexS_tok h1, lexS_space]
    exact ⟨i1, by rw [List.map_cons, i2]; rfl⟩
theorem lex_text {k x : By} (h : validS k x = true) : lexS (textS k x) = (none, [(k, x, (textS k x).length)]) := by
  have h1 := step1_text h [] (.inl rfl)
  rw [List.append_nil] at h1
  rw [lexS_tok h1, lex_nil]
end Go.Proofs.Ytgbielhbjgipoaa.Pure
/-! What the program's reader of tokens answers, as the specification says it. -/
namespace Go.Proofs.Ytgbielhbjgipoaa.Pure
set_option linter.unusedVariables false
set_option linter.unusedSimpArgs false
open Go.RowKit Go.Proofs.YtgbielhbjgipoaaW.PrintWords Go.Proofs.YtgbielhbjgipoaaW.PrintLast Go.Proofs.YtgbielhbjgipoaaW.PrintMore Go.Proofs.Ytgbielhbjgipoaa.Q
theorem upper_eq (x : Int) : token_upper.f x = some (isUp x) := by
  unfold token_upper.f isUp; by_cases h : 65 ≤ x <;> simp [h]
theorem lower_eq (x : Int) : token_lower.f x = some (isLo x) := by
  unfold token_lower.f isLo; by_cases h : 97 ≤ x <;> simp [h]
theorem digit_eq (x : Int) : token_digit.f x = some (isDi x) := by
  unfold token_digit.f isDi; by_cases h : 48 ≤ x <;> simp [h]
theorem word_eq (x : Int) : token_word.f x = some (isWo x) := by
  unfold token_word.f isWo
  rw [upper_eq, lower_eq, digit_eq]
  cases isUp x <;> cases isLo x <;> cases isDi x <;> simp
/-- Do two bytes stand at the head of a text? -/
def pre2 (x y : Int) : By → Bool
  | a :: b :: _ => decide ((a.toNat : Int) = x ∧ (b.toNat : Int) = y)
  | _ => false
theorem hasPrefix_eq (t : By) (x y : UInt8) : strings_HasPrefix.f (ofL t) (⟨#[x, y]⟩ : ByteArray) = some (pre2 x.toNat y.toNat t) := by
  unfold strings_HasPrefix.f stringslite_HasPrefix.f
  have hb : (⟨#[x, y]⟩ : ByteArray).size = 2 := rfl
  have hl : L (⟨#[x, y]⟩ : ByteArray) = [x, y] := rfl
  simp only [hb, size_ofL, toList_L, L_extract, L_ofL, hl, List.drop_zero]
  match t with
  | [] => simp [pre2]
  | [a] => simp [pre2]
  | a :: b :: t =>
    rw [if_pos (by simp; omega), if_pos (by omega), if_pos (by simp; omega)]
    simp only [Option.bind_some, Option.some.injEq, pre2]
    rw [Bool.eq_iff_iff]
    simp [Int.ofNat_inj, UInt8.toNat_inj]
theorem remark0_ev {a : ByteArray} (ha : Fits a) : ∀ t, t <:+ L a → Ev (fun k => token_remark.l0 k a (at_ a t)) (at_ a (rem0 t))
  | [], _ => by
    refine Ev.step (fun k => by rw [token_remark.l0]) ?_
    rw [at_nil]
    refine ev_neg (by omega) (ev_now ?_)
    rw [rem0, at_nil]
    unfold mn wrap64; split <;> omega
  | c :: t, h => by
    have h1 := suf_tail h
    refine Ev.step (fun k => by rw [token_remark.l0]) ?_
    refine ev_pos (at_lt a c t) (ev_pos (at_nonneg h) ?_)
    simp only [bt_of h, at_succ ha h, rem0]
    by_cases hc : (c.toNat : Int) = 10
    · rw [if_pos hc]
      refine ev_pos hc (ev_now ?_)
      have := at_le a t
      unfold mn; split <;> omega
    · rw [if_neg hc]
      exact ev_neg hc (remark0_ev ha t h1)
/-- A place, or -1. -/
def posO (a : ByteArray) : Option By → Int
  | none => -1
  | some u => at_ a u
theorem remark1_ev {a : ByteArray} (ha : Fits a) : ∀ (d : Int) (t : By), t <:+ L a → 1 ≤ d → d + t.length ≤ 281474976710656 → Ev (fun k => token_remark.l1 k a (at_ a t) d) (posO a (rem1 d t))
  | d, [], _, _, _ => by
    refine Ev.step (fun k => by rw [token_remark.l1]) ?_
    rw [at_nil]
    exact ev_neg (by omega) (ev_now rfl)
  | d, [c], h, hd, hb => by
    refine Ev.step (fun k => by rw [token_remark.l1]) ?_
    refine ev_pos (at_lt a c []) (ev_pos (at_nonneg h) (ev_pos (at_le a _) ?_))
    rw [ex_rest h]
    refine ev_bind0 (hasPrefix_eq _ _ _) (ev_neg (by simp [pre2]) (ev_bind0 (hasPrefix_eq _ _ _) (ev_neg (by simp [pre2]) (ev_neg (by omega) ?_))))
    rw [at_succ ha h]
    refine Ev.step (fun k => by rw [token_remark.l1]) ?_
    rw [at_nil]
    exact ev_neg (by omega) (ev_now rfl)
  | d, x :: y :: t, h, hd, hb => by
    have h1 := suf_tail h
    have h2 := suf_tail h1
    simp only [List.length_cons] at hb
    refine Ev.step (fun k => by rw [token_remark.l1]) ?_
    refine ev_pos (at_lt a _ _) (ev_pos (at_nonneg h) (ev_pos (at_le a _) ?_))
    rw [ex_rest h]
    refine ev_bind0 (hasPrefix_eq _ _ _) ?_
    simp only [at_succ ha h, at_succ2 ha h, rem1]
    by_cases c1 : (x.toNat : Int) = 47 ∧ (y.toNat : Int) = 42
    · rw [if_pos c1]
      refine ev_pos (by simpa [pre2] using c1) ?_
      have e : wrap64 (d + 1) = d + 1 := by unfold wrap64; omega
      rw [e]
      exact ev_neg (by omega) (remark1_ev ha (d + 1) t h2 (by omega) (by omega))
    · rw [if_neg c1]
      refine ev_neg (by simpa [pre2] using c1) (ev_bind0 (hasPrefix_eq _ _ _) ?_)
      have e : wrap64 (d - 1) = d - 1 := by unfold wrap64; omega
      rw [e]
      by_cases c2 : (x.toNat : Int) = 42 ∧ (y.toNat : Int) = 47
      · rw [if_pos c2]
        refine ev_pos (by simpa [pre2] using c2) ?_
        by_cases c3 : d = 1
        · rw [if_pos c3]
          exact ev_pos (by omega) (ev_now rfl)
        · rw [if_neg c3]
          exact ev_neg (by omega) (remark1_ev ha (d - 1) t h2 (by omega) (by omega))
      · rw [if_neg c2]
        refine ev_neg (by simpa [pre2] using c2) (ev_neg (by omega) ?_)
        exact remark1_ev ha d (y :: t) h1 hd (by simp; omega)
theorem remark_line {a : ByteArray} (ha : Fits a) {c : UInt8} {t : By} (h : c :: t <:+ L a) (hc : (c.toNat : Int) = 37) : Ev (fun k => token_remark.f k a (at_ a (c :: t))) (at_ a (rem0 t)) := by
  unfold token_remark.f
  refine ev_pos (at_nonneg h) (ev_pos (at_lt a c t) ?_)
  rw [bt_of h]
  refine ev_pos hc ?_
  have := remark0_ev ha (c :: t) h
  rwa [rem0, if_neg (by omega)] at this
theorem remark_nest {a : ByteArray} (ha : Fits a) {c d : UInt8} {t : By} (h : c :: d :: t <:+ L a) (hc : (c.toNat : Int) = 47 ∧ (d.toNat : Int) = 42) : Ev (fun k => token_remark.f k a (at_ a (c :: d :: t))) (posO a (rem1 1 t)) := by
  unfold token_remark.f
  refine ev_pos (at_nonneg h) (ev_pos (at_lt a _ _) ?_)
  rw [bt_of h]
  refine ev_neg (by omega) ?_
  refine Ev.step (fun k => by rw [token_remark.l1]) ?_
  refine ev_pos (at_lt a _ _) (ev_pos (at_nonneg h) (ev_pos (at_le a _) ?_))
  rw [ex_rest h]
  refine ev_bind0 (hasPrefix_eq _ _ _) (ev_pos (by simpa [pre2] using hc) ?_)
  rw [at_succ2 ha h]
  have e : wrap64 (0 + 1) = 1 := by unfold wrap64; omega
  rw [e]
  have hl := suf_len h
  simp only [List.length_cons] at hl
  exact ev_neg (by omega) (remark1_ev ha 1 t (suf_tail (suf_tail h)) (by omega) (by omega))
theorem pre2_gap {c : UInt8} {t : By} (hc : blank c = false) (h37 : ¬ (c.toNat : Int) = 37) : pre2 47 42 (c :: t) = true ↔ ∃ d u, t = d :: u ∧ (c.toNat : Int) = 47 ∧ (d.toNat : Int) = 42 := by
  cases t with
  | nil => simp [pre2]
  | cons d u =>
    simp only [pre2, decide_eq_true_eq, List.cons.injEq]
    constructor
    · intro hh
      exact ⟨d, u, ⟨rfl, rfl⟩, hh⟩
    · rintro ⟨d', u', ⟨rfl, rfl⟩, hh⟩
      exact hh
theorem skip_ev {a : ByteArray} (ha : Fits a) (n : Nat) : ∀ t : By, t.length ≤ n → t <:+ L a → Ev (fun k => token_skip.l0 k a (at_ a t)) (at_ a (skipS t).1, (skipS t).2) := by
  induction n with
  | zero =>
    intro t ht h
    obtain rfl : t = [] := List.eq_nil_of_length_eq_zero (by omega)
    refine Ev.step (fun k => by rw [token_skip.l0]) ?_
    rw [skipS_none rfl]
    exact ev_neg (by rw [at_nil]; omega) (ev_now rfl)
  | succ n ih =>
    intro t ht h
    cases t with
    | nil =>
      refine Ev.step (fun k => by rw [token_skip.l0]) ?_
      rw [skipS_none rfl]
      exact ev_neg (by rw [at_nil]; omega) (ev_now rfl)
    | cons c t =>
      have h1 := suf_tail h
      simp only [List.length_cons] at ht
      refine Ev.step (fun k => by rw [token_skip.l0]) ?_
      refine ev_pos (at_lt a c t) (ev_pos (at_nonneg h) ?_)
      rw [bt_of h]
      refine Ev.congr (f := fun k => token_skip.j1 k a (at_ a (c :: t)) (blank c)) (fun k => ?_) ?_
      · unfold blank
        by_cases b1 : (c.toNat : Int) = 32
        · simp [b1]
        · by_cases b2 : (c.toNat : Int) = 9
          · simp [b2]
          · by_cases b3 : (c.toNat : Int) = 10
            · simp [b3]
            · rw [if_neg b1, if_neg b2, if_neg b3, beq_eq_false_iff_ne.mpr b1, beq_eq_false_iff_ne.mpr b2, beq_eq_false_iff_ne.mpr b3]
              rfl
      · refine Ev.step (fun k => by rw [token_skip.j1]) ?_
        cases hb : blank c with
        | true =>
          refine ev_pos rfl ?_
          rw [at_succ ha h]
          have : gap1 (c :: t) = some (some t) := by
            cases t with
            | nil => simp [gap1, hb]
            | cons d u => simp [gap1, hb]
          rw [skipS_some this]
          exact ih t (by omega) h1
        | false =>
          refine ev_neg (by simp) (ev_pos (at_nonneg h) (ev_pos (at_lt a c t) ?_))
          rw [bt_of h]
          by_cases h37 : (c.toNat : Int) = 37
          · refine ev_pos h37 ?_
            refine Ev.step (fun k => by rw [token_skip.j2]) ?_
            refine ev_pos rfl (Ev.bind (remark_line ha h h37) ?_)
            have hs := (rem0_suf t).trans h1
            refine ev_neg (by have := at_nonneg hs; omega) ?_
            have : gap1 (c :: t) = some (some (rem0 t)) := by
              cases t with
              | nil => simp [gap1, hb, h37, rem0]
              | cons d u => simp [gap1, hb, h37]
            rw [skipS_some this]
            exact ih _ (by have := rem0_len t; omega) hs
          · refine ev_neg h37 (ev_pos (at_le a _) ?_)
            rw [ex_rest h]
            refine ev_bind0 (hasPrefix_eq _ _ _) ?_
            refine Ev.step (fun k => by rw [token_skip.j2]) ?_
            by_cases hp : pre2 47 42 (c :: t) = true
            · obtain ⟨d, u, rfl, hc, hd⟩ := (pre2_gap hb h37).1 hp
              refine ev_pos hp (Ev.bind (remark_nest ha h ⟨hc, hd⟩) ?_)
              cases hr : rem1 1 u with
              | none =>
                have : gap1 (c :: d :: u) = some none := by simp [gap1, hb, h37, hc, hd, hr]
                rw [skipS_bad this]
                exact ev_pos (by simp [posO]) (ev_now rfl)
              | some v =>
                have : gap1 (c :: d :: u) = some (some v) := by simp [gap1, hb, h37, hc, hd, hr]
                rw [skipS_some this]
                have hv := rem1_suf 1 u v hr
                have hs := hv.1.trans (suf_tail h1)
                refine ev_neg (by have := at_nonneg hs; simp only [posO]; omega) ?_
                exact ih v (by simp at ht; omega) hs
            · have : gap1 (c :: t) = none := by
                cases t with
                | nil => simp [gap1, hb, h37]
                | cons d u =>
                  have : ¬ ((c.toNat : Int) = 47 ∧ (d.toNat : Int) = 42) := fun hh => hp ((pre2_gap hb h37).2 ⟨d, u, rfl, hh⟩)
                  simp only [gap1, hb, h37, this]
                  simp
              rw [skipS_none this]
              exact ev_neg hp (ev_now rfl)
theorem skip_ev' {a : ByteArray} (ha : Fits a) (t : By) (h : t <:+ L a) : Ev (fun k => token_skip.f k a (at_ a t)) (at_ a (skipS t).1, (skipS t).2) := skip_ev ha t.length t (Nat.le_refl _) h
end Go.Proofs.Ytgbielhbjgipoaa.Pure
/-! The token at the head of a text, as the program reads it. -/
namespace Go.Proofs.Ytgbielhbjgipoaa.Pure
set_option linter.unusedVariables false
set_option linter.unusedSimpArgs false
open Go.RowKit Go.Proofs.YtgbielhbjgipoaaW.PrintWords Go.Proofs.YtgbielhbjgipoaaW.PrintLast Go.Proofs.YtgbielhbjgipoaaW.PrintMore Go.Proofs.Ytgbielhbjgipoaa.Q
theorem chainB {x a : By} {l : List By} {r : Option Bool} (h : r = some (decide (x ∈ l))) : (if x = a then some true else r) = some (decide (x ∈ a :: l)) := by
  by_cases e : x = a
  · simp [e]
  · simp [e, h]
theorem isKey_eq (b : ByteArray) : token_isKey.f b = some (decide (L b ∈ keys)) := by
  unfold token_isKey.f keys
  simp only [toList_L]
  repeat (refine chainB ?_)
  simp
/-- One value for each of some texts; else something else. -/
def chainE {α : Type} (x : By) (y : α) (R : Nat → Option α) : List By → Nat → Option α
  | [] => R
  | a :: l => fun k => if x = a then some y else chainE x y R l k
theorem chainE_in {α : Type} {x : By} {y : α} {R : Nat → Option α} {l : List By} (h : x ∈ l) : Ev (chainE x y R l) y := by
  induction l with
  | nil => cases h
  | cons a l ih =>
    by_cases e : x = a
    · exact ev_pos e (ev_now rfl)
    · exact ev_neg e (ih (by simpa [e] using h))
theorem chainE_out {α : Type} {x : By} {y r : α} {R : Nat → Option α} {l : List By} (h : x ∉ l) (k : Ev R r) : Ev (chainE x y R l) r := by
  induction l with
  | nil => exact k
  | cons a l ih =>
    simp only [List.mem_cons, not_or] at h
    exact ev_neg h.1 (ih h.2)
theorem signAt_ev (t : By) (ht : Fits (ofL t)) : ∀ n : Nat, n ≤ t.length → Ev (fun k => token_signAt.l0 k (ofL t) n) (ofL (t.take (signN n t)))
  | 0, _ => by
    refine Ev.step (fun k => by rw [token_signAt.l0]) ?_
    exact ev_neg (by omega) (ev_now rfl)
  | n + 1, hn => by
    refine Ev.step (fun k => by rw [token_signAt.l0]) ?_
    refine ev_pos (by omega) (ev_pos (by omega) (ev_pos (by rw [size_ofL]; omega) ?_))
    have e1 : ((n + 1 : Nat) : Int).toNat = n + 1 := by omega
    have e2 : (ofL t).extract 0 (n + 1) = ofL (t.take (n + 1)) := by
      apply L_inj
      rw [L_extract, L_ofL, L_ofL]
      simp
    have e3 : wrap64 (((n + 1 : Nat) : Int) - 1) = (n : Int) := by
      have := ht
      unfold Fits at this
      rw [size_ofL] at this
      unfold wrap64; omega
    simp only [e1, e2, e3, toList_L, L_ofL]
    rw [signN]
    by_cases h : t.take (n + 1) ∈ signs
    · rw [if_pos ⟨hn, h⟩]
      exact chainE_in (R := fun k => token_signAt.l0 k (ofL t) n) (l := signs) h
    · rw [if_neg (fun hh => h hh.2)]
      exact chainE_out (R := fun k => token_signAt.l0 k (ofL t) n) (l := signs) h (signAt_ev t ht n (by omega))
theorem signN_min (t : By) (n : Nat) : signN n t = signN (min n t.length) t := by
  induction n with
  | zero => simp
  | succ n ih =>
    by_cases h : n + 1 ≤ t.length
    · rw [Nat.min_eq_left h]
    · rw [signN, if_neg (fun hh => h hh.1), ih]
      congr 1
      omega
theorem signAt_ev' (t : By) (ht : Fits (ofL t)) : Ev (fun k => token_signAt.f k (ofL t)) (ofL (t.take (signN 3 t))) := by
  unfold token_signAt.f
  have e : mn 3 ((ofL t).size : Int) = ((min 3 t.length : Nat) : Int) := by
    rw [size_ofL]; unfold mn; split <;> omega
  rw [e, signN_min t 3]
  exact signAt_ev t ht _ (by omega)
/-- What a number's reader answers where the digits end. -/
def numE (a : ByteArray) (x6 x7 x1 : Int) : Option (Int × Bool) :=
  if (wrap64 (x1 - x7)) ≥ 1 then (if (wrap64 (x1 - x7)) ≤ 18 then (if 0 ≤ x7 then (if x7 < (a.size : Int) then (if (bt a x7) = 48 then (if (wrap64 (x1 - x7)) = 1 then (some (x1, (x6 == x7))) else (some (x1, false))) else (some (x1, true))) else (none)) else (none)) else (some (x1, false))) else (some (x1, false))
theorem digits_ev {a : ByteArray} (ha : Fits a) (x6 x7 : Int) (r : Int × Bool) : ∀ u, u <:+ L a → numE a x6 x7 (at_ a (u.dropWhile di)) = some r → Ev (fun k => token_number.l0 k a (at_ a u) x6 x7) r
  | [], _, hr => by
    refine Ev.step (fun k => by rw [token_number.l0]) ?_
    exact ev_neg (by rw [at_nil]; omega) (ev_const hr)
  | c :: u, h, hr => by
    refine Ev.step (fun k => by rw [token_number.l0]) ?_
    refine ev_pos (at_lt a c u) (ev_pos (at_nonneg h) ?_)
    rw [bt_of h]
    refine ev_bind0 (digit_eq _) ?_
    by_cases hd : di c = true
    · refine ev_pos hd ?_
      rw [at_succ ha h]
      rw [List.dropWhile_cons_of_pos hd] at hr
      exact digits_ev ha x6 x7 r u (suf_tail h) hr
    · refine ev_neg hd (ev_const ?_)
      rw [List.dropWhile_cons_of_neg hd] at hr
      exact hr
theorem numE_eq {a : ByteArray} (ha : Fits a) (x6 : Int) {ds rest : By} (h : ds ++ rest <:+ L a) : numE a x6 (at_ a (ds ++ rest)) (at_ a rest) = some (at_ a rest, intOk (!(x6 == at_ a (ds ++ rest))) ds) := by
  have e : wrap64 (at_ a rest - at_ a (ds ++ rest)) = ds.length := by
    have h1 := suf_len h
    unfold Fits at ha
    simp only [List.length_append] at h1
    unfold at_ wrap64
    simp only [List.length_append]
    omega
  unfold numE intOk
  rw [e]
  cases ds with
  | nil => simp
  | cons c ds =>
    rw [if_pos (by simp; omega)]
    simp only [List.cons_append] at *
    by_cases hl : (c :: ds).length ≤ 18
    · rw [if_pos (by omega), if_pos (at_nonneg h), if_pos (at_lt a _ _), bt_of h]
      by_cases h48 : (c.toNat : Int) = 48
      · rw [if_pos h48]
        simp only [h48, if_true]
        by_cases h1 : (c :: ds).length = 1
        · rw [if_pos (by omega)]
          simp [h1]
        · rw [if_neg (by omega)]
          have : ((c :: ds).length == 1) = false := beq_eq_false_iff_ne.mpr h1
          simp only [this, Bool.false_and, Bool.and_false]
      · rw [if_neg h48]
        simp only [h48, if_false, Bool.and_true, Option.some.injEq, Prod.mk.injEq, true_and]
        simp only [List.length_cons] at hl
        simp [hl]
    · rw [if_neg (by omega)]
      have : decide ((c :: ds).length ≤ 18) = false := decide_eq_false hl
      simp only [this, Bool.false_and, Bool.and_false]
theorem quoted_ev {a : ByteArray} (ha : Fits a) (q : UInt8) (most : Int) : ∀ (t : By) (acc : By), t <:+ L a → acc.length + t.length ≤ a.size →
    (∀ w r, quotedS q t = some (w, r) → Ev (fun k => token_quoted.l0 k a (at_ a t) most q.toNat (acc.map fun c => (c.toNat : Int))) (ofL (acc ++ w), at_ a r, decide (((acc ++ w).length : Int) ≤ most))) ∧
    (quotedS q t = none → ∃ x p, Ev (fun k => token_quoted.l0 k a (at_ a t) most q.toNat (acc.map fun c => (c.toNat : Int))) (x, p, false))
  | [], acc, _, _ => by
    refine ⟨fun w r h => by simp [quotedS] at h, fun _ => ⟨⟨#[]⟩, 0, ?_⟩⟩
    refine Ev.step (fun k => by rw [token_quoted.l0]) ?_
    exact ev_neg (by rw [at_nil]; omega) (ev_now rfl)
  | c :: t, acc, h, hl => by
    have h1 := suf_tail h
    simp only [List.length_cons] at hl
    have hq : ((c.toNat : Int) = (q.toNat : Int)) ↔ c = q := by rw [Int.ofNat_inj, UInt8.toNat_inj]
    have hfull : (acc.map fun c => (c.toNat : Int)).length < 140737488355328 := by rw [List.length_map]; unfold Fits at ha; omega
    by_cases hcq : c = q
    · have ho : quotedS q (c :: t) = some ([], t) := by
        cases t <;> simp [quotedS, hcq]
      refine ⟨fun w r hh => ?_, fun hh => by rw [ho] at hh; cases hh⟩
      rw [ho] at hh
      simp only [Option.some.injEq, Prod.mk.injEq] at hh
      obtain ⟨rfl, rfl⟩ := hh
      refine Ev.step (fun k => by rw [token_quoted.l0]) ?_
      refine ev_pos (at_lt a c t) (ev_pos (at_nonneg h) ?_)
      rw [bt_of h, at_succ ha h]
      refine ev_pos (hq.2 hcq) (ev_now ?_)
      rw [strOf]
      simp
    · by_cases h92 : (c.toNat : Int) = 92
      · cases t with
        | nil =>
          refine ⟨fun w r hh => by simp [quotedS, hcq] at hh, fun _ => ⟨⟨#[]⟩, 0, ?_⟩⟩
          refine Ev.step (fun k => by rw [token_quoted.l0]) ?_
          refine ev_pos (at_lt a c _) (ev_pos (at_nonneg h) ?_)
          rw [bt_of h, at_succ ha h]
          exact ev_neg (fun e => hcq (hq.1 e)) (ev_pos h92 (ev_pos (at_nil a) (ev_now rfl)))
        | cons d t =>
          have h2 := suf_tail h1
          simp only [List.length_cons] at hl
          have hdq : ((d.toNat : Int) = (q.toNat : Int)) ↔ d = q := by rw [Int.ofNat_inj, UInt8.toNat_inj]
          have go : ∀ r, Ev (fun k => token_quoted.j1 k a (at_ a (d :: t)) most q.toNat (acc.map fun c => (c.toNat : Int)) d.toNat (decide (d = q ∨ (d.toNat : Int) = 92))) r →
              Ev (fun k => token_quoted.l0 k a (at_ a (c :: d :: t)) most q.toNat (acc.map fun c => (c.toNat : Int))) r := by
            intro r hr
            refine Ev.step (fun k => by rw [token_quoted.l0]) ?_
            refine ev_pos (at_lt a c _) (ev_pos (at_nonneg h) ?_)
            rw [bt_of h, at_succ ha h, bt_of h1]
            refine ev_neg (fun e => hcq (hq.1 e)) (ev_pos h92 (ev_neg (by have := at_lt a d t; omega) (ev_pos (at_nonneg h1) (ev_pos (at_lt a d t) ?_))))
            by_cases hd : d = q
            · refine ev_pos (hdq.2 hd) ?_
              have : ((d.toNat : Int) == (q.toNat : Int)) = decide (d = q ∨ (d.toNat : Int) = 92) := by simp [hd]
              rw [this]; exact hr
            · refine ev_neg (fun e => hd (hdq.1 e)) ?_
              have : ((d.toNat : Int) == 92) = decide (d = q ∨ (d.toNat : Int) = 92) := by
                simp only [hd, false_or]
                rfl
              rw [this]; exact hr
          have ho : quotedS q (c :: d :: t) = if d = q ∨ (d.toNat : Int) = 92 then (quotedS q t).map (fun r => (d :: r.1, r.2)) else if (d.toNat : Int) = 110 then (quotedS q t).map (fun r => (10 :: r.1, r.2)) else none := by
            rw [quotedS, if_neg hcq, if_pos h92]
          rw [ho]
          by_cases he : d = q ∨ (d.toNat : Int) = 92
          · rw [if_pos he]
            obtain ⟨i1, i2⟩ := quoted_ev ha q most t (acc ++ [d]) h2 (by simp; omega)
            simp only [List.map_append, List.map_cons, List.map_nil, List.append_assoc, List.cons_append, List.nil_append] at i1 i2
            have nx : ∀ r, Ev (fun k => token_quoted.l0 k a (at_ a t) most q.toNat ((acc.map fun c => (c.toNat : Int)) ++ [(d.toNat : Int)])) r → Ev (fun k => token_quoted.l0 k a (at_ a (c :: d :: t)) most q.toNat (acc.map fun c => (c.toNat : Int))) r := by
              intro r hr
              refine go r (Ev.step (fun k => by rw [token_quoted.j1]) ?_)
              refine ev_pos (decide_eq_true he) (ev_pos (at_nonneg h1) (ev_pos (at_lt a d t) (ev_pos hfull ?_)))
              rw [bt_of h1, at_succ ha h1]
              exact hr
            refine ⟨fun w r hh => ?_, fun hh => ?_⟩
            · obtain ⟨⟨w', r'⟩, e1, e2⟩ := Option.map_eq_some_iff.1 hh
              simp only [Prod.mk.injEq] at e2
              obtain ⟨rfl, rfl⟩ := e2
              exact nx _ (i1 w' r' e1)
            · obtain ⟨x, p, hx⟩ := i2 (by simpa using hh)
              exact ⟨x, p, nx _ hx⟩
          · rw [if_neg he]
            by_cases h110 : (d.toNat : Int) = 110
            · rw [if_pos h110]
              obtain ⟨i1, i2⟩ := quoted_ev ha q most t (acc ++ [10]) h2 (by simp; omega)
              simp only [List.map_append, List.map_cons, List.map_nil, List.append_assoc, List.cons_append, List.nil_append] at i1 i2
              have nx : ∀ r, Ev (fun k => token_quoted.l0 k a (at_ a t) most q.toNat ((acc.map fun c => (c.toNat : Int)) ++ [10])) r → Ev (fun k => token_quoted.l0 k a (at_ a (c :: d :: t)) most q.toNat (acc.map fun c => (c.toNat : Int))) r := by
                intro r hr
                refine go r (Ev.step (fun k => by rw [token_quoted.j1]) ?_)
                refine ev_neg (by simpa using he) (ev_pos h110 (ev_pos hfull ?_))
                rw [at_succ ha h1]
                exact hr
              refine ⟨fun w r hh => ?_, fun hh => ?_⟩
              · obtain ⟨⟨w', r'⟩, e1, e2⟩ := Option.map_eq_some_iff.1 hh
                simp only [Prod.mk.injEq] at e2
                obtain ⟨rfl, rfl⟩ := e2
                exact nx _ (i1 w' r' e1)
              · obtain ⟨x, p, hx⟩ := i2 (by simpa using hh)
                exact ⟨x, p, nx _ hx⟩
            · rw [if_neg h110]
              refine ⟨fun w r hh => (by cases hh), fun _ => ⟨⟨#[]⟩, 0, go _ (Ev.step (fun k => by rw [token_quoted.j1]) ?_)⟩⟩
              exact ev_neg (by simpa using he) (ev_neg h110 (ev_now rfl))
      · by_cases hr : (c.toNat : Int) < 32 ∨ (c.toNat : Int) > 126
        · have ho : quotedS q (c :: t) = none := by
            cases t with
            | nil => simp [quotedS, hcq]
            | cons d t => rw [quotedS, if_neg hcq, if_neg h92, if_pos hr]
          rw [ho]
          refine ⟨fun w r hh => (by cases hh), fun _ => ⟨⟨#[]⟩, 0, ?_⟩⟩
          refine Ev.step (fun k => by rw [token_quoted.l0]) ?_
          refine ev_pos (at_lt a c _) (ev_pos (at_nonneg h) ?_)
          rw [bt_of h]
          refine ev_neg (fun e => hcq (hq.1 e)) (ev_neg h92 ?_)
          by_cases h32 : (c.toNat : Int) < 32
          · exact ev_pos h32 (ev_now rfl)
          · exact ev_neg h32 (ev_pos (by omega) (ev_now rfl))
        · have ho : quotedS q (c :: t) = (quotedS q t).map (fun r => (c :: r.1, r.2)) := by
            cases t with
            | nil => simp [quotedS, hcq]
            | cons d t => rw [quotedS, if_neg hcq, if_neg h92, if_neg hr]
          rw [ho]
          obtain ⟨i1, i2⟩ := quoted_ev ha q most t (acc ++ [c]) h1 (by simp; omega)
          simp only [List.map_append, List.map_cons, List.map_nil, List.append_assoc, List.cons_append, List.nil_append] at i1 i2
          have nx : ∀ r, Ev (fun k => token_quoted.l0 k a (at_ a t) most q.toNat ((acc.map fun c => (c.toNat : Int)) ++ [(c.toNat : Int)])) r → Ev (fun k => token_quoted.l0 k a (at_ a (c :: t)) most q.toNat (acc.map fun c => (c.toNat : Int))) r := by
            intro r hr'
            refine Ev.step (fun k => by rw [token_quoted.l0]) ?_
            refine ev_pos (at_lt a c _) (ev_pos (at_nonneg h) ?_)
            rw [bt_of h, at_succ ha h]
            exact ev_neg (fun e => hcq (hq.1 e)) (ev_neg h92 (ev_neg (by omega) (ev_neg (by omega) (ev_pos hfull hr'))))
          refine ⟨fun w r hh => ?_, fun hh => ?_⟩
          · obtain ⟨⟨w', r'⟩, e1, e2⟩ := Option.map_eq_some_iff.1 hh
            simp only [Prod.mk.injEq] at e2
            obtain ⟨rfl, rfl⟩ := e2
            exact nx _ (i1 w' r' e1)
          · obtain ⟨x, p, hx⟩ := i2 (by simpa using hh)
            exact ⟨x, p, nx _ hx⟩
end Go.Proofs.Ytgbielhbjgipoaa.Pure
/-! The tokens of a whole text, as the program reads them. -/
namespace Go.Proofs.Ytgbielhbjgipoaa.Pure
set_option linter.unusedVariables false
set_option linter.unusedSimpArgs false
open Go.RowKit Go.Proofs.YtgbielhbjgipoaaW.PrintWords Go.Proofs.YtgbielhbjgipoaaW.PrintLast Go.Proofs.YtgbielhbjgipoaaW.PrintMore Go.Proofs.Ytgbielhbjgipoaa.Q
theorem char_ok {a : ByteArray} (ha : Fits a) {c : UInt8} {t : By} (h : c :: t <:+ L a) {w r : By} (hc : charS t = some (w, r)) : token_char.f a (at_ a (c :: t)) = some (ofL w, at_ a r, true) := by
  unfold token_char.f
  cases t with
  | nil => simp [charS] at hc
  | cons d t =>
    have h1 := suf_tail h
    rw [at_succ ha h, if_neg (by have := at_lt a d t; omega), if_pos (at_nonneg h1), if_pos (at_lt a d t), bt_of h1]
    simp only [charS] at hc
    by_cases h92 : (d.toNat : Int) = 92
    · rw [if_pos h92] at hc ⊢
      cases t with
      | nil => simp at hc
      | cons e t =>
        have h2 := suf_tail h1
        rw [at_succ2 ha h, if_neg (by have := at_lt a e t; omega), if_pos (at_nonneg h2), if_pos (at_lt a e t), bt_of h2, at_succ3 ha h]
        simp only at hc
        by_cases c1 : (e.toNat : Int) = 110
        · rw [if_pos c1] at hc ⊢
          simp only [Option.some.injEq, Prod.mk.injEq] at hc
          obtain ⟨rfl, rfl⟩ := hc
          rfl
        · rw [if_neg c1] at hc ⊢
          by_cases c2 : (e.toNat : Int) = 115
          · rw [if_pos c2] at hc ⊢
            simp only [Option.some.injEq, Prod.mk.injEq] at hc
            obtain ⟨rfl, rfl⟩ := hc
            rfl
          · rw [if_neg c2] at hc ⊢
            by_cases c3 : (e.toNat : Int) = 92
            · rw [if_pos c3] at hc ⊢
              simp only [Option.some.injEq, Prod.mk.injEq] at hc
              obtain ⟨rfl, rfl⟩ := hc
              rfl
            · rw [if_neg c3] at hc
              cases hc
    · rw [if_neg h92] at hc ⊢
      by_cases hr : (d.toNat : Int) ≥ 33 ∧ (d.toNat : Int) ≤ 126
      · rw [if_pos hr] at hc
        simp only [Option.some.injEq, Prod.mk.injEq] at hc
        obtain ⟨rfl, rfl⟩ := hc
        rw [Option.bind_some, if_pos hr.1, at_succ2 ha h]
        have := strOf [d]
        simp only [List.map_cons, List.map_nil] at this
        rw [this, decide_eq_true hr.2]
      · rw [if_neg hr] at hc
        cases hc
theorem char_no {a : ByteArray} (ha : Fits a) {c : UInt8} {t : By} (h : c :: t <:+ L a) (hc : charS t = none) : ∃ x p, token_char.f a (at_ a (c :: t)) = some (x, p, false) := by
  unfold token_char.f
  cases t with
  | nil =>
    rw [at_succ ha h, if_pos (by rw [at_nil]; omega)]
    exact ⟨_, _, rfl⟩
  | cons d t =>
    have h1 := suf_tail h
    rw [at_succ ha h, if_neg (by have := at_lt a d t; omega), if_pos (at_nonneg h1), if_pos (at_lt a d t), bt_of h1]
    simp only [charS] at hc
    by_cases h92 : (d.toNat : Int) = 92
    · rw [if_pos h92] at hc ⊢
      cases t with
      | nil =>
        rw [at_succ2 ha h, if_pos (by rw [at_nil]; omega)]
        exact ⟨_, _, rfl⟩
      | cons e t =>
        have h2 := suf_tail h1
        rw [at_succ2 ha h, if_neg (by have := at_lt a e t; omega), if_pos (at_nonneg h2), if_pos (at_lt a e t), bt_of h2]
        simp only at hc
        by_cases c1 : (e.toNat : Int) = 110
        · rw [if_pos c1] at hc; cases hc
        · rw [if_neg c1] at hc ⊢
          by_cases c2 : (e.toNat : Int) = 115
          · rw [if_pos c2] at hc; cases hc
          · rw [if_neg c2] at hc ⊢
            by_cases c3 : (e.toNat : Int) = 92
            · rw [if_pos c3] at hc; cases hc
            · rw [if_neg c3]
              exact ⟨_, _, rfl⟩
    · rw [if_neg h92] at hc ⊢
      by_cases hr : (d.toNat : Int) ≥ 33 ∧ (d.toNat : Int) ≤ 126
      · rw [if_pos hr] at hc; cases hc
      · rw [Option.bind_some]
        by_cases h33 : (d.toNat : Int) ≥ 33
        · rw [if_pos h33, decide_eq_false (fun h => hr ⟨h33, h⟩)]
          exact ⟨_, _, rfl⟩
        · rw [if_neg h33]
          exact ⟨_, _, rfl⟩
/-- What the reader of one token answers, against the specification. -/
def NextR (a : ByteArray) (t : By) : Option (By × By × By) → ByteArray × ByteArray × Int × Int × Bool → Prop
  | some (k, x, r), q => q = (ofL k, ofL x, at_ a t, at_ a r, true)
  | none, q => q.2.2.2.2 = false
theorem words_ev {a : ByteArray} (ha : Fits a) (x1 x7 z : Int) (p q : ByteArray) (r : ByteArray × ByteArray × Int × Int × Bool) : ∀ u, u <:+ L a → Ev (fun k => token_next.j2 k a x1 x7 (at_ a (u.dropWhile wo)) p q z) r → Ev (fun k => token_next.l0 k a x1 x7 (at_ a u) p q z) r
  | [], _, hr => by
    refine Ev.step (fun k => by rw [token_next.l0]) ?_
    exact ev_neg (by rw [at_nil]; omega) hr
  | c :: u, h, hr => by
    refine Ev.step (fun k => by rw [token_next.l0]) ?_
    refine ev_pos (at_lt a c u) (ev_pos (at_nonneg h) ?_)
    rw [bt_of h]
    refine ev_bind0 (word_eq _) ?_
    by_cases hd : wo c = true
    · refine ev_pos hd ?_
      rw [at_succ ha h]
      rw [List.dropWhile_cons_of_pos hd] at hr
      exact words_ev ha x1 x7 z p q r u (suf_tail h) hr
    · refine ev_neg hd ?_
      rw [List.dropWhile_cons_of_neg hd] at hr
      exact hr
theorem between_len {a : ByteArray} (ha : Fits a) {w r : By} (h : w ++ r <:+ L a) : wrap64 (at_ a r - at_ a (w ++ r)) = w.length := by
  have h1 := suf_len h
  unfold Fits at ha
  simp only [List.length_append] at h1
  unfold at_ wrap64
  simp only [List.length_append]
  omega
theorem ev_some {α : Type} {g : Option α} {p : α → Prop} (h : ∃ r, g = some r ∧ p r) : ∃ r, Ev (fun _ => g) r ∧ p r := by
  obtain ⟨r, h1, h2⟩ := h
  exact ⟨r, ev_const h1, h2⟩
theorem ev_ex_pos {α : Type} {c : Prop} [Decidable c] {A B : Nat → Option α} {p : α → Prop} (h : c) (e : ∃ r, Ev A r ∧ p r) : ∃ r, Ev (fun k => if c then A k else B k) r ∧ p r := by
  obtain ⟨r, h1, h2⟩ := e
  exact ⟨r, ev_pos h h1, h2⟩
theorem ev_ex_neg {α : Type} {c : Prop} [Decidable c] {A B : Nat → Option α} {p : α → Prop} (h : ¬c) (e : ∃ r, Ev B r ∧ p r) : ∃ r, Ev (fun k => if c then A k else B k) r ∧ p r := by
  obtain ⟨r, h1, h2⟩ := e
  exact ⟨r, ev_neg h h1, h2⟩
theorem ev_ex_step {α : Type} {g f : Nat → Option α} {p : α → Prop} (h : ∀ k, g (k + 1) = f k) (e : ∃ r, Ev f r ∧ p r) : ∃ r, Ev g r ∧ p r := by
  obtain ⟨r, h1, h2⟩ := e
  exact ⟨r, Ev.step h h1, h2⟩
theorem ev_ex_bind0 {α β : Type} {g : Option α} {f : Nat → α → Option β} {a : α} {p : β → Prop} (h : g = some a) (e : ∃ r, Ev (fun n => f n a) r ∧ p r) : ∃ r, Ev (fun n => g.bind (f n)) r ∧ p r := by
  obtain ⟨r, h1, h2⟩ := e
  exact ⟨r, ev_bind0 h h1, h2⟩
theorem ev_ex_bind {α β : Type} {g : Nat → Option α} {f : Nat → α → Option β} {a : α} {p : β → Prop} (h : Ev g a) (e : ∃ r, Ev (fun n => f n a) r ∧ p r) : ∃ r, Ev (fun n => (g n).bind (f n)) r ∧ p r := by
  obtain ⟨r, h1, h2⟩ := e
  exact ⟨r, Ev.bind h h1, h2⟩
theorem word_next {a : ByteArray} (ha : Fits a) {c : UInt8} {t : By} (h : c :: t <:+ L a) (hc : (up c || lo c) = true) : ∃ q, Ev (fun k => token_next.l0 k a (at_ a (c :: t)) c.toNat (at_ a (c :: t)) (⟨#[]⟩ : ByteArray) (⟨#[]⟩ : ByteArray) (at_ a (c :: t))) q ∧ NextR a (c :: t) (nextS (c :: t)) q := by
  have hsplit : (c :: t).takeWhile wo ++ (c :: t).dropWhile wo = c :: t := List.takeWhile_append_dropWhile
  have hdw := (dropWhile_lt (t := t) (up_wo hc)).1.trans h
  have key : ∃ q, Ev (fun k => token_next.j2 k a (at_ a (c :: t)) c.toNat (at_ a ((c :: t).dropWhile wo)) (⟨#[]⟩ : ByteArray) (⟨#[]⟩ : ByteArray) (at_ a (c :: t))) q ∧ NextR a (c :: t) (nextS (c :: t)) q := by
    refine ev_ex_step (fun k => by rw [token_next.j2]) ?_
    have hlen := (dropWhile_lt (t := t) (up_wo hc)).2
    have e1 : at_ a (c :: t) ≤ at_ a ((c :: t).dropWhile wo) := by unfold at_; omega
    have e2 : a.extract (at_ a (c :: t)).toNat (at_ a ((c :: t).dropWhile wo)).toNat = ofL ((c :: t).takeWhile wo) := by
      have := ex_between (a := a) (w := (c :: t).takeWhile wo) (r := (c :: t).dropWhile wo) (by rw [hsplit]; exact h)
      rwa [hsplit] at this
    have e3 : wrap64 (at_ a ((c :: t).dropWhile wo) - at_ a (c :: t)) = ((c :: t).takeWhile wo).length := by
      have := between_len (a := a) ha (w := (c :: t).takeWhile wo) (r := (c :: t).dropWhile wo) (by rw [hsplit]; exact h)
      rwa [hsplit] at this
    refine ev_ex_pos (at_nonneg h) (ev_ex_pos e1 (ev_ex_pos (at_le a _) (ev_ex_bind0 (upper_eq _) ?_)))
    rw [e2, e3]
    have e4 : decide ((((c :: t).takeWhile wo).length : Int) ≤ 60) = decide (((c :: t).takeWhile wo).length ≤ 60) := by
      rw [decide_eq_decide]; omega
    rw [e4]
    rw [nextS_word hc]
    by_cases hu : up c = true
    · refine ev_ex_pos hu ⟨_, ev_now rfl, ?_⟩
      by_cases hl : ((c :: t).takeWhile wo).length ≤ 60
      · simp only [hl, hu, if_true]; rfl
      · simp only [hl, if_false]; simp [NextR]
    · refine ev_ex_neg hu (ev_ex_bind0 (isKey_eq _) ?_)
      rw [L_ofL]
      by_cases hk : (c :: t).takeWhile wo ∈ keys
      · refine ev_ex_pos (decide_eq_true hk) ⟨_, ev_now rfl, ?_⟩
        by_cases hl : ((c :: t).takeWhile wo).length ≤ 60
        · simp only [hl, hu, hk, if_true]; rfl
        · simp only [hl, if_false]; simp [NextR]
      · refine ev_ex_neg (by simpa using hk) ⟨_, ev_now rfl, ?_⟩
        by_cases hl : ((c :: t).takeWhile wo).length ≤ 60
        · simp only [hl, hu, hk, if_true]; rfl
        · simp only [hl, if_false]; simp [NextR]
  obtain ⟨q, h1, h2⟩ := key
  exact ⟨q, words_ev ha _ _ _ _ _ q _ h h1, h2⟩
theorem quote_next {a : ByteArray} (ha : Fits a) {c : UInt8} {t : By} (h : c :: t <:+ L a) (most : Nat) (kk : By) : ∃ q, Ev (fun k => (token_quoted.f k a (at_ a (c :: t)) most).bind fun b => some (ofL kk, b.1, at_ a (c :: t), b.2.1, b.2.2)) q ∧
    NextR a (c :: t) (match quotedS c t with | some (w, r) => if w.length ≤ most then some (kk, w, r) else none | none => none) q := by
  have hq : ∀ r, Ev (fun k => token_quoted.l0 k a (at_ a t) most c.toNat ([] : List Int)) r → Ev (fun k => token_quoted.f k a (at_ a (c :: t)) most) r := by
    intro r hr
    unfold token_quoted.f
    refine ev_pos (at_nonneg h) (ev_pos (at_lt a c t) ?_)
    rw [bt_of h, at_succ ha h]
    exact hr
  obtain ⟨i1, i2⟩ := quoted_ev ha c most t [] (suf_tail h) (by have := suf_len (suf_tail h); simpa using this)
  cases hs : quotedS c t with
  | none =>
    obtain ⟨x, p, hx⟩ := i2 hs
    exact ⟨_, Ev.bind (hq _ hx) (ev_now rfl), rfl⟩
  | some wr =>
    obtain ⟨w, r⟩ := wr
    refine ⟨_, Ev.bind (hq _ (i1 w r hs)) (ev_now rfl), ?_⟩
    simp only [List.nil_append]
    by_cases hl : w.length ≤ most
    · rw [if_pos hl, decide_eq_true (by omega)]
      rfl
    · rw [if_neg hl, decide_eq_false (by omega)]
      rfl
theorem dropWhile_len {p : UInt8 → Bool} (t : By) : (t.takeWhile p).length + (t.dropWhile p).length = t.length := by
  have := congrArg List.length (List.takeWhile_append_dropWhile (p := p) (l := t))
  rwa [List.length_append] at this
theorem di_up {c : UInt8} (h : di c = true) : (up c || lo c) = false ∧ ¬ (c.toNat : Int) = 39 ∧ ¬ (c.toNat : Int) = 34 ∧ ¬ (c.toNat : Int) = 38 ∧ ¬ (c.toNat : Int) = 126 := by
  unfold di isDi at h
  unfold up lo isUp isLo
  simp only [Bool.and_eq_true, decide_eq_true_eq] at h
  refine ⟨?_, by omega, by omega, by omega, by omega⟩
  rw [Bool.or_eq_false_iff, Bool.and_eq_false_iff, Bool.and_eq_false_iff]
  simp only [decide_eq_false_iff_not]
  omega
theorem number_ev {a : ByteArray} (ha : Fits a) {c : UInt8} {t : By} (h : c :: t <:+ L a) :
    (¬ (c.toNat : Int) = 126 → Ev (fun k => token_number.f k a (at_ a (c :: t))) (at_ a ((c :: t).dropWhile di), intOk false ((c :: t).takeWhile di))) ∧
    ((c.toNat : Int) = 126 → Ev (fun k => token_number.f k a (at_ a (c :: t))) (at_ a (t.dropWhile di), intOk true (t.takeWhile di))) := by
  have h1 := suf_tail h
  refine ⟨fun hc => ?_, fun hc => ?_⟩
  · unfold token_number.f
    refine ev_pos (at_nonneg h) (ev_pos (at_lt a c t) ?_)
    rw [bt_of h]
    refine ev_neg hc (Ev.step (fun k => by rw [token_number.j0]) (digits_ev ha _ _ _ _ h ?_))
    have hs : (c :: t).takeWhile di ++ (c :: t).dropWhile di = c :: t := List.takeWhile_append_dropWhile
    have := numE_eq (a := a) ha (at_ a (c :: t)) (ds := (c :: t).takeWhile di) (rest := (c :: t).dropWhile di) (by rw [hs]; exact h)
    rw [hs] at this
    rw [this]
    simp
  · unfold token_number.f
    refine ev_pos (at_nonneg h) (ev_pos (at_lt a c t) ?_)
    rw [bt_of h]
    refine ev_pos hc (Ev.step (fun k => by rw [token_number.j0]) ?_)
    rw [at_succ ha h]
    refine digits_ev ha _ _ _ _ h1 ?_
    have hs : t.takeWhile di ++ t.dropWhile di = t := List.takeWhile_append_dropWhile
    have := numE_eq (a := a) ha (at_ a (c :: t)) (ds := t.takeWhile di) (rest := t.dropWhile di) (by rw [hs]; exact h1)
    rw [hs] at this
    rw [this, at_cons]
    have : (at_ a t - 1 == at_ a t) = false := beq_eq_false_iff_ne.mpr (by omega)
    rw [this]
    rfl
theorem j4_next {a : ByteArray} (ha : Fits a) {c : UInt8} {t : By} (h : c :: t <:+ L a) (hc : ¬(up c || lo c) = true) (h1 : ¬(c.toNat : Int) = 39) (h2 : ¬(c.toNat : Int) = 34) (h3 : ¬(c.toNat : Int) = 38) (b : Bool)
    (hb : b = (di c || (decide ((c.toNat : Int) = 126) && decide (t.takeWhile di ≠ [])))) (p : ByteArray) (q : ByteArray) :
    ∃ r, Ev (fun k => token_next.j4 k a (at_ a (c :: t)) c.toNat b p q (at_ a (c :: t))) r ∧ NextR a (c :: t) (nextS (c :: t)) r := by
  have hs := suf_tail h
  have e0 : wrap64 (at_ a (c :: t) + 1) = at_ a t := at_succ ha h
  refine ev_ex_step (fun k => by rw [token_next.j4]) ?_
  obtain ⟨n1, n2⟩ := number_ev ha h
  by_cases hd : di c = true
  · have h126 := (di_up hd).2.2.2.2
    rw [nextS_di hc h1 h2 h3 hd]
    have hsplit : (c :: t).takeWhile di ++ (c :: t).dropWhile di = c :: t := List.takeWhile_append_dropWhile
    have e1 : at_ a (c :: t) ≤ at_ a ((c :: t).dropWhile di) := by have := dropWhile_len (p := di) (c :: t); unfold at_; omega
    have e2 : a.extract (at_ a (c :: t)).toNat (at_ a ((c :: t).dropWhile di)).toNat = ofL ((c :: t).takeWhile di) := by
      have := ex_between (a := a) (w := (c :: t).takeWhile di) (r := (c :: t).dropWhile di) (by rw [hsplit]; exact h)
      rwa [hsplit] at this
    refine ev_ex_pos (by rw [hb, hd]; rfl) (ev_ex_bind (n1 h126) (ev_ex_neg h126 (ev_ex_pos (at_nonneg h) (ev_ex_pos e1 (ev_ex_pos (at_le a _) ⟨_, ev_now rfl, ?_⟩)))))
    rw [e2]
    by_cases hi : intOk false ((c :: t).takeWhile di) = true
    · rw [if_pos hi, hi]; rfl
    · rw [if_neg hi]; simpa [NextR] using hi
  · by_cases ht : (c.toNat : Int) = 126 ∧ t.takeWhile di ≠ []
    · rw [nextS_til hc ht.1 ht.2]
      refine ev_ex_pos (by rw [hb]; simp [ht.1, ht.2]) (ev_ex_bind (n2 ht.1) (ev_ex_pos ht.1 ?_))
      rw [e0]
      cases t with
      | nil => exact absurd rfl ht.2
      | cons d t =>
        have hdd : di d = true := by
          cases hx : di d with
          | true => rfl
          | false => exact absurd (List.takeWhile_cons_of_neg (by simp [hx])) ht.2
        have hsplit : (d :: t).takeWhile di ++ (d :: t).dropWhile di = d :: t := List.takeWhile_append_dropWhile
        have hlen := dropWhile_len (p := di) (d :: t)
        refine ev_ex_pos (at_nonneg hs) (ev_ex_pos (at_lt a d t) ?_)
        rw [bt_of hs]
        have e1 : at_ a (c :: d :: t) ≤ at_ a ((d :: t).dropWhile di) := by simp only [List.length_cons] at hlen; unfold at_; simp only [List.length_cons]; omega
        have e2 : a.extract (at_ a (c :: d :: t)).toNat (at_ a ((d :: t).dropWhile di)).toNat = ofL (c :: (d :: t).takeWhile di) := by
          have := ex_between (a := a) (w := c :: (d :: t).takeWhile di) (r := (d :: t).dropWhile di) (by rw [List.cons_append, hsplit]; exact h)
          rwa [List.cons_append, hsplit] at this
        have fin : (¬ (d :: t).takeWhile di = [48]) → ∃ r, Ev (fun _ => some ((⟨#[105, 110, 116]⟩ : ByteArray), a.extract (at_ a (c :: d :: t)).toNat (at_ a ((d :: t).dropWhile di)).toNat, at_ a (c :: d :: t), at_ a ((d :: t).dropWhile di), intOk true ((d :: t).takeWhile di))) r ∧
            NextR a (c :: d :: t) (if (d :: t).takeWhile di = [48] then some (kSign, [126], d :: t) else if intOk true ((d :: t).takeWhile di) then some (kInt, c :: (d :: t).takeWhile di, (d :: t).dropWhile di) else none) r := by
          intro h48
          refine ⟨_, ev_now rfl, ?_⟩
          rw [e2, if_neg h48]
          by_cases hi : intOk true ((d :: t).takeWhile di) = true
          · rw [if_pos hi, hi]; rfl
          · rw [if_neg hi]; simpa [NextR] using hi
        have hc126 : c = 126 := by
          have h126 := ht.1
          exact UInt8.toNat_inj.1 (by simpa using (by omega : c.toNat = 126))
        have e3 : (at_ a ((d :: t).dropWhile di) = wrap64 (at_ a (c :: d :: t) + 2)) ↔ ((d :: t).takeWhile di).length = 1 := by
          rw [at_succ2 ha h]
          simp only [List.length_cons] at hlen
          unfold at_
          omega
        have e4 : (d :: t).takeWhile di = [48] ↔ ((d.toNat : Int) = 48 ∧ ((d :: t).takeWhile di).length = 1) := by
          rw [List.takeWhile_cons_of_pos hdd]
          constructor
          · intro hh
            injection hh with hh1 hh2
            rw [hh1, hh2]
            simp
          · rintro ⟨hh1, hh2⟩
            have : t.takeWhile di = [] := by simpa using hh2
            rw [this]
            congr 1
            exact UInt8.toNat_inj.1 (by simpa using (by omega : d.toNat = 48))
        by_cases d48 : (d.toNat : Int) = 48
        · refine ev_ex_pos d48 ?_
          by_cases hl : ((d :: t).takeWhile di).length = 1
          · refine ev_ex_pos (e3.2 hl) ⟨_, ev_now rfl, ?_⟩
            rw [if_pos (e4.2 ⟨d48, hl⟩)]
            rfl
          · exact ev_ex_neg (fun hh => hl (e3.1 hh)) (ev_ex_pos (at_nonneg h) (ev_ex_pos e1 (ev_ex_pos (at_le a _) (fin (fun hh => hl (e4.1 hh).2)))))
        · exact ev_ex_neg d48 (ev_ex_pos (at_nonneg h) (ev_ex_pos e1 (ev_ex_pos (at_le a _) (fin (fun hh => d48 (e4.1 hh).1)))))
    · rw [nextS_sign hc h1 h2 h3 hd ht]
      have hbf : ¬ b = true := by
        rw [hb]
        simp only [Bool.or_eq_true, Bool.and_eq_true, decide_eq_true_eq]
        rintro (hh | hh)
        · exact hd hh
        · exact ht hh
      refine ev_ex_neg hbf (ev_ex_pos (at_nonneg h) (ev_ex_pos (at_le a _) ?_))
      rw [ex_rest h]
      have hf : Fits (ofL (c :: t)) := by unfold Fits at ha ⊢; rw [size_ofL]; have := suf_len h; omega
      refine ev_ex_bind (signAt_ev' (c :: t) hf) ⟨_, ev_now rfl, ?_⟩
      have hn := signN_le 3 (c :: t)
      by_cases h0 : signN 3 (c :: t) = 0
      · rw [if_pos h0, h0]
        simp only [NextR, toList_L, L_ofL, List.take_zero]
        rfl
      · rw [if_neg h0]
        have hl : ((c :: t).take (signN 3 (c :: t))).length = signN 3 (c :: t) := by rw [List.length_take]; omega
        have e5 : wrap64 (at_ a (c :: t) + ((ofL ((c :: t).take (signN 3 (c :: t)))).size : Int)) = at_ a ((c :: t).drop (signN 3 (c :: t))) := by
          rw [size_ofL, hl]
          have hl2 : ((c :: t).drop (signN 3 (c :: t))).length = (c :: t).length - signN 3 (c :: t) := List.length_drop
          have := suf_len h
          unfold Fits at ha
          unfold at_ wrap64
          rw [hl2]
          omega
        have e6 : ((ofL ((c :: t).take (signN 3 (c :: t)))).toList != ([] : List UInt8)) = true := by
          rw [toList_L, L_ofL, bne_iff_ne]
          intro hh
          rw [hh] at hl
          simp only [List.length_nil] at hl
          exact h0 hl.symm
        rw [e5, e6]
        rfl
theorem next_ev {a : ByteArray} (ha : Fits a) {t : By} (h : t <:+ L a) (hne : t ≠ []) : ∃ q, Ev (fun k => token_next.f k a (at_ a t)) q ∧ NextR a t (nextS t) q := by
  cases t with
  | nil => exact absurd rfl hne
  | cons c t =>
    have hs := suf_tail h
    unfold token_next.f
    refine ev_ex_pos (at_nonneg h) (ev_ex_pos (at_lt a c t) ?_)
    rw [bt_of h]
    refine ev_ex_bind0 (upper_eq _) ?_
    have main : ∃ q, Ev (fun k => token_next.j0 k a (at_ a (c :: t)) c.toNat (up c || lo c) (⟨#[]⟩ : ByteArray) (⟨#[]⟩ : ByteArray) (at_ a (c :: t))) q ∧ NextR a (c :: t) (nextS (c :: t)) q := by
      refine ev_ex_step (fun k => by rw [token_next.j0]) ?_
      by_cases hc : (up c || lo c) = true
      · exact ev_ex_pos hc (word_next ha h hc)
      · refine ev_ex_neg hc ?_
        by_cases h39 : (c.toNat : Int) = 39
        · refine ev_ex_pos h39 (ev_ex_step (fun k => by rw [token_next.j3]) (ev_ex_pos rfl (ev_ex_neg (by omega) ?_)))
          rw [nextS_39 hc h39]
          exact quote_next ha h 60 kAtom
        · refine ev_ex_neg h39 (ev_ex_step (fun k => by rw [token_next.j3]) ?_)
          by_cases h34 : (c.toNat : Int) = 34
          · refine ev_ex_pos (by rw [h34]; rfl) (ev_ex_pos h34 ?_)
            rw [nextS_34 hc h34]
            exact quote_next ha h 200 kText
          · refine ev_ex_neg (by rw [beq_eq_false_iff_ne.mpr h34]; simp) ?_
            by_cases h38 : (c.toNat : Int) = 38
            · refine ev_ex_pos h38 ?_
              rw [nextS_38 hc h38]
              cases hch : charS t with
              | none =>
                obtain ⟨x, p, hx⟩ := char_no ha h hch
                exact ev_ex_bind0 hx ⟨_, ev_now rfl, rfl⟩
              | some wr =>
                obtain ⟨w, r⟩ := wr
                exact ev_ex_bind0 (char_ok ha h hch) ⟨_, ev_now rfl, rfl⟩
            · refine ev_ex_neg h38 (ev_ex_bind0 (digit_eq _) ?_)
              have j4 := j4_next ha h hc h39 h34 h38
              by_cases hd : di c = true
              · exact ev_ex_pos hd (j4 true (by rw [hd]; rfl) _ _)
              · have hdf : di c = false := by simpa using hd
                refine ev_ex_neg hd ?_
                by_cases h126 : (c.toNat : Int) = 126
                · refine ev_ex_pos h126 ?_
                  rw [at_succ ha h]
                  cases t with
                  | nil => exact ev_ex_neg (by rw [at_nil]; omega) (j4 false (by rw [hdf]; simp) _ _)
                  | cons d t =>
                    refine ev_ex_pos (at_lt a d t) (ev_ex_pos (at_nonneg hs) ?_)
                    rw [bt_of hs]
                    refine ev_ex_bind0 (digit_eq _) (j4 _ ?_ _ _)
                    rw [hdf, Bool.false_or, decide_eq_true h126, Bool.true_and]
                    show di d = _
                    cases hx : di d with
                    | true => rw [List.takeWhile_cons_of_pos hx]; simp
                    | false => rw [List.takeWhile_cons_of_neg (by simp [hx])]; simp
                · exact ev_ex_neg h126 (j4 false (by rw [hdf, decide_eq_false h126]; rfl) _ _)
    by_cases hu : isUp c.toNat = true
    · refine ev_ex_pos hu ?_
      have : (up c || lo c) = true := by unfold up; rw [hu]; rfl
      rw [this] at main
      exact main
    · refine ev_ex_neg hu (ev_ex_bind0 (lower_eq _) ?_)
      have : (up c || lo c) = isLo c.toNat := by unfold up; rw [Bool.eq_false_iff.mpr hu]; rfl
      rw [this] at main
      exact main
/-- A token as the program has it. -/
def mkT (a : ByteArray) (x : Tok) : S29 := ⟨ofL x.1, ofL x.2.1, (a.size : Int) - (x.2.2 : Int)⟩
def readR (a : ByteArray) (acc : List S29) : Option By × List Tok → List S29 × Int × Bool
  | (none, ts) => (acc ++ ts.map (mkT a), 0, true)
  | (some u, _) => ([], at_ a u, false)
theorem read_ev {a : ByteArray} (ha : Fits a) (n : Nat) : ∀ (t : By) (acc : List S29), t.length ≤ n → t <:+ L a → acc.length + t.length ≤ 3000000000000 → Ev (fun k => token_read.l0 k a acc (at_ a t)) (readR a acc (lexS t)) := by
  induction n with
  | zero =>
    intro t acc ht h _
    obtain rfl : t = [] := List.eq_nil_of_length_eq_zero (by omega)
    refine Ev.step (fun k => by rw [token_read.l0]) (Ev.bind (skip_ev' ha [] h) ?_)
    have h0 : skipS [] = ([], true) := skipS_none rfl
    rw [h0, lexS_done (by unfold step1; rw [h0]; rfl)]
    exact ev_pos rfl (ev_pos (at_nil a) (ev_now (by simp [readR])))
  | succ n ih =>
    intro t acc ht h hacc
    have hsk := skipS_suf t.length t (Nat.le_refl _)
    refine Ev.step (fun k => by rw [token_read.l0]) (Ev.bind (skip_ev' ha t h) ?_)
    by_cases h2 : (skipS t).2 = true
    · refine ev_pos h2 ?_
      by_cases h1 : (skipS t).1 = []
      · have hd : step1 t = .done := by unfold step1; rw [if_pos h2, if_pos h1]
        rw [lexS_done hd]
        exact ev_pos (by rw [h1]; exact at_nil a) (ev_now (by simp [readR]))
      · have hne : ¬ at_ a (skipS t).1 = (a.size : Int) := by
          cases hx : (skipS t).1 with
          | nil => exact absurd hx h1
          | cons c u => have := at_lt a c u; omega
        refine ev_neg hne ?_
        obtain ⟨q, hq, hr⟩ := next_ev ha (hsk.trans h) h1
        refine Ev.bind hq ?_
        cases hn : nextS (skipS t).1 with
        | none =>
          rw [hn] at hr
          have hb : step1 t = .bad (skipS t).1 := by unfold step1; rw [if_pos h2, if_neg h1, hn]
          rw [lexS_bad hb]
          simp only [NextR] at hr
          exact ev_neg (by rw [hr]; simp) (ev_now rfl)
        | some kxr =>
          obtain ⟨kk, x, r⟩ := kxr
          rw [hn] at hr
          simp only [NextR] at hr
          subst hr
          have hb : step1 t = .tok kk x (skipS t).1 r := by unfold step1; rw [if_pos h2, if_neg h1, hn]
          have hs := step1_suf hb
          rw [lexS_tok hb]
          refine ev_pos rfl (ev_pos (by omega) ?_)
          have := ih r (acc ++ [mkT a (kk, x, (skipS t).1.length)]) (by omega) (hs.2.1.trans (hs.1.trans h)) (by simp; omega)
          have e : readR a (acc ++ [mkT a (kk, x, (skipS t).1.length)]) (lexS r) = readR a acc ((lexS r).1, (kk, x, (skipS t).1.length) :: (lexS r).2) := by
            cases hl : (lexS r) with
            | mk o ts => cases o <;> simp [readR]
          rw [e] at this
          exact this
    · have hb : step1 t = .bad (skipS t).1 := by unfold step1; rw [if_neg h2]
      rw [lexS_bad hb]
      exact ev_neg h2 (ev_now rfl)
/-- What the program answers for a whole text. -/
theorem tokens_ev (a : ByteArray) (ha : Fits a) (hz : a.size ≤ 3000000000000) : Ev (fun k => token_Tokens.f k a) (if a.size > 20000 then ([], 4) else match lexS (L a) with | (none, ts) => (ts.map (mkT a), 0) | (some _, _) => ([], 10)) := by
  unfold token_Tokens.f
  by_cases h : a.size > 20000
  · rw [if_pos h]
    exact ev_pos (by omega) (ev_now rfl)
  · rw [if_neg h]
    refine ev_neg (by omega) ?_
    have := read_ev ha (L a).length (L a) [] (Nat.le_refl _) (List.suffix_refl _) (by simp [L_length]; omega)
    rw [at_all] at this
    refine Ev.bind (g := fun k => token_read.f k a) this ?_
    cases lexS (L a) with
    | mk o ts =>
      cases o with
      | none => exact ev_pos rfl (ev_now (by simp [readR]))
      | some u => exact ev_neg (by simp [readR]) (ev_now rfl)
end Go.Proofs.Ytgbielhbjgipoaa.Pure
/-! What the program says of a token's kind and text. -/
namespace Go.Proofs.Ytgbielhbjgipoaa.Pure
set_option linter.unusedVariables false
set_option linter.unusedSimpArgs false
open Go.RowKit Go.Proofs.YtgbielhbjgipoaaW.PrintWords Go.Proofs.YtgbielhbjgipoaaW.PrintLast Go.Proofs.YtgbielhbjgipoaaW.PrintMore Go.Proofs.Ytgbielhbjgipoaa.Q
theorem hdB_c (p : UInt8 → Bool) (c : UInt8) (t : By) : hdB p (c :: t) = p c := rfl
theorem pr_c (c : UInt8) : pr c = ((c.toNat : Int) == 10 || (decide (32 ≤ (c.toNat : Int)) && decide ((c.toNat : Int) ≤ 126))) := rfl
theorem words_eq {b : ByteArray} (hb : Fits b) : ∀ t, t <:+ L b → Ev (fun k => token_words.l0 k b (b.size : Int) (at_ b t)) (t.all wo)
  | [], _ => by
    refine Ev.step (fun k => by rw [token_words.l0]) ?_
    exact ev_neg (by rw [at_nil]; omega) (ev_now rfl)
  | c :: t, h => by
    refine Ev.step (fun k => by rw [token_words.l0]) ?_
    refine ev_pos (at_lt b c t) (ev_pos (at_nonneg h) (ev_pos (at_lt b c t) ?_))
    rw [bt_of h, at_succ hb h]
    refine ev_bind0 (word_eq _) ?_
    rw [List.all_cons]
    cases hd : wo c with
    | true =>
      refine ev_pos hd ?_
      rw [Bool.true_and]
      exact words_eq hb t (suf_tail h)
    | false => exact ev_neg (by show ¬ wo c = true; rw [hd]; simp) (ev_now rfl)
theorem words_all {b : ByteArray} (hb : Fits b) : Ev (fun k => token_words.f k b) ((L b).all wo) := by
  have h := words_eq hb (L b) (List.suffix_refl _)
  rw [at_all] at h
  exact h
theorem hd_bt {b : ByteArray} {c : UInt8} {t : By} (hx : L b = c :: t) : bt b 0 = (c.toNat : Int) ∧ 0 < b.size := by
  have hl := L_length b
  rw [hx] at hl
  have := bt_of (a := b) (c := c) (t := t) (by rw [hx]; exact List.suffix_refl _)
  rw [← hx, at_all] at this
  exact ⟨this, by simp at hl; omega⟩
theorem isPlain_ev {b : ByteArray} (hb : Fits b) : Ev (fun k => token_IsPlain.f k b) (plainS (L b)) := by
  unfold token_IsPlain.f
  rw [toList_L]
  have hl := L_length b
  by_cases hn : L b = []
  · rw [hn]; exact ev_pos rfl (ev_now rfl)
  · refine ev_neg hn ?_
    cases hx : L b with
    | nil => exact absurd hx hn
    | cons c t =>
      obtain ⟨h0, hp⟩ := hd_bt hx
      rw [plainS, hdB_c]
      rw [hx] at hl
      by_cases h60 : (b.size : Int) ≤ 60
      · have e1 : decide ((c :: t).length ≤ 60) = true := decide_eq_true (by omega)
        rw [e1, Bool.and_true]
        refine ev_pos h60 (ev_pos (by omega) ?_)
        rw [h0]
        refine ev_bind0 (lower_eq _) ?_
        show Ev (fun n => if lo c = true then _ else _) _
        cases hlo : lo c with
        | true =>
          refine ev_pos rfl (Ev.bind (words_all hb) ?_)
          rw [hx]
          cases hw : (c :: t).all wo with
          | true =>
            refine ev_pos rfl (ev_bind0 (isKey_eq _) ?_)
            rw [hx]
            exact ev_now rfl
          | false => exact ev_neg (by simp) (ev_now rfl)
        | false => exact ev_neg (by simp) (ev_now rfl)
      · have e1 : decide ((c :: t).length ≤ 60) = false := decide_eq_false (by omega)
        rw [e1]
        refine ev_neg h60 (ev_now ?_)
        simp
theorem isVar_ev {b : ByteArray} (hb : Fits b) : Ev (fun k => token_IsVar.f k b) (varS (L b)) := by
  unfold token_IsVar.f
  rw [toList_L]
  have hl := L_length b
  by_cases hn : L b = []
  · rw [hn]; exact ev_pos rfl (ev_now rfl)
  · refine ev_neg hn ?_
    cases hx : L b with
    | nil => exact absurd hx hn
    | cons c t =>
      obtain ⟨h0, hp⟩ := hd_bt hx
      rw [varS, hdB_c]
      rw [hx] at hl
      by_cases h60 : (b.size : Int) > 60
      · have e1 : decide ((c :: t).length ≤ 60) = false := decide_eq_false (by omega)
        rw [e1]
        exact ev_pos h60 (ev_now (by simp))
      · have e1 : decide ((c :: t).length ≤ 60) = true := decide_eq_true (by omega)
        rw [e1, Bool.and_true]
        refine ev_neg h60 (ev_pos (by omega) ?_)
        rw [h0]
        refine ev_bind0 (upper_eq _) ?_
        show Ev (fun n => if up c = true then _ else _) _
        cases hup : up c with
        | true =>
          refine ev_pos rfl (Ev.bind (words_all hb) ?_)
          rw [hx]
          exact ev_now rfl
        | false => exact ev_neg (by simp) (ev_now rfl)
theorem printed0_ev {b : ByteArray} (hb : Fits b) (most : Int) : ∀ t, t <:+ L b → Ev (fun k => token_printed.l0 k b most (b.size : Int) (at_ b t)) (t.all pr && decide ((b.size : Int) ≤ most))
  | [], _ => by
    refine Ev.step (fun k => by rw [token_printed.l0]) ?_
    exact ev_neg (by rw [at_nil]; omega) (ev_now rfl)
  | c :: t, h => by
    have ih := printed0_ev hb most t (suf_tail h)
    refine Ev.step (fun k => by rw [token_printed.l0]) ?_
    refine ev_pos (at_lt b c t) (ev_pos (at_nonneg h) (ev_pos (at_lt b c t) ?_))
    rw [bt_of h, at_succ hb h, List.all_cons, pr_c]
    by_cases h10 : (c.toNat : Int) = 10
    · refine ev_pos h10 ?_
      simpa [h10] using ih
    · refine ev_neg h10 ?_
      rw [beq_eq_false_iff_ne.mpr h10, Bool.false_or]
      by_cases h32 : (c.toNat : Int) < 32
      · rw [decide_eq_false (by omega : ¬ 32 ≤ (c.toNat : Int))]
        exact ev_pos h32 (ev_now rfl)
      · rw [decide_eq_true (by omega : 32 ≤ (c.toNat : Int)), Bool.true_and]
        refine ev_neg h32 ?_
        by_cases h126 : (c.toNat : Int) > 126
        · rw [decide_eq_false (by omega : ¬ (c.toNat : Int) ≤ 126)]
          exact ev_pos h126 (ev_now rfl)
        · rw [decide_eq_true (by omega : (c.toNat : Int) ≤ 126), Bool.true_and]
          exact ev_neg h126 ih
theorem printed_ev {b : ByteArray} (hb : Fits b) (most : Nat) : Ev (fun k => token_printed.f k b most) (printS (L b) most) := by
  have h := printed0_ev hb most (L b) (List.suffix_refl _)
  rw [at_all] at h
  have e : decide ((b.size : Int) ≤ (most : Int)) = decide ((L b).length ≤ most) := by rw [L_length, decide_eq_decide]; omega
  rw [e] at h
  exact h
theorem number_valid {b : ByteArray} (hb : Fits b) {c : UInt8} {t : By} (hx : L b = c :: t) (hc : di c = true ∨ (c.toNat : Int) = 126) : ∃ p : Int × Bool, Ev (fun k => token_number.f k b 0) p ∧ (if p.2 = true then (p.1 == (b.size : Int)) else false) = intS (c :: t) := by
  have hsuf : c :: t <:+ L b := by rw [hx]; exact List.suffix_refl _
  obtain ⟨n1, n2⟩ := number_ev hb hsuf
  rw [← hx, at_all, hx] at n1
  rw [← hx, at_all] at n2
  have fin : ∀ s : By, (at_ b (s.dropWhile di) == (b.size : Int)) = s.all di := by
    intro s
    rw [Bool.eq_iff_iff, beq_iff_eq, List.all_eq_true]
    have hsp := List.takeWhile_append_dropWhile (p := di) (l := s)
    constructor
    · intro h
      have : (s.dropWhile di).length = 0 := by unfold at_ at h; omega
      have hd := List.eq_nil_of_length_eq_zero this
      rw [hd, List.append_nil] at hsp
      rw [← hsp]
      exact all_take s
    · intro h
      obtain ⟨_, e2⟩ := takeWhile_all (List.all_eq_true.2 h)
      rw [e2, at_nil]
  have val : ∀ (sg : Bool) (s : By), (if intOk sg (s.takeWhile di) = true then (at_ b (s.dropWhile di) == (b.size : Int)) else false) = (s.all di && intOk sg s) := by
    intro sg s
    rw [fin]
    cases ha : s.all di with
    | false => simp
    | true =>
      obtain ⟨e1, _⟩ := takeWhile_all ha
      rw [e1]
      cases intOk sg s <;> rfl
  by_cases h126 : (c.toNat : Int) = 126
  · refine ⟨_, n2 h126, ?_⟩
    rw [val, intS, if_pos h126]
    have hc126 : c = 126 := u8_eq (d := 126) h126
    subst hc126
    by_cases h48 : t = [48]
    · subst h48
      decide
    · have : ¬ (126 :: t : By) = [126, 48] := by
        intro h
        injection h with _ h
        exact h48 h
      rw [if_neg this, numS, intOk_signed h48]
  · refine ⟨_, n1 h126, ?_⟩
    rw [val, intS, if_neg h126]
    rfl
theorem sign_valid (x : By) (hx : x ≠ []) : ((x.take (signN 3 x)) == x) = decide (x ∈ signs) := by
  rw [Bool.eq_iff_iff, beq_iff_eq, decide_eq_true_eq]
  have hle := signN_le 3 x
  constructor
  · intro h
    have : signN 3 x ≠ 0 := by
      intro h0
      rw [h0] at h
      exact hx (by simpa using h.symm)
    have hat := signN_at 3 x this
    rwa [h] at hat
  · intro h
    have h3 : ∀ y ∈ signs, y.length ≤ 3 := by decide +kernel
    have hl := h3 x h
    have hpos : 0 < x.length := List.length_pos_iff.2 hx
    have : signN 3 x = x.length := by
      refine signN_eq hl (.inr ⟨Nat.le_refl _, by rw [List.take_length]; exact h⟩) ?_
      rintro m h1 _ ⟨h2, _⟩
      omega
    rw [this, List.take_length]
theorem valid_ev {kb b : ByteArray} (hb : Fits b) (n : Int) : Ev (fun k => token_Valid.f k kb b n) (validS (L kb) (L b)) := by
  unfold token_Valid.f
  simp only [toList_L]
  unfold validS
  by_cases k1 : L kb = kVar
  · rw [if_pos k1]
    exact ev_pos k1 (Ev.bind (isVar_ev hb) (ev_now rfl))
  · rw [if_neg k1]
    refine ev_neg k1 ?_
    have j : Ev (fun k => token_Valid.j0 k b kb (decide (L kb = kAtom ∨ L kb = kText)) kb b n) (if L kb = kAtom then printS (L b) 60 else if L kb = kText then printS (L b) 200 else if L kb = kInt then intS (L b)
        else if L kb = kChar then (L b).length == 1 && hdB pr (L b) else if L kb = kKey then decide (L b ∈ keys) else if L kb = kSign then decide (L b ∈ signs) else false) := by
      refine Ev.step (fun k => by rw [token_Valid.j0]) ?_
      simp only [toList_L]
      by_cases k2 : L kb = kAtom
      · rw [if_pos k2]
        refine ev_pos (decide_eq_true (.inl k2)) (ev_neg (by rw [k2]; decide) (Ev.bind (printed_ev hb 60) (ev_now rfl)))
      · rw [if_neg k2]
        by_cases k3 : L kb = kText
        · rw [if_pos k3]
          exact ev_pos (decide_eq_true (.inr k3)) (ev_pos k3 (Ev.bind (printed_ev hb 200) (ev_now rfl)))
        · rw [if_neg k3]
          refine ev_neg (by simp [k2, k3]) ?_
          by_cases k4 : L kb = kInt
          · rw [if_pos k4]
            refine ev_pos k4 ?_
            by_cases hn : L b = []
            · rw [hn]; exact ev_pos rfl (ev_now rfl)
            · refine ev_neg hn ?_
              cases hx : L b with
              | nil => exact absurd hx hn
              | cons c t =>
                obtain ⟨h0, hp⟩ := hd_bt hx
                refine ev_pos (by omega) ?_
                rw [h0]
                refine ev_bind0 (digit_eq _) ?_
                show Ev (fun n => if di c = true then _ else _) _
                cases hd : di c with
                | true =>
                  obtain ⟨p, hp1, hp2⟩ := number_valid hb hx (.inl hd)
                  refine ev_pos rfl (Ev.bind hp1 ?_)
                  rw [← hp2]
                  cases h2 : p.2 with
                  | true => exact ev_pos rfl (ev_now rfl)
                  | false => exact ev_neg (by simp) (ev_now rfl)
                | false =>
                  refine ev_neg (by simp) ?_
                  by_cases h126 : (c.toNat : Int) = 126
                  · obtain ⟨p, hp1, hp2⟩ := number_valid hb hx (.inr h126)
                    refine ev_pos h126 (Ev.bind hp1 ?_)
                    rw [← hp2]
                    cases h2 : p.2 with
                    | true => exact ev_pos rfl (ev_now rfl)
                    | false => exact ev_neg (by simp) (ev_now rfl)
                  · refine ev_neg h126 (ev_now ?_)
                    rw [intS, if_neg h126, numS, List.all_cons, hd]
                    rfl
          · rw [if_neg k4]
            refine ev_neg k4 ?_
            by_cases k5 : L kb = kChar
            · rw [if_pos k5]
              refine ev_pos k5 ?_
              have hl := L_length b
              by_cases h1 : (b.size : Int) = 1
              · refine ev_pos h1 (ev_pos (by omega) ?_)
                cases hx : L b with
                | nil => rw [hx] at hl; simp at hl; omega
                | cons c t =>
                  obtain ⟨h0, hp⟩ := hd_bt hx
                  rw [hx] at hl
                  have e1 : ((c :: t).length == 1) = true := beq_iff_eq.mpr (by omega)
                  rw [h0, e1, Bool.true_and]
                  rw [hdB_c, pr_c]
                  by_cases h10 : (c.toNat : Int) = 10
                  · exact ev_pos h10 (ev_now (by simp [h10]))
                  · refine ev_neg h10 ?_
                    rw [beq_eq_false_iff_ne.mpr h10, Bool.false_or]
                    by_cases h32 : (c.toNat : Int) ≥ 32
                    · rw [decide_eq_true (by omega : 32 ≤ (c.toNat : Int)), Bool.true_and]
                      exact ev_pos h32 (ev_now rfl)
                    · rw [decide_eq_false (by omega : ¬ 32 ≤ (c.toNat : Int)), Bool.false_and]
                      exact ev_neg h32 (ev_now rfl)
              · refine ev_neg h1 (ev_now ?_)
                have e1 : ((L b).length == 1) = false := beq_eq_false_iff_ne.mpr (by omega)
                rw [e1]; rfl
            · rw [if_neg k5]
              refine ev_neg k5 ?_
              by_cases k6 : L kb = kKey
              · rw [if_pos k6]
                exact ev_pos k6 (ev_bind0 (isKey_eq _) (ev_now rfl))
              · rw [if_neg k6]
                refine ev_neg k6 ?_
                by_cases k7 : L kb = kSign
                · rw [if_pos k7]
                  refine ev_pos k7 ?_
                  by_cases hn : L b = []
                  · rw [hn]; exact ev_pos rfl (ev_now (by decide))
                  · refine ev_neg hn ?_
                    have hs := signAt_ev' (L b) (by rw [ofL_L]; exact hb)
                    rw [ofL_L] at hs
                    refine Ev.bind hs (ev_now ?_)
                    rw [L_ofL, sign_valid _ hn]
                · rw [if_neg k7]
                  exact ev_neg k7 (ev_now rfl)
    by_cases k2 : L kb = kAtom
    · refine ev_pos k2 ?_
      have : (L kb == ([97, 116, 111, 109] : List UInt8)) = decide (L kb = kAtom ∨ L kb = kText) := by
        rw [k2]; decide
      rw [this]; exact j
    · refine ev_neg k2 ?_
      have : (L kb == ([116, 101, 120, 116] : List UInt8)) = decide (L kb = kAtom ∨ L kb = kText) := by
        simp only [k2, false_or]
        rw [Bool.eq_iff_iff, beq_iff_eq, decide_eq_true_eq]
        rfl
      rw [this]; exact j
theorem escS_len (q : UInt8) : ∀ s : By, (escS q s).length ≤ 2 * s.length
  | [] => by simp [escS]
  | c :: s => by
    have := escS_len q s
    rw [escS]
    split
    · simp; omega
    · split
      · simp; omega
      · simp; omega
def nu (l : By) : List Int := l.map fun c => (c.toNat : Int)
theorem nu_app (l m : By) : nu (l ++ m) = nu l ++ nu m := List.map_append
theorem inQuotes0_ev {b : ByteArray} (hb : b.size ≤ 1000000) (q : UInt8) : ∀ (t acc : By), t <:+ L b → acc.length + 2 * t.length ≤ 4000000 → Ev (fun k => token_inQuotes.l0 k b q.toNat (nu acc) (b.size : Int) (at_ b t)) (ofL (acc ++ (escS q t ++ [q])))
  | [], acc, _, hl => by
    refine Ev.step (fun k => by rw [token_inQuotes.l0]) ?_
    refine ev_neg (by rw [at_nil]; omega) (ev_pos (by unfold nu; simp at hl ⊢; omega) (ev_now ?_))
    have := strOf (acc ++ [q])
    rw [List.map_append] at this
    exact this
  | c :: t, acc, h, hl => by
    have hf : Fits b := by unfold Fits; omega
    simp only [List.length_cons] at hl
    have hnl : (nu acc).length = acc.length := List.length_map _
    refine Ev.step (fun k => by rw [token_inQuotes.l0]) ?_
    refine ev_pos (at_lt b c t) (ev_pos (at_nonneg h) (ev_pos (at_lt b c t) ?_))
    rw [bt_of h]
    have hq : ((c.toNat : Int) = (q.toNat : Int)) ↔ c = q := by rw [Int.ofNat_inj, UInt8.toNat_inj]
    have j : Ev (fun k => token_inQuotes.j1 k b q.toNat (nu acc) c.toNat (b.size : Int) (at_ b (c :: t)) c.toNat (decide (c = q ∨ (c.toNat : Int) = 92))) (ofL (acc ++ (escS q (c :: t) ++ [q]))) := by
      refine Ev.step (fun k => by rw [token_inQuotes.j1]) ?_
      rw [at_succ hf h, escS]
      by_cases hc : c = q ∨ (c.toNat : Int) = 92
      · rw [if_pos hc]
        have ih := inQuotes0_ev hb q t (acc ++ [92, c]) (suf_tail h) (by simp; omega)
        have e : nu [92, c] = [92, (c.toNat : Int)] := rfl
        rw [nu_app, e] at ih
        refine ev_pos (decide_eq_true hc) ?_
        simp only [Option.bind_some]
        refine ev_pos (by rw [hnl]; show acc.length + 2 < _; omega) ?_
        simpa using ih
      · rw [if_neg hc]
        refine ev_neg (by simpa using hc) ?_
        by_cases h10 : (c.toNat : Int) = 10
        · rw [if_pos h10]
          have ih := inQuotes0_ev hb q t (acc ++ [92, 110]) (suf_tail h) (by simp; omega)
          have e : nu [92, 110] = [92, 110] := rfl
          rw [nu_app, e] at ih
          refine ev_pos h10 ?_
          simp only [Option.bind_some]
          refine ev_pos (by rw [hnl]; show acc.length + 2 < _; omega) ?_
          simpa using ih
        · rw [if_neg h10]
          have ih := inQuotes0_ev hb q t (acc ++ [c]) (suf_tail h) (by simp; omega)
          have e : nu [c] = [(c.toNat : Int)] := rfl
          rw [nu_app, e] at ih
          refine ev_neg h10 (ev_pos (by rw [hnl]; omega) ?_)
          simpa using ih
    by_cases hc : c = q
    · refine ev_pos (hq.2 hc) ?_
      have : ((c.toNat : Int) == (q.toNat : Int)) = decide (c = q ∨ (c.toNat : Int) = 92) := by simp [hc]
      rw [this]; exact j
    · refine ev_neg (fun e => hc (hq.1 e)) ?_
      have : ((c.toNat : Int) == 92) = decide (c = q ∨ (c.toNat : Int) = 92) := by
        simp only [hc, false_or]
        rfl
      rw [this]; exact j
theorem inQuotes_ev {b : ByteArray} (hb : b.size ≤ 1000000) (q : UInt8) : Ev (fun k => token_inQuotes.f k b q.toNat) (ofL (inQ q (L b))) := by
  have h := inQuotes0_ev hb q (L b) [q] (List.suffix_refl _) (by rw [L_length]; simp; omega)
  rw [at_all] at h
  exact h
theorem text_ev {kb b : ByteArray} (hb : b.size ≤ 1000000) (n : Int) : Ev (fun k => token_Text.f k kb b n) (if validS (L kb) (L b) then (ofL (textS (L kb) (L b)), 0) else (⟨#[]⟩, 10)) := by
  have hf : Fits b := by unfold Fits; omega
  unfold token_Text.f
  refine Ev.bind (valid_ev hf n) ?_
  simp only [toList_L]
  by_cases hv : validS (L kb) (L b) = true
  · rw [if_pos hv]
    refine ev_pos hv ?_
    unfold textS
    by_cases k2 : L kb = kAtom
    · rw [if_pos k2]
      refine ev_pos k2 (Ev.bind (isPlain_ev hf) ?_)
      by_cases hp : plainS (L b) = true
      · rw [if_pos hp, ofL_L]
        exact ev_pos hp (ev_now rfl)
      · rw [if_neg hp]
        exact ev_neg hp (Ev.bind (inQuotes_ev hb 39) (ev_now rfl))
    · rw [if_neg k2]
      refine ev_neg k2 ?_
      by_cases k3 : L kb = kText
      · rw [if_pos k3]
        exact ev_pos k3 (Ev.bind (inQuotes_ev hb 34) (ev_now rfl))
      · rw [if_neg k3]
        refine ev_neg k3 ?_
        by_cases k5 : L kb = kChar
        · rw [if_pos k5]
          refine ev_pos k5 ?_
          by_cases c1 : L b = [10]
          · refine ev_pos c1 (ev_now ?_)
            rw [charT, if_pos c1]; rfl
          · refine ev_neg c1 ?_
            by_cases c2 : L b = [32]
            · refine ev_pos c2 (ev_now ?_)
              rw [charT, if_neg c1, if_pos c2]; rfl
            · refine ev_neg c2 ?_
              by_cases c3 : L b = [92]
              · refine ev_pos c3 (ev_now ?_)
                rw [charT, if_neg c1, if_neg c2, if_pos c3]; rfl
              · refine ev_neg c3 (ev_pos (by omega) (ev_now ?_))
                rw [charT, if_neg c1, if_neg c2, if_neg c3]
                have : (⟨#[38]⟩ : ByteArray) ++ b = ofL (38 :: L b) := by
                  apply L_inj
                  rw [L_append, L_ofL]
                  rfl
                rw [this]
        · rw [if_neg k5, ofL_L]
          exact ev_neg k5 (ev_now rfl)
  · rw [if_neg hv]
    exact ev_neg hv (ev_now rfl)
end Go.Proofs.Ytgbielhbjgipoaa.Pure
/-! The reference's reader of one token, against the specification. -/
namespace Go.Proofs.Ytgbielhbjgipoaa.Pure
set_option linter.unusedVariables false
set_option linter.unusedSimpArgs false
open Go.RowKit Go.Proofs.YtgbielhbjgipoaaW.PrintWords Go.Proofs.YtgbielhbjgipoaaW.PrintLast Go.Proofs.YtgbielhbjgipoaaW.PrintMore Go.Proofs.Ytgbielhbjgipoaa.Q
theorem great_eq (x : Int) : manystrandref01_great.f x = some (isUp x) := by
  unfold manystrandref01_great.f isUp; by_cases h : 65 ≤ x <;> simp [h]
theorem small_eq (x : Int) : manystrandref01_small.f x = some (isLo x) := by
  unfold manystrandref01_small.f isLo; by_cases h : 97 ≤ x <;> simp [h]
theorem rdigit_eq (x : Int) : manystrandref01_digit.f x = some (isDi x) := by
  unfold manystrandref01_digit.f isDi; by_cases h : 48 ≤ x <;> simp [h]
theorem inner_eq (x : Int) : manystrandref01_inner.f x = some (isWo x) := by
  unfold manystrandref01_inner.f isWo
  rw [great_eq, small_eq, rdigit_eq]
  cases isUp x <;> cases isLo x <;> cases isDi x <;> simp
/-- Does a word stand in a list, with a space around it? -/
def found (s : By) : By → Bool
  | [] => false
  | c :: t => if s.length + 2 ≤ t.length + 1 then ((!s.isEmpty && ((c :: t).take (s.length + 2) == 32 :: s ++ [32])) || found s t) else false
def sp (c : UInt8) : Bool := !((c.toNat : Int) == 32)
/-- The words of a list with a space around each. -/
def pieces : By → List By
  | [] => []
  | c :: t => if (c.toNat : Int) = 32 ∧ t.dropWhile sp ≠ [] then t.takeWhile sp :: pieces t else pieces t
theorem starts_iff {s t : By} {c : UInt8} (hs : ∀ d ∈ s, sp d = true) (hl : s.length + 2 ≤ t.length + 1) : (c :: t).take (s.length + 2) = 32 :: s ++ [32] ↔ ((c.toNat : Int) = 32 ∧ t.dropWhile sp ≠ [] ∧ t.takeWhile sp = s) := by
  have h32 : sp 32 = false := by decide
  constructor
  · intro h
    have h1 : c = 32 ∧ t.take (s.length + 1) = s ++ [32] := by
      have : s.length + 2 = (s.length + 1) + 1 := by omega
      rw [this, List.take_succ_cons] at h
      simpa using h
    obtain ⟨rfl, h2⟩ := h1
    have h3 : t = s ++ 32 :: t.drop (s.length + 1) := by
      have := List.take_append_drop (s.length + 1) t
      rw [h2] at this
      simpa using this.symm
    obtain ⟨f1, f2⟩ := take_app (p := sp) (s := s) (w := 32 :: t.drop (s.length + 1)) hs (.inr ⟨32, _, rfl, h32⟩)
    rw [← h3] at f1 f2
    exact ⟨by decide, by rw [f2]; simp, f1⟩
  · rintro ⟨h1, h2, h3⟩
    have hc : c = 32 := u8_eq (d := 32) h1
    subst hc
    rcases drop_fails (p := sp) t with h4 | ⟨d, r, h4, hd⟩
    · exact absurd h4 h2
    · have hd32 : d = 32 := by
        apply u8_eq (d := 32)
        simp [sp] at hd
        simpa using hd
      subst hd32
      have h5 := List.takeWhile_append_dropWhile (p := sp) (l := t)
      rw [h3, h4] at h5
      rw [← h5]
      have : s.length + 2 = (s.length + 1) + 1 := by omega
      rw [this, List.take_succ_cons, List.take_append, List.take_of_length_le (by omega)]
      simp
theorem found_eq {s : By} (hs : ∀ d ∈ s, sp d = true) (hne : s ≠ []) : ∀ t : By, found s t = decide (s ∈ pieces t)
  | [] => by simp [found, pieces]
  | c :: t => by
    have ih := found_eq hs hne t
    have he : s.isEmpty = false := by cases s with | nil => exact absurd rfl hne | cons _ _ => rfl
    rw [found, pieces]
    have short : ∀ r : By, (∃ q, q ++ r = t) → s.length + 2 > t.length + 1 → s ∉ pieces r := by
      intro r
      induction r with
      | nil => intro _ _; simp [pieces]
      | cons d r ihr =>
        intro ⟨q, hq⟩ hlt hm
        have hr : s ∉ pieces r := ihr ⟨q ++ [d], by simpa using hq⟩ hlt
        rw [pieces] at hm
        split at hm
        · rename_i hd
          rcases List.mem_cons.1 hm with hm | hm
          · have h1 := congrArg List.length (List.takeWhile_append_dropWhile (p := sp) (l := r))
            rw [List.length_append, ← hm] at h1
            have h2 := congrArg List.length hq
            rw [List.length_append, List.length_cons] at h2
            have h3 : 0 < (r.dropWhile sp).length := List.length_pos_iff.2 hd.2
            omega
          · exact hr hm
        · exact hr hm
    by_cases hl : s.length + 2 ≤ t.length + 1
    · rw [if_pos hl, ih, he]
      have hst := starts_iff (c := c) hs hl
      by_cases hm : (c :: t).take (s.length + 2) = 32 :: s ++ [32]
      · obtain ⟨h1, h2, h3⟩ := hst.1 hm
        rw [if_pos ⟨h1, h2⟩, h3]
        simp only [hm]
        simp
      · have hb : ((c :: t).take (s.length + 2) == 32 :: s ++ [32]) = false := beq_eq_false_iff_ne.mpr hm
        rw [hb]
        simp only [Bool.and_false, Bool.false_or, decide_eq_decide]
        split
        · rename_i hd
          rw [List.mem_cons]
          constructor
          · exact fun h => .inr h
          · rintro (h | h)
            · exact absurd (hst.2 ⟨hd.1, hd.2, h.symm⟩) hm
            · exact h
        · exact Iff.rfl
    · rw [if_neg hl]
      symm
      rw [decide_eq_false_iff_not]
      intro hm
      split at hm
      · rename_i hd
        rcases List.mem_cons.1 hm with hm | hm
        · have h1 := congrArg List.length (List.takeWhile_append_dropWhile (p := sp) (l := t))
          rw [List.length_append, ← hm] at h1
          have h3 : 0 < (t.dropWhile sp).length := List.length_pos_iff.2 hd.2
          omega
        · exact short t ⟨[], rfl⟩ (by omega) hm
      · exact short t ⟨[], rfl⟩ (by omega) hm
theorem found_nil : ∀ t : By, found [] t = false
  | [] => rfl
  | c :: t => by rw [found, found_nil t]; simp
theorem among1_ev {s b : ByteArray} (hs : Fits s) (hb : Fits b) : ∀ t, t <:+ L b → Ev (fun k => manystrandref01_Among.l1 k s b (at_ b t)) (found (L s) t)
  | [], h => by
    refine Ev.step (fun k => by rw [manystrandref01_Among.l1]) ?_
    rw [at_nil]
    unfold Fits at hs hb
    have e : wrap64 (wrap64 ((b.size : Int) + (s.size : Int)) + 2) = (b.size : Int) + (s.size : Int) + 2 := by unfold wrap64; omega
    rw [e]
    exact ev_neg (by omega) (ev_now rfl)
  | c :: t, h => by
    have h0 := at_nonneg h
    have hle := at_le b (c :: t)
    have hlen := suf_len h
    have hs' := hs
    have hb' := hb
    unfold Fits at hs' hb'
    have e : wrap64 (wrap64 (at_ b (c :: t) + (s.size : Int)) + 2) = at_ b (c :: t) + (s.size : Int) + 2 := by unfold wrap64; omega
    have ih := among1_ev hs hb t (suf_tail h)
    refine Ev.step (fun k => by rw [manystrandref01_Among.l1]) ?_
    rw [e, found]
    simp only [toList_L]
    have hat : at_ b (c :: t) = (b.size : Int) - ((t.length : Int) + 1) := by simp [at_]
    by_cases hl : (L s).length + 2 ≤ t.length + 1
    · rw [if_pos hl]
      rw [L_length] at hl
      refine ev_pos (by omega) ?_
      by_cases hn : L s = []
      · refine ev_pos hn ?_
        rw [at_succ hb h, hn]
        simp only [List.isEmpty_nil, Bool.not_true, Bool.false_and, Bool.false_or]
        rw [hn] at ih
        exact ih
      · have he : (L s).isEmpty = false := by cases hx : L s with | nil => exact absurd hx hn | cons _ _ => rfl
        rw [he]
        simp only [Bool.not_false, Bool.true_and]
        have h32 : (⟨#[32]⟩ : ByteArray) = ofL [32] := rfl
        have z1 : ((⟨#[32]⟩ : ByteArray) ++ s).size + 1 ≤ 9223372036854775807 := by
          rw [ByteArray.size_append]
          show 1 + s.size + 1 ≤ _
          omega
        refine ev_neg hn (ev_pos h0 (ev_pos (by omega) (ev_pos (by omega) (ev_pos z1 ?_))))
        have hx : L (b.extract (at_ b (c :: t)).toNat (at_ b (c :: t) + (s.size : Int) + 2).toNat) = (c :: t).take ((L s).length + 2) := by
          rw [L_extract, suf_eq h, L_length]
          congr 1
          omega
        have hy : L (((⟨#[32]⟩ : ByteArray) ++ s) ++ (⟨#[32]⟩ : ByteArray)) = 32 :: L s ++ [32] := by
          rw [L_append, L_append]; rfl
        rw [hx, hy]
        by_cases hm : (c :: t).take ((L s).length + 2) = 32 :: L s ++ [32]
        · refine ev_pos hm (ev_now ?_)
          rw [beq_iff_eq.mpr hm]; rfl
        · refine ev_neg hm ?_
          rw [beq_eq_false_iff_ne.mpr hm, Bool.false_or, at_succ hb h]
          exact ih
    · rw [if_neg hl]
      rw [L_length] at hl
      exact ev_neg (by omega) (ev_now rfl)
theorem among0_ev {s b : ByteArray} (hs : Fits s) (hb : Fits b) : ∀ t, t <:+ L s → Ev (fun k => manystrandref01_Among.l0 k s b (at_ s t)) (t.all sp && found (L s) (L b))
  | [], h => by
    refine Ev.step (fun k => by rw [manystrandref01_Among.l0]) ?_
    rw [at_nil]
    have := among1_ev hs hb (L b) (List.suffix_refl _)
    rw [at_all] at this
    exact ev_neg (by omega) (by simpa using this)
  | c :: t, h => by
    refine Ev.step (fun k => by rw [manystrandref01_Among.l0]) ?_
    refine ev_pos (at_lt s c t) (ev_pos (at_nonneg h) ?_)
    rw [bt_of h, at_succ hs h]
    by_cases hc : (c.toNat : Int) = 32
    · refine ev_pos hc (ev_now ?_)
      simp [sp, hc]
    · refine ev_neg hc ?_
      have : sp c = true := by simp [sp, beq_eq_false_iff_ne.mpr hc]
      rw [List.all_cons, this, Bool.true_and]
      exact among0_ev hs hb t (suf_tail h)
theorem among_ev {s b : ByteArray} (hs : Fits s) (hb : Fits b) (ws : List By) (hw : pieces (L b) = ws) (hsp : ∀ w ∈ ws, w ≠ [] ∧ ∀ c ∈ w, sp c = true) : Ev (fun k => manystrandref01_Among.f k s b) (decide (L s ∈ ws)) := by
  unfold manystrandref01_Among.f
  have h := among0_ev hs hb (L s) (List.suffix_refl _)
  rw [at_all] at h
  have e : ((L s).all sp && found (L s) (L b)) = decide (L s ∈ ws) := by
    by_cases hall : ∀ c ∈ L s, sp c = true
    · have : (L s).all sp = true := List.all_eq_true.2 hall
      rw [this, Bool.true_and]
      by_cases hn : L s = []
      · rw [hn, found_nil]
        symm
        rw [decide_eq_false_iff_not]
        exact fun hm => (hsp [] hm).1 rfl
      · rw [found_eq hall hn, hw]
    · have : (L s).all sp = false := by
        rw [Bool.eq_false_iff]
        exact fun hh => hall (List.all_eq_true.1 hh)
      rw [this, Bool.false_and]
      symm
      rw [decide_eq_false_iff_not]
      exact fun hm => hall (hsp _ hm).2
  rw [e] at h
  exact h
end Go.Proofs.Ytgbielhbjgipoaa.Pure
/-! The reference's reader of one token, against the specification: its parts. -/
namespace Go.Proofs.Ytgbielhbjgipoaa.Pure
set_option linter.unusedVariables false
set_option linter.unusedSimpArgs false
open Go.RowKit Go.Proofs.YtgbielhbjgipoaaW.PrintWords Go.Proofs.YtgbielhbjgipoaaW.PrintLast Go.Proofs.YtgbielhbjgipoaaW.PrintMore Go.Proofs.Ytgbielhbjgipoaa.Q
theorem keys_pieces : pieces [32, 97, 110, 100, 116, 104, 101, 110, 32, 97, 116, 32, 98, 121, 32, 99, 97, 115, 101, 32, 99, 97, 116, 99, 104, 32, 99, 104, 111, 105, 99, 101, 32, 100, 105, 118, 32, 100, 111, 32, 101, 97, 99, 104, 32, 101, 108, 115, 101, 32, 101, 110, 100, 32, 102, 111, 114, 32, 102, 117, 110, 32, 105, 102, 32, 105, 110, 32, 108, 97, 122, 121, 32, 108, 111, 99, 97, 108, 32, 108, 111, 99, 107, 32, 109, 111, 100, 32, 111, 114, 101, 108, 115, 101, 32, 112, 114, 111, 99, 32, 114, 97, 105, 115, 101, 32, 115, 107, 105, 112, 32, 116, 104, 101, 110, 32, 116, 104, 114, 101, 97, 100, 32, 116, 114, 121, 32, 111, 102, 32] = keys := by
  decide +kernel
theorem signs_pieces : pieces [32, 40, 32, 41, 32, 123, 32, 125, 32, 91, 32, 93, 32, 91, 93, 32, 46, 32, 124, 32, 35, 32, 61, 32, 92, 61, 32, 61, 61, 32, 60, 32, 61, 60, 32, 62, 32, 62, 61, 32, 43, 32, 45, 32, 42, 32, 126, 32, 58, 61, 32, 64, 32, 33, 33, 32, 58, 32, 46, 46, 46, 32, 36, 32, 95, 32] = signs := by
  decide +kernel
theorem keys_sp : ∀ w ∈ keys, w ≠ [] ∧ ∀ c ∈ w, sp c = true := by decide +kernel
theorem signs_sp : ∀ w ∈ signs, w ≠ [] ∧ ∀ c ∈ w, sp c = true := by decide +kernel
theorem risKey_ev {s : ByteArray} (hs : Fits s) : Ev (fun k => manystrandref01_IsKey.f k s) (decide (L s ∈ keys)) := by
  unfold manystrandref01_IsKey.f
  exact Ev.bind (among_ev hs (by decide +kernel) keys keys_pieces keys_sp) (ev_now rfl)
theorem risSign_ev {s : ByteArray} (hs : Fits s) : Ev (fun k => manystrandref01_IsSign.f k s) (decide (L s ∈ signs)) := by
  unfold manystrandref01_IsSign.f
  exact Ev.bind (among_ev hs (by decide +kernel) signs signs_pieces signs_sp) (ev_now rfl)
theorem isNumber0_ev {b : ByteArray} (hb : Fits b) : ∀ t, t <:+ L b → Ev (fun k => manystrandref01_IsNumber.l0 k b (at_ b t)) (t.all di && intOk false (L b))
  | [], h => by
    refine Ev.step (fun k => by rw [manystrandref01_IsNumber.l0]) ?_
    rw [at_nil, List.all_nil, Bool.true_and, toList_L]
    refine ev_neg (by omega) ?_
    by_cases hn : L b = []
    · exact ev_pos hn (ev_now (by rw [hn]; rfl))
    · refine ev_neg hn ?_
      have hl := L_length b
      cases hx : L b with
      | nil => exact absurd hx hn
      | cons c ds =>
        rw [hx] at hl
        have h0 : bt b 0 = (c.toNat : Int) := by
          have := bt_of (a := b) (c := c) (t := ds) (by rw [hx]; exact List.suffix_refl _)
          rw [← hx, at_all] at this
          exact this
        simp only [List.length_cons] at hl
        unfold intOk
        by_cases h18 : (b.size : Int) ≤ 18
        · refine ev_pos h18 (ev_pos (by omega) ?_)
          rw [h0]
          have e1 : decide (1 ≤ (c :: ds).length) = true := decide_eq_true (by simp)
          have e2 : decide ((c :: ds).length ≤ 18) = true := decide_eq_true (by simp; omega)
          rw [e1, e2]
          by_cases h48 : (c.toNat : Int) = 48
          · refine ev_pos h48 (ev_now ?_)
            simp only [h48, if_true, Bool.true_and, Bool.not_false, Bool.and_true]
            rw [Bool.eq_iff_iff, beq_iff_eq, beq_iff_eq, List.length_cons]
            omega
          · refine ev_neg h48 (ev_now ?_)
            simp [h48]
        · refine ev_neg h18 (ev_now ?_)
          have e2 : decide ((c :: ds).length ≤ 18) = false := decide_eq_false (by simp; omega)
          rw [e2]
          simp
  | c :: t, h => by
    refine Ev.step (fun k => by rw [manystrandref01_IsNumber.l0]) ?_
    refine ev_pos (at_lt b c t) (ev_pos (at_nonneg h) ?_)
    rw [bt_of h, at_succ hb h]
    refine ev_bind0 (rdigit_eq _) ?_
    rw [List.all_cons]
    cases hd : di c with
    | true =>
      refine ev_pos hd ?_
      rw [Bool.true_and]
      exact isNumber0_ev hb t (suf_tail h)
    | false => exact ev_neg (by show ¬ di c = true; rw [hd]; simp) (ev_now rfl)
theorem isNumber_ev {b : ByteArray} (hb : Fits b) : Ev (fun k => manystrandref01_IsNumber.f k b) ((L b).all di && intOk false (L b)) := by
  unfold manystrandref01_IsNumber.f
  have h := isNumber0_ev hb (L b) (List.suffix_refl _)
  rw [at_all] at h
  exact h
theorem isInt_ev {b : ByteArray} (hb : Fits b) : Ev (fun k => manystrandref01_IsInt.f k b) (intS (L b)) := by
  unfold manystrandref01_IsInt.f
  have j : Ev (fun k => manystrandref01_IsInt.j0 k b false) (numS (L b)) := by
    refine Ev.step (fun k => by rw [manystrandref01_IsInt.j0]) ?_
    exact ev_neg (by simp) (Ev.bind (isNumber_ev hb) (ev_now rfl))
  rw [toList_L]
  by_cases hn : L b = []
  · refine ev_pos hn ?_
    rw [hn] at j ⊢
    exact j
  · refine ev_neg hn ?_
    have hl := L_length b
    cases hx : L b with
    | nil => exact absurd hx hn
    | cons c ds =>
      rw [hx] at hl j
      simp only [List.length_cons] at hl
      have hsuf : c :: ds <:+ L b := by rw [hx]; exact List.suffix_refl _
      have h0 : bt b 0 = (c.toNat : Int) := by
        have := bt_of hsuf
        rw [← hx, at_all] at this
        exact this
      refine ev_pos (by omega) ?_
      rw [h0, intS]
      by_cases h126 : (c.toNat : Int) = 126
      · rw [if_pos h126]
        simp only [h126]
        refine Ev.step (fun k => by rw [manystrandref01_IsInt.j0]) ?_
        refine ev_pos rfl ?_
        rw [toList_L, hx]
        by_cases h48 : c :: ds = [126, 48]
        · rw [if_pos h48]
          exact ev_pos h48 (ev_now rfl)
        · rw [if_neg h48]
          refine ev_neg h48 (ev_pos (by omega) ?_)
          have ha : at_ b ds = 1 := by unfold at_; omega
          have he : b.extract 1 b.size = ofL ds := by
            have := ex_rest (a := b) (t := ds) (suf_tail hsuf)
            rwa [ha] at this
          rw [he]
          have := isNumber_ev (b := ofL ds) (by unfold Fits at hb ⊢; rw [size_ofL]; omega)
          rw [L_ofL] at this
          exact Ev.bind this (ev_now rfl)
      · rw [if_neg h126, beq_eq_false_iff_ne.mpr h126]
        exact j
theorem run_di_ev {a : ByteArray} (ha : Fits a) : ∀ u, u <:+ L a → Ev (fun k => manystrandref01_run.l0 k a (at_ a u) true) (at_ a (u.dropWhile di))
  | [], _ => by
    refine Ev.step (fun k => by rw [manystrandref01_run.l0]) ?_
    exact ev_neg (by rw [at_nil]; omega) (ev_now rfl)
  | c :: u, h => by
    refine Ev.step (fun k => by rw [manystrandref01_run.l0]) ?_
    refine ev_pos (at_lt a c u) (ev_pos (at_nonneg h) ?_)
    rw [bt_of h, at_succ ha h]
    refine ev_bind0 (rdigit_eq _) ?_
    cases hd : di c with
    | true =>
      refine ev_pos hd ?_
      rw [List.dropWhile_cons_of_pos hd]
      exact run_di_ev ha u (suf_tail h)
    | false =>
      rw [List.dropWhile_cons_of_neg (by simp [hd])]
      exact ev_neg (by show ¬ di c = true; rw [hd]; simp) (ev_pos rfl (ev_now rfl))
theorem di_wo {c : UInt8} (h : di c = true) : wo c = true := by
  unfold di at h
  unfold wo isWo
  rw [h]; simp
theorem run_wo_ev {a : ByteArray} (ha : Fits a) : ∀ u, u <:+ L a → Ev (fun k => manystrandref01_run.l0 k a (at_ a u) false) (at_ a (u.dropWhile wo))
  | [], _ => by
    refine Ev.step (fun k => by rw [manystrandref01_run.l0]) ?_
    exact ev_neg (by rw [at_nil]; omega) (ev_now rfl)
  | c :: u, h => by
    have ih := run_wo_ev ha u (suf_tail h)
    refine Ev.step (fun k => by rw [manystrandref01_run.l0]) ?_
    refine ev_pos (at_lt a c u) (ev_pos (at_nonneg h) ?_)
    rw [bt_of h, at_succ ha h]
    refine ev_bind0 (rdigit_eq _) ?_
    cases hd : di c with
    | true =>
      refine ev_pos hd ?_
      rw [List.dropWhile_cons_of_pos (di_wo hd)]
      exact ih
    | false =>
      refine ev_neg (by show ¬ di c = true; rw [hd]; simp) (ev_neg (by simp) (ev_bind0 (inner_eq _) ?_))
      cases hw : wo c with
      | true =>
        refine ev_pos hw ?_
        rw [List.dropWhile_cons_of_pos hw]
        exact ih
      | false =>
        rw [List.dropWhile_cons_of_neg (by simp [hw])]
        exact ev_neg (by show ¬ wo c = true; rw [hw]; simp) (ev_now rfl)
theorem begins_eq {a : ByteArray} (ha : Fits a) (x y : UInt8) : ∀ t, t <:+ L a → manystrandref01_begins.f a (at_ a t) (⟨#[x, y]⟩ : ByteArray) = some (pre2 x.toNat y.toNat t) := by
  intro t h
  have hb : (⟨#[x, y]⟩ : ByteArray).size = 2 := rfl
  have hl : L (⟨#[x, y]⟩ : ByteArray) = [x, y] := rfl
  have h0 := at_nonneg h
  have hle := at_le a t
  have hlen := suf_len h
  have ha' := ha
  unfold Fits at ha'
  unfold manystrandref01_begins.f
  have e1 : wrap64 ((a.size : Int) - at_ a t) = t.length := by unfold at_ wrap64; omega
  have e2 : wrap64 (at_ a t + (2 : Nat)) = at_ a t + 2 := by unfold wrap64; omega
  rw [hb, e1, e2]
  match t, h with
  | [], _ => simp [pre2]
  | [c], _ => simp [pre2]
  | c :: d :: t, h =>
    have e3 : at_ a (c :: d :: t) + 2 ≤ (a.size : Int) := by unfold at_; simp; omega
    rw [if_pos (by simp; omega), if_pos h0, if_pos (by omega), if_pos e3, toList_L, toList_L, L_extract, suf_eq h, hl]
    have e4 : (at_ a (c :: d :: t) + 2).toNat - (at_ a (c :: d :: t)).toNat = 2 := by omega
    rw [e4]
    simp only [pre2, Option.some.injEq]
    rw [Bool.eq_iff_iff]
    simp [Int.ofNat_inj, UInt8.toNat_inj]
theorem rrem0_ev {a : ByteArray} (ha : Fits a) : ∀ t, t <:+ L a → Ev (fun k => manystrandref01_remark.l0 k a (at_ a t)) (at_ a (t.dropWhile fun c => !((c.toNat : Int) == 10)))
  | [], _ => by
    refine Ev.step (fun k => by rw [manystrandref01_remark.l0]) ?_
    exact ev_neg (by rw [at_nil]; omega) (ev_now rfl)
  | c :: t, h => by
    refine Ev.step (fun k => by rw [manystrandref01_remark.l0]) ?_
    refine ev_pos (at_lt a c t) (ev_pos (at_nonneg h) ?_)
    rw [bt_of h, at_succ ha h]
    by_cases hc : (c.toNat : Int) = 10
    · refine ev_pos hc (ev_now ?_)
      rw [List.dropWhile_cons_of_neg (by simp [hc])]
    · refine ev_neg hc ?_
      rw [List.dropWhile_cons_of_pos (by simp [beq_eq_false_iff_ne.mpr hc])]
      exact rrem0_ev ha t (suf_tail h)
theorem rrem1_ev {a : ByteArray} (ha : Fits a) : ∀ (d : Int) (t : By), t <:+ L a → 1 ≤ d → d + t.length ≤ 281474976710656 → Ev (fun k => manystrandref01_remark.l1 k a d (at_ a t)) (posO a (rem1 d t))
  | d, [], _, _, _ => by
    refine Ev.step (fun k => by rw [manystrandref01_remark.l1]) ?_
    rw [at_nil]
    exact ev_neg (by omega) (ev_now rfl)
  | d, [c], h, hd, hb => by
    refine Ev.step (fun k => by rw [manystrandref01_remark.l1]) ?_
    refine ev_pos (at_lt a c []) ?_
    refine ev_bind0 (begins_eq ha _ _ _ h) (ev_neg (by simp [pre2]) (ev_bind0 (begins_eq ha _ _ _ h) (ev_neg (by simp [pre2]) ?_)))
    rw [at_succ ha h]
    refine Ev.step (fun k => by rw [manystrandref01_remark.l1]) ?_
    rw [at_nil]
    exact ev_neg (by omega) (ev_now rfl)
  | d, x :: y :: t, h, hd, hb => by
    have h1 := suf_tail h
    have h2 := suf_tail h1
    simp only [List.length_cons] at hb
    refine Ev.step (fun k => by rw [manystrandref01_remark.l1]) ?_
    refine ev_pos (at_lt a _ _) ?_
    refine ev_bind0 (begins_eq ha _ _ _ h) ?_
    rw [at_succ ha h, at_succ ha h1, rem1]
    by_cases c1 : (x.toNat : Int) = 47 ∧ (y.toNat : Int) = 42
    · rw [if_pos c1]
      refine ev_pos (by simpa [pre2] using c1) ?_
      have e : wrap64 (d + 1) = d + 1 := by unfold wrap64; omega
      rw [e]
      exact rrem1_ev ha (d + 1) t h2 (by omega) (by omega)
    · rw [if_neg c1]
      refine ev_neg (by simpa [pre2] using c1) (ev_bind0 (begins_eq ha _ _ _ h) ?_)
      have e : wrap64 (d - 1) = d - 1 := by unfold wrap64; omega
      rw [e]
      by_cases c2 : (x.toNat : Int) = 42 ∧ (y.toNat : Int) = 47
      · rw [if_pos c2]
        refine ev_pos (by simpa [pre2] using c2) ?_
        by_cases c3 : d = 1
        · rw [if_pos c3]
          exact ev_pos (by omega) (ev_now rfl)
        · rw [if_neg c3]
          exact ev_neg (by omega) (rrem1_ev ha (d - 1) t h2 (by omega) (by omega))
      · rw [if_neg c2]
        exact ev_neg (by simpa [pre2] using c2) (rrem1_ev ha d (y :: t) h1 hd (by simp; omega))
/-- Behind what the reference takes for a blank or a remark; none: it does not end. -/
def remS : By → Option By
  | [] => some []
  | c :: t => if blank c then some t else if (c.toNat : Int) = 37 then some ((c :: t).dropWhile fun c => !((c.toNat : Int) == 10))
      else if pre2 47 42 (c :: t) then rem1 1 (t.drop 1) else some (c :: t)
theorem rremark_ev {a : ByteArray} (ha : Fits a) {c : UInt8} {t : By} (h : c :: t <:+ L a) : Ev (fun k => manystrandref01_remark.f k a (at_ a (c :: t))) (posO a (remS (c :: t))) := by
  unfold manystrandref01_remark.f
  refine ev_pos (at_nonneg h) (ev_pos (at_lt a c t) ?_)
  rw [bt_of h]
  have main : Ev (fun k => manystrandref01_remark.j0 k a (at_ a (c :: t)) c.toNat (blank c)) (posO a (remS (c :: t))) := by
    refine Ev.step (fun k => by rw [manystrandref01_remark.j0]) ?_
    rw [remS]
    cases hb : blank c with
    | true =>
      refine ev_pos rfl (ev_now ?_)
      rw [at_succ ha h]
      rfl
    | false =>
      refine ev_neg (by simp) ?_
      simp only [Bool.false_eq_true, if_false]
      by_cases h37 : (c.toNat : Int) = 37
      · rw [if_pos h37]
        exact ev_pos h37 (rrem0_ev ha _ h)
      · rw [if_neg h37]
        refine ev_neg h37 (ev_bind0 (begins_eq ha _ _ _ h) ?_)
        by_cases hp : pre2 47 42 (c :: t) = true
        · rw [if_pos hp]
          refine ev_pos hp ?_
          obtain ⟨d, u, rfl, _, _⟩ := (pre2_gap hb h37).1 hp
          rw [at_succ2 ha h]
          have hl := suf_len h
          unfold Fits at ha
          simp only [List.length_cons] at hl
          exact rrem1_ev ha 1 u (suf_tail (suf_tail h)) (by omega) (by omega)
        · rw [if_neg hp]
          exact ev_neg hp (ev_now rfl)
  refine Ev.congr (f := fun k => manystrandref01_remark.j0 k a (at_ a (c :: t)) c.toNat (blank c)) (fun k => ?_) main
  unfold blank
  by_cases b1 : (c.toNat : Int) = 32
  · simp [b1]
  · by_cases b2 : (c.toNat : Int) = 9
    · simp [b2]
    · by_cases b3 : (c.toNat : Int) = 10
      · simp [b3]
      · rw [if_neg b1, if_neg b2, if_neg b3, beq_eq_false_iff_ne.mpr b1, beq_eq_false_iff_ne.mpr b2, beq_eq_false_iff_ne.mpr b3]
        rfl
end Go.Proofs.Ytgbielhbjgipoaa.Pure
/-! What the reference says of names. -/
namespace Go.Proofs.Ytgbielhbjgipoaa.Pure
set_option linter.unusedVariables false
set_option linter.unusedSimpArgs false
open Go.RowKit Go.Proofs.YtgbielhbjgipoaaW.PrintWords Go.Proofs.YtgbielhbjgipoaaW.PrintLast Go.Proofs.YtgbielhbjgipoaaW.PrintMore Go.Proofs.Ytgbielhbjgipoaa.Q
theorem ofL_app2 (l m : By) : ofL l ++ ofL m = ofL (l ++ m) := by
  apply L_inj
  rw [L_append, L_ofL, L_ofL, L_ofL]
def wordS (s : By) : Bool := !decide (s = []) && s.all wo && decide (s.length ≤ 60)
theorem rword0_ev {b : ByteArray} (hb : Fits b) : ∀ t, t <:+ L b → Ev (fun k => manystrandref01_word.l0 k b (at_ b t)) (t.all wo && (!decide (L b = []) && decide ((L b).length ≤ 60)))
  | [], _ => by
    refine Ev.step (fun k => by rw [manystrandref01_word.l0]) ?_
    rw [toList_L]
    refine ev_neg (by rw [at_nil]; omega) ?_
    by_cases hn : L b = []
    · exact ev_pos hn (ev_now (by rw [hn]; rfl))
    · refine ev_neg hn (ev_now ?_)
      rw [decide_eq_false hn, L_length]
      simp only [List.all_nil, Bool.not_false, Bool.true_and, decide_eq_decide]
      omega
  | c :: t, h => by
    refine Ev.step (fun k => by rw [manystrandref01_word.l0]) ?_
    refine ev_pos (at_lt b c t) (ev_pos (at_nonneg h) ?_)
    rw [bt_of h, at_succ hb h]
    refine ev_bind0 (inner_eq _) ?_
    rw [List.all_cons]
    cases hd : wo c with
    | true =>
      refine ev_pos hd ?_
      rw [Bool.true_and]
      exact rword0_ev hb t (suf_tail h)
    | false => exact ev_neg (by show ¬ wo c = true; rw [hd]; simp) (ev_now rfl)
theorem rword_ev {b : ByteArray} (hb : Fits b) : Ev (fun k => manystrandref01_word.f k b) (wordS (L b)) := by
  have h := rword0_ev hb (L b) (List.suffix_refl _)
  rw [at_all] at h
  have e : ((L b).all wo && (!decide (L b = []) && decide ((L b).length ≤ 60))) = wordS (L b) := by
    unfold wordS
    cases (L b).all wo <;> cases (!decide (L b = [])) <;> simp
  rw [e] at h
  exact h
theorem risPlain_ev {b : ByteArray} (hb : Fits b) : Ev (fun k => manystrandref01_IsPlain.f k b) (plainS (L b)) := by
  unfold manystrandref01_IsPlain.f
  refine Ev.bind (rword_ev hb) ?_
  cases hx : L b with
  | nil => exact ev_neg (by decide) (ev_now rfl)
  | cons c t =>
    obtain ⟨h0, hp⟩ := hd_bt hx
    rw [plainS, hdB_c]
    by_cases hw : wordS (c :: t) = true
    · have hw' := hw
      unfold wordS at hw'
      simp only [Bool.and_eq_true] at hw'
      rw [hw'.1.2, hw'.2]
      refine ev_pos hw (ev_pos (by omega) ?_)
      rw [h0]
      refine ev_bind0 (small_eq _) ?_
      show Ev (fun n => if lo c = true then _ else _) _
      cases hl : lo c with
      | true =>
        refine ev_pos rfl (Ev.bind (risKey_ev hb) (ev_now ?_))
        rw [hx]
        simp
      | false => exact ev_neg (by simp) (ev_now rfl)
    · refine ev_neg hw (ev_now ?_)
      unfold wordS at hw
      simp only [Bool.and_eq_true, not_and] at hw
      have hw2 : (c :: t).all wo = true → ¬ decide ((c :: t).length ≤ 60) = true := fun h => hw ⟨by simp, h⟩
      cases ha : (c :: t).all wo with
      | false => simp
      | true => rw [Bool.eq_false_iff.mpr (hw2 ha)]; simp
theorem risVar_ev {b : ByteArray} (hb : Fits b) : Ev (fun k => manystrandref01_IsVar.f k b) (varS (L b)) := by
  unfold manystrandref01_IsVar.f
  refine Ev.bind (rword_ev hb) ?_
  cases hx : L b with
  | nil => exact ev_neg (by decide) (ev_now rfl)
  | cons c t =>
    obtain ⟨h0, hp⟩ := hd_bt hx
    rw [varS, hdB_c]
    by_cases hw : wordS (c :: t) = true
    · have hw' := hw
      unfold wordS at hw'
      simp only [Bool.and_eq_true] at hw'
      rw [hw'.1.2, hw'.2]
      refine ev_pos hw (ev_pos (by omega) ?_)
      rw [h0]
      refine ev_bind0 (great_eq _) (ev_now ?_)
      show up c = _
      simp
    · refine ev_neg hw (ev_now ?_)
      unfold wordS at hw
      simp only [Bool.and_eq_true, not_and] at hw
      have hw2 : (c :: t).all wo = true → ¬ decide ((c :: t).length ≤ 60) = true := fun h => hw ⟨by simp, h⟩
      cases ha : (c :: t).all wo with
      | false => simp
      | true => rw [Bool.eq_false_iff.mpr (hw2 ha)]; simp
theorem inside0_ev {b : ByteArray} (hb : Fits b) (most : Int) : ∀ t, t <:+ L b → Ev (fun k => manystrandref01_inside.l0 k b most (at_ b t)) (t.all pr && decide ((b.size : Int) ≤ most))
  | [], _ => by
    refine Ev.step (fun k => by rw [manystrandref01_inside.l0]) ?_
    exact ev_neg (by rw [at_nil]; omega) (ev_now rfl)
  | c :: t, h => by
    have ih := inside0_ev hb most t (suf_tail h)
    refine Ev.step (fun k => by rw [manystrandref01_inside.l0]) ?_
    refine ev_pos (at_lt b c t) (ev_pos (at_nonneg h) ?_)
    rw [bt_of h, at_succ hb h, List.all_cons, pr_c]
    by_cases h10 : (c.toNat : Int) = 10
    · refine ev_pos h10 ?_
      simpa [h10] using ih
    · refine ev_neg h10 ?_
      rw [beq_eq_false_iff_ne.mpr h10, Bool.false_or]
      by_cases h32 : (c.toNat : Int) < 32
      · rw [decide_eq_false (by omega : ¬ 32 ≤ (c.toNat : Int))]
        exact ev_pos h32 (ev_now rfl)
      · rw [decide_eq_true (by omega : 32 ≤ (c.toNat : Int)), Bool.true_and]
        refine ev_neg h32 ?_
        by_cases h126 : (c.toNat : Int) > 126
        · rw [decide_eq_false (by omega : ¬ (c.toNat : Int) ≤ 126)]
          exact ev_pos h126 (ev_now rfl)
        · rw [decide_eq_true (by omega : (c.toNat : Int) ≤ 126), Bool.true_and]
          exact ev_neg h126 ih
theorem inside_ev {b : ByteArray} (hb : Fits b) (most : Nat) : Ev (fun k => manystrandref01_inside.f k b most) (printS (L b) most) := by
  have h := inside0_ev hb most (L b) (List.suffix_refl _)
  rw [at_all] at h
  have e : decide ((b.size : Int) ≤ (most : Int)) = decide ((L b).length ≤ most) := by rw [L_length, decide_eq_decide]; omega
  rw [e] at h
  exact h
theorem ex_one' {a : ByteArray} (ha : Fits a) {c : UInt8} {t : By} (h : c :: t <:+ L a) : a.extract (at_ a (c :: t)).toNat (wrap64 (at_ a (c :: t) + 1)).toNat = ofL [c] := by
  rw [at_succ ha h]
  exact ex_between (w := [c]) (r := t) h
theorem rquoted0_ev {b qb : ByteArray} (hb : b.size ≤ 1000000) (q : UInt8) (hq : qb = ofL [q]) (hq10 : ¬ (q.toNat : Int) = 10) : ∀ (t acc : By), t <:+ L b → acc.length + 2 * t.length ≤ 4000000 → Ev (fun k => manystrandref01_quoted.l0 k b qb (ofL acc) (at_ b t)) (ofL (acc ++ (escS q t ++ [q])))
  | [], acc, _, hl => by
    have hqs : qb.size = 1 := by rw [hq, size_ofL]; rfl
    refine Ev.step (fun k => by rw [manystrandref01_quoted.l0]) ?_
    simp only [List.length_nil] at hl
    refine ev_neg (by rw [at_nil]; omega) (ev_pos (by rw [size_ofL, hqs]; omega) (ev_now ?_))
    rw [hq, ofL_app2]
    rfl
  | c :: t, acc, h, hl => by
    have hf : Fits b := by unfold Fits; omega
    have hqs : qb.size = 1 := by rw [hq, size_ofL]; rfl
    have hq0 : bt qb 0 = (q.toNat : Int) := (hd_bt (by rw [hq, L_ofL])).1
    simp only [List.length_cons] at hl
    have hcq : ((c.toNat : Int) = (q.toNat : Int)) ↔ c = q := by rw [Int.ofNat_inj, UInt8.toNat_inj]
    have hs := suf_tail h
    have e1 : at_ b (c :: t) ≤ wrap64 (at_ b (c :: t) + 1) := by rw [at_succ hf h, at_cons]; omega
    have e2 : wrap64 (at_ b (c :: t) + 1) ≤ (b.size : Int) := by rw [at_succ hf h]; exact at_le b t
    have h92b : (⟨#[92]⟩ : ByteArray) = ofL [92] := rfl
    have hnl : (⟨#[92, 110]⟩ : ByteArray) = ofL [92, 110] := rfl
    have esc : c = q ∨ (c.toNat : Int) = 92 → Ev (fun k => if at_ b (c :: t) ≤ wrap64 (at_ b (c :: t) + 1) then (if wrap64 (at_ b (c :: t) + 1) ≤ (b.size : Int) then (if 1 + (b.extract (at_ b (c :: t) : Int).toNat ((wrap64 (at_ b (c :: t) + 1)) : Int).toNat).size ≤ 9223372036854775807 then (if (ofL acc).size + ((⟨#[92]⟩ : ByteArray) ++ (b.extract (at_ b (c :: t) : Int).toNat ((wrap64 (at_ b (c :: t) + 1)) : Int).toNat)).size ≤ 9223372036854775807 then (manystrandref01_quoted.l0 k b qb (ofL acc ++ ((⟨#[92]⟩ : ByteArray) ++ (b.extract (at_ b (c :: t) : Int).toNat ((wrap64 (at_ b (c :: t) + 1)) : Int).toNat))) (wrap64 (at_ b (c :: t) + 1))) else (none)) else (none)) else (none)) else (none)) (ofL (acc ++ (escS q (c :: t) ++ [q]))) := by
      intro hc
      have ih := rquoted0_ev hb q hq hq10 t (acc ++ [92, c]) hs (by simp; omega)
      rw [ex_one' hf h, at_succ hf h, h92b, ofL_app2, ofL_app2, escS, if_pos hc]
      refine ev_pos (by rw [at_cons]; omega) (ev_pos (at_le b t) (ev_pos (by rw [size_ofL, List.length_singleton]; omega) (ev_pos (by rw [size_ofL, size_ofL]; show acc.length + 2 ≤ _; omega) ?_)))
      simpa using ih
    refine Ev.step (fun k => by rw [manystrandref01_quoted.l0]) ?_
    refine ev_pos (at_lt b c t) (ev_pos (at_nonneg h) ?_)
    rw [bt_of h, hq0]
    by_cases h10 : (c.toNat : Int) = 10
    · have hne : ¬ (c = q ∨ (c.toNat : Int) = 92) := by
        rintro (rfl | h92)
        · exact hq10 h10
        · omega
      have ih := rquoted0_ev hb q hq hq10 t (acc ++ [92, 110]) hs (by simp; omega)
      refine ev_pos h10 (ev_pos (by rw [size_ofL]; omega) ?_)
      rw [hnl, ofL_app2, at_succ hf h, escS, if_neg hne, if_pos h10]
      simpa using ih
    · refine ev_neg h10 ?_
      by_cases h92 : (c.toNat : Int) = 92
      · exact ev_pos h92 (esc (.inr h92))
      · refine ev_neg h92 (ev_pos (by omega) ?_)
        by_cases hc : c = q
        · exact ev_pos (hcq.2 hc) (esc (.inl hc))
        · have hne : ¬ (c = q ∨ (c.toNat : Int) = 92) := by
            rintro (hh | hh)
            · exact hc hh
            · exact h92 hh
          have ih := rquoted0_ev hb q hq hq10 t (acc ++ [c]) hs (by simp; omega)
          refine ev_neg (fun e => hc (hcq.1 e)) (ev_pos e1 (ev_pos e2 ?_))
          rw [ex_one' hf h, ofL_app2, at_succ hf h, escS, if_neg hne, if_neg h10]
          refine ev_pos (by rw [size_ofL, size_ofL]; show acc.length + 1 ≤ _; omega) ?_
          simpa using ih
theorem rquoted_ev {b : ByteArray} (hb : b.size ≤ 1000000) (q : UInt8) (hq10 : ¬ (q.toNat : Int) = 10) : Ev (fun k => manystrandref01_quoted.f k b (ofL [q])) (ofL (inQ q (L b))) := by
  have h := rquoted0_ev hb q rfl hq10 (L b) [q] (List.suffix_refl _) (by rw [L_length]; simp; omega)
  rw [at_all] at h
  exact h
theorem rquoteT_ev {b : ByteArray} (hb : b.size ≤ 1000000) : Ev (fun k => manystrandref01_Quote.f k b) (if printS (L b) 60 then (ofL (if plainS (L b) then L b else inQ 39 (L b)), 0) else (⟨#[]⟩, 10)) := by
  have hf : Fits b := by unfold Fits; omega
  unfold manystrandref01_Quote.f
  refine Ev.bind (inside_ev hf 60) ?_
  by_cases hv : printS (L b) 60 = true
  · rw [if_pos hv]
    refine ev_pos hv (Ev.bind (risPlain_ev hf) ?_)
    by_cases hp : plainS (L b) = true
    · rw [if_pos hp, ofL_L]
      exact ev_pos hp (ev_now rfl)
    · rw [if_neg hp]
      exact ev_neg hp (Ev.bind (rquoted_ev hb 39 (by decide)) (ev_now rfl))
  · rw [if_neg hv]
    exact ev_neg hv (ev_now rfl)
end Go.Proofs.Ytgbielhbjgipoaa.Pure
/-! TokenWrites, the plain law: the reference's Valid, Text and Join are the program's; Alike; short. -/
namespace Go.Proofs.Ytgbielhbjgipoaa.Pure
set_option linter.unusedVariables false
set_option linter.unusedSimpArgs false
open Go.RowKit Go.Proofs.YtgbielhbjgipoaaW.PrintWords Go.Proofs.YtgbielhbjgipoaaW.PrintLast Go.Proofs.YtgbielhbjgipoaaW.PrintMore Go.Proofs.Ytgbielhbjgipoaa.Q
theorem rvalid_ev {kb b : ByteArray} (hb : Fits b) (n : Int) : Ev (fun k => manystrandref01_Valid.f k kb b n) (validS (L kb) (L b)) := by
  unfold manystrandref01_Valid.f
  simp only [toList_L]
  by_cases k1 : L kb = kVar
  · rw [show validS (L kb) (L b) = varS (L b) by rw [k1]; rfl]
    exact ev_pos k1 (Ev.bind (risVar_ev hb) (ev_now rfl))
  refine ev_neg k1 ?_
  by_cases k2 : L kb = kAtom
  · rw [show validS (L kb) (L b) = printS (L b) 60 by rw [k2]; rfl]
    exact ev_pos k2 (Ev.bind (inside_ev hb 60) (ev_now rfl))
  refine ev_neg k2 ?_
  by_cases k4 : L kb = kInt
  · rw [show validS (L kb) (L b) = intS (L b) by rw [k4]; rfl]
    exact ev_pos k4 (Ev.bind (isInt_ev hb) (ev_now rfl))
  refine ev_neg k4 ?_
  by_cases k3 : L kb = kText
  · rw [show validS (L kb) (L b) = printS (L b) 200 by rw [k3]; rfl]
    exact ev_pos k3 (Ev.bind (inside_ev hb 200) (ev_now rfl))
  refine ev_neg k3 ?_
  by_cases k5 : L kb = kChar
  · rw [show validS (L kb) (L b) = ((L b).length == 1 && hdB pr (L b)) by rw [k5]; rfl]
    refine ev_pos k5 ?_
    by_cases h1 : (b.size : Int) = 1
    · refine ev_pos h1 (Ev.bind (inside_ev hb 1) (ev_now ?_))
      have hl : (L b).length = 1 := by rw [L_length]; omega
      obtain ⟨c, hc⟩ := List.length_eq_one_iff.mp hl
      rw [hc]
      simp [printS, hdB]
    · refine ev_neg h1 (ev_now ?_)
      have hl : ¬ (L b).length = 1 := by rw [L_length]; omega
      rw [beq_eq_false_iff_ne.mpr hl, Bool.false_and]
  refine ev_neg k5 ?_
  by_cases k6 : L kb = kKey
  · rw [show validS (L kb) (L b) = decide (L b ∈ keys) by rw [k6]; rfl]
    exact ev_pos k6 (Ev.bind (risKey_ev hb) (ev_now rfl))
  refine ev_neg k6 ?_
  by_cases k7 : L kb = kSign
  · rw [show validS (L kb) (L b) = decide (L b ∈ signs) by rw [k7]; rfl]
    exact ev_pos k7 (Ev.bind (risSign_ev hb) (ev_now rfl))
  refine ev_neg k7 (ev_now ?_)
  unfold validS
  rw [if_neg k1, if_neg k2, if_neg k3, if_neg k4, if_neg k5, if_neg k6, if_neg k7]
theorem rtext_ev {kb b : ByteArray} (hb : b.size ≤ 1000000) (n : Int) : Ev (fun k => manystrandref01_Text.f k kb b n) (if validS (L kb) (L b) then (ofL (textS (L kb) (L b)), 0) else (⟨#[]⟩, 10)) := by
  have hf : Fits b := by unfold Fits; omega
  unfold manystrandref01_Text.f
  refine Ev.bind (rvalid_ev hf n) ?_
  simp only [toList_L]
  by_cases hv : validS (L kb) (L b) = true
  · rw [if_pos hv]
    refine ev_pos hv ?_
    unfold textS
    by_cases k2 : L kb = kAtom
    · rw [if_pos k2]
      have hp : printS (L b) 60 = true := by rw [k2] at hv; exact hv
      have h := rquoteT_ev hb
      rw [if_pos hp] at h
      exact ev_pos k2 (Ev.bind h (ev_now rfl))
    · rw [if_neg k2]
      refine ev_neg k2 ?_
      by_cases k3 : L kb = kText
      · rw [if_pos k3]
        exact ev_pos k3 (Ev.bind (rquoted_ev hb 34 (by decide)) (ev_now rfl))
      · rw [if_neg k3]
        refine ev_neg k3 ?_
        by_cases k5 : L kb = kChar
        · rw [if_pos k5]
          refine ev_pos k5 ?_
          have hc : ((L b).length == 1 && hdB pr (L b)) = true := by rw [k5] at hv; exact hv
          have hl : (L b).length = 1 := by simpa using (Bool.and_eq_true_iff.mp hc).1
          obtain ⟨c, hx⟩ := List.length_eq_one_iff.mp hl
          obtain ⟨e0, e1⟩ := hd_bt hx
          have hs : b.size = 1 := by rw [← L_length, hl]
          refine ev_pos (by omega) ?_
          rw [e0, hx]
          unfold charT
          have hu : ∀ d : UInt8, ((c.toNat : Int) = (d.toNat : Int)) ↔ [c] = [d] := fun d => ⟨fun h => by rw [show c = d from UInt8.toNat_inj.mp (by omega)], fun h => by cases h; rfl⟩
          by_cases h10 : (c.toNat : Int) = 10
          · rw [if_pos ((hu 10).mp h10)]
            exact ev_pos h10 (ev_now rfl)
          · rw [if_neg (fun h => h10 ((hu 10).mpr h))]
            refine ev_neg h10 ?_
            by_cases h32 : (c.toNat : Int) = 32
            · rw [if_pos ((hu 32).mp h32)]
              exact ev_pos h32 (ev_now rfl)
            · rw [if_neg (fun h => h32 ((hu 32).mpr h))]
              refine ev_neg h32 ?_
              by_cases h92 : (c.toNat : Int) = 92
              · rw [if_pos ((hu 92).mp h92)]
                exact ev_pos h92 (ev_now rfl)
              · rw [if_neg (fun h => h92 ((hu 92).mpr h))]
                refine ev_neg h92 (ev_pos (by omega) (ev_now ?_))
                rw [← ofL_L b, hx, show (⟨#[38]⟩ : ByteArray) = ofL [38] from rfl, ofL_app2]
                rfl
        · rw [if_neg k5, ofL_L]
          exact ev_neg k5 (ev_now rfl)
  · rw [if_neg hv]
    exact ev_neg hv (ev_now rfl)
def vT (t : S29) : Bool := validS (L t.f0) (L t.f1)
def tT (t : S29) : By := textS (L t.f0) (L t.f1)
theorem joinS_snoc (x : By) : ∀ l : List By, l ≠ [] → joinS (l ++ [x]) = joinS l ++ 32 :: x
  | [], h => absurd rfl h
  | [y], _ => rfl
  | y :: z :: l, _ => by
    have ih := joinS_snoc x (z :: l) (by simp)
    simp only [List.cons_append, joinS] at ih ⊢
    rw [ih]
    simp
theorem textS_len (k x : By) : (textS k x).length ≤ 2 * x.length + 2 := by
  unfold textS
  split
  · split
    · omega
    · simp only [inQ, List.length_cons, List.length_append, List.length_nil]
      have := escS_len 39 x
      omega
  · split
    · simp only [inQ, List.length_cons, List.length_append, List.length_nil]
      have := escS_len 34 x
      omega
    · split
      · unfold charT
        split
        · rename_i h; subst h; decide
        · split
          · rename_i h; subst h; decide
          · split
            · rename_i h; subst h; decide
            · simp only [List.length_cons]; omega
      · omega
theorem joinS_len (m : Nat) : ∀ l : List By, (∀ x ∈ l, x.length ≤ m) → (joinS l).length ≤ l.length * (m + 1)
  | [], _ => by simp [joinS]
  | [x], h => by have := h x (by simp); simp [joinS]; omega
  | x :: y :: l, h => by
    have ih := joinS_len m (y :: l) (fun z hz => h z (by simp [hz]))
    have := h x (by simp)
    simp only [joinS, List.length_append, List.length_cons] at ih ⊢
    rw [Nat.succ_mul]
    omega
theorem rd29_at {l : List S29} {i : Nat} (h : i < l.length) : rd_T29 l (i : Int) = l[i] := by
  unfold rd_T29
  rw [Int.toNat_natCast, List.getD_eq_getElem?_getD, List.getElem?_eq_getElem h]
  rfl
theorem wrapS (i : Nat) (h : i < 9223372036854775807) : wrap64 ((i : Int) + 1) = ((i + 1 : Nat) : Int) := by
  unfold wrap64; omega
def joinT (l : List S29) : ByteArray × Int := if l.all vT then (ofL (joinS (l.map tT)), 0) else (⟨#[]⟩, 10)
theorem rjoin_from (l : List S29) (hl : l.length ≤ 1000) (hs : ∀ x ∈ l, x.f1.size ≤ 1000) : ∀ n i : Nat, i + n = l.length → (l.take i).all vT = true → Ev (fun k => manystrandref01_Join.l0 k l (ofL (joinS ((l.take i).map tT))) (i : Int)) (joinT l) := by
  intro n
  induction n with
  | zero =>
    intro i hi hv
    rw [List.take_of_length_le (by omega)] at hv ⊢
    refine Ev.step (fun k => by rw [manystrandref01_Join.l0]) ?_
    refine ev_neg (by omega) (ev_now ?_)
    unfold joinT
    rw [if_pos hv]
  | succ n ih =>
    intro i hi hv
    have hlt : i < l.length := by omega
    have hsz := hs _ (List.getElem_mem hlt)
    refine Ev.step (fun k => by rw [manystrandref01_Join.l0]) ?_
    refine ev_pos (by omega) (ev_pos (by omega) ?_)
    rw [rd29_at hlt, wrapS i (by omega)]
    have ht := rtext_ev (kb := l[i].f0) (b := l[i].f1) (by omega) l[i].f2
    have htk : l.take (i + 1) = l.take i ++ [l[i]] := List.take_succ_eq_append_getElem hlt
    by_cases hvi : vT l[i] = true
    · rw [if_pos (show validS (L l[i].f0) (L l[i].f1) = true from hvi)] at ht
      refine Ev.bind ht (ev_pos rfl ?_)
      have ih2 := ih (i + 1) (by omega) (by rw [htk, List.all_append, hv, Bool.true_and]; simpa using hvi)
      rw [htk, List.map_append] at ih2
      have hb1 : (joinS ((l.take i).map tT)).length ≤ 1000 * 2003 := by
        have h1 := joinS_len 2002 ((l.take i).map tT) (fun x hx => by
          obtain ⟨t, ht, rfl⟩ := List.mem_map.mp hx
          have h2 := hs t (List.mem_of_mem_take ht)
          have h3 := textS_len (L t.f0) (L t.f1)
          rw [L_length] at h3
          unfold tT
          omega)
        have h2 : ((l.take i).map tT).length ≤ 1000 := by rw [List.length_map, List.length_take]; omega
        exact Nat.le_trans h1 (Nat.mul_le_mul_right _ h2)
      have hb2 : (textS (L l[i].f0) (L l[i].f1)).length ≤ 2002 := by
        have h3 := textS_len (L l[i].f0) (L l[i].f1)
        rw [L_length] at h3
        omega
      by_cases h0 : i = 0
      · subst h0
        refine ev_neg (by omega) ?_
        simp only [List.take_zero, List.map_nil, List.nil_append, List.map_cons, joinS] at ih2 ⊢
        refine ev_pos (by rw [size_ofL, size_ofL]; simp only [List.length_nil]; omega) ?_
        rw [ofL_app2, List.nil_append]
        exact ih2
      · refine ev_pos (by omega) ?_
        have hne : (l.take i).map tT ≠ [] := fun e => by
          have h := congrArg List.length e
          rw [List.length_map, List.length_take, List.length_nil] at h
          omega
        rw [List.map_cons, List.map_nil, joinS_snoc _ _ hne] at ih2
        have e1 : (⟨#[32]⟩ : ByteArray) = ofL [32] := rfl
        refine ev_pos (by rw [size_ofL]; omega) (ev_pos ?_ ?_)
        · rw [e1, ofL_app2, size_ofL, size_ofL, List.length_append]
          simp only [List.length_cons, List.length_nil]
          omega
        · rw [e1, ofL_app2, ofL_app2, List.append_assoc]
          exact ih2
    · rw [if_neg (show ¬ validS (L l[i].f0) (L l[i].f1) = true from hvi)] at ht
      refine Ev.bind ht (ev_neg (by decide) (ev_now ?_))
      unfold joinT
      rw [if_neg (fun h => hvi (List.all_eq_true.mp h _ (List.getElem_mem hlt)))]
theorem rjoin_ev {l : List S29} (hl : l.length ≤ 1000) (hs : ∀ x ∈ l, x.f1.size ≤ 1000) : Ev (fun k => manystrandref01_Join.f k l) (joinT l) := by
  have h := rjoin_from l hl hs l.length 0 (by omega) (by simp)
  simp only [List.take_zero, List.map_nil, joinS] at h
  exact h
theorem alike_from (l m : List S29) (hl : l.length ≤ 100000) (h : l.map (fun t => (L t.f0, L t.f1)) = m.map (fun t => (L t.f0, L t.f1))) : ∀ n i : Nat, i + n = l.length → Ev (fun k => manystrandref01_Alike.l0 k l m (i : Int)) true := by
  have hlen : l.length = m.length := by have := congrArg List.length h; simpa using this
  intro n
  induction n with
  | zero =>
    intro i hi
    refine Ev.step (fun k => by rw [manystrandref01_Alike.l0]) ?_
    exact ev_neg (by omega) (ev_now rfl)
  | succ n ih =>
    intro i hi
    have hlt : i < l.length := by omega
    have hlm : i < m.length := by omega
    have e := congrArg (fun x => x[i]?) h
    simp only [List.getElem?_map, List.getElem?_eq_getElem hlt, List.getElem?_eq_getElem hlm, Option.map_some, Option.some.injEq, Prod.mk.injEq] at e
    refine Ev.step (fun k => by rw [manystrandref01_Alike.l0]) ?_
    rw [rd29_at hlt, rd29_at hlm, wrapS i (by omega)]
    refine ev_pos (by omega) (ev_pos (by omega) (ev_pos (by omega) (ev_pos ?_ (ev_pos ?_ (ih (i + 1) (by omega))))))
    · rw [toList_L, toList_L]; exact e.1
    · rw [toList_L, toList_L]; exact e.2
theorem alike_ev (l m : List S29) (hl : l.length ≤ 100000) (h : l.map (fun t => (L t.f0, L t.f1)) = m.map (fun t => (L t.f0, L t.f1))) : Ev (fun k => manystrandref01_Alike.f k l m) true := by
  have hlen : l.length = m.length := by have := congrArg List.length h; simpa using this
  exact ev_pos (by omega) (alike_from l m hl h l.length 0 (by omega))
def okT (t : S29) : Bool := decide (t.f1.size ≤ 400)
theorem short_from (l : List S29) (hl : l.length ≤ 9223372036854775807) : ∀ n i : Nat, i + n = l.length → Ev (fun k => manystrandlaw01_short.l0 k l l (l.length : Int) (i : Int)) ((l.drop i).all okT && decide (l.length ≤ 300)) := by
  intro n
  induction n with
  | zero =>
    intro i hi
    refine Ev.step (fun k => by rw [manystrandlaw01_short.l0]) ?_
    refine ev_neg (by omega) (ev_now ?_)
    rw [List.drop_of_length_le (by omega)]
    simp only [List.all_nil, Bool.true_and]
    exact decide_eq_decide.mpr (by omega)
  | succ n ih =>
    intro i hi
    have hlt : i < l.length := by omega
    refine Ev.step (fun k => by rw [manystrandlaw01_short.l0]) ?_
    refine ev_pos (by omega) (ev_pos (by omega) (ev_pos (by omega) ?_))
    rw [rd29_at hlt, wrapS i (by omega), List.drop_eq_getElem_cons hlt, List.all_cons]
    by_cases h0 : ((l[i].f1.size : Nat) : Int) > 400
    · refine ev_pos h0 (ev_now ?_)
      rw [show okT l[i] = false from decide_eq_false (by omega)]
      rfl
    · refine ev_neg h0 ?_
      rw [show okT l[i] = true from decide_eq_true (by omega), Bool.true_and]
      exact ih (i + 1) (by omega)
theorem short_ev (l : List S29) (hl : l.length ≤ 9223372036854775807) : Ev (fun k => manystrandlaw01_short.f k l) (l.all okT && decide (l.length ≤ 300)) := short_from l hl l.length 0 (by omega)
end Go.Proofs.Ytgbielhbjgipoaa.Pure
/-! The statements' own example is true. -/
namespace Go.Proofs.Ytgbielhbjgipoaa.Pure
set_option linter.unusedVariables false
set_option linter.unusedSimpArgs false
open Go.RowKit Go.Proofs.YtgbielhbjgipoaaW.PrintWords Go.Proofs.Ytgbielhbjgipoaa.Q
theorem awake_ev : Ev (fun k => manystrandlaw01_awake.f k) true :=
  Ev.of manystrandlaw01_awake.mono (k := 30) (by decide +kernel)
end Go.Proofs.Ytgbielhbjgipoaa.Pure
/-! TokenWrites, the plain law: whatever tokens, the law answers true. -/
namespace Go.Proofs.Ytgbielhbjgipoaa.Pure
set_option linter.unusedVariables false
set_option linter.unusedSimpArgs false
open Go.RowKit Go.Proofs.YtgbielhbjgipoaaW.PrintWords Go.Proofs.YtgbielhbjgipoaaW.PrintLast Go.Proofs.YtgbielhbjgipoaaW.PrintMore Go.Proofs.Ytgbielhbjgipoaa.Q
theorem tail_eq (x : By) : ∀ l : List By, joinS (x :: l) = x ++ Lib.joinTail [32] l
  | [] => by simp [joinS, Lib.joinTail]
  | y :: l => by rw [joinS, tail_eq y l]; simp [Lib.joinTail]
theorem join_eq (l : List By) : Lib.join l [32] = joinS l := by
  cases l with
  | nil => rfl
  | cons x l => rw [Lib.join_cons, tail_eq]
theorem joinL_eq (l : List ByteArray) : joinL l (⟨#[32]⟩ : ByteArray) = joinS (l.map L) := join_eq _
theorem join_size (l : List S29) (hl : l.length ≤ 300) (hs : ∀ x ∈ l, x.f1.size ≤ 400) : (joinS (l.map tT)).length ≤ 300 * 803 := by
  have h1 := joinS_len 802 (l.map tT) (fun x hx => by
    obtain ⟨t, ht, rfl⟩ := List.mem_map.mp hx
    have h2 := hs t ht
    have h3 := textS_len (L t.f0) (L t.f1)
    rw [L_length] at h3
    unfold tT
    omega)
  rw [List.length_map] at h1
  exact Nat.le_trans h1 (Nat.mul_le_mul_right _ hl)
theorem pjoin_from (l : List S29) (hl : l.length ≤ 300) (hs : ∀ x ∈ l, x.f1.size ≤ 400) : ∀ n i : Nat, i + n = l.length → (l.take i).all vT = true → Ev (fun k => token_Join.l0 k ((l.take i).map fun t => ofL (tT t)) l (l.length : Int) (i : Int)) (joinT l) := by
  intro n
  induction n with
  | zero =>
    intro i hi hv
    rw [List.take_of_length_le (by omega)] at hv ⊢
    refine Ev.step (fun k => by rw [token_Join.l0]) ?_
    refine ev_neg (by omega) ?_
    have e : joinL (l.map fun t => ofL (tT t)) (⟨#[32]⟩ : ByteArray) = joinS (l.map tT) := by
      rw [joinL_eq, List.map_map]
      congr 1
    have hz := join_size l hl hs
    have hf : strings_Join.f (l.map fun t => ofL (tT t)) (⟨#[32]⟩ : ByteArray) = some (ofL (joinS (l.map tT))) := by
      unfold strings_Join.f
      rw [e, if_pos ⟨by rw [List.length_map]; omega, by omega⟩]
      rfl
    rw [hf]
    refine ev_now ?_
    unfold joinT
    rw [if_pos hv]
  | succ n ih =>
    intro i hi hv
    have hlt : i < l.length := by omega
    have hsz := hs _ (List.getElem_mem hlt)
    refine Ev.step (fun k => by rw [token_Join.l0]) ?_
    refine ev_pos (by omega) (ev_pos (by omega) (ev_pos (by omega) ?_))
    rw [rd29_at hlt, wrapS i (by omega)]
    have ht := text_ev (kb := l[i].f0) (b := l[i].f1) (by omega) l[i].f2
    have htk : l.take (i + 1) = l.take i ++ [l[i]] := List.take_succ_eq_append_getElem hlt
    by_cases hvi : vT l[i] = true
    · rw [if_pos (show validS (L l[i].f0) (L l[i].f1) = true from hvi)] at ht
      have ih2 := ih (i + 1) (by omega) (by rw [htk, List.all_append, hv, Bool.true_and]; simpa using hvi)
      rw [htk, List.map_append] at ih2
      exact Ev.bind ht (ev_pos rfl (ev_pos (by rw [List.length_map, List.length_take]; omega) ih2))
    · rw [if_neg (show ¬ validS (L l[i].f0) (L l[i].f1) = true from hvi)] at ht
      refine Ev.bind ht (ev_neg (by decide) (ev_now ?_))
      unfold joinT
      rw [if_neg (fun h => hvi (List.all_eq_true.mp h _ (List.getElem_mem hlt)))]
theorem pjoin_ev {l : List S29} (hl : l.length ≤ 300) (hs : ∀ x ∈ l, x.f1.size ≤ 400) : Ev (fun k => token_Join.f k l) (joinT l) := by
  have h := pjoin_from l hl hs l.length 0 (by omega) (by simp)
  simp only [List.take_zero, List.map_nil] at h
  exact h
theorem awk : Ev (fun k => (manystrandlaw01_awake.f k).bind fun t => some t) true := Ev.bind awake_ev (ev_now rfl)
theorem tail_ev (l : List S29) (hl : l.length ≤ 300) (hs : ∀ x ∈ l, x.f1.size ≤ 400) (b : Bool) (hb : b = false → (joinT l).2 = 0 ∧ (joinT l).1.size ≤ 20000) : Ev (fun k => manystrandlaw01_TokenWrites.j1 k l (joinT l).1 (joinT l).2 (joinT l).1 (joinT l).2 b) true := by
  refine Ev.step (fun k => by rw [manystrandlaw01_TokenWrites.j1]) ?_
  cases b with
  | true => exact ev_pos rfl (ev_pos rfl (ev_pos rfl awk))
  | false =>
    refine ev_neg (by decide) ?_
    obtain ⟨h0, h1⟩ := hb rfl
    have hv : l.all vT = true := by
      by_cases g : l.all vT = true
      · exact g
      · unfold joinT at h0
        rw [if_neg g] at h0
        cases h0
    have hj : (joinT l).1 = ofL (joinS (l.map tT)) := by unfold joinT; rw [if_pos hv]
    rw [hj] at h1 ⊢
    have ht := tokens_ev (ofL (joinS (l.map tT))) (by unfold Fits; omega) (by omega)
    obtain ⟨g1, g2⟩ := lex_texts (l.map fun t => (L t.f0, L t.f1)) (fun x hx => by
      obtain ⟨t, ht, rfl⟩ := List.mem_map.mp hx
      exact List.all_eq_true.mp hv t ht)
    rw [List.map_map] at g1 g2
    change (lexS (joinS (l.map tT))).1 = none at g1
    change (lexS (joinS (l.map tT))).2.map kx = _ at g2
    rw [if_neg (by omega), L_ofL] at ht
    cases hx : lexS (joinS (l.map tT)) with
    | mk o ts =>
      rw [hx] at g1 g2 ht
      simp only at g1 g2
      subst g1
      refine Ev.bind ht (ev_pos rfl ?_)
      have hm : (ts.map (mkT (ofL (joinS (l.map tT))))).map (fun t => (L t.f0, L t.f1)) = l.map fun t => (L t.f0, L t.f1) := by
        rw [← g2, List.map_map]
        exact List.map_congr_left (fun t _ => by simp only [Function.comp_apply, mkT, L_ofL, kx])
      have hlen : ts.length = l.length := by have := congrArg List.length g2; simpa using this
      exact Ev.bind (alike_ev _ l (by rw [List.length_map]; omega) hm) (ev_pos rfl awk)
theorem main_from (l : List S29) (hl : l.length ≤ 300) (hs : ∀ x ∈ l, x.f1.size ≤ 400) : ∀ n i : Nat, i + n = l.length → Ev (fun k => manystrandlaw01_TokenWrites.l0 k l l (l.length : Int) (i : Int)) true := by
  intro n
  induction n with
  | zero =>
    intro i hi
    refine Ev.step (fun k => by rw [manystrandlaw01_TokenWrites.l0]) ?_
    refine ev_neg (by omega) (Ev.bind (pjoin_ev hl hs) (Ev.bind (rjoin_ev (by omega) (fun x hx => by have := hs x hx; omega)) (ev_pos rfl (ev_pos rfl ?_))))
    by_cases h0 : (joinT l).2 = 0
    · exact ev_pos h0 (tail_ev l hl hs _ (fun h => ⟨h0, by have := of_decide_eq_false h; omega⟩))
    · exact ev_neg h0 (tail_ev l hl hs _ (fun h => by cases h))
  | succ n ih =>
    intro i hi
    have hlt : i < l.length := by omega
    have hsz := hs _ (List.getElem_mem hlt)
    refine Ev.step (fun k => by rw [manystrandlaw01_TokenWrites.l0]) ?_
    refine ev_pos (by omega) (ev_pos (by omega) (ev_pos (by omega) ?_))
    rw [rd29_at hlt, wrapS i (by omega)]
    have hf : Fits l[i].f1 := by unfold Fits; omega
    refine Ev.bind (text_ev (by omega) _) (Ev.bind (rtext_ev (by omega) _) (Ev.bind (valid_ev hf _) (Ev.bind (rvalid_ev hf _) (ev_neg (by simp) (ev_pos rfl (ev_pos rfl (ih (i + 1) (by omega))))))))
theorem TokenWrites (l : List S29) (hl : l.length ≤ 9223372036854775807) : ∃ k, manystrandlaw01_TokenWrites.f k l = some true := by
  refine Ev.rounds ?_
  unfold manystrandlaw01_TokenWrites.f
  refine Ev.bind (short_ev l hl) ?_
  by_cases h : (l.all okT && decide (l.length ≤ 300)) = true
  · obtain ⟨h1, h2⟩ := Bool.and_eq_true_iff.mp h
    exact ev_pos h (main_from l (of_decide_eq_true h2) (fun x hx => of_decide_eq_true (List.all_eq_true.mp h1 x hx)) l.length 0 (by omega))
  · exact ev_neg h awk
end Go.Proofs.Ytgbielhbjgipoaa.Pure
-- The words of the walks: those of print.sh's words that this seat's texts use, taken out by own_print.py of this repo (see NOTES.md), and two of our own.

set_option linter.unusedVariables false
set_option linter.unusedSimpArgs false
namespace Go.Proofs.YtgbielhbjgipoaaW.PrintWords
open Go.RowKit
theorem own_other {w w1 : World} {base : Nat} {e : TypeId} {size n : Nat} {v : Value} {xs : List Value} (h : w.ownsRow base e size v n xs) {row : Option Nat} (hg : w.grownBy w1 row) (hne : v.ownBlock = none ∨ v.ownBlock ≠ row) : w1.ownsRow base e size v n xs := h.kept hg hne
theorem own_setCell {w : World} {base : Nat} {e : TypeId} {size n : Nat} {v : Value} {xs : List Value} (h : w.ownsRow base e size v n xs) {p : Addr} (hne : some p.block ≠ v.ownBlock) (u : Value) : (w.setCell p u).ownsRow base e size v n xs := by
  obtain ⟨h1, h2⟩ := h
  refine ⟨h1, ?_⟩
  rcases h2 with h2 | ⟨g, cap, cur, rfl, hg, hh, r⟩
  · exact .inl h2
  · exact .inr ⟨g, cap, cur, rfl, hg, by rw [Below.heap_setCell _ _ _ _ (fun e => hne (by rw [e]; rfl))]; exact hh, r⟩
theorem KeepBut.set_ {w w1 : World} {g : Nat} {row : Option Nat} (h : KeepBut w w1 g row) (j : Nat) (u : Value) : KeepBut w (w1.setCell ⟨g, j, none⟩ u) g row :=
  ⟨by simpa [World.setCell] using h.1, fun i hi hg hr => (Below.heap_setCell w1 ⟨g, j, none⟩ u i hg).trans (h.2 i hi hg hr)⟩
theorem Ev.now {α : Type} (r : α) : Ev (fun _ => some r) r := ⟨0, fun _ _ => rfl⟩
section
variable {α : Type} {R R' : α → List Value → Prop} {e : TypeId} {size : Nat} {w w1 : World} {base : Nat} {v : Value} {ps : List α}
theorem OwnRow.other (h : OwnRow R e size w base v ps) {row : Option Nat} (hg : w.grownBy w1 row) (hne : v.ownBlock = none ∨ v.ownBlock ≠ row) : OwnRow R e size w1 base v ps := by
  obtain ⟨inner, ho, hr⟩ := h
  exact ⟨inner, own_other ho hg hne, hr⟩
theorem OwnRow.set_ (h : OwnRow R e size w base v ps) {g : Nat} {t : TypeId} {cells : Array Value} (hb : w.heap[g]? = some (.cells cells t (0, 0))) (ht : e ≠ t) (j : Nat) (u : Value) : OwnRow R e size (w.setCell ⟨g, j, none⟩ u) base v ps := by
  obtain ⟨inner, ho, hr⟩ := h
  exact ⟨inner, own_setCell ho (own_ne ho hb ht) u, hr⟩
theorem OwnRow.keep (h : OwnRow R e size w base v ps) {g : Nat} {t : TypeId} {cells : Array Value} (hb : w.heap[g]? = some (.cells cells t (0, 0))) (ht : e ≠ t) (hk : KeepBut w w1 g none) : OwnRow R e size w1 base v ps := by
  obtain ⟨inner, ho, hr⟩ := h
  exact ⟨inner, hk.own ho (Ne.symm (own_ne ho hb ht)) (by cases v.ownBlock <;> simp), hr⟩
end
namespace Kd
end Kd
namespace Kd
def Sub {α β : Type} (F : Kd α → Kd β) (E : List Nat) : Prop := ∀ d : Kd α, (∀ q, q ∈ d.E → q ∈ E) → ∀ q, q ∈ (F d).E → q ∈ E
end Kd
namespace Kd
end Kd
namespace Kd
section
variable {α β : Type} {d : Kd α} {d' : Kd β} {e e' : Nat} {w w1 W : World} {base b b' : Nat} {ok ok' okv oku : Nat → Prop} {v u : Value} {xs : List α} {ys : List β}
theorem C_len {A : Option Addr} {n : Nat} (h : d.C w A n xs) : xs.length = n := h.1
end
section
variable {P : Program} {ops : Array Oper} {rest : List Oper} {o : Oper} {a : Act} {Q : Exit → Act → World → Prop}
variable {α : Type}
theorem reps_made {α : Type} {R : α → List Value → Prop} {z : Value} {size : Nat} {z0 : α} (hz : z.cells.size = size) (hs : 0 < size) (h0 : R z0 z.cells.toList) (m : Nat) : Reps R size (List.replicate m z0) (madeCells z.cells (m * size)).toList := by
  refine ⟨by simp [size_madeCells], fun j p hj => ?_⟩
  obtain ⟨hjl, hp⟩ := List.getElem?_eq_some_iff.1 hj
  have hjm : j < m := by simpa using hjl
  have hp' : z0 = p := by simpa using hp
  subst hp'
  have hle : j * size + size ≤ m * size := by rw [← Nat.succ_mul]; exact Nat.mul_le_mul_right _ hjm
  have : ((madeCells z.cells (m * size)).toList.drop (j * size)).take size = z.cells.toList := by
    apply List.ext_getElem
    · simp [size_madeCells, hz]
      omega
    · intro i h1 h2
      have hi : i < size := by rw [Array.length_toList, hz] at h2; exact h2
      have hmod : (j * size + i) % size = i := by
        rw [Nat.mul_comm, Nat.mul_add_mod]
        exact Nat.mod_eq_of_lt hi
      simp [madeCells, hz, hmod]
      rw [getElem!_pos z.cells i (by omega)]
  rw [this]
  exact h0
theorem R_make (d : Kd α) {w0 W : World} (base e : Nat) (hgd : o.guard = none) {N : Tmp} (hd : o.dst = some N) (t : TypeId) (x y : Operand) (ho : o.op = .makeSlice t x y) (n : Int) (hx : a.eval x = .int .i64 n) (hy : a.eval y = .int .i64 n)
    (ht : P.underlying t = some (.slice e)) (z : Value) (bytes : Nat) (hinfo : (P.info? e).map (fun i => (i.zero, i.size, i.bytes)) = some (some z, d.sz, bytes)) (hz : z.cells.size = d.sz) (hs0 : 0 < d.sz) (hb0 : 0 < bytes)
    (z0 : α) {ok okp : Nat → Prop} (hzero : d.M W base okp z0 z.cells.toList) (hok : ∀ k, okp k → ok k) (hfresh : ok W.heap.size) (h0 : 0 ≤ n) (hl : n.toNat * bytes ≤ 281474976710656) (HB : Below base w0 W) (hbase : base ≤ W.heap.size)
    (h : ∀ v1 w1, d.R e w1 base ok v1 (List.replicate n.toNat z0) → Below base w0 w1 → W.grownBy w1 none → (∃ b, v1.ownBlock = some b ∧ W.heap.size ≤ b) → wpList P ops Q rest (a.put o.dst v1) w1) : wpList P ops Q (o :: rest) a W := by
  obtain ⟨m, rfl⟩ := Int.eq_ofNat_of_zero_le h0
  simp only [Int.toNat_natCast] at hl h
  obtain ⟨i0, hi, hzz⟩ := Option.map_eq_some_iff.1 hinfo
  simp only [Prod.mk.injEq] at hzz
  obtain ⟨hz0, hz1, hz2⟩ := hzz
  have hm : m ≤ 281474976710656 := Nat.le_trans (Nat.le_mul_of_pos_right _ hb0) hl
  have hr := run_make (P := P) W t e i0 z ht hi hz0 .i64 .i64 (m : Int) (m : Int) (by omega) (by omega)
    (by
      have h3 : ((i0.bytes * m : Nat) : Int) ≤ 281474976710656 := by rw [hz2, Nat.mul_comm]; omega
      rwa [Int.natCast_mul] at h3) (by omega)
  simp only [Int.toNat_natCast] at hr
  rw [hz1] at hr
  refine R_lit d base e hgd hd (xs := List.replicate m z0) (inner := (madeCells z.cells (m * d.sz)).toList) (okp := okp) (ok := ok) ?_ (reps_made hz hs0 hzero m) hok hfresh HB hbase (by simp; omega) h
  simp [execOp, ho, hx, hy, hr]
end
end Kd
namespace Kd
end Kd
namespace Kd
end Kd
namespace Kd
end Kd
namespace Kd
def or_ {α : Type} (a b : Kd α) (h : b.sz = a.sz) : Kd α where
  sz := a.sz
  E := a.E ++ b.E
  K := fun w x cs => a.K w x cs ∨ b.K w x cs
  M := fun w base ok x cs => a.M w base ok x cs ∨ b.M w base ok x cs
  K_len := fun hk => hk.elim a.K_len (fun hk => (b.K_len hk).trans h)
  K_one := fun hk => hk.elim a.K_one b.K_one
  K_below := fun hb hk => hk.imp (a.K_below hb) (b.K_below hb)
  K_of_M := fun hk => hk.imp a.K_of_M b.K_of_M
  M_mono := fun hok hk => hk.imp (a.M_mono hok) (b.M_mono hok)
  M_bound := fun hk => hk.imp
    (fun hk => a.M_mono (fun _ ⟨h1, h2, h3, q, hq, hc⟩ => ⟨h1, h2, h3, q, List.mem_append_left _ hq, hc⟩) (a.M_bound hk))
    (fun hk => b.M_mono (fun _ ⟨h1, h2, h3, q, hq, hc⟩ => ⟨h1, h2, h3, q, List.mem_append_right _ hq, hc⟩) (b.M_bound hk))
  M_move := fun hm hk => hk.imp (a.M_move hm) (b.M_move hm)
  M_lower := fun hb hk => hk.imp (a.M_lower hb) (b.M_lower hb)
theorem sub_or {α β : Type} {E : List Nat} {G H : Kd α → Kd β} (h : ∀ d, (H d).sz = (G d).sz) (hG : Sub G E) (hH : Sub H E) : Sub (fun d => or_ (G d) (H d) (h d)) E := fun d hd q hq => by
  rcases List.mem_append.1 hq with hq | hq
  · exact hG d hd q hq
  · exact hH d hd q hq
end Kd
namespace Kd
end Kd
namespace Kd
end Kd
theorem add_add (a : Addr) (i j : Nat) : (a.add i).add j = a.add (i + j) := by
  unfold Addr.add
  by_cases h1 : i = 0 <;> by_cases h2 : j = 0 <;> simp [h1, h2, Nat.add_assoc]
namespace Kd
end Kd
theorem keep_cell {w W : World} {g : Nat} (h : KeepBut w W g none) {a : Addr} {v : Value} (hc : w.cell? a = some v) (hne : a.block ≠ g) : W.cell? a = some v := by
  have := h.2 a.block (World.block_lt_of_cell? w a hc) hne (by simp)
  simpa [World.cell?, this] using hc
theorem add_block (a : Addr) (i : Nat) : (a.add i).block = a.block := by unfold Addr.add; split <;> rfl
theorem keep_size {w W : World} {g : Nat} {row : Option Nat} (h : KeepBut w W g row) : w.heap.size ≤ W.heap.size := h.1
theorem ReadsInt.keep {w W : World} {k : IntKind} {A : Option Addr} {n g : Nat} {xs : List Int} (h : ReadsInt w k A n xs) (hk : KeepBut w W g none) (hf : ∀ ad, A = some ad → 0 < n → ad.block ≠ g) : ReadsInt W k A n xs :=
  ⟨h.1, h.2.1, fun hn => by
    obtain ⟨ad, e, hc⟩ := h.2.2 hn
    exact ⟨ad, e, fun j hj => keep_cell hk (hc j hj) (by rw [add_block]; exact hf ad e hn)⟩⟩
theorem ReadsOf.keep {α : Type} {enc : α → Value} {d : α} {w W : World} {A : Option Addr} {n g : Nat} {xs : List α} (h : ReadsOf enc d w A n xs) (hk : KeepBut w W g none) (hf : ∀ ad, A = some ad → 0 < n → ad.block ≠ g) : ReadsOf enc d W A n xs :=
  ⟨h.1, h.2.1, fun hn => by
    obtain ⟨ad, e, hc⟩ := h.2.2 hn
    exact ⟨ad, e, fun j hj => keep_cell hk (hc j hj) (by rw [add_block]; exact hf ad e hn)⟩⟩
theorem keep_far {w W : World} {g : Nat} {row : Option Nat} (h : KeepBut w W g row) {p : Addr} (hp : w.heap.size ≤ p.block) (u : Value) : KeepBut w (W.setCell p u) g row :=
  ⟨by simpa [World.setCell] using h.1, fun i hi hg hr => (Below.heap_setCell W p u i (by omega)).trans (h.2 i hi hg hr)⟩
namespace Kd
end Kd
namespace Kd
end Kd
namespace Kd
end Kd
namespace Kd
end Kd
section
variable {P : Program} {ops : Array Oper} {o : Oper} {a : Act} {Q : Exit → Act → World → Prop} {Kc : Act → World → Prop}
namespace Kd
variable {α : Type}
end Kd
end
namespace Kd
end Kd
end Go.Proofs.YtgbielhbjgipoaaW.PrintWords
namespace Go.Proofs.YtgbielhbjgipoaaW.PrintLast
end Go.Proofs.YtgbielhbjgipoaaW.PrintLast
namespace Go.Proofs.YtgbielhbjgipoaaW.PrintLast
open Go.Proofs.YtgbielhbjgipoaaW.PrintWords (Aside0)
end Go.Proofs.YtgbielhbjgipoaaW.PrintLast
namespace Go.Proofs.YtgbielhbjgipoaaW.PrintLast
end Go.Proofs.YtgbielhbjgipoaaW.PrintLast
namespace Go.Proofs.YtgbielhbjgipoaaW.PrintWords
open Go.RowKit
namespace Kd
end Kd
end Go.Proofs.YtgbielhbjgipoaaW.PrintWords
namespace Go.Proofs.YtgbielhbjgipoaaW.PrintWords
open Go.RowKit
namespace Kd
end Kd
end Go.Proofs.YtgbielhbjgipoaaW.PrintWords
namespace Go.Proofs.YtgbielhbjgipoaaW.PrintWords
open Go.RowKit
namespace Kd
end Kd
end Go.Proofs.YtgbielhbjgipoaaW.PrintWords
namespace Go.Proofs.YtgbielhbjgipoaaW.PrintWords
open Go.RowKit
namespace Kd
end Kd
end Go.Proofs.YtgbielhbjgipoaaW.PrintWords
namespace Go.Proofs.YtgbielhbjgipoaaW.PrintWords
open Go.RowKit
namespace Kd
end Kd
end Go.Proofs.YtgbielhbjgipoaaW.PrintWords
namespace Go.Proofs.YtgbielhbjgipoaaW.PrintWords
open Go.RowKit
section
variable {w W W2 : World} {S S2 S' : Nat → Prop}
theorem Kept.keep {g : Nat} (h : KeepBut w W g none) (k : Kept W W2 S2) (hs : ∀ k, S2 k → w.heap.size ≤ k) : KeepBut w W2 g none :=
  ⟨Nat.le_trans h.1 k.1, fun i hi hg hr => (k.2 i (Nat.lt_of_lt_of_le hi h.1) (fun h2 => by have := hs i h2; omega)).trans (h.2 i hi hg hr)⟩
end
namespace Kd
end Kd
end Go.Proofs.YtgbielhbjgipoaaW.PrintWords
namespace Go.Proofs.YtgbielhbjgipoaaW.PrintWords
open Go.RowKit
namespace Foot
variable {P Q : World → Prop} {W W1 : World} {ok ok' : Nat → Prop}
theorem now (h : Foot P W ok) : P W := h W (fun _ _ _ => rfl)
theorem imp (h : Foot P W ok) (hi : ∀ W', P W' → Q W') : Foot Q W ok := fun W' hW => hi W' (h W' hW)
end Foot
namespace Kd
end Kd
end Go.Proofs.YtgbielhbjgipoaaW.PrintWords
namespace Go.Proofs.YtgbielhbjgipoaaW.PrintWords
open Go.RowKit
namespace Kd
end Kd
end Go.Proofs.YtgbielhbjgipoaaW.PrintWords
namespace Go.Proofs.YtgbielhbjgipoaaW.PrintWords
open Go.RowKit
namespace Kd
end Kd
end Go.Proofs.YtgbielhbjgipoaaW.PrintWords
namespace Go.Proofs.YtgbielhbjgipoaaW.PrintWords
open Go.RowKit
namespace Kd
end Kd
end Go.Proofs.YtgbielhbjgipoaaW.PrintWords
namespace Go.Proofs.YtgbielhbjgipoaaW.PrintWords
open Go.RowKit
end Go.Proofs.YtgbielhbjgipoaaW.PrintWords
namespace Go.Proofs.YtgbielhbjgipoaaW.PrintWords
end Go.Proofs.YtgbielhbjgipoaaW.PrintWords
namespace Go.Proofs.YtgbielhbjgipoaaW.PrintLast
def up (b : Nat → Bool) (i : Nat) : Nat → Bool := fun j => if j = i then true else b j
end Go.Proofs.YtgbielhbjgipoaaW.PrintLast
namespace Go.Proofs.YtgbielhbjgipoaaW.PrintWords
open Go.RowKit
end Go.Proofs.YtgbielhbjgipoaaW.PrintWords
namespace Go.Proofs.YtgbielhbjgipoaaW.PrintLast
end Go.Proofs.YtgbielhbjgipoaaW.PrintLast
namespace Go.Proofs.YtgbielhbjgipoaaW.PrintWords
open Go.RowKit
end Go.Proofs.YtgbielhbjgipoaaW.PrintWords
namespace Go.Proofs.YtgbielhbjgipoaaW.PrintWords
open Go.RowKit
namespace Kd
end Kd
end Go.Proofs.YtgbielhbjgipoaaW.PrintWords
namespace Go.Proofs.YtgbielhbjgipoaaW.PrintMore
open Go.RowKit Go.Proofs.YtgbielhbjgipoaaW.PrintWords
namespace Kd
open Go.Proofs.YtgbielhbjgipoaaW.PrintWords.Kd
end Kd
namespace Kd
open Go.Proofs.YtgbielhbjgipoaaW.PrintWords.Kd
end Kd
end Go.Proofs.YtgbielhbjgipoaaW.PrintMore
namespace Go.Proofs.YtgbielhbjgipoaaW.PrintWords
open Go.RowKit
def shl (k : IntKind) (x y : Int) : Int := k.wrap (x * 2 ^ min y.toNat k.bits)
def shr (k : IntKind) (x y : Int) : Int := x / 2 ^ min y.toNat k.bits
namespace Kd
end Kd
end Go.Proofs.YtgbielhbjgipoaaW.PrintWords
namespace Go.Proofs.YtgbielhbjgipoaaW.PrintWords
open Go.RowKit
namespace Kd
end Kd
end Go.Proofs.YtgbielhbjgipoaaW.PrintWords
namespace Go.Proofs.YtgbielhbjgipoaaW.PrintWords
open Go.ChangeShapes Go.WideShapes
end Go.Proofs.YtgbielhbjgipoaaW.PrintWords
namespace Go.Proofs.YtgbielhbjgipoaaW.OwnWords
open Go.RowKit
end Go.Proofs.YtgbielhbjgipoaaW.OwnWords
/-! What came in, read: numbers, texts, lists, structs. -/
namespace Go.Proofs.Ytgbielhbjgipoaa.Pure
set_option linter.unusedVariables false
set_option linter.unusedSimpArgs false
open Go.RowKit Go.Proofs.YtgbielhbjgipoaaW.PrintWords Go.Proofs.YtgbielhbjgipoaaW.PrintLast Go.Proofs.YtgbielhbjgipoaaW.PrintMore Go.Proofs.Ytgbielhbjgipoaa.Q
section
variable {H : Type} {enc : TypeId × Value → H} {w : World} {base : Nat} {spare : Nat → Bool} {held : Bool} {fuel : Nat} {cs : List Value} {x : DataW H × List MemPlace}
theorem in_int {t : TypeId} {k : IntKind} (ht : Try.prog.underlying t = some (.int k)) (h : DataW.trod enc Try.prog w base spare held fuel t cs = some x) : ∃ n, cs = [.int k n] ∧ (Lit.int k n).wf = true := by
  cases fuel with
  | zero => simp [DataW.trod] at h
  | succ n =>
    unfold DataW.trod at h
    rw [ht] at h
    split at h <;> simp_all
theorem in_string {t : TypeId} (ht : Try.prog.underlying t = some .string) (h : DataW.trod enc Try.prog w base spare held fuel t cs = some x) : ∃ s, cs = [.string s] := by
  cases fuel with
  | zero => simp [DataW.trod] at h
  | succ n =>
    unfold DataW.trod at h
    rw [ht] at h
    split at h <;> simp_all
/-- A list of what can be read. -/
theorem in_slice {α : Type} (d : Kd α) {t e : TypeId} (ht : Try.prog.underlying t = some (.slice e)) (hc : Try.prog.cellsOf e = d.sz) (hd : ∀ (n : Nat) (cs : List Value) (y : DataW H × List MemPlace), DataW.trod enc Try.prog w base spare held n e cs = some y → ∃ p, d.K w p cs)
    (h : DataW.trod enc Try.prog w base spare held fuel t cs = some x) : ∃ (xs : List α) (A : Option Addr) (c : Nat), cs = [.slice A xs.length c] ∧ xs.length ≤ c ∧ d.C w A xs.length xs := by
  rcases DataW.trod_slice ht h with ⟨rfl, _⟩ | ⟨a, len, cap, elems, rest, n, _, rfl, _, hb, hl, hm, hlen, hel, _, _⟩
  · exact ⟨[], none, 0, rfl, Nat.le_refl _, rfl, by simp, fun h => absurd h (by simp)⟩
  · have each : ∀ i, i < len → ∃ (ci : List Value) (p : α), w.cells? base (a.add (i * d.sz)) d.sz = some ci ∧ d.K w p ci := by
      intro i hi
      have h1 := hel i hi
      rw [List.getElem?_eq_getElem (by omega), hc] at h1
      obtain ⟨ci, h2, h3⟩ := Option.bind_eq_some_iff.1 h1
      obtain ⟨p, hp⟩ := hd _ _ _ h3
      exact ⟨ci, p, h2, hp⟩
    have hex : ∃ xs : List α, xs.length = len ∧ ∀ i (hi : i < xs.length), ∃ ci, w.cells? base (a.add (i * d.sz)) d.sz = some ci ∧ d.K w xs[i] ci := by
      clear hel hlen
      have key : ∀ m, m ≤ len → ∃ xs : List α, xs.length = m ∧ ∀ i (hi : i < xs.length), ∃ ci, w.cells? base (a.add (i * d.sz)) d.sz = some ci ∧ d.K w xs[i] ci := by
        intro m
        induction m with
        | zero => exact fun _ => ⟨[], rfl, fun i hi => absurd hi (by simp)⟩
        | succ m ih =>
          intro hm'
          obtain ⟨xs, hxl, hx⟩ := ih (by omega)
          obtain ⟨ci, p, h1, h2⟩ := each m (by omega)
          refine ⟨xs ++ [p], by simp [hxl], fun i hi => ?_⟩
          rcases Nat.lt_or_ge i xs.length with hlt | hge
          · obtain ⟨cj, h3, h4⟩ := hx i hlt
            exact ⟨cj, h3, by rw [List.getElem_append_left hlt]; exact h4⟩
          · simp only [List.length_append, List.length_cons, List.length_nil] at hi
            obtain rfl : i = m := by omega
            exact ⟨ci, h1, by rw [List.getElem_append_right hge]; simpa [hxl] using h2⟩
      exact key len (Nat.le_refl _)
    obtain ⟨xs, hxl, hx⟩ := hex
    refine ⟨xs, some a, cap, by rw [hxl], by omega, rfl, by simp only [maxLen] at hm; omega, fun _ => ⟨a, rfl, fun j p hj => ?_⟩⟩
    obtain ⟨hj1, hj2⟩ := List.getElem?_eq_some_iff.1 hj
    obtain ⟨ci, h1, h2⟩ := hx j hj1
    rw [hj2] at h2
    refine ⟨ci, d.K_len h2, h2, fun i u hu => ?_⟩
    obtain ⟨hb1, hb2, hb3⟩ := World.cells?_some h1
    have hi : i < d.sz := by rw [← d.K_len h2]; exact (List.getElem?_eq_some_iff.1 hu).1
    rw [← Addr.add_add]
    exact (hb3 i hi).trans hu
theorem size9 : Try.prog.cellsOf 9 = 1 := by kernel_rfl
theorem size3 : Try.prog.cellsOf 3 = 1 := by kernel_rfl
theorem size29 : Try.prog.cellsOf 29 = 3 := by kernel_rfl
set_option maxRecDepth 100000 in
theorem in_29 (h : DataW.trod enc Try.prog w base spare held fuel 29 cs = some x) : ∃ p : S29, k29.K w p cs := by
  obtain ⟨xs, n, _, _, hl, hxl, hf⟩ := DataW.trod_struct Try.underlying29 h
  rw [size29] at hl
  have hg : ∀ i, i < 3 → ∃ y, xs[i]? = some y := fun i hi => ⟨_, List.getElem?_eq_getElem (by simp at hxl; omega)⟩
  match cs, hl with
  | [c0, c1, c2], _ =>
    obtain ⟨y0, e0⟩ := hg 0 (by decide)
    obtain ⟨y1, e1⟩ := hg 1 (by decide)
    obtain ⟨y2, e2⟩ := hg 2 (by decide)
    have h0 : DataW.trod enc Try.prog w base spare held n 9 (([c0, c1, c2].drop 0).take (Try.prog.cellsOf 9)) = some y0 := (hf 0 _ rfl).trans e0
    have h1 : DataW.trod enc Try.prog w base spare held n 9 (([c0, c1, c2].drop 1).take (Try.prog.cellsOf 9)) = some y1 := (hf 1 _ rfl).trans e1
    have h2 : DataW.trod enc Try.prog w base spare held n 3 (([c0, c1, c2].drop 2).take (Try.prog.cellsOf 3)) = some y2 := (hf 2 _ rfl).trans e2
    rw [size9] at h0 h1
    rw [size3] at h2
    obtain ⟨s, g0⟩ := in_string Try.underlying9 h0
    obtain ⟨t, g1⟩ := in_string Try.underlying9 h1
    obtain ⟨m, g2, _⟩ := in_int Try.underlying3 h2
    simp at g0 g1 g2
    subst g0 g1 g2
    exact ⟨⟨s, t, m⟩, k29_mk w ⟨s, t, m⟩⟩
theorem in_tokens (h : DataW.trod enc Try.prog w base spare held fuel 23 cs = some x) : ∃ (l : List S29) (A : Option Addr) (c : Nat), cs = [.slice A l.length c] ∧ l.length ≤ c ∧ Kd.C k29 w A l.length l :=
  in_slice k29 Try.underlying23 size29 (fun n cs y hy => in_29 hy) h
end
end Go.Proofs.Ytgbielhbjgipoaa.Pure
