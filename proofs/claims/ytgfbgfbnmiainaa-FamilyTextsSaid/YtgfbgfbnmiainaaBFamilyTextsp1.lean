import Derived.Test.YtgfbgfbnmiainaaBFamilyTextsq1
import Derived.Test.YtgfbgfbnmiainaaBFamilyTextsp0
import Derived.Test.YtgfbgfbnmiainaaV
import Derived.Test.YtgfbgfbnmiainaaBFamilyTextsq2
import Derived.Deep.QuietTactic
import Derived.BigQuiet
import Derived.BigRegion
import Derived.Test.YtgfbgfbnmiainaaBFamilyTextsq3
import Derived.Deep.RegionHeld3
import Derived.Test.YtgfbgfbnmiainaaBFamilyTextsq0
import Derived.ChangeSlices
import Derived.ChangeArms
import Derived.DataReads
import Derived.DataElems
/-! The reference's Same where it answers true (in place of own_true.py's text, where Same is walked by hand: PUT 18=FamSameF). -/
namespace Go.Proofs.Ytgfbgfbnmiainaa.Q
set_option linter.unusedVariables false
set_option linter.unusedSimpArgs false
open Go.RowKit Go.Proofs.YtgfbgfbnmiainaaW.PrintWords Go.Proofs.YtgfbgfbnmiainaaW.PrintLast Go.Proofs.YtgfbgfbnmiainaaW.PrintMore
def famSameT.f (k : Nat) (l0_0 : List Int) (l0_1 : List Int) (a0_2 : Int) (a0_3 : Int) (l1_0 : List Int) (l1_1 : List Int) (a1_2 : Int) (a1_3 : Int) : Option (Bool) := (manystrandref07_Valid.f k l0_0 l0_1 a0_2 a0_3).bind fun t183 => (if t183 = true then ((manystrandref07_Valid.f k l1_0 l1_1 a1_2 a1_3).bind fun t184 => (if t184 = true then ((manystrandref07_of.f k l0_0).bind fun t185 => ((manystrandref07_of.f k l1_0).bind fun t186 => (if t185 = t186 then ((manystrandref07_of.f k l0_1).bind fun t187 => ((manystrandref07_of.f k l1_1).bind fun t188 => (if t187 = t188 then (if a0_2 = a1_2 then (some (a0_3 == a1_3)) else (some false)) else (some false)))) else (some false)))) else (some false))) else (some false))
theorem famSameT.calls (k : Nat) (A0_0 : Option Addr) (c0_0 : Nat) (l0_0 : List Int) (A0_1 : Option Addr) (c0_1 : Nat) (l0_1 : List Int) (a0_2 : Int) (a0_3 : Int) (A1_0 : Option Addr) (c1_0 : Nat) (l1_0 : List Int) (A1_1 : Option Addr) (c1_1 : Nat) (l1_1 : List Int) (a1_2 : Int) (a1_3 : Int) (w : World) (hr0_0 : Kd.C (Kd.int .i64) w A0_0 l0_0.length l0_0) (hc0_0 : l0_0.length ≤ c0_0) (hr0_1 : Kd.C (Kd.int .i64) w A0_1 l0_1.length l0_1) (hc0_1 : l0_1.length ≤ c0_1) (hr1_0 : Kd.C (Kd.int .i64) w A1_0 l1_0.length l1_0) (hc1_0 : l1_0.length ≤ c1_0) (hr1_1 : Kd.C (Kd.int .i64) w A1_1 l1_1.length l1_1) (hc1_1 : l1_1.length ≤ c1_1) (h : famSameT.f k l0_0 l0_1 a0_2 a0_3 l1_0 l1_1 a1_2 a1_3 = some true) :
  Calls Try.prog 18 #[.agg #[.slice A0_0 l0_0.length c0_0, .slice A0_1 l0_1.length c0_1, .int .i64 a0_2, .int .i64 a0_3], .agg #[.slice A1_0 l1_0.length c1_0, .slice A1_1 l1_1.length c1_1, .int .i64 a1_2, .int .i64 a1_3]] w fun e w' => e = .returned (.bool true) ∧ Below w.heap.size w w' :=
  manystrandref07_Same.calls k A0_0 c0_0 l0_0 A0_1 c0_1 l0_1 a0_2 a0_3 A1_0 c1_0 l1_0 A1_1 c1_1 l1_1 a1_2 a1_3 true w hr0_0 hc0_0 hr0_1 hc0_1 hr1_0 hc1_0 hr1_1 hc1_1 h
end Go.Proofs.Ytgfbgfbnmiainaa.Q
/-! The reference's small functions on families: Valid, in, out, Same. -/
namespace Go.Proofs.Ytgfbgfbnmiainaa.Fam
set_option linter.unusedVariables false
set_option linter.unusedSimpArgs false
open Go.RowKit Go.Proofs.YtgfbgfbnmiainaaW.PrintWords Go.Proofs.YtgfbgfbnmiainaaW.PrintLast Go.Proofs.YtgfbgfbnmiainaaW.PrintMore Go.Proofs.Ytgfbgfbnmiainaa.Q
theorem ascB_iff : ∀ (l : List Int), ascB l = true ↔ l.Pairwise (· < ·)
  | [] => by simp [ascB]
  | [x] => by simp [ascB]
  | x :: y :: l => by
    have ih := ascB_iff (y :: l)
    simp only [ascB, Bool.and_eq_true, decide_eq_true_eq, ih]
    rw [List.pairwise_cons (a := x)]
    constructor
    · rintro ⟨h1, h2⟩
      refine ⟨fun z hz => ?_, h2⟩
      rcases List.mem_cons.mp hz with rfl | hz
      · exact h1
      · have := (List.pairwise_cons.mp h2).1 z hz
        omega
    · rintro ⟨h1, h2⟩
      exact ⟨h1 y (List.mem_cons_self ..), h2⟩
theorem chk_iff (l : List Int) : chk none l = true ↔ l.Pairwise (· < ·) ∧ ∀ x ∈ l, 0 ≤ x ∧ x ≤ 63 :=
  ⟨fun h => ⟨(chk_sort none l h).1, chk_rng none l h⟩, fun h => chk_mk none l h.2 h.1 (fun y e => by cases e)⟩
theorem numbers_f {l : List Int} (hl : l.length ≤ 1000) {k : Nat} (hk : 1000 < k) : manystrandref07_numbers.f k l = some (chk none l) := by
  unfold manystrandref07_numbers.f
  rw [manystrandref07_ascending_f l (by omega) (by omega), Option.bind_some]
  by_cases ha : ascB l = true
  · rw [if_pos ha]
    have hp := (ascB_iff l).mp ha
    by_cases h0 : (l.length : Int) = 0
    · rw [if_pos h0]
      have : l = [] := List.eq_nil_of_length_eq_zero (by omega)
      subst this
      rfl
    · rw [if_neg h0, if_pos (by omega)]
      have w : wrap64 ((l.length : Int) - 1) = ((l.length - 1 : Nat) : Int) := by unfold wrap64; omega
      have hlt : l.length - 1 < l.length := by omega
      have h0' : rd l 0 = l[0]'(by omega) := rd_at (i := 0) (by omega)
      rw [h0']
      have lo : ∀ x ∈ l, l[0]'(by omega) ≤ x := fun x hx => by
        obtain ⟨i, hi, rfl⟩ := List.mem_iff_getElem.mp hx
        rcases Nat.eq_zero_or_pos i with rfl | h
        · exact Int.le_refl _
        · exact Int.le_of_lt (List.pairwise_iff_getElem.mp hp 0 i (by omega) hi h)
      have hi : ∀ x ∈ l, x ≤ l[l.length - 1] := fun x hx => by
        obtain ⟨i, hi, rfl⟩ := List.mem_iff_getElem.mp hx
        rcases Nat.lt_or_ge i (l.length - 1) with h | h
        · exact Int.le_of_lt (List.pairwise_iff_getElem.mp hp i (l.length - 1) hi hlt h)
        · have : i = l.length - 1 := by omega
          subst this
          exact Int.le_refl _
      by_cases c0 : l[0]'(by omega) ≥ 0
      · rw [if_pos c0, w, if_pos (by omega), if_pos (by omega), rd_at hlt]
        congr 1
        rw [Bool.eq_iff_iff, decide_eq_true_iff, chk_iff]
        exact ⟨fun h => ⟨hp, fun x hx => ⟨Int.le_trans c0 (lo x hx), Int.le_trans (hi x hx) h⟩⟩, fun h => (h.2 _ (List.getElem_mem hlt)).2⟩
      · rw [if_neg c0]
        congr 1
        symm
        rw [Bool.eq_false_iff, ne_eq, chk_iff]
        exact fun h => c0 (h.2 _ (List.getElem_mem (by omega))).1
  · rw [if_neg ha]
    congr 1
    symm
    rw [Bool.eq_false_iff, ne_eq, chk_iff]
    exact fun h => ha ((ascB_iff l).mpr h.1)
theorem validR_f {f : S37} (h0 : f.f0.length ≤ 1000) (h1 : f.f1.length ≤ 1000) {k : Nat} (hk : 1000 < k) : manystrandref07_Valid.f k f.f0 f.f1 f.f2 f.f3 = some (vl f) := by
  unfold manystrandref07_Valid.f vl
  rw [numbers_f h0 hk, numbers_f h1 hk, Option.bind_some]
  cases chk none f.f0
  · simp
  rw [if_pos rfl, Option.bind_some]
  cases chk none f.f1
  · simp
  rw [if_pos rfl]
  by_cases a0 : f.f2 ≥ 0
  · rw [if_pos a0, decide_eq_true (show 0 ≤ f.f2 from a0)]
    by_cases a1 : f.f3 ≥ 0
    · rw [if_pos a1, decide_eq_true (show 0 ≤ f.f3 from a1)]
      by_cases a2 : f.f2 ≤ 64
      · rw [if_pos a2, decide_eq_true a2]; simp
      · rw [if_neg a2, decide_eq_false a2]; simp
    · rw [if_neg a1, decide_eq_false (show ¬ 0 ≤ f.f3 from a1)]; simp
  · rw [if_neg a0, decide_eq_false (show ¬ 0 ≤ f.f2 from a0)]; simp
theorem of_from (l : List Int) (hl : l.length ≤ 1000) (hr : ∀ x ∈ l, 0 ≤ x ∧ x ≤ 63) : ∀ n i k (m : Int), i + n = l.length → n < k → manystrandref07_of.l0 k l m (i : Int) = some (ofF (l.drop i) m) := by
  intro n
  induction n with
  | zero =>
    intro i k m hi hk
    obtain ⟨k, rfl⟩ : ∃ j, k = j + 1 := ⟨k - 1, by omega⟩
    unfold manystrandref07_of.l0
    rw [if_neg (by omega), List.drop_of_length_le (by omega)]
    rfl
  | succ n ih =>
    intro i k m hi hk
    obtain ⟨k, rfl⟩ : ∃ j, k = j + 1 := ⟨k - 1, by omega⟩
    have hlt : i < l.length := by omega
    have hx := hr _ (List.getElem_mem hlt)
    have w : IntKind.u64.wrap l[i] = l[i] := by
      obtain ⟨a, ha⟩ : ∃ a : Nat, l[i] = (a : Int) := ⟨l[i].toNat, by omega⟩
      rw [ha]
      exact wrap_u a (by omega)
    unfold manystrandref07_of.l0
    rw [if_pos (by omega), if_pos (by omega), rd_at hlt, w, if_pos hx.1, wrap_next i (by omega), ih (i + 1) k _ (by omega) (by omega), List.drop_eq_getElem_cons hlt]
    rfl
theorem of_f {l : List Int} (hl : l.length ≤ 1000) (hc : chk none l = true) {k : Nat} (hk : 1000 < k) : manystrandref07_of.f k l = some (ofL l) :=
  of_from l hl (chk_rng none l hc) l.length 0 k 0 (by omega) (by omega)
theorem inR_f {f : S37} (h0 : f.f0.length ≤ 1000) (h1 : f.f1.length ≤ 1000) (hv : vl f = true) {k : Nat} (hk : 1000 < k) : manystrandref07_in.f k f.f0 f.f1 f.f2 f.f3 = some ((opn f).f0, (opn f).f1, (opn f).f2, (opn f).f3, false) := by
  obtain ⟨c0, c1, _⟩ := vl_facts hv
  unfold manystrandref07_in.f
  rw [of_f h0 c0 hk, of_f h1 c1 hk, opn_eq hv]
  rfl
theorem outR_f {s : S59} (h : Ws s) (b : Bool) {k : Nat} (hk : 64 < k) : manystrandref07_out.f k s.f0 s.f1 s.f2 s.f3 b = some ((clo s).f0, (clo s).f1, (clo s).f2, (clo s).f3) := by
  obtain ⟨x, hx, hx'⟩ := wd_nat h.1
  obtain ⟨y, hy, hy'⟩ := wd_nat h.2
  unfold manystrandref07_out.f clo lsO
  rw [hx, hy, listR x hx' hk, listR y hy' hk]
  rfl
theorem same_self {f : S37} (h0 : f.f0.length ≤ 1000) (h1 : f.f1.length ≤ 1000) (hv : vl f = true) {k : Nat} (hk : 1000 < k) : famSameT.f k f.f0 f.f1 f.f2 f.f3 f.f0 f.f1 f.f2 f.f3 = some true := by
  obtain ⟨c0, c1, _⟩ := vl_facts hv
  unfold famSameT.f
  rw [validR_f h0 h1 hk, Option.bind_some, hv, if_pos rfl, Option.bind_some, if_pos rfl, of_f h0 c0 hk, Option.bind_some, Option.bind_some, if_pos rfl, of_f h1 c1 hk, Option.bind_some, Option.bind_some, if_pos rfl, if_pos rfl, beq_self_eq_true]
end Go.Proofs.Ytgfbgfbnmiainaa.Fam
/-! Words on 'from some number of rounds on', and on a text as a list of bytes of which a tail is still to be read. -/
namespace Go.Proofs.Ytgfbgfbnmiainaa.Pure
set_option linter.unusedVariables false
set_option linter.unusedSimpArgs false
open Go.RowKit Go.Proofs.YtgfbgfbnmiainaaW.PrintWords Go.Proofs.YtgfbgfbnmiainaaW.PrintLast Go.Proofs.YtgfbgfbnmiainaaW.PrintMore
theorem ev_pos {α : Type} {c : Prop} [Decidable c] {A B : Nat → Option α} {r : α} (h : c) (e : Ev A r) : Ev (fun k => if c then A k else B k) r := by
  simp only [if_pos h]; exact e
theorem ev_neg {α : Type} {c : Prop} [Decidable c] {A B : Nat → Option α} {r : α} (h : ¬c) (e : Ev B r) : Ev (fun k => if c then A k else B k) r := by
  simp only [if_neg h]; exact e
theorem ev_now {α : Type} {r r' : α} (h : r = r') : Ev (fun _ => some r) r' := ⟨0, fun _ _ => by rw [h]⟩
theorem ev_const {α : Type} {g : Option α} {r : α} (h : g = some r) : Ev (fun _ => g) r := ⟨0, fun _ _ => h⟩
theorem ev_bind0 {α β : Type} {g : Option α} {f : Nat → α → Option β} {a : α} {r : β} (h : g = some a) (k : Ev (fun n => f n a) r) : Ev (fun n => g.bind (f n)) r := by
  simp only [h, Option.bind_some]; exact k
abbrev By := List UInt8
/-- A text's bytes. -/
def L (a : ByteArray) : By := a.data.toList
/-- Where a tail of a text begins. -/
def at_ (a : ByteArray) (t : By) : Int := (a.size : Int) - (t.length : Int)
theorem L_length (a : ByteArray) : (L a).length = a.size := data_length a
theorem suf_tail {c : UInt8} {t l : By} (h : c :: t <:+ l) : t <:+ l := (List.suffix_cons c t).trans h
theorem suf_drop {t l : By} (n : Nat) (h : t <:+ l) : t.drop n <:+ l := (List.drop_suffix n t).trans h
theorem suf_len {a : ByteArray} {t : By} (h : t <:+ L a) : t.length ≤ a.size := by have := h.length_le; rwa [L_length] at this
theorem at_nil (a : ByteArray) : at_ a [] = a.size := by simp [at_]
theorem at_all (a : ByteArray) : at_ a (L a) = 0 := by simp [at_, L_length]
theorem at_cons (a : ByteArray) (c : UInt8) (t : By) : at_ a (c :: t) = at_ a t - 1 := by simp [at_]; omega
theorem at_nonneg {a : ByteArray} {t : By} (h : t <:+ L a) : 0 ≤ at_ a t := by have := suf_len h; unfold at_; omega
theorem at_le (a : ByteArray) (t : By) : at_ a t ≤ a.size := by unfold at_; omega
theorem at_lt (a : ByteArray) (c : UInt8) (t : By) : at_ a (c :: t) < a.size := by unfold at_; simp; omega
theorem suf_eq {a : ByteArray} {t : By} (h : t <:+ L a) : (L a).drop (at_ a t).toNat = t := by
  obtain ⟨p, hp⟩ := h
  have hl : a.size = p.length + t.length := by rw [← L_length, ← hp, List.length_append]
  have e : (at_ a t).toNat = p.length := by unfold at_; omega
  rw [e, ← hp, List.drop_left]
theorem L_get {a : ByteArray} (n : Nat) (h : n < a.size) : (L a)[n]'(by rw [L_length]; exact h) = a[n]'h := by
  simp [L]; rfl
theorem bt_of {a : ByteArray} {t : By} {c : UInt8} (h : c :: t <:+ L a) : bt a (at_ a (c :: t)) = (c.toNat : Int) := by
  have hn := at_nonneg h
  have hlt := at_lt a c t
  have hl : (at_ a (c :: t)).toNat < a.size := by omega
  rw [← bt_at a _ hl, ← L_get _ hl]
  have hs := suf_eq h
  have : (L a)[(at_ a (c :: t)).toNat]? = some c := by rw [← List.head?_drop, hs]; rfl
  rw [List.getElem?_eq_getElem (by rw [L_length]; exact hl)] at this
  injection this with this
  rw [this]
/-- A text of bytes. -/
def ofL (l : By) : ByteArray := ⟨l.toArray⟩
theorem L_ofL (l : By) : L (ofL l) = l := by simp [L, ofL]
theorem ofL_L (a : ByteArray) : ofL (L a) = a := by simp [L, ofL]
theorem L_inj {a b : ByteArray} (h : L a = L b) : a = b := by rw [← ofL_L a, ← ofL_L b, h]
theorem size_ofL (l : By) : (ofL l).size = l.length := by rw [← L_length, L_ofL]
theorem L_append (a b : ByteArray) : L (a ++ b) = L a ++ L b := by simp [L, ByteArray.data_append]
theorem L_extract (a : ByteArray) (i j : Nat) : L (a.extract i j) = ((L a).drop i).take (j - i) := by
  simp [L, ByteArray.data_extract]
theorem toList_L (a : ByteArray) : a.toList = L a := ByteArray.toList_eq a
theorem u8_range (c : UInt8) : 0 ≤ (c.toNat : Int) ∧ (c.toNat : Int) < 256 := by
  have := c.toNat_lt; omega
/-- What stands between two tails. -/
theorem ex_between {a : ByteArray} {w r : By} (h : w ++ r <:+ L a) : a.extract (at_ a (w ++ r)).toNat (at_ a r).toNat = ofL w := by
  apply L_inj
  rw [L_extract, L_ofL, suf_eq h]
  have hn := at_nonneg h
  have hl := suf_len h
  have e : (at_ a r).toNat - (at_ a (w ++ r)).toNat = w.length := by simp [at_] at hn hl ⊢; omega
  rw [e]; simp
theorem ex_rest {a : ByteArray} {t : By} (h : t <:+ L a) : a.extract (at_ a t).toNat a.size = ofL t := by
  apply L_inj
  rw [L_extract, L_ofL, suf_eq h]
  have hn := at_nonneg h
  have hl := suf_len h
  have e : a.size - (at_ a t).toNat = t.length := by simp [at_] at hn hl ⊢; omega
  rw [e, List.take_length]
theorem strOf (l : By) : strOfNums (l.map fun c => (c.toNat : Int)) = ofL l := by
  unfold strOfNums ofL
  rw [List.map_map]
  congr 1
  have : ((fun n : Int => UInt8.ofNat n.toNat) ∘ fun c : UInt8 => (c.toNat : Int)) = id := by
    funext c
    simp
  rw [this, List.map_id]
/-- Sizes that the statements let in. -/
abbrev Fits (a : ByteArray) : Prop := a.size ≤ 140737488351232
theorem at_succ {a : ByteArray} {c : UInt8} {t : By} (ha : Fits a) (h : c :: t <:+ L a) : wrap64 (at_ a (c :: t) + 1) = at_ a t := by
  have h1 := at_nonneg h
  have h2 := at_le a t
  rw [at_cons] at h1 ⊢
  unfold wrap64; omega
theorem at_succ2 {a : ByteArray} {c d : UInt8} {t : By} (ha : Fits a) (h : c :: d :: t <:+ L a) : wrap64 (at_ a (c :: d :: t) + 2) = at_ a t := by
  have h1 := at_nonneg h
  have h2 := at_le a t
  rw [at_cons, at_cons] at h1 ⊢
  unfold wrap64; omega
theorem at_succ3 {a : ByteArray} {c d e : UInt8} {t : By} (ha : Fits a) (h : c :: d :: e :: t <:+ L a) : wrap64 (at_ a (c :: d :: e :: t) + 3) = at_ a t := by
  have h1 := at_nonneg h
  have h2 := at_le a t
  rw [at_cons, at_cons, at_cons] at h1 ⊢
  unfold wrap64; omega
end Go.Proofs.Ytgfbgfbnmiainaa.Pure
/-! FamilyTexts, the plain laws: numbers and lists in braces, written and read. -/
namespace Go.Proofs.Ytgfbgfbnmiainaa.Txt
set_option linter.unusedVariables false
set_option linter.unusedSimpArgs false
open Go.RowKit Go.Proofs.YtgfbgfbnmiainaaW.PrintWords Go.Proofs.YtgfbgfbnmiainaaW.PrintLast Go.Proofs.YtgfbgfbnmiainaaW.PrintMore Go.Proofs.Ytgfbgfbnmiainaa.Q Go.Proofs.Ytgfbgfbnmiainaa.Pure
set_option maxRecDepth 100000
theorem ofL_app (l m : By) : ofL l ++ ofL m = ofL (l ++ m) := by
  apply L_inj
  rw [L_append, L_ofL, L_ofL, L_ofL]
theorem rd_at {xs : List Int} {i : Nat} (h : i < xs.length) : rd xs (i : Int) = xs[i] := by
  unfold rd
  rw [Int.toNat_natCast, List.getD_eq_getElem?_getD, List.getElem?_eq_getElem h]
  rfl
/-- A number below 100, written. -/
def dg (n : Int) : By := if n < 10 then [UInt8.ofNat (48 + n.toNat)] else [UInt8.ofNat (48 + n.toNat / 10), UInt8.ofNat (48 + n.toNat % 10)]
theorem dg_len (n : Int) : 1 ≤ (dg n).length ∧ (dg n).length ≤ 2 := by
  unfold dg
  split <;> simp
theorem digF : ∀ m < 100, family_digits.f 3 ((m : Nat) : Int) = some (ofL (dg (m : Int))) := by decide +kernel
theorem digR : ∀ m < 100, manystrandref02_Decimal.f 3 ((m : Nat) : Int) = some (ofL (dg (m : Int))) := by decide +kernel
theorem digF_ev {n : Int} (h0 : 0 ≤ n) (h1 : n ≤ 99) : Ev (fun k => family_digits.f k n) (ofL (dg n)) := by
  obtain ⟨m, rfl⟩ : ∃ m : Nat, n = (m : Int) := ⟨n.toNat, by omega⟩
  exact Ev.of (fun k => family_digits.mono _ k) (digF m (by omega))
theorem digR_ev {n : Int} (h0 : 0 ≤ n) (h1 : n ≤ 99) : Ev (fun k => manystrandref02_Decimal.f k n) (ofL (dg n)) := by
  obtain ⟨m, rfl⟩ : ∃ m : Nat, n = (m : Int) := ⟨n.toNat, by omega⟩
  exact Ev.of (fun k => manystrandref02_Decimal.mono _ k) (digR m (by omega))
/-- What stands in braces; b: a blank ahead of the first, too. -/
def sp : Bool → List Int → By
  | _, [] => []
  | b, x :: l => (if b then [32] else []) ++ dg x ++ sp true l
def br (l : List Int) : By := 123 :: (sp false l ++ [125])
theorem sp_len (l : List Int) : ∀ b, (sp b l).length ≤ 3 * l.length := by
  induction l with
  | nil => intro b; simp [sp]
  | cons x l ih =>
    intro b
    have h := dg_len x
    have h2 := ih true
    simp only [sp, List.length_append, List.length_cons]
    cases b <;> simp <;> omega
theorem wrap_succ {i : Nat} (h : i < 1000000) : wrap64 ((i : Int) + 1) = ((i + 1 : Nat) : Int) := by
  unfold wrap64; omega
theorem brF_from {l : List Int} (hl : l.length ≤ 1000) (hr : ∀ x ∈ l, 0 ≤ x ∧ x ≤ 99) : ∀ (n i : Nat) (acc : By), i + n = l.length → acc.length ≤ 3 * i + 1 →
    Ev (fun k => family_braces.l0 k (ofL acc) l (l.length : Int) (i : Int)) (ofL (acc ++ sp (decide (0 < i)) (l.drop i) ++ [125])) := by
  intro n
  induction n with
  | zero =>
    intro i acc hi ha
    refine Ev.step (fun k => rfl) ?_
    refine ev_neg (by omega) (ev_pos (by rw [size_ofL]; omega) (ev_now ?_))
    rw [List.drop_of_length_le (by omega), show (⟨#[125]⟩ : ByteArray) = ofL [125] from rfl, ofL_app]
    simp [sp]
  | succ n ih =>
    intro i acc hi ha
    have hlt : i < l.length := by omega
    have hx := hr l[i] (List.getElem_mem hlt)
    have hd := dg_len l[i]
    refine Ev.step (fun k => rfl) ?_
    refine ev_pos (by omega) (ev_pos (by omega) (ev_pos (by omega) ?_))
    have hw := wrap_succ (i := i) (by omega)
    by_cases h0 : 0 < i
    · refine ev_pos (by omega) (ev_pos (by rw [size_ofL]; omega) ?_)
      rw [rd_at hlt]
      refine (digF_ev hx.1 hx.2).bind ?_
      rw [show (⟨#[32]⟩ : ByteArray) = ofL [32] from rfl, ofL_app, ofL_app, hw]
      refine ev_pos (by rw [size_ofL, size_ofL]; simp; omega) ?_
      have h := ih (i + 1) (acc ++ [32] ++ dg l[i]) (by omega) (by simp; omega)
      rw [List.drop_eq_getElem_cons hlt]
      simp only [sp, h0, decide_true, if_true]
      simpa using h
    · obtain rfl : i = 0 := by omega
      refine ev_neg (by omega) ?_
      rw [rd_at hlt]
      refine (digF_ev hx.1 hx.2).bind ?_
      rw [ofL_app, hw]
      refine ev_pos (by rw [size_ofL, size_ofL]; omega) ?_
      have h := ih 1 (acc ++ dg l[0]) (by omega) (by simp; omega)
      have e : l = l[0] :: l.drop 1 := by conv => lhs; rw [← List.drop_zero (l := l), List.drop_eq_getElem_cons hlt]
      rw [List.drop_zero]
      conv => rhs; rw [e]
      simp only [sp]
      simpa using h
theorem brF_ev {l : List Int} (hl : l.length ≤ 1000) (hr : ∀ x ∈ l, 0 ≤ x ∧ x ≤ 99) : Ev (fun k => family_braces.f k l) (ofL (br l)) := by
  have h := brF_from hl hr l.length 0 [123] (by omega) (by simp)
  exact h
theorem brR_from {l : List Int} (hl : l.length ≤ 1000) (hr : ∀ x ∈ l, 0 ≤ x ∧ x ≤ 99) : ∀ (n i : Nat) (acc : By), i + n = l.length → acc.length ≤ 3 * i + 1 →
    Ev (fun k => manystrandref07_braces.l0 k l (ofL acc) (i : Int)) (ofL (acc ++ sp (decide (0 < i)) (l.drop i) ++ [125])) := by
  intro n
  induction n with
  | zero =>
    intro i acc hi ha
    refine Ev.step (fun k => rfl) ?_
    refine ev_neg (by omega) (ev_pos (by rw [size_ofL]; omega) (ev_now ?_))
    rw [List.drop_of_length_le (by omega), show (⟨#[125]⟩ : ByteArray) = ofL [125] from rfl, ofL_app]
    simp [sp]
  | succ n ih =>
    intro i acc hi ha
    have hlt : i < l.length := by omega
    have hx := hr l[i] (List.getElem_mem hlt)
    have hd := dg_len l[i]
    refine Ev.step (fun k => rfl) ?_
    refine ev_pos (by omega) ?_
    have hw := wrap_succ (i := i) (by omega)
    by_cases h0 : 0 < i
    · refine ev_pos (by omega) (ev_pos (by rw [size_ofL]; omega) (ev_pos (by omega) ?_))
      rw [rd_at hlt]
      refine (digR_ev hx.1 hx.2).bind ?_
      rw [show (⟨#[32]⟩ : ByteArray) = ofL [32] from rfl, ofL_app, ofL_app, hw]
      refine ev_pos (by rw [size_ofL, size_ofL]; simp; omega) ?_
      have h := ih (i + 1) (acc ++ [32] ++ dg l[i]) (by omega) (by simp; omega)
      rw [List.drop_eq_getElem_cons hlt]
      simp only [sp, h0, decide_true, if_true]
      simpa using h
    · obtain rfl : i = 0 := by omega
      refine ev_neg (by omega) (ev_pos (by omega) ?_)
      rw [rd_at hlt]
      refine (digR_ev hx.1 hx.2).bind ?_
      rw [ofL_app, hw]
      refine ev_pos (by rw [size_ofL, size_ofL]; omega) ?_
      have h := ih 1 (acc ++ dg l[0]) (by omega) (by simp; omega)
      have e : l = l[0] :: l.drop 1 := by conv => lhs; rw [← List.drop_zero (l := l), List.drop_eq_getElem_cons hlt]
      rw [List.drop_zero]
      conv => rhs; rw [e]
      simp only [sp]
      simpa using h
theorem brR_ev {l : List Int} (hl : l.length ≤ 1000) (hr : ∀ x ∈ l, 0 ≤ x ∧ x ≤ 99) : Ev (fun k => manystrandref07_braces.f k l) (ofL (br l)) := by
  have h := brR_from hl hr l.length 0 [123] (by omega) (by simp)
  exact h
theorem br_len (l : List Int) : (br l).length ≤ 3 * l.length + 2 := by
  have := sp_len l false
  simp only [br, List.length_cons, List.length_append, List.length_nil]
  omega
end Go.Proofs.Ytgfbgfbnmiainaa.Txt
/-! FamilyTexts, the plain laws: what the two readers make of a text: a number, a word, a list in braces. -/
namespace Go.Proofs.Ytgfbgfbnmiainaa.Txt
set_option linter.unusedVariables false
set_option linter.unusedSimpArgs false
open Go.RowKit Go.Proofs.YtgfbgfbnmiainaaW.PrintWords Go.Proofs.YtgfbgfbnmiainaaW.PrintLast Go.Proofs.YtgfbgfbnmiainaaW.PrintMore Go.Proofs.Ytgfbgfbnmiainaa.Q Go.Proofs.Ytgfbgfbnmiainaa.Pure
set_option maxRecDepth 100000
theorem bt_ofL {l : By} {i : Nat} (h : i < l.length) : bt (ofL l) (i : Int) = ((l[i]).toNat : Int) := by
  have hs : ((i : Int)).toNat < (ofL l).size := by rw [size_ofL]; simpa using h
  rw [← bt_at _ _ hs]
  rfl
theorem ex_drop (l : By) (i : Nat) : (ofL l).extract i (ofL l).size = ofL (l.drop i) := by
  apply L_inj
  rw [L_extract, L_ofL, L_ofL, size_ofL, ← List.length_drop, List.take_length]
theorem one_pow10 (j : Nat) : (1 : Int) ≤ 10 ^ j := Int.pow_pos (by decide : (0 : Int) < 10)
def dgt (c : UInt8) : Bool := decide (48 ≤ (c.toNat : Int)) && decide ((c.toNat : Int) ≤ 57)
/-- At most j digits, behind the number n. -/
def num : Nat → Int → By → Int × By
  | 0, n, t => (n, t)
  | _ + 1, n, [] => (n, [])
  | j + 1, n, c :: t => if dgt c then num j (10 * n + ((c.toNat : Int) - 48)) t else (n, c :: t)
theorem num_len : ∀ (j : Nat) (n : Int) (t : By), (num j n t).2.length ≤ t.length
  | 0, _, _ => Nat.le_refl _
  | _ + 1, _, [] => Nat.le_refl _
  | j + 1, n, c :: t => by
    simp only [num]
    split
    · have := num_len j (10 * n + ((c.toNat : Int) - 48)) t
      simp only [List.length_cons]; omega
    · exact Nat.le_refl _
theorem digit_wrap {c : UInt8} {n : Int} (hd : dgt c = true) (h0 : 0 ≤ n) (h1 : n ≤ 1000000) : wrap64 (wrap64 (10 * n) + ((c.toNat : Int) - 48) % 256) = 10 * n + ((c.toNat : Int) - 48) := by
  simp only [dgt, Bool.and_eq_true, decide_eq_true_eq] at hd
  unfold wrap64; omega
theorem numR_ev : ∀ (j : Nat) (n : Int) (t : By), j ≤ 3 → 0 ≤ n → (n + 1) * 10 ^ j ≤ 1000000 → Ev (fun k => manystrandref07_number.l0 k (ofL t) n (3 - (j : Int))) ((num j n t).1, ofL (num j n t).2) := by
  intro j
  induction j with
  | zero =>
    intro n t _ h0 h1
    refine Ev.step (fun k => rfl) ?_
    exact ev_neg (by omega) (ev_now rfl)
  | succ j ih =>
    intro n t hj h0 h1
    refine Ev.step (fun k => rfl) ?_
    refine ev_pos (by omega) ?_
    cases t with
    | nil => exact ev_neg (by rw [size_ofL]; simp) (ev_now rfl)
    | cons c t =>
      refine ev_pos (by rw [size_ofL]; simp) (ev_pos (by rw [size_ofL]; simp) ?_)
      have hb : bt (ofL (c :: t)) 0 = (c.toNat : Int) := bt_ofL (l := c :: t) (i := 0) (by simp)
      rw [hb]
      by_cases hd : dgt c = true
      · have hd' := hd
        simp only [dgt, Bool.and_eq_true, decide_eq_true_eq] at hd'
        have hp : (1 : Int) ≤ 10 ^ j := (one_pow10 j)
        have hn : n ≤ 1000000 := by
          have h3 : (n + 1) * 10 ^ (j + 1) ≥ (n + 1) * 1 := Int.mul_le_mul_of_nonneg_left ((one_pow10 (j + 1))) (by omega)
          omega
        refine ev_pos (by omega) (ev_pos (by omega) (ev_pos (by rw [size_ofL]; simp; omega) ?_))
        rw [digit_wrap hd h0 hn, ex_drop, show wrap64 (3 - ((j + 1 : Nat) : Int) + 1) = 3 - (j : Int) by unfold wrap64; omega]
        have h := ih (10 * n + ((c.toNat : Int) - 48)) t (by omega) (by omega) (by
          have h4 : (10 * n + ((c.toNat : Int) - 48) + 1) * 10 ^ j ≤ (10 * n + 10) * 10 ^ j := Int.mul_le_mul_of_nonneg_right (by omega) (by omega)
          have h5 : (10 * n + 10) * 10 ^ j = (n + 1) * 10 ^ (j + 1) := by rw [Int.pow_succ, show (10 * n + 10 : Int) = (n + 1) * 10 by omega, Int.mul_assoc, Int.mul_comm 10 (10 ^ j)]
          omega)
        simp only [num, hd, if_true]
        simpa using h
      · have e : num (j + 1) n (c :: t) = (n, c :: t) := by simp only [num, if_neg hd]
        rw [e]
        simp only [dgt, Bool.and_eq_true, decide_eq_true_eq] at hd
        by_cases h48 : (c.toNat : Int) ≥ 48
        · exact ev_pos h48 (ev_neg (by omega) (ev_now rfl))
        · exact ev_neg h48 (ev_now rfl)
theorem numR (t : By) : Ev (fun k => manystrandref07_number.f k (ofL t)) ((num 3 0 t).1, ofL (num 3 0 t).2) := numR_ev 3 0 t (by omega) (by omega) (by decide)
theorem numF_end {p t : By} {n : Int} {b : Bool} {x : Int} (hx : x = (p.length : Int)) (hl : (p ++ t).length ≤ 1000000) : (if x ≤ ((ofL (p ++ t)).size : Int) then (some (n, (ofL (p ++ t)).extract (x : Int).toNat (ofL (p ++ t)).size, b)) else none) = some (n, ofL t, b) := by
  subst hx
  rw [if_pos (by rw [size_ofL]; simp; omega), Int.toNat_natCast, ex_drop, List.drop_left]
theorem numF_ev (b : Bool) : ∀ (j : Nat) (n : Int) (p t : By), j ≤ 3 → p.length = 3 - j → 0 ≤ n → (n + 1) * 10 ^ j ≤ 1000000 → (p ++ t).length ≤ 1000000 →
    Ev (fun k => family_scan_number.l0 k n (3 - (j : Int)) (ofL (p ++ t)) b) ((num j n t).1, ofL (num j n t).2, b || decide ((num j n t).2.length = (p ++ t).length)) := by
  intro j
  induction j with
  | zero =>
    intro n p t _ hp h0 h1 hl
    refine Ev.step (fun k => rfl) ?_
    have hx : (3 - ((0 : Nat) : Int)) = (p.length : Int) := by omega
    have e : decide ((num 0 n t).2.length = (p ++ t).length) = false := decide_eq_false (by simp only [num, List.length_append]; omega)
    have e2 : ((3 - ((0 : Nat) : Int)) == 0) = false := by decide
    rw [e]
    have hz : (0 : Int) ≤ 3 - ((0 : Nat) : Int) := by decide
    by_cases hs : (3 - ((0 : Nat) : Int)) < ((ofL (p ++ t)).size : Int)
    · refine ev_pos hs (ev_neg (by omega) ?_)
      cases b
      · exact ev_neg (by simp) (ev_pos hz (ev_const (by rw [numF_end hx hl, e2]; rfl)))
      · exact ev_pos rfl (ev_pos hz (ev_const (by rw [numF_end hx hl]; rfl)))
    · refine ev_neg hs ?_
      cases b
      · exact ev_neg (by simp) (ev_pos hz (ev_const (by rw [numF_end hx hl, e2]; rfl)))
      · exact ev_pos rfl (ev_pos hz (ev_const (by rw [numF_end hx hl]; rfl)))
  | succ j ih =>
    intro n p t hj hp h0 h1 hl
    refine Ev.step (fun k => rfl) ?_
    have hx : (3 - ((j + 1 : Nat) : Int)) = (p.length : Int) := by omega
    have hz : (0 : Int) ≤ 3 - ((j + 1 : Nat) : Int) := by omega
    have e2 : ((3 - ((j + 1 : Nat) : Int)) == 0) = decide (p.length = 0) := by
      rw [hx]
      cases p with
      | nil => rfl
      | cons a p => simp; omega
    cases t with
    | nil =>
      have e : decide ((num (j + 1) n []).2.length = (p ++ []).length) = decide (p.length = 0) := by simp [num, eq_comm]
      rw [e]
      refine ev_neg (by rw [size_ofL]; simp; omega) ?_
      cases b
      · exact ev_neg (by simp) (ev_pos hz (ev_const (by rw [numF_end hx hl, e2]; rfl)))
      · exact ev_pos rfl (ev_pos hz (ev_const (by rw [numF_end hx hl]; rfl)))
    | cons c t =>
      refine ev_pos (by rw [size_ofL]; simp; omega) (ev_pos (by omega) (ev_pos hz ?_))
      have hb : bt (ofL (p ++ c :: t)) (3 - ((j + 1 : Nat) : Int)) = (c.toNat : Int) := by
        rw [hx, bt_ofL (by simp)]
        simp
      rw [hb]
      by_cases hd : dgt c = true
      · have hd' := hd
        simp only [dgt, Bool.and_eq_true, decide_eq_true_eq] at hd'
        have hn : n ≤ 1000000 := by
          have h3 : (n + 1) * 10 ^ (j + 1) ≥ (n + 1) * 1 := Int.mul_le_mul_of_nonneg_left ((one_pow10 (j + 1))) (by omega)
          omega
        refine ev_pos (by omega) (ev_pos (by omega) ?_)
        rw [digit_wrap hd h0 hn, show wrap64 (3 - ((j + 1 : Nat) : Int) + 1) = 3 - (j : Int) by unfold wrap64; omega]
        have h := ih (10 * n + ((c.toNat : Int) - 48)) (p ++ [c]) t (by omega) (by simp; omega) (by omega) (by
          have h4 : (10 * n + ((c.toNat : Int) - 48) + 1) * 10 ^ j ≤ (10 * n + 10) * 10 ^ j := Int.mul_le_mul_of_nonneg_right (by omega) (Int.le_of_lt (Int.pow_pos (by decide)))
          have h5 : (10 * n + 10) * 10 ^ j = (n + 1) * 10 ^ (j + 1) := by rw [Int.pow_succ, show (10 * n + 10 : Int) = (n + 1) * 10 by omega, Int.mul_assoc, Int.mul_comm 10 (10 ^ j)]
          omega) (by simpa using hl)
        simp only [num, hd, if_true]
        simpa using h
      · have e : num (j + 1) n (c :: t) = (n, c :: t) := by simp only [num, if_neg hd]
        rw [e]
        have e3 : decide ((c :: t).length = (p ++ c :: t).length) = decide (p.length = 0) := by simp [eq_comm]
        simp only [e3]
        simp only [dgt, Bool.and_eq_true, decide_eq_true_eq] at hd
        have fin : Ev (fun _ => if b = true then (if 3 - ((j + 1 : Nat) : Int) ≤ ((ofL (p ++ c :: t)).size : Int) then some (n, (ofL (p ++ c :: t)).extract (3 - ((j + 1 : Nat) : Int)).toNat (ofL (p ++ c :: t)).size, true) else none) else (if 3 - ((j + 1 : Nat) : Int) ≤ ((ofL (p ++ c :: t)).size : Int) then some (n, (ofL (p ++ c :: t)).extract (3 - ((j + 1 : Nat) : Int)).toNat (ofL (p ++ c :: t)).size, (3 - ((j + 1 : Nat) : Int)) == 0) else none)) (n, ofL (c :: t), b || decide (p.length = 0)) := by
          cases b
          · exact ev_neg (by simp) (ev_const (by rw [numF_end hx hl, e2]; rfl))
          · exact ev_pos rfl (ev_const (by rw [numF_end hx hl]; rfl))
        by_cases h48 : (c.toNat : Int) ≥ 48
        · exact ev_pos h48 (ev_neg (by omega) fin)
        · exact ev_neg h48 fin
theorem numF {t : By} (hl : t.length ≤ 1000000) (b : Bool) : Ev (fun k => family_scan_number.f k (ofL t) b) ((num 3 0 t).1, ofL (num 3 0 t).2, b || decide ((num 3 0 t).2.length = t.length)) :=
  numF_ev b 3 0 [] t (by omega) rfl (by omega) (by decide) hl
/-- A word ahead. -/
def wd (w t : By) : Bool × By := if t.take w.length = w then (true, t.drop w.length) else (false, t)
theorem wd_len (w t : By) : (wd w t).2.length ≤ t.length := by
  unfold wd
  split <;> simp
theorem wd_app (w t : By) : wd w (w ++ t) = (true, t) := by
  unfold wd
  rw [List.take_left, if_pos rfl, List.drop_left]
theorem take_ofL (t w : By) : ((ofL t).extract 0 (((ofL w).size : Int)).toNat).toList = t.take w.length := by
  rw [toList_L, L_extract, L_ofL, size_ofL]
  simp
theorem wordF (t w : By) (b : Bool) : family_scan_word.f (ofL t) b (ofL w) = some ((wd w t).1, ofL (wd w t).2, b) := by
  unfold family_scan_word.f wd
  rw [take_ofL, toList_L, L_ofL]
  by_cases h : t.length < w.length
  · rw [if_pos (by rw [size_ofL, size_ofL]; omega), if_neg (fun e => by have := congrArg List.length e; rw [List.length_take] at this; omega)]
  · rw [if_neg (by rw [size_ofL, size_ofL]; omega), if_pos (by omega), if_pos (by rw [size_ofL, size_ofL]; omega)]
    split
    · rw [size_ofL, Int.toNat_natCast, ex_drop]
    · rfl
theorem mustF (t w : By) (b : Bool) : family_scan_must.f (ofL t) b (ofL w) = some (ofL (wd w t).2, b || !(wd w t).1) := by
  unfold family_scan_must.f
  rw [wordF, Option.bind_some]
  cases (wd w t).1 <;> cases b <;> rfl
theorem takeR (t w : By) : manystrandref07_take.f (ofL t) (ofL w) = some (ofL (wd w t).2, (wd w t).1) := by
  unfold manystrandref07_take.f wd
  rw [take_ofL, toList_L, L_ofL]
  by_cases h : t.length < w.length
  · rw [if_pos (by rw [size_ofL, size_ofL]; omega), if_neg (fun e => by have := congrArg List.length e; rw [List.length_take] at this; omega)]
  · rw [if_neg (by rw [size_ofL, size_ofL]; omega), if_pos (by omega), if_pos (by rw [size_ofL, size_ofL]; omega)]
    split
    · rw [size_ofL, Int.toNat_natCast, ex_drop]
    · rfl
end Go.Proofs.Ytgfbgfbnmiainaa.Txt
/-! FamilyTexts, the plain laws: what the two readers make of a list in braces. -/
namespace Go.Proofs.Ytgfbgfbnmiainaa.Txt
set_option linter.unusedVariables false
set_option linter.unusedSimpArgs false
open Go.RowKit Go.Proofs.YtgfbgfbnmiainaaW.PrintWords Go.Proofs.YtgfbgfbnmiainaaW.PrintLast Go.Proofs.YtgfbgfbnmiainaaW.PrintMore Go.Proofs.Ytgfbgfbnmiainaa.Q Go.Proofs.Ytgfbgfbnmiainaa.Pure
set_option maxRecDepth 100000
/-- No digit ahead. -/
def nd : By → Prop
  | [] => True
  | c :: _ => dgt c = false
theorem u8d : ∀ k < 10, (UInt8.ofNat (48 + k)).toNat = 48 + k := by decide
theorem dgt_d {k : Nat} (h : k < 10) : dgt (UInt8.ofNat (48 + k)) = true := by
  unfold dgt
  rw [u8d k h]
  simp only [Bool.and_eq_true, decide_eq_true_eq]
  omega
theorem num_nd {w : By} (hw : nd w) (j : Nat) (n : Int) : num j n w = (n, w) := by
  cases j with
  | zero => rfl
  | succ j =>
    cases w with
    | nil => rfl
    | cons c w => simp only [num, if_neg (Bool.eq_false_iff.mp hw)]
theorem num_dg {n : Int} (h0 : 0 ≤ n) (h1 : n ≤ 99) {w : By} (hw : nd w) : num 3 0 (dg n ++ w) = (n, w) := by
  obtain ⟨m, rfl⟩ : ∃ m : Nat, n = (m : Int) := ⟨n.toNat, by omega⟩
  unfold dg
  rw [Int.toNat_natCast]
  by_cases h : (m : Int) < 10
  · rw [if_pos h, List.singleton_append]
    simp only [num, dgt_d (show m < 10 by omega), if_true, u8d m (by omega)]
    rw [num_nd hw]
    congr 1
    omega
  · rw [if_neg h, List.cons_append, List.singleton_append]
    simp only [num, dgt_d (show m / 10 < 10 by omega), dgt_d (show m % 10 < 10 by omega), if_true, u8d (m / 10) (by omega), u8d (m % 10) (by omega)]
    rw [num_nd hw]
    congr 1
    omega
theorem dg_head {n : Int} (h0 : 0 ≤ n) (h1 : n ≤ 99) (w : By) : ∃ c t, dg n ++ w = c :: t ∧ dgt c = true := by
  obtain ⟨m, rfl⟩ : ∃ m : Nat, n = (m : Int) := ⟨n.toNat, by omega⟩
  unfold dg
  rw [Int.toNat_natCast]
  split
  · exact ⟨_, _, rfl, dgt_d (by omega)⟩
  · exact ⟨_, _, rfl, dgt_d (by omega)⟩
theorem nd_sp (l : List Int) (w : By) : nd (sp true l ++ 125 :: w) := by
  cases l with
  | nil => exact (by decide : dgt 125 = false)
  | cons x l => exact (by decide : dgt 32 = false)
theorem wd_ne {a c : UInt8} (t : By) (h : c ≠ a) : wd [a] (c :: t) = (false, c :: t) := by
  unfold wd
  rw [if_neg (by simpa using h)]
theorem dgt_ne {c : UInt8} (h : dgt c = true) : c ≠ 125 ∧ c ≠ 32 := by
  constructor
  · rintro rfl; exact absurd h (by decide)
  · rintro rfl; exact absurd h (by decide)
theorem l0_end {acc : List Int} {t : ByteArray} {r : List Int × ByteArray × Bool} (h : Ev (fun k => family_scan_list.j1 k acc false t true) r) : Ev (fun k => family_scan_list.l0 k acc t true) r := Ev.step (fun k => rfl) h
theorem l0_go {acc : List Int} {t : ByteArray} {r : List Int × ByteArray × Bool} (h : Ev (fun k => (family_scan_word.f t false (ofL [125])).bind fun y => family_scan_list.j1 k acc (!y.1) y.2.1 y.2.2) r) : Ev (fun k => family_scan_list.l0 k acc t false) r := Ev.step (fun k => rfl) h
theorem j1_end {acc : List Int} {t : ByteArray} {b : Bool} : Ev (fun k => family_scan_list.j1 k acc false t b) (acc, t, b) := Ev.step (fun k => rfl) (Ev.now _)
theorem j1_one {acc : List Int} {t : ByteArray} {b : Bool} {r : List Int × ByteArray × Bool} (ha : acc = []) (h : Ev (fun k => (family_scan_number.f k t b).bind fun x => if acc.length < 17592186044416 then family_scan_list.l0 k (acc ++ [x.1]) x.2.1 x.2.2 else none) r) :
    Ev (fun k => family_scan_list.j1 k acc true t b) r := by
  subst ha
  exact Ev.step (fun k => rfl) h
theorem j1_more {acc : List Int} {t : ByteArray} {b : Bool} {r : List Int × ByteArray × Bool} (ha : 0 < acc.length) (h : Ev (fun k => (family_scan_must.f t b (ofL [32])).bind fun y => (family_scan_number.f k y.1 y.2).bind fun x => if acc.length < 17592186044416 then family_scan_list.l0 k (acc ++ [x.1]) x.2.1 x.2.2 else none) r) :
    Ev (fun k => family_scan_list.j1 k acc true t b) r := by
  refine Ev.step (f := fun k => if (acc.length : Int) > 0 then (family_scan_must.f t b (ofL [32])).bind fun y => (family_scan_number.f k y.1 y.2).bind fun x => if acc.length < 17592186044416 then family_scan_list.l0 k (acc ++ [x.1]) x.2.1 x.2.2 else none else (family_scan_number.f k t b).bind fun x => if acc.length < 17592186044416 then family_scan_list.l0 k (acc ++ [x.1]) x.2.1 x.2.2 else none) (fun k => rfl) ?_
  exact ev_pos (by omega) h
theorem listF_bad (acc : List Int) (t : By) : Ev (fun k => family_scan_list.l0 k acc (ofL t) true) (acc, ofL t, true) := by
  exact l0_end j1_end
theorem listF_text : ∀ (l : List Int) (acc : List Int) (w : By), (∀ x ∈ l, 0 ≤ x ∧ x ≤ 99) → acc.length + l.length ≤ 1000 → w.length ≤ 100000 →
    Ev (fun k => family_scan_list.l0 k acc (ofL (sp (!acc.isEmpty) l ++ 125 :: w)) false) (acc ++ l, ofL w, false) := by
  intro l
  induction l with
  | nil =>
    intro acc w _ _ _
    refine l0_go ?_
    refine ev_bind0 (wordF _ [125] false) ?_
    rw [show sp (!acc.isEmpty) [] ++ 125 :: w = [125] ++ w from rfl, wd_app]
    rw [List.append_nil]
    exact j1_end
  | cons x l ih =>
    intro acc w hr hl hw
    have hx := hr x (by simp)
    have hr' : ∀ y ∈ l, 0 ≤ y ∧ y ≤ 99 := fun y hy => hr y (by simp [hy])
    have hsl := sp_len l true
    have hdl := dg_len x
    simp only [List.length_cons] at hl
    have hnum := num_dg hx.1 hx.2 (nd_sp l w)
    have hih := ih (acc ++ [x]) w hr' (by simp; omega) hw
    rw [show (!(acc ++ [x]).isEmpty) = true by cases acc <;> rfl, List.append_assoc] at hih
    refine l0_go ?_
    refine ev_bind0 (wordF _ [125] false) ?_
    cases acc with
    | nil =>
      obtain ⟨c, t, ht, hc⟩ := dg_head hx.1 hx.2 (sp true l ++ 125 :: w)
      have e : sp (!([] : List Int).isEmpty) (x :: l) ++ 125 :: w = dg x ++ (sp true l ++ 125 :: w) := by simp [sp]
      rw [e, ht, wd_ne t (dgt_ne hc).1, ← ht]
      refine j1_one rfl ?_
      refine (numF (by simp only [List.length_append, List.length_cons]; omega) false).bind ?_
      rw [hnum]
      refine ev_pos (by simp) ?_
      rw [show (false || decide ((sp true l ++ 125 :: w).length = (dg x ++ (sp true l ++ 125 :: w)).length)) = false by simp only [Bool.false_or, decide_eq_false_iff_not, List.length_append]; omega]
      exact hih
    | cons a acc =>
      have e : sp (!(a :: acc).isEmpty) (x :: l) ++ 125 :: w = 32 :: (dg x ++ (sp true l ++ 125 :: w)) := by simp [sp]
      rw [e, wd_ne _ (by decide)]
      refine j1_more (by simp) ?_
      refine ev_bind0 (mustF _ [32] false) ?_
      rw [show (32 : UInt8) :: (dg x ++ (sp true l ++ 125 :: w)) = [32] ++ (dg x ++ (sp true l ++ 125 :: w)) from rfl, wd_app]
      refine (numF (by simp only [List.length_append, List.length_cons]; omega) _).bind ?_
      rw [hnum]
      refine ev_pos (by simp only [List.length_cons] at hl ⊢; omega) ?_
      rw [show ((false || !(true, dg x ++ (sp true l ++ 125 :: w)).fst) || decide ((sp true l ++ 125 :: w).length = (dg x ++ (sp true l ++ 125 :: w)).length)) = false by simp only [Bool.false_or, Bool.not_true, decide_eq_false_iff_not, List.length_append]; omega]
      exact hih
theorem scanF_text {l : List Int} (hr : ∀ x ∈ l, 0 ≤ x ∧ x ≤ 99) (hl : l.length ≤ 1000) {w : By} (hw : w.length ≤ 100000) : Ev (fun k => family_scan_list.f k (ofL (br l ++ w)) false) (l, ofL w, false) := by
  refine ev_bind0 (mustF _ [123] false) ?_
  rw [show br l ++ w = [123] ++ (sp false l ++ 125 :: w) by simp [br], wd_app]
  exact listF_text l [] w hr (by simpa using hl) hw
theorem listF_tot : ∀ (m : Nat) (t : By) (acc : List Int) (b : Bool), t.length ≤ m → t.length ≤ 100000 → acc.length + t.length ≤ 200000 →
    ∃ (l : List Int) (t' : By) (b' : Bool), Ev (fun k => family_scan_list.l0 k acc (ofL t) b) (l, ofL t', b') ∧ t'.length ≤ t.length ∧ (b' = false → b = false ∧ 2 * l.length + t'.length + 1 ≤ 2 * acc.length + t.length + (if acc = [] then 1 else 0)) := by
  intro m
  induction m with
  | zero =>
    intro t acc b hm ht hl
    obtain rfl : t = [] := List.length_eq_zero_iff.mp (by omega)
    cases b with
    | true => exact ⟨_, _, _, listF_bad acc [], Nat.le_refl _, fun h => by cases h⟩
    | false =>
      have hn : num 3 0 [] = (0, ([] : By)) := rfl
      by_cases ha : acc = []
      · refine ⟨acc ++ [0], [], true, ?_, Nat.le_refl _, fun h => by cases h⟩
        refine l0_go ?_
        refine ev_bind0 (wordF _ [125] false) ?_
        refine j1_one ha ?_
        refine (numF (by simp [wd]) false).bind (ev_pos (by omega) ?_)
        exact listF_bad _ []
      · refine ⟨acc ++ [0], [], true, ?_, Nat.le_refl _, fun h => by cases h⟩
        have hp := List.length_pos_iff.mpr ha
        refine l0_go ?_
        refine ev_bind0 (wordF _ [125] false) ?_
        refine j1_more (by omega) ?_
        refine ev_bind0 (mustF _ [32] false) ?_
        refine (numF (by simp [wd]) _).bind (ev_pos (by omega) ?_)
        exact listF_bad _ []
  | succ m ih =>
    intro t acc b hm ht hl
    cases b with
    | true => exact ⟨_, _, _, listF_bad acc t, Nat.le_refl _, fun h => by cases h⟩
    | false =>
      by_cases hw : (wd [125] t).1 = true
      · have hw2 : t.take 1 = [125] := by
          unfold wd at hw
          split at hw
          · assumption
          · cases hw
        have e : wd [125] t = (true, t.drop 1) := by
          unfold wd
          rw [show ([125] : By).length = 1 from rfl, if_pos hw2]
        have hlen : 1 ≤ t.length := by
          cases t with
          | nil => simp at hw2
          | cons c t => simp
        refine ⟨acc, t.drop 1, false, ?_, by simp, fun _ => ⟨rfl, by simp only [List.length_drop]; split <;> omega⟩⟩
        refine l0_go ?_
        refine ev_bind0 (wordF _ [125] false) ?_
        rw [e]
        exact j1_end
      · have e : wd [125] t = (false, t) := by
          unfold wd at hw ⊢
          split at hw
          · exact absurd rfl hw
          · rename_i h; rw [if_neg h]
        by_cases ha : acc = []
        · have h2 := num_len 3 0 t
          have key : ∀ b2, (b2 = false → (num 3 0 t).2.length < t.length) → ∃ (l : List Int) (t' : By) (b' : Bool), Ev (fun k => family_scan_list.l0 k (acc ++ [(num 3 0 t).1]) (ofL (num 3 0 t).2) b2) (l, ofL t', b') ∧ t'.length ≤ t.length ∧ (b' = false → 2 * l.length + t'.length + 1 ≤ t.length + 1) := by
            intro b2 hb
            cases b2 with
            | true => exact ⟨_, _, _, listF_bad _ _, h2, fun h => by cases h⟩
            | false =>
              have hb := hb rfl
              obtain ⟨l, t', b', h3, h4, h5⟩ := ih (num 3 0 t).2 (acc ++ [(num 3 0 t).1]) false (by omega) (by omega) (by simp; omega)
              refine ⟨l, t', b', h3, by omega, fun h => ?_⟩
              obtain ⟨_, h6⟩ := h5 h
              rw [if_neg (by simp), ha] at h6
              simp only [List.nil_append, List.length_singleton] at h6
              omega
          obtain ⟨l, t', b', h3, h4, h5⟩ := key (false || decide ((num 3 0 t).2.length = t.length)) (fun h => by simp at h; omega)
          refine ⟨l, t', b', ?_, h4, fun h => ⟨rfl, by rw [if_pos ha, ha]; simpa using h5 h⟩⟩
          refine l0_go ?_
          refine ev_bind0 (wordF _ [125] false) ?_
          rw [e]
          refine j1_one ha ?_
          exact (numF (t := t) (by omega) false).bind (ev_pos (by rw [ha]; simp) h3)
        · have hp := List.length_pos_iff.mpr ha
          have h1 := wd_len [32] t
          have h2 := num_len 3 0 (wd [32] t).2
          have hs : (wd [32] t).1 = true → (wd [32] t).2.length + 1 ≤ t.length := by
            intro h
            unfold wd at h ⊢
            split at h
            · rename_i g
              rw [if_pos g]
              cases t with
              | nil => simp at g
              | cons c t => simp
            · cases h
          have key : ∀ b2, (b2 = false → (wd [32] t).1 = true ∧ (num 3 0 (wd [32] t).2).2.length < (wd [32] t).2.length) → ∃ (l : List Int) (t' : By) (b' : Bool), Ev (fun k => family_scan_list.l0 k (acc ++ [(num 3 0 (wd [32] t).2).1]) (ofL (num 3 0 (wd [32] t).2).2) b2) (l, ofL t', b') ∧ t'.length ≤ t.length ∧ (b' = false → 2 * l.length + t'.length + 1 ≤ 2 * acc.length + t.length) := by
            intro b2 hb
            cases b2 with
            | true => exact ⟨_, _, _, listF_bad _ _, by omega, fun h => by cases h⟩
            | false =>
              obtain ⟨hb1, hb2⟩ := hb rfl
              have hs := hs hb1
              obtain ⟨l, t', b', h3, h4, h5⟩ := ih (num 3 0 (wd [32] t).2).2 (acc ++ [(num 3 0 (wd [32] t).2).1]) false (by omega) (by omega) (by simp; omega)
              refine ⟨l, t', b', h3, by omega, fun h => ?_⟩
              obtain ⟨_, h6⟩ := h5 h
              rw [if_neg (by simp)] at h6
              simp only [List.length_append, List.length_singleton] at h6
              omega
          obtain ⟨l, t', b', h3, h4, h5⟩ := key ((false || !(wd [32] t).1) || decide ((num 3 0 (wd [32] t).2).2.length = (wd [32] t).2.length)) (fun h => by simp at h; exact ⟨h.1, by omega⟩)
          refine ⟨l, t', b', ?_, h4, fun h => ⟨rfl, by rw [if_neg ha]; simpa using h5 h⟩⟩
          refine l0_go ?_
          refine ev_bind0 (wordF _ [125] false) ?_
          rw [e]
          refine j1_more (by omega) ?_
          refine ev_bind0 (mustF _ [32] false) ?_
          exact (numF (t := (wd [32] t).2) (by omega) _).bind (ev_pos (by omega) h3)
theorem scanF_tot {t : By} (ht : t.length ≤ 100000) (b : Bool) : ∃ (l : List Int) (t' : By) (b' : Bool), Ev (fun k => family_scan_list.f k (ofL t) b) (l, ofL t', b') ∧ t'.length ≤ t.length ∧ (b' = false → b = false ∧ 2 * l.length ≤ t.length + 1) := by
  have h1 := wd_len [123] t
  obtain ⟨l, t', b', h3, h4, h5⟩ := listF_tot (wd [123] t).2.length (wd [123] t).2 [] (b || !(wd [123] t).1) (Nat.le_refl _) (by omega) (by simp; omega)
  refine ⟨l, t', b', ev_bind0 (mustF _ [123] b) h3, by omega, fun h => ?_⟩
  obtain ⟨h6, h7⟩ := h5 h
  rw [if_pos rfl] at h7
  simp only [List.length_nil] at h7
  refine ⟨by cases b; rfl; simp at h6, by omega⟩
end Go.Proofs.Ytgfbgfbnmiainaa.Txt
/-! FamilyTexts, the plain laws: what the reference's reader makes of a list in braces. -/
namespace Go.Proofs.Ytgfbgfbnmiainaa.Txt
set_option linter.unusedVariables false
set_option linter.unusedSimpArgs false
open Go.RowKit Go.Proofs.YtgfbgfbnmiainaaW.PrintWords Go.Proofs.YtgfbgfbnmiainaaW.PrintLast Go.Proofs.YtgfbgfbnmiainaaW.PrintMore Go.Proofs.Ytgfbgfbnmiainaa.Q Go.Proofs.Ytgfbgfbnmiainaa.Pure
set_option maxRecDepth 100000
theorem p1_end {acc : List Int} {t : By} : Ev (fun k => manystrandref07_parts.j1 k (ofL t) acc false) (acc, ofL (wd [125] t).2) := by
  refine Ev.step (f := fun _ => (manystrandref07_take.f (ofL t) (ofL [125])).bind fun y => some (acc, y.1)) (fun k => rfl) ?_
  rw [takeR]
  exact Ev.now _
theorem p1_go {acc : List Int} {t : By} {r : List Int × ByteArray} (ha : acc.length ≤ 100) (h : Ev (fun k => manystrandref07_parts.l0 k (ofL (wd [32] (num 3 0 t).2).2) (acc ++ [(num 3 0 t).1])) r) :
    Ev (fun k => manystrandref07_parts.j1 k (ofL t) acc true) r := by
  refine Ev.step (f := fun k => (manystrandref07_number.f k (ofL t)).bind fun x => if acc.length < 17592186044416 then (manystrandref07_take.f x.2 (ofL [32])).bind fun y => manystrandref07_parts.l0 k y.1 (acc ++ [x.1]) else none) (fun k => rfl) ?_
  refine (numR t).bind ?_
  refine ev_pos (by omega) ?_
  exact ev_bind0 (takeR _ [32]) h
theorem p0_nil {acc : List Int} : Ev (fun k => manystrandref07_parts.l0 k (ofL []) acc) (acc, ofL []) := by
  have h := p1_end (acc := acc) (t := [])
  exact Ev.step (f := fun k => manystrandref07_parts.j1 k (ofL []) acc false) (fun k => rfl) h
theorem p0_cons {acc : List Int} {c : UInt8} {t : By} {r : List Int × ByteArray} (h : Ev (fun k => manystrandref07_parts.j1 k (ofL (c :: t)) acc (decide (c ≠ 125) && decide ((acc.length : Int) ≤ 64))) r) : Ev (fun k => manystrandref07_parts.l0 k (ofL (c :: t)) acc) r := by
  refine Ev.step (f := fun k => if ((ofL (c :: t)).size : Int) > 0 then (if 0 < ((ofL (c :: t)).size : Int) then (if (bt (ofL (c :: t)) 0) = 125 then (manystrandref07_parts.j1 k (ofL (c :: t)) acc false) else (manystrandref07_parts.j1 k (ofL (c :: t)) acc (decide ((acc.length : Int) ≤ 64)))) else none) else manystrandref07_parts.j1 k (ofL (c :: t)) acc false) (fun k => rfl) ?_
  have hs : (0 : Int) < ((ofL (c :: t)).size : Int) := by rw [size_ofL]; simp only [List.length_cons]; omega
  refine ev_pos hs (ev_pos hs ?_)
  have hb : bt (ofL (c :: t)) 0 = (c.toNat : Int) := bt_ofL (l := c :: t) (i := 0) (by simp)
  rw [hb]
  by_cases hc : c = 125
  · subst hc
    exact ev_pos (by decide) h
  · have h2 : ¬ (c.toNat : Int) = 125 := fun e => hc (UInt8.toNat_inj.mp (by simpa using Int.ofNat_inj.mp e))
    refine ev_neg h2 ?_
    simpa [hc] using h
theorem partsR_tot : ∀ (m : Nat) (t : By) (acc : List Int), acc.length + m = 65 → ∃ (l : List Int) (t' : By), Ev (fun k => manystrandref07_parts.l0 k (ofL t) acc) (l, ofL t') ∧ l.length ≤ 65 := by
  intro m
  induction m with
  | zero =>
    intro t acc hm
    cases t with
    | nil => exact ⟨acc, [], p0_nil, by omega⟩
    | cons c t =>
      refine ⟨acc, (wd [125] (c :: t)).2, p0_cons ?_, by omega⟩
      rw [show decide ((acc.length : Int) ≤ 64) = false from decide_eq_false (by omega), Bool.and_false]
      exact p1_end
  | succ m ih =>
    intro t acc hm
    cases t with
    | nil => exact ⟨acc, [], p0_nil, by omega⟩
    | cons c t =>
      by_cases hc : c = 125
      · refine ⟨acc, (wd [125] (c :: t)).2, p0_cons ?_, by omega⟩
        rw [show decide (c ≠ 125) = false from decide_eq_false (by simp [hc]), Bool.false_and]
        exact p1_end
      · obtain ⟨l, t', h, hl⟩ := ih (wd [32] (num 3 0 (c :: t)).2).2 (acc ++ [(num 3 0 (c :: t)).1]) (by simp; omega)
        refine ⟨l, t', p0_cons ?_, hl⟩
        rw [show decide (c ≠ 125) = true from decide_eq_true hc, show decide ((acc.length : Int) ≤ 64) = true from decide_eq_true (by omega), Bool.and_self]
        exact p1_go (by omega) h
theorem partsR (t : By) : ∃ (l : List Int) (t' : By), Ev (fun k => manystrandref07_parts.f k (ofL t)) (l, ofL t') ∧ l.length ≤ 65 := by
  obtain ⟨l, t', h, hl⟩ := partsR_tot 65 (wd [123] t).2 [] rfl
  exact ⟨l, t', ev_bind0 (takeR t [123]) h, hl⟩
theorem wd_sp (l : List Int) (w : By) : (wd [32] (sp true l ++ 125 :: w)).2 = sp false l ++ 125 :: w := by
  cases l with
  | nil =>
    show (wd [32] (125 :: w)).2 = 125 :: w
    rw [wd_ne w (by decide)]
  | cons x l =>
    have e : sp true (x :: l) ++ 125 :: w = [32] ++ (sp false (x :: l) ++ 125 :: w) := by simp [sp]
    rw [e, wd_app]
theorem partsR_text : ∀ (l acc : List Int) (w : By), (∀ x ∈ l, 0 ≤ x ∧ x ≤ 99) → acc.length + l.length ≤ 64 →
    Ev (fun k => manystrandref07_parts.l0 k (ofL (sp false l ++ 125 :: w)) acc) (acc ++ l, ofL w) := by
  intro l
  induction l with
  | nil =>
    intro acc w _ _
    refine p0_cons ?_
    rw [show decide ((125 : UInt8) ≠ 125) = false from rfl, Bool.false_and, List.append_nil]
    have h := p1_end (acc := acc) (t := 125 :: w)
    rw [show (125 : UInt8) :: w = [125] ++ w from rfl, wd_app] at h
    exact h
  | cons x l ih =>
    intro acc w hr hl
    have hx := hr x (by simp)
    simp only [List.length_cons] at hl
    obtain ⟨c, t, ht, hc⟩ := dg_head hx.1 hx.2 (sp true l ++ 125 :: w)
    have e : sp false (x :: l) ++ 125 :: w = dg x ++ (sp true l ++ 125 :: w) := by simp [sp]
    rw [e, ht]
    refine p0_cons ?_
    rw [show decide (c ≠ 125) = true from decide_eq_true (dgt_ne hc).1, show decide ((acc.length : Int) ≤ 64) = true from decide_eq_true (by omega), Bool.and_self, ← ht]
    refine p1_go (by omega) ?_
    rw [num_dg hx.1 hx.2 (nd_sp l w), wd_sp]
    have h := ih (acc ++ [x]) w (fun y hy => hr y (by simp [hy])) (by simp; omega)
    rw [List.append_assoc] at h
    exact h
theorem partsR_br {l : List Int} (hr : ∀ x ∈ l, 0 ≤ x ∧ x ≤ 99) (hl : l.length ≤ 64) (w : By) : Ev (fun k => manystrandref07_parts.f k (ofL (br l ++ w))) (l, ofL w) := by
  refine ev_bind0 (takeR _ [123]) ?_
  rw [show br l ++ w = [123] ++ (sp false l ++ 125 :: w) by simp [br], wd_app]
  exact partsR_text l [] w hr (by simpa using hl)
end Go.Proofs.Ytgfbgfbnmiainaa.Txt
/-! FamilyTexts, the plain laws: the texts of a family, and the families of a text. (Its first part as in FamTell.) -/
namespace Go.Proofs.Ytgfbgfbnmiainaa.Fam
set_option linter.unusedVariables false
set_option linter.unusedSimpArgs false
open Go.RowKit Go.Proofs.YtgfbgfbnmiainaaW.PrintWords Go.Proofs.YtgfbgfbnmiainaaW.PrintLast Go.Proofs.YtgfbgfbnmiainaaW.PrintMore Go.Proofs.Ytgfbgfbnmiainaa.Q
open Go.Proofs.Ytgfbgfbnmiainaa.Pure (By L L_ofL L_inj size_ofL ev_pos ev_neg ev_now ev_const ev_bind0 toList_L)
open Go.Proofs.Ytgfbgfbnmiainaa.Txt (br dg br_len dg_len brF_ev brR_ev digF_ev digR_ev ofL_app wd wd_app num num_dg nd)
set_option maxRecDepth 100000
/-- Lists that are not too long. -/
def Sh (f : S37) : Prop := f.f0.length ≤ 1000 ∧ f.f1.length ≤ 1000
theorem open_t {f : S37} (h : Sh f) {k : Nat} (hk : 1000 < k) : family_open.f k f.f0 f.f1 f.f2 f.f3 = some ((opn f).f0, (opn f).f1, (opn f).f2, (opn f).f3, vl f) := by
  have h := openF_eq h.1 h.2 hk
  unfold openF at h
  rw [Option.map_eq_some_iff] at h
  obtain ⟨⟨r1, r2, r3, r4, r5⟩, hr, he⟩ := h
  injection he with e1 e2
  rw [hr, ← e1, ← e2]
theorem norm_t {s : S59} (hs : Ws s) {k : Nat} (hk : 8 ≤ k) : family_span_normal.f k s.f0 s.f1 s.f2 s.f3 = some ((outF (nrm s)).1.f0, (outF (nrm s)).1.f1, (outF (nrm s)).1.f2, (outF (nrm s)).1.f3, (outF (nrm s)).2) := by
  have h := putN_eq hs hk
  unfold putN at h
  rw [Option.map_eq_some_iff] at h
  obtain ⟨⟨r1, r2, r3, r4, r5⟩, hr, he⟩ := h
  rw [hr, ← he]
def z37' : S37 := ⟨[], [], 0, 0⟩
/-- What comes out of a family that is valid, or not, and of its normal form. -/
def outN (b : Bool) (o : Option S59) : S37 × Int := if b = true then (match o with | some t => (clo t, 0) | none => (z37', 60)) else (z37', 2)
theorem ws_opn {f : S37} (h : vl f = true) : Ws (opn f) := (opn_rg h).wf
theorem normalR_t {f : S37} (h : Sh f) {k : Nat} (hk : 1000 < k) : manystrandref07_Normal.f k f.f0 f.f1 f.f2 f.f3 = some ((outN (vl f) (nrm (opn f))).1.f0, (outN (vl f) (nrm (opn f))).1.f1, (outN (vl f) (nrm (opn f))).1.f2, (outN (vl f) (nrm (opn f))).1.f3, (outN (vl f) (nrm (opn f))).2) := by
  unfold manystrandref07_Normal.f
  rw [validR_f h.1 h.2 hk, Option.bind_some]
  by_cases hv : vl f = true
  · simp only [hv, if_true]
    rw [inR_f h.1 h.2 hv hk, Option.bind_some]
    have e : NR ⟨(opn f).f0, (opn f).f1, (opn f).f2, (opn f).f3, false⟩ = outR (nrm (opn f)) := NR_good rfl
    have hr := normR ⟨(opn f).f0, (opn f).f1, (opn f).f2, (opn f).f3, false⟩ (ws_opn hv) (k := k) (by omega)
    rw [e] at hr
    cases hn : nrm (opn f) with
    | none =>
      rw [hn] at hr
      have hr' : manystrandref07_normal.f k (opn f).f0 (opn f).f1 (opn f).f2 (opn f).f3 false = some (0, 0, 0, 0, true) := hr
      rw [hr']
      rfl
    | some t =>
      have hw := ((nrm_spec (ws_opn hv)).1 t hn).1.wf
      rw [hn] at hr
      have hr' : manystrandref07_normal.f k (opn f).f0 (opn f).f1 (opn f).f2 (opn f).f3 false = some (t.f0, t.f1, t.f2, t.f3, false) := hr
      rw [hr', Option.bind_some]
      simp only [Bool.false_eq_true, if_false, outN, if_true]
      rw [outR_f hw false (by omega)]
      rfl
  · simp only [if_neg hv, outN]
    rfl

abbrev B (l : By) : ByteArray := Go.Proofs.Ytgfbgfbnmiainaa.Pure.ofL l
/-- A normal family. -/
noncomputable def isN (f : S37) : Bool := vl f && (match nrm (opn f) with | some t => eqs t (opn f) | none => false)
def txt (f : S37) : By := br f.f0 ++ ([32, 46, 46, 32] ++ (br f.f1 ++ ([32, 35, 32] ++ (dg f.f2 ++ ([32, 46, 46, 32] ++ dg f.f3)))))
noncomputable def textOut (f : S37) : ByteArray × Int := if isN f = true then (B (txt f), 0) else (⟨#[]⟩, 2)
theorem isN_vl {f : S37} (h : isN f = true) : vl f = true := (Bool.and_eq_true_iff.mp h).1
theorem rngs {f : S37} (hv : vl f = true) : (∀ x ∈ f.f0, 0 ≤ x ∧ x ≤ 99) ∧ (∀ x ∈ f.f1, 0 ≤ x ∧ x ≤ 99) ∧ (0 ≤ f.f2 ∧ f.f2 ≤ 99) ∧ (0 ≤ f.f3 ∧ f.f3 ≤ 99) := by
  obtain ⟨c0, c1, a0, a1, b0, b1⟩ := vl_facts hv
  exact ⟨fun x hx => by have := chk_rng none _ c0 x hx; omega, fun x hx => by have := chk_rng none _ c1 x hx; omega, by omega, by omega⟩
theorem lens {f : S37} (hv : vl f = true) : f.f0.length ≤ 64 ∧ f.f1.length ≤ 64 := by
  obtain ⟨c0, c1, _⟩ := vl_facts hv
  have h0 := card_ofL c0
  have h1 := card_ofL c1
  have := card_le (ofL f.f0)
  have := card_le (ofL f.f1)
  omega
theorem sh_vl {f : S37} (hv : vl f = true) : Sh f := ⟨by have := lens hv; omega, by have := lens hv; omega⟩
theorem textF_j {f : S37} (hv : vl f = true) : Ev (fun k => family_Text.j0 k false f.f0 f.f1 f.f2 f.f3) (B (txt f), 0) := by
  obtain ⟨r0, r1, r2, r3⟩ := rngs hv
  obtain ⟨l0, l1⟩ := lens hv
  have h0 := br_len f.f0
  have h1 := br_len f.f1
  have h2 := dg_len f.f2
  have h3 := dg_len f.f3
  refine Ev.step (f := ?f) (fun k => by rw [family_Text.j0, if_neg Bool.false_ne_true]) ?_
  refine (brF_ev (by omega) r0).bind (ev_pos (by rw [size_ofL]; omega) ?_)
  refine (brF_ev (by omega) r1).bind ?_
  rw [show (⟨#[32, 46, 46, 32]⟩ : ByteArray) = B [32, 46, 46, 32] from rfl, show (⟨#[32, 35, 32]⟩ : ByteArray) = B [32, 35, 32] from rfl, ofL_app, ofL_app, ofL_app]
  refine ev_pos (by rw [size_ofL, size_ofL]; simp only [List.length_append, List.length_cons, List.length_nil]; omega) (ev_pos (by rw [size_ofL]; simp only [List.length_append, List.length_cons, List.length_nil]; omega) ?_)
  refine (digF_ev r2.1 r2.2).bind ?_
  rw [ofL_app, ofL_app]
  refine ev_pos (by rw [size_ofL, size_ofL]; simp only [List.length_append, List.length_cons, List.length_nil]; omega) (ev_pos (by rw [size_ofL]; simp only [List.length_append, List.length_cons, List.length_nil]; omega) ?_)
  refine (digF_ev r3.1 r3.2).bind ?_
  rw [ofL_app]
  refine ev_pos (by rw [size_ofL, size_ofL]; simp only [List.length_append, List.length_cons, List.length_nil]; omega) (ev_now ?_)
  simp only [txt, List.append_assoc]
theorem textR_j {f : S37} (hv : vl f = true) : Ev (fun k => manystrandref07_Text.j0 k false f.f0 f.f1 f.f2 f.f3) (B (txt f), 0) := by
  obtain ⟨r0, r1, r2, r3⟩ := rngs hv
  obtain ⟨l0, l1⟩ := lens hv
  have h0 := br_len f.f0
  have h1 := br_len f.f1
  have h2 := dg_len f.f2
  have h3 := dg_len f.f3
  refine Ev.step (f := ?f) (fun k => by rw [manystrandref07_Text.j0, if_neg Bool.false_ne_true]) ?_
  refine (brR_ev (by omega) r0).bind (ev_pos (by rw [size_ofL]; omega) ?_)
  refine (brR_ev (by omega) r1).bind ?_
  rw [show (⟨#[32, 46, 46, 32]⟩ : ByteArray) = B [32, 46, 46, 32] from rfl, show (⟨#[32, 35, 32]⟩ : ByteArray) = B [32, 35, 32] from rfl, ofL_app, ofL_app, ofL_app]
  refine ev_pos (by rw [size_ofL, size_ofL]; simp only [List.length_append, List.length_cons, List.length_nil]; omega) (ev_pos (by rw [size_ofL]; simp only [List.length_append, List.length_cons, List.length_nil]; omega) ?_)
  refine (digR_ev r2.1 r2.2).bind ?_
  rw [ofL_app, ofL_app]
  refine ev_pos (by rw [size_ofL, size_ofL]; simp only [List.length_append, List.length_cons, List.length_nil]; omega) (ev_pos (by rw [size_ofL]; simp only [List.length_append, List.length_cons, List.length_nil]; omega) ?_)
  refine (digR_ev r3.1 r3.2).bind ?_
  rw [ofL_app]
  refine ev_pos (by rw [size_ofL, size_ofL]; simp only [List.length_append, List.length_cons, List.length_nil]; omega) (ev_now ?_)
  simp only [txt, List.append_assoc]
theorem textF_no (f : S37) : Ev (fun k => family_Text.j0 k true f.f0 f.f1 f.f2 f.f3) (⟨#[]⟩, 2) := Ev.step (f := fun _ => some (⟨#[]⟩, 2)) (fun k => rfl) (Ev.now _)
theorem textR_no (f : S37) : Ev (fun k => manystrandref07_Text.j0 k true f.f0 f.f1 f.f2 f.f3) (⟨#[]⟩, 2) := Ev.step (f := fun _ => some (⟨#[]⟩, 2)) (fun k => rfl) (Ev.now _)
theorem isN_some {f : S37} {t : S59} (hv : vl f = true) (hn : nrm (opn f) = some t) : isN f = eqs t (opn f) := by
  unfold isN; rw [hv, hn]; rfl
theorem isN_none {f : S37} (hn : nrm (opn f) = none) : isN f = false := by
  unfold isN; rw [hn, Bool.and_false]
theorem isN_nv {f : S37} (hv : vl f = false) : isN f = false := by
  unfold isN; rw [hv, Bool.false_and]
theorem textF_ev {f : S37} (h : Sh f) : Ev (fun k => family_Text.f k f.f0 f.f1 f.f2 f.f3) (textOut f) := by
  have ho : Ev (fun k => family_open.f k f.f0 f.f1 f.f2 f.f3) ((opn f).f0, (opn f).f1, (opn f).f2, (opn f).f3, vl f) := ⟨1001, fun k hk => open_t h (by omega)⟩
  refine ho.bind ?_
  cases hv : vl f
  · refine ev_neg Bool.false_ne_true (ev_now ?_)
    unfold textOut
    rw [isN_nv hv, if_neg Bool.false_ne_true]
  · have hw := ws_opn hv
    have hn8 : Ev (fun k => family_span_normal.f k (opn f).f0 (opn f).f1 (opn f).f2 (opn f).f3) ((outF (nrm (opn f))).1.f0, (outF (nrm (opn f))).1.f1, (outF (nrm (opn f))).1.f2, (outF (nrm (opn f))).1.f3, (outF (nrm (opn f))).2) := ⟨8, fun k hk => norm_t hw hk⟩
    refine ev_pos rfl (hn8.bind ?_)
    cases hn : nrm (opn f) with
    | none =>
      refine ev_neg Bool.false_ne_true ?_
      unfold textOut
      rw [isN_none hn, if_neg Bool.false_ne_true]
      exact textF_no f
    | some t =>
      refine ev_pos rfl ?_
      have e : (!(t.f0 == (opn f).f0) || (!(t.f1 == (opn f).f1) || (!(t.f2 == (opn f).f2) || (!(t.f3 == (opn f).f3))))) = !eqs t (opn f) := by
        simp only [eqs, Bool.not_and]
      show Ev (fun k => family_Text.j0 k (!(t.f0 == (opn f).f0) || (!(t.f1 == (opn f).f1) || (!(t.f2 == (opn f).f2) || (!(t.f3 == (opn f).f3))))) f.f0 f.f1 f.f2 f.f3) (textOut f)
      rw [e]
      unfold textOut
      rw [isN_some hv hn]
      cases eqs t (opn f)
      · exact textF_no f
      · exact textF_j hv
theorem sameR_t {a b : S37} (ha : vl a = true) (hb : vl b = true) {k : Nat} (hk : 1000 < k) : manystrandref07_Same.f k a.f0 a.f1 a.f2 a.f3 b.f0 b.f1 b.f2 b.f3 = some (eqs (opn a) (opn b)) := by
  obtain ⟨a0, a1, _⟩ := vl_facts ha
  obtain ⟨b0, b1, _⟩ := vl_facts hb
  have la := sh_vl ha
  have lb := sh_vl hb
  unfold manystrandref07_Same.f
  rw [validR_f la.1 la.2 hk, Option.bind_some, ha, if_pos rfl, validR_f lb.1 lb.2 hk, Option.bind_some, hb, if_pos rfl, of_f la.1 a0 hk, Option.bind_some, of_f lb.1 b0 hk, Option.bind_some, opn_eq ha, opn_eq hb]
  unfold eqs
  by_cases h0 : ofL a.f0 = ofL b.f0
  · rw [if_pos h0, of_f la.2 a1 hk, Option.bind_some, of_f lb.2 b1 hk, Option.bind_some, beq_iff_eq.mpr h0, Bool.true_and]
    by_cases h1 : ofL a.f1 = ofL b.f1
    · rw [if_pos h1, beq_iff_eq.mpr h1, Bool.true_and]
      by_cases h2 : a.f2 = b.f2
      · rw [if_pos h2, beq_iff_eq.mpr h2, Bool.true_and]
      · rw [if_neg h2, beq_eq_false_iff_ne.mpr h2, Bool.false_and]
    · rw [if_neg h1, beq_eq_false_iff_ne.mpr h1, Bool.false_and]
  · rw [if_neg h0, beq_eq_false_iff_ne.mpr h0, Bool.false_and]
theorem textR_ev {f : S37} (h : Sh f) : Ev (fun k => manystrandref07_Text.f k f.f0 f.f1 f.f2 f.f3) (textOut f) := by
  have ho : Ev (fun k => manystrandref07_Normal.f k f.f0 f.f1 f.f2 f.f3) ((outN (vl f) (nrm (opn f))).1.f0, (outN (vl f) (nrm (opn f))).1.f1, (outN (vl f) (nrm (opn f))).1.f2, (outN (vl f) (nrm (opn f))).1.f3, (outN (vl f) (nrm (opn f))).2) := ⟨1001, fun k hk => normalR_t h (by omega)⟩
  refine ho.bind ?_
  cases hv : vl f
  · refine ev_neg (by decide : ¬ (2 : Int) = 0) ?_
    unfold textOut
    rw [isN_nv hv, if_neg Bool.false_ne_true]
    exact textR_no f
  · have hw := ws_opn hv
    cases hn : nrm (opn f) with
    | none =>
      refine ev_neg (by decide : ¬ (60 : Int) = 0) ?_
      unfold textOut
      rw [isN_none hn, if_neg Bool.false_ne_true]
      exact textR_no f
    | some t =>
      have hN := ((nrm_spec hw).1 t hn).1
      have hs : Ev (fun k => manystrandref07_Same.f k (clo t).f0 (clo t).f1 (clo t).f2 (clo t).f3 f.f0 f.f1 f.f2 f.f3) (eqs t (opn f)) := ⟨1001, fun k hk => (sameR_t (vl_clo hN.rg) hv (by omega)).trans (by rw [opn_clo hN.rg])⟩
      refine ev_pos (c := (0 : Int) = 0) rfl (hs.bind ?_)
      unfold textOut
      rw [isN_some hv hn]
      cases eqs t (opn f)
      · exact textR_no f
      · exact textR_j hv
theorem ev_uniq {α : Type} {g : Nat → Option α} {a b : α} (h : Ev g a) (k : Ev g b) : a = b := by
  obtain ⟨K, h⟩ := h
  obtain ⟨K', k⟩ := k
  exact Option.some.inj ((h (max K K') (by omega)).symm.trans (k (max K K') (by omega)))
theorem B_inj {a b : By} (h : B a = B b) : a = b := by
  have := congrArg L h
  rwa [L_ofL, L_ofL] at this
theorem txt_len {f : S37} (hv : vl f = true) : (txt f).length ≤ 1000 := by
  obtain ⟨l0, l1⟩ := lens hv
  have h0 := br_len f.f0
  have h1 := br_len f.f1
  have h2 := dg_len f.f2
  have h3 := dg_len f.f3
  simp only [txt, List.length_append, List.length_cons, List.length_nil]
  omega
theorem nd_32 (w : By) : nd (32 :: w) := (by decide : Go.Proofs.Ytgfbgfbnmiainaa.Txt.dgt 32 = false)
/-- What the reference makes of a text. -/
noncomputable def pOut (f : S37) (t : By) : S37 × Int := if isN f = true ∧ txt f = t then (f, 0) else (z37', 3)
theorem parse_end (f : S37) (t : By) : Ev (fun _ => if (textOut f).2 = 0 then (if (textOut f).1.toList = (B t).toList then some (f.f0, f.f1, f.f2, f.f3, (0 : Int)) else some (([] : List Int), ([] : List Int), 0, 0, 3)) else some (([] : List Int), ([] : List Int), 0, 0, 3))
    ((pOut f t).1.f0, (pOut f t).1.f1, (pOut f t).1.f2, (pOut f t).1.f3, (pOut f t).2) := by
  by_cases hn : isN f = true
  · have e : textOut f = (B (txt f), 0) := by unfold textOut; rw [if_pos hn]
    rw [e]
    refine ev_pos (c := (0 : Int) = 0) rfl ?_
    by_cases ht : txt f = t
    · refine ev_pos (by rw [ht]) (ev_now ?_)
      unfold pOut
      rw [if_pos ⟨hn, ht⟩]
    · refine ev_neg (fun h => ht (by rwa [toList_L, toList_L, L_ofL, L_ofL] at h)) (ev_now ?_)
      unfold pOut
      rw [if_neg (fun h => ht h.2)]
      rfl
  · have e : textOut f = (⟨#[]⟩, 2) := by unfold textOut; rw [if_neg hn]
    rw [e]
    refine ev_neg (by decide : ¬ (2 : Int) = 0) (ev_now ?_)
    unfold pOut
    rw [if_neg (fun h => hn h.1)]
    rfl
theorem parseR (t : By) : ∃ f : S37, (∀ f0, isN f0 = true → txt f0 = t → f = f0) ∧ Sh f ∧
    Ev (fun k => manystrandref07_Parse.f k (B t)) ((pOut f t).1.f0, (pOut f t).1.f1, (pOut f t).1.f2, (pOut f t).1.f3, (pOut f t).2) := by
  obtain ⟨a, t1, h1, la⟩ := Go.Proofs.Ytgfbgfbnmiainaa.Txt.partsR t
  obtain ⟨b, t3, h3, lb⟩ := Go.Proofs.Ytgfbgfbnmiainaa.Txt.partsR (wd [32, 46, 46, 32] t1).2
  have h5 := Go.Proofs.Ytgfbgfbnmiainaa.Txt.numR (wd [32, 35, 32] t3).2
  have h7 := Go.Proofs.Ytgfbgfbnmiainaa.Txt.numR (wd [32, 46, 46, 32] (num 3 0 (wd [32, 35, 32] t3).2).2).2
  have hs : Sh ⟨a, b, (num 3 0 (wd [32, 35, 32] t3).2).1, (num 3 0 (wd [32, 46, 46, 32] (num 3 0 (wd [32, 35, 32] t3).2).2).2).1⟩ := ⟨by simp only; omega, by simp only; omega⟩
  refine ⟨⟨a, b, (num 3 0 (wd [32, 35, 32] t3).2).1, (num 3 0 (wd [32, 46, 46, 32] (num 3 0 (wd [32, 35, 32] t3).2).2).2).1⟩, ?_, hs, ?_⟩
  · rintro f0 hn rfl
    have hv := isN_vl hn
    obtain ⟨r0, r1, r2, r3⟩ := rngs hv
    obtain ⟨l0, l1⟩ := lens hv
    have e1 := ev_uniq h1 (Go.Proofs.Ytgfbgfbnmiainaa.Txt.partsR_br r0 l0 _)
    injection e1 with ea et
    obtain rfl := B_inj et
    subst ea
    rw [wd_app] at h3
    have e3 := ev_uniq h3 (Go.Proofs.Ytgfbgfbnmiainaa.Txt.partsR_br r1 l1 _)
    injection e3 with eb et
    obtain rfl := B_inj et
    subst eb
    have e5 : num 3 0 (dg f0.f2 ++ ([32, 46, 46, 32] ++ dg f0.f3)) = (f0.f2, [32, 46, 46, 32] ++ dg f0.f3) := num_dg r2.1 r2.2 (nd_32 _)
    have e7 : num 3 0 (dg f0.f3) = (f0.f3, []) := by
      have := num_dg r3.1 r3.2 (w := []) trivial
      rwa [List.append_nil] at this
    simp only [wd_app, e5, e7]
  · have hT := textR_ev hs
    refine h1.bind (ev_bind0 (Go.Proofs.Ytgfbgfbnmiainaa.Txt.takeR _ [32, 46, 46, 32]) (h3.bind (ev_bind0 (Go.Proofs.Ytgfbgfbnmiainaa.Txt.takeR _ [32, 35, 32]) (h5.bind (ev_bind0 (Go.Proofs.Ytgfbgfbnmiainaa.Txt.takeR _ [32, 46, 46, 32]) (h7.bind (hT.bind ?_)))))))
    exact parse_end _ t
/-- What the program's reader makes of a text: the parts, and what is left. -/
structure Scan (t : By) (f : S37) (s1 s3 s5 s7 : By) (b1 b3 : Bool) : Prop where
  h1 : Ev (fun k => family_scan_list.f k (B t) false) (f.f0, B s1, b1)
  h3 : Ev (fun k => family_scan_list.f k (B (wd [32, 46, 46, 32] s1).2) (b1 || !(wd [32, 46, 46, 32] s1).1)) (f.f1, B s3, b3)
  h5 : Ev (fun k => family_scan_number.f k (B (wd [32, 35, 32] s3).2) (b3 || !(wd [32, 35, 32] s3).1)) (f.f2, B s5, (b3 || !(wd [32, 35, 32] s3).1) || decide (s5.length = (wd [32, 35, 32] s3).2.length))
  h7 : Ev (fun k => family_scan_number.f k (B (wd [32, 46, 46, 32] s5).2) (((b3 || !(wd [32, 35, 32] s3).1) || decide (s5.length = (wd [32, 35, 32] s3).2.length)) || !(wd [32, 46, 46, 32] s5).1)) (f.f3, B s7, ((((b3 || !(wd [32, 35, 32] s3).1) || decide (s5.length = (wd [32, 35, 32] s3).2.length)) || !(wd [32, 46, 46, 32] s5).1)) || decide (s7.length = (wd [32, 46, 46, 32] s5).2.length))
/-- The mark at the end: bad. -/
def badE (s3 s5 s7 : By) (b3 : Bool) : Bool := ((((b3 || !(wd [32, 35, 32] s3).1) || decide (s5.length = (wd [32, 35, 32] s3).2.length)) || !(wd [32, 46, 46, 32] s5).1)) || decide (s7.length = (wd [32, 46, 46, 32] s5).2.length)
theorem scanF {t : By} (ht : t.length ≤ 2000) : ∃ (f : S37) (s1 s3 s5 s7 : By) (b1 b3 : Bool), Scan t f s1 s3 s5 s7 b1 b3 ∧
    (badE s3 s5 s7 b3 = false → Sh f) ∧ (∀ f0, isN f0 = true → txt f0 = t → f = f0 ∧ badE s3 s5 s7 b3 = false ∧ s7 = []) := by
  obtain ⟨a, s1, b1, h1, k1, g1⟩ := Go.Proofs.Ytgfbgfbnmiainaa.Txt.scanF_tot (t := t) (by omega) false
  have w1 := Go.Proofs.Ytgfbgfbnmiainaa.Txt.wd_len [32, 46, 46, 32] s1
  obtain ⟨b, s3, b3, h3, k3, g3⟩ := Go.Proofs.Ytgfbgfbnmiainaa.Txt.scanF_tot (t := (wd [32, 46, 46, 32] s1).2) (by omega) (b1 || !(wd [32, 46, 46, 32] s1).1)
  have w3 := Go.Proofs.Ytgfbgfbnmiainaa.Txt.wd_len [32, 35, 32] s3
  have h5 := Go.Proofs.Ytgfbgfbnmiainaa.Txt.numF (t := (wd [32, 35, 32] s3).2) (by omega) (b3 || !(wd [32, 35, 32] s3).1)
  have k5 := Go.Proofs.Ytgfbgfbnmiainaa.Txt.num_len 3 0 (wd [32, 35, 32] s3).2
  have w5 := Go.Proofs.Ytgfbgfbnmiainaa.Txt.wd_len [32, 46, 46, 32] (num 3 0 (wd [32, 35, 32] s3).2).2
  have h7 := Go.Proofs.Ytgfbgfbnmiainaa.Txt.numF (t := (wd [32, 46, 46, 32] (num 3 0 (wd [32, 35, 32] s3).2).2).2) (by omega) (((b3 || !(wd [32, 35, 32] s3).1) || decide ((num 3 0 (wd [32, 35, 32] s3).2).2.length = (wd [32, 35, 32] s3).2.length)) || !(wd [32, 46, 46, 32] (num 3 0 (wd [32, 35, 32] s3).2).2).1)
  refine ⟨⟨a, b, (num 3 0 (wd [32, 35, 32] s3).2).1, (num 3 0 (wd [32, 46, 46, 32] (num 3 0 (wd [32, 35, 32] s3).2).2).2).1⟩, s1, s3, (num 3 0 (wd [32, 35, 32] s3).2).2, (num 3 0 (wd [32, 46, 46, 32] (num 3 0 (wd [32, 35, 32] s3).2).2).2).2, b1, b3, ⟨h1, h3, h5, h7⟩, ?_, ?_⟩
  · intro hb
    have hb3 : b3 = false := by
      cases b3
      · rfl
      · simp [badE] at hb
    obtain ⟨hb1, l3⟩ := g3 hb3
    have hb1' : b1 = false := by
      cases b1
      · rfl
      · simp at hb1
    obtain ⟨_, l1⟩ := g1 hb1'
    exact ⟨by simp only; omega, by simp only; omega⟩
  · rintro f0 hn rfl
    have hv := isN_vl hn
    obtain ⟨r0, r1, r2, r3⟩ := rngs hv
    obtain ⟨l0, l1⟩ := lens hv
    have e1 := ev_uniq h1 (Go.Proofs.Ytgfbgfbnmiainaa.Txt.scanF_text r0 (by omega) (by have := txt_len hv; simp only [txt, List.length_append] at this ⊢; omega))
    injection e1 with ea e1
    injection e1 with et eb1
    obtain rfl := B_inj et
    subst ea
    subst eb1
    rw [wd_app] at h3
    have e3 := ev_uniq h3 (Go.Proofs.Ytgfbgfbnmiainaa.Txt.scanF_text r1 (by omega) (by have := txt_len hv; simp only [txt, List.length_append] at this ⊢; omega))
    injection e3 with eb e3
    injection e3 with et eb3
    obtain rfl := B_inj et
    subst eb
    subst eb3
    have e5 : num 3 0 (dg f0.f2 ++ ([32, 46, 46, 32] ++ dg f0.f3)) = (f0.f2, [32, 46, 46, 32] ++ dg f0.f3) := num_dg r2.1 r2.2 (nd_32 _)
    have e7 : num 3 0 (dg f0.f3) = (f0.f3, []) := by
      have := num_dg r3.1 r3.2 (w := []) trivial
      rwa [List.append_nil] at this
    have d2 := dg_len f0.f2
    have d3 := dg_len f0.f3
    unfold badE
    simp only [wd_app, e5, e7, Bool.not_true, Bool.or_false, Bool.false_or, List.length_nil]
    refine ⟨trivial, ?_, trivial⟩
    rw [Bool.or_eq_false_iff]
    exact ⟨decide_eq_false (by simp only [List.length_append, List.length_cons, List.length_nil]; omega), decide_eq_false (by omega)⟩
/-- What the program makes of a text is the same. -/
theorem same_out {t : By} {f g : S37} {s3 s5 s7 : By} {b3 : Bool} (hf : ∀ f0, isN f0 = true → txt f0 = t → f = f0 ∧ badE s3 s5 s7 b3 = false ∧ s7 = []) (hg : ∀ f0, isN f0 = true → txt f0 = t → g = f0) :
    pOut g t = if badE s3 s5 s7 b3 = false ∧ s7 = [] then pOut f t else (z37', 3) := by
  unfold pOut
  by_cases h : isN g = true ∧ txt g = t
  · obtain ⟨e, h1, h2⟩ := hf g h.1 h.2
    rw [if_pos h, if_pos ⟨h1, h2⟩, e, if_pos h]
  · rw [if_neg h]
    by_cases k : isN f = true ∧ txt f = t
    · exact absurd (hg f k.1 k.2 ▸ k) h
    · rw [if_neg k]
      split <;> rfl
end Go.Proofs.Ytgfbgfbnmiainaa.Fam
/-! A region that draws its order, whose operations only read and whose callees leave everything that was there: one walk of the order of the text, in every world that bears what was there. -/
namespace Go.Proofs.Ytgfbgfbnmiainaa.RegCl
set_option linter.unusedVariables false
set_option linter.unusedSimpArgs false
open Go.RowKit Go.Proofs.YtgfbgfbnmiainaaW.PrintWords
/-- A world that bears all that w bears. -/
structure Cl (w : World) where
  v : World
  b : Below w.heap.size w v
instance (w : World) : Nonempty (Cl w) := ⟨⟨w, Below.refl _ _⟩⟩
theorem wp_region_cl {P : Program} {id : Nat} {Q : Exit → Act → World → Prop} {a : Act} {w : World} {l : List Oper} (hm : P.follows .mixedOrders = true) (hB : Region.lexB .any l.toArray = true)
    (h : wpQuiet P l.toArray (fun w' => ∃ x : Cl w, w' = x.v) (fun a' => ∀ x : Cl w, Q .normal a' x.v) l a) : (Code.region id l.toArray true).wp P Q a w :=
  wp_region_quiet (C := fun w' => ∃ x : Cl w, w' = x.v) hm hB ⟨⟨w.drew, below_drew (Below.refl _ _)⟩, rfl⟩ (by
    have h' : (fun a' => ∀ w', (∃ x : Cl w, w' = x.v) → Q .normal a' w') = (fun a' => ∀ x : Cl w, Q .normal a' x.v) := by
      funext a'
      exact propext ⟨fun h x => h _ ⟨x, rfl⟩, fun h w' ⟨x, hx⟩ => hx ▸ h x⟩
    rw [h']
    simpa using h)
end Go.Proofs.Ytgfbgfbnmiainaa.RegCl
/-! FamilyTexts: the program's Parse, walked. -/
namespace Go.Proofs.Ytgfbgfbnmiainaa.Fam
set_option linter.unusedVariables false
set_option linter.unusedSimpArgs false
open Go.RowKit Go.Proofs.YtgfbgfbnmiainaaW.PrintWords Go.Proofs.YtgfbgfbnmiainaaW.PrintLast Go.Proofs.YtgfbgfbnmiainaaW.PrintMore Go.Proofs.Ytgfbgfbnmiainaa.Q
open Go.Proofs.Ytgfbgfbnmiainaa.Pure (By L L_ofL L_inj size_ofL ev_pos ev_neg ev_now ev_const ev_bind0 toList_L)
open Go.Proofs.Ytgfbgfbnmiainaa.Txt (br dg br_len dg_len brF_ev brR_ev digF_ev digR_ev ofL_app wd wd_app num num_dg nd)
attribute [local go_sem] Go.Proofs.YtgfbgfbnmiainaaW.OwnWords.isSome_setCell max2_int min2_int
/-- A family's two lists lie there. -/
structure FC (w : World) (f : S37) (A : Option Addr) (a : Nat) (B : Option Addr) (b : Nat) : Prop where
  h0 : Kd.C (Kd.int .i64) w A f.f0.length f.f0
  l0 : f.f0.length ≤ a
  h1 : Kd.C (Kd.int .i64) w B f.f1.length f.f1
  l1 : f.f1.length ≤ b
theorem FC.below {w w' : World} {f : S37} {A : Option Addr} {a : Nat} {B : Option Addr} {b : Nat} (h : FC w f A a B b) (hb : Below w.heap.size w w') : FC w' f A a B b := ⟨Kd.C_below h.h0 hb, h.l0, Kd.C_below h.h1 hb, h.l1⟩
/-- What gives a family and a code. -/
def Gives (x : S37 × Int) (w : World) (e : Ending) (w' : World) : Prop := ∃ (A : Option Addr) (a : Nat) (B : Option Addr) (b : Nat), e = .returned (.tuple #[.agg #[.slice A x.1.f0.length a, .slice B x.1.f1.length b, .int .i64 x.1.f2, .int .i64 x.1.f3], .int .i64 x.2]) ∧ FC w' x.1 A a B b ∧ Below w.heap.size w w'
theorem gives_of {x : S37 × Int} {w w' : World} {e : Ending} {v0 v1 : Value} {o0 o1 : Nat → Prop} (he : e = .returned (.tuple #[.agg #[v0, v1, .int .i64 x.1.f2, .int .i64 x.1.f3], .int .i64 x.2])) (r0 : Kd.R (Kd.int .i64) 3 w' w.heap.size o0 v0 x.1.f0) (r1 : Kd.R (Kd.int .i64) 3 w' w.heap.size o1 v1 x.1.f1) (hb : Below w.heap.size w w') : Gives x w e w' := by
  obtain ⟨A, a, rfl, hl, hC⟩ := Kd.R_reads r0
  obtain ⟨B, b, rfl, hm, hD⟩ := Kd.R_reads r1
  exact ⟨A, a, B, b, he, ⟨hC, hl, hD, hm⟩, hb⟩
/-- What lies there while a text is read: the result, the reader, the family. -/
structure PF (w wx : World) (n2 n4 n5 : Nat) (s : ByteArray) (b : Bool) (v0 v1 : Value) (l0 l1 : List Int) (f2 f3 : Int) : Prop where
  hI : IsS85 w wx n4 s b
  hB : Below w.heap.size w wx
  z : wx.heap[n2]? = some (.cells #[.slice none 0 0, .slice none 0 0, .int .i64 0, .int .i64 0] 37 (0, 0))
  x : wx.heap[n5]? = some (.cells #[v0, v1, .int .i64 f2, .int .i64 f3] 37 (0, 0))
  r0 : Kd.R (Kd.int .i64) 3 wx w.heap.size (fun k => n5 < k) v0 l0
  r1 : Kd.R (Kd.int .i64) 3 wx w.heap.size (fun k => n5 < k) v1 l1
  e2 : w.heap.size ≤ n2
  e4 : n2 < n4
  e5 : n4 < n5
section
variable {w wx w1 : World} {n2 n4 n5 : Nat} {s s1 : ByteArray} {b b1 : Bool} {v0 v1 v : Value} {l0 l1 l : List Int} {f2 f3 g : Int}
theorem PF.call (h : PF w wx n2 n4 n5 s b v0 v1 l0 l1 f2 f3) (hI : IsS85 w w1 n4 s1 b1) (hB : Below w.heap.size w w1) (hk : KeepBut wx w1 n4 none) : PF w w1 n2 n4 n5 s1 b1 v0 v1 l0 l1 f2 f3 :=
  ⟨hI, hB, hk.blk h.z (by have := h.e4; omega) (by simp), hk.blk h.x (by have := h.e5; omega) (by simp), Kd.R_keep h.r0 hk (fun k hk => by have := h.e5; omega), Kd.R_keep h.r1 hk (fun k hk => by have := h.e5; omega), h.e2, h.e4, h.e5⟩
theorem PF.lt5 (h : PF w wx n2 n4 n5 s b v0 v1 l0 l1 f2 f3) : n5 < wx.heap.size := blk_lt h.x
theorem row_new (h : PF w wx n2 n4 n5 s b v0 v1 l0 l1 f2 f3) (hr : Kd.R (Kd.int .i64) 3 w1 wx.heap.size (fun _ => True) v l) : Kd.R (Kd.int .i64) 3 w1 w.heap.size (fun k => n5 < k) v l :=
  Kd.R_lower (Kd.R_mono (Kd.R_bound hr) (fun k hk => by have := h.lt5; have := hk.2.1; omega)) (below_size h.hB)
theorem PF.set0 (h : PF w wx n2 n4 n5 s b v0 v1 l0 l1 f2 f3) (hr : Kd.R (Kd.int .i64) 3 wx w.heap.size (fun k => n5 < k) v l) : PF w (wx.setCell ⟨n5, 0, none⟩ v) n2 n4 n5 s b v v1 l l1 f2 f3 :=
  ⟨⟨blk_far h.hI.1 (by have := h.e5; show n4 ≠ n5; omega) _, h.hI.2⟩, below_set h.hB (by have := h.e2; have := h.e4; have := h.e5; omega), blk_far h.z (by have := h.e4; have := h.e5; show n2 ≠ n5; omega) _, blk_put h.x 0 v rfl,
    Kd.R_far hr (fun k hk => by show k ≠ n5; omega) _, Kd.R_far h.r1 (fun k hk => by show k ≠ n5; omega) _, h.e2, h.e4, h.e5⟩
theorem PF.set1 (h : PF w wx n2 n4 n5 s b v0 v1 l0 l1 f2 f3) (hr : Kd.R (Kd.int .i64) 3 wx w.heap.size (fun k => n5 < k) v l) : PF w (wx.setCell ⟨n5, 1, none⟩ v) n2 n4 n5 s b v0 v l0 l f2 f3 :=
  ⟨⟨blk_far h.hI.1 (by have := h.e5; show n4 ≠ n5; omega) _, h.hI.2⟩, below_set h.hB (by have := h.e2; have := h.e4; have := h.e5; omega), blk_far h.z (by have := h.e4; have := h.e5; show n2 ≠ n5; omega) _, blk_put h.x 1 v rfl,
    Kd.R_far h.r0 (fun k hk => by show k ≠ n5; omega) _, Kd.R_far hr (fun k hk => by show k ≠ n5; omega) _, h.e2, h.e4, h.e5⟩
theorem PF.set2 (h : PF w wx n2 n4 n5 s b v0 v1 l0 l1 f2 f3) : PF w (wx.setCell ⟨n5, 2, none⟩ (.int .i64 g)) n2 n4 n5 s b v0 v1 l0 l1 g f3 :=
  ⟨⟨blk_far h.hI.1 (by have := h.e5; show n4 ≠ n5; omega) _, h.hI.2⟩, below_set h.hB (by have := h.e2; have := h.e4; have := h.e5; omega), blk_far h.z (by have := h.e4; have := h.e5; show n2 ≠ n5; omega) _, blk_put h.x 2 _ rfl,
    Kd.R_far h.r0 (fun k hk => by show k ≠ n5; omega) _, Kd.R_far h.r1 (fun k hk => by show k ≠ n5; omega) _, h.e2, h.e4, h.e5⟩
theorem PF.set3 (h : PF w wx n2 n4 n5 s b v0 v1 l0 l1 f2 f3) : PF w (wx.setCell ⟨n5, 3, none⟩ (.int .i64 g)) n2 n4 n5 s b v0 v1 l0 l1 f2 g :=
  ⟨⟨blk_far h.hI.1 (by have := h.e5; show n4 ≠ n5; omega) _, h.hI.2⟩, below_set h.hB (by have := h.e2; have := h.e4; have := h.e5; omega), blk_far h.z (by have := h.e4; have := h.e5; show n2 ≠ n5; omega) _, blk_put h.x 3 _ rfl,
    Kd.R_far h.r0 (fun k hk => by show k ≠ n5; omega) _, Kd.R_far h.r1 (fun k hk => by show k ≠ n5; omega) _, h.e2, h.e4, h.e5⟩
end
open Go.Proofs.YtgfbgfbnmiainaaW.OwnWords (bKq_ bSt_)
open Go.Proofs.YtgfbgfbnmiainaaW.OwnWords (bKq_ bSt_)
open Go.Proofs.YtgfbgfbnmiainaaW.OwnWords (bKq_ bSt_)
open Go.Proofs.YtgfbgfbnmiainaaW.OwnWords (bKq_ bSt_)
theorem blk_newT {w : World} {o : Obj} {n : Nat} (h : w.heap.size = n) : (w.alloc o).heap[n]? = some o := by subst h; exact blk_new w o
set_option maxHeartbeats 2000000 in
set_option maxRecDepth 100000 in
theorem parseF_walk {t : By} (w : World) {f : S37} {s1 s3 s5 s7 : By} {b1 b3 : Bool} (hS : Scan t f s1 s3 s5 s7 b1 b3) (hsh : badE s3 s5 s7 b3 = false → Sh f) {x : S37 × Int} (hx : x = if badE s3 s5 s7 b3 = false ∧ s7 = [] then pOut f t else (z37', 3)) :
    Calls Try.prog 32 #[.string (B t)] w (Gives x w) := by
  obtain ⟨k1, g1⟩ := hS.h1.rounds
  obtain ⟨k3, g3⟩ := hS.h3.rounds
  obtain ⟨k5, g5⟩ := hS.h5.rounds
  obtain ⟨k7, g7⟩ := hS.h7.rounds
  have G1 := Aside0.mk g1
  have G3 := Aside0.mk g3
  have G5 := Aside0.mk g5
  have G7 := Aside0.mk g7
  have HSH := Aside0.mk hsh
  have M1 := Aside0.mk (show family_scan_must.f (B s1) b1 ⟨#[32, 46, 46, 32]⟩ = _ from Go.Proofs.Ytgfbgfbnmiainaa.Txt.mustF s1 [32, 46, 46, 32] b1)
  have M3 := Aside0.mk (show family_scan_must.f (B s3) b3 ⟨#[32, 35, 32]⟩ = _ from Go.Proofs.Ytgfbgfbnmiainaa.Txt.mustF s3 [32, 35, 32] b3)
  obtain ⟨c5, hc5⟩ : ∃ c, ((b3 || !(wd [32, 35, 32] s3).1) || decide (s5.length = (wd [32, 35, 32] s3).2.length)) = c := ⟨_, rfl⟩
  have M5 := Aside0.mk (show family_scan_must.f (B s5) c5 ⟨#[32, 46, 46, 32]⟩ = _ from Go.Proofs.Ytgfbgfbnmiainaa.Txt.mustF s5 [32, 46, 46, 32] c5)
  obtain ⟨c7, hc7⟩ : ∃ c, ((c5 || !(wd [32, 46, 46, 32] s5).1) || decide (s7.length = (wd [32, 46, 46, 32] s5).2.length)) = c := ⟨_, rfl⟩
  rw [hc5] at G5
  rw [hc5, hc7] at G7
  have hbad : badE s3 s5 s7 b3 = c7 := by unfold badE; rw [hc5, hc7]
  rw [hbad] at HSH hx
  have HXX := Aside0.mk hx
  clear hx g1 g3 g5 g7 hsh hS hc5 hc7 hbad
  go_enter Try.func32, Try.ntmps32
  go_upto_region 2 with fail
  (try simp only [Act.put, List.setIfInBounds_toArray, List.set_cons_zero, List.set_cons_succ])
  go_cut [5] (fun v5 wx => v5 = .pointer (some ⟨w.heap.size + 1 + 1, 0, none⟩) ∧ Aside0 (PF w wx w.heap.size (w.heap.size + 1) (w.heap.size + 1 + 1) (B t) false (.slice none 0 0) (.slice none 0 0) [] [] 0 0))
  case first =>
    go_wp2
    go_meet
    case rel => exact ⟨rfl, ⟨⟨blk_alloc (blk_newT (w := w.alloc _) (n := w.heap.size + 1) (by simp)) _, by simp⟩, below_alloc (below_alloc (below_alloc (Below.refl _ _) _) _) _, blk_alloc (blk_alloc (blk_new w _) _) _, blk_newT (by simp), Kd.R_nil _ _ _ _ _, Kd.R_nil _ _ _ _ _, by simp, by simp, by simp⟩⟩
  case rest =>
    obtain ⟨rfl, HP0⟩ := hcut
    go_upto_region 3 with fail
    (try simp only [Act.put, List.setIfInBounds_toArray, List.set_cons_zero, List.set_cons_succ])
    go_cut [5] (fun v5 wx => v5 = .pointer (some ⟨(w.heap.size + 1 + 1), 0, none⟩) ∧ ∃ u0_ : Value, Aside0 (PF w wx w.heap.size (w.heap.size + 1) (w.heap.size + 1 + 1) (B s1) b1 u0_ (.slice none 0 0) f.f0 [] 0 0))
    case first => as_aux_lemma =>
      go_wp2_with (go_at_call 55; (refine (family_scan_list.calls k1 (w.heap.size + 1) (B t) false f.f0 (B s1) b1 w _ HP0.out.hI HP0.out.hB G1.out).mono ?_); rintro e w2 ⟨u, rfl, hr, hI, hB, hk⟩; obtain ⟨Ax, cx, rfl⟩ := Kd.R_slice hr; have P := Aside0.mk (HP0.out.call hI hB hk); have RR := Aside0.mk (row_new HP0.out hr); have y0 := (blk_cell P.out.x 0).trans rfl; have z0 := blk_frozen P.out.x 0; clear hr hI hB hk)
      go_meet
      case rel => exact ⟨rfl, _, ⟨P.out.set0 RR.out⟩⟩
    case rest =>
      obtain ⟨rfl, u0_, HP1⟩ := hcut
      clear HP0
      go_upto_region 4 with fail
      (try simp only [Act.put, List.setIfInBounds_toArray, List.set_cons_zero, List.set_cons_succ])
      go_cut [5] (fun v5 wx => v5 = .pointer (some ⟨(w.heap.size + 1 + 1), 0, none⟩) ∧ Aside0 (PF w wx w.heap.size (w.heap.size + 1) (w.heap.size + 1 + 1) (B (wd [32, 46, 46, 32] s1).2) (b1 || !(wd [32, 46, 46, 32] s1).1) u0_ (.slice none 0 0) f.f0 [] 0 0))
      case first => as_aux_lemma =>
        go_wp2_with (go_at_call 56; (refine (family_scan_must.calls (w.heap.size + 1) (B s1) b1 _ (B (wd [32, 46, 46, 32] s1).2) (b1 || !(wd [32, 46, 46, 32] s1).1) w _ HP1.out.hI HP1.out.hB M1.out).mono ?_); rintro e w2 ⟨rfl, hI, hB, hk⟩; have P := Aside0.mk (HP1.out.call hI hB hk); clear hI hB hk)
        go_meet
        case rel => exact ⟨rfl, P⟩
      case rest =>
        obtain ⟨rfl, HP2⟩ := hcut
        clear HP1
        go_upto_region 5 with fail
        (try simp only [Act.put, List.setIfInBounds_toArray, List.set_cons_zero, List.set_cons_succ])
        go_cut [5] (fun v5 wx => v5 = .pointer (some ⟨(w.heap.size + 1 + 1), 0, none⟩) ∧ ∃ u1_ : Value, Aside0 (PF w wx w.heap.size (w.heap.size + 1) (w.heap.size + 1 + 1) (B s3) b3 u0_ u1_ f.f0 f.f1 0 0))
        case first => as_aux_lemma =>
          go_wp2_with (go_at_call 55; (refine (family_scan_list.calls k3 (w.heap.size + 1) (B (wd [32, 46, 46, 32] s1).2) (b1 || !(wd [32, 46, 46, 32] s1).1) f.f1 (B s3) b3 w _ HP2.out.hI HP2.out.hB G3.out).mono ?_); rintro e w2 ⟨u, rfl, hr, hI, hB, hk⟩; obtain ⟨Ax, cx, rfl⟩ := Kd.R_slice hr; have P := Aside0.mk (HP2.out.call hI hB hk); have RR := Aside0.mk (row_new HP2.out hr); have y0 := (blk_cell P.out.x 1).trans rfl; have z0 := blk_frozen P.out.x 1; clear hr hI hB hk)
          go_meet
          case rel => exact ⟨rfl, _, ⟨P.out.set1 RR.out⟩⟩
        case rest =>
          obtain ⟨rfl, u1_, HP3⟩ := hcut
          clear HP2
          go_upto_region 6 with fail
          (try simp only [Act.put, List.setIfInBounds_toArray, List.set_cons_zero, List.set_cons_succ])
          go_cut [5] (fun v5 wx => v5 = .pointer (some ⟨(w.heap.size + 1 + 1), 0, none⟩) ∧ Aside0 (PF w wx w.heap.size (w.heap.size + 1) (w.heap.size + 1 + 1) (B (wd [32, 35, 32] s3).2) (b3 || !(wd [32, 35, 32] s3).1) u0_ u1_ f.f0 f.f1 0 0))
          case first => as_aux_lemma =>
            go_wp2_with (go_at_call 56; (refine (family_scan_must.calls (w.heap.size + 1) (B s3) b3 _ (B (wd [32, 35, 32] s3).2) (b3 || !(wd [32, 35, 32] s3).1) w _ HP3.out.hI HP3.out.hB M3.out).mono ?_); rintro e w2 ⟨rfl, hI, hB, hk⟩; have P := Aside0.mk (HP3.out.call hI hB hk); clear hI hB hk)
            go_meet
            case rel => exact ⟨rfl, P⟩
          case rest =>
            obtain ⟨rfl, HP4⟩ := hcut
            clear HP3
            go_upto_region 7 with fail
            (try simp only [Act.put, List.setIfInBounds_toArray, List.set_cons_zero, List.set_cons_succ])
            go_cut [5] (fun v5 wx => v5 = .pointer (some ⟨(w.heap.size + 1 + 1), 0, none⟩) ∧ Aside0 (PF w wx w.heap.size (w.heap.size + 1) (w.heap.size + 1 + 1) (B s5) c5 u0_ u1_ f.f0 f.f1 f.f2 0))
            case first => as_aux_lemma =>
              go_wp2_with (go_at_call 57; (refine (family_scan_number.calls k5 (w.heap.size + 1) (B (wd [32, 35, 32] s3).2) (b3 || !(wd [32, 35, 32] s3).1) f.f2 (B s5) c5 w _ HP4.out.hI HP4.out.hB G5.out).mono ?_); rintro e w2 ⟨rfl, hI, hB, hk⟩; have P := Aside0.mk (HP4.out.call hI hB hk); have y0 := (blk_cell P.out.x 2).trans rfl; have z0 := blk_frozen P.out.x 2; clear hI hB hk)
              go_meet
              case rel => exact ⟨rfl, ⟨P.out.set2⟩⟩
            case rest =>
              obtain ⟨rfl, HP5⟩ := hcut
              clear HP4
              go_upto_region 8 with fail
              (try simp only [Act.put, List.setIfInBounds_toArray, List.set_cons_zero, List.set_cons_succ])
              go_cut [5] (fun v5 wx => v5 = .pointer (some ⟨(w.heap.size + 1 + 1), 0, none⟩) ∧ Aside0 (PF w wx w.heap.size (w.heap.size + 1) (w.heap.size + 1 + 1) (B (wd [32, 46, 46, 32] s5).2) (c5 || !(wd [32, 46, 46, 32] s5).1) u0_ u1_ f.f0 f.f1 f.f2 0))
              case first => as_aux_lemma =>
                go_wp2_with (go_at_call 56; (refine (family_scan_must.calls (w.heap.size + 1) (B s5) c5 _ (B (wd [32, 46, 46, 32] s5).2) (c5 || !(wd [32, 46, 46, 32] s5).1) w _ HP5.out.hI HP5.out.hB M5.out).mono ?_); rintro e w2 ⟨rfl, hI, hB, hk⟩; have P := Aside0.mk (HP5.out.call hI hB hk); clear hI hB hk)
                go_meet
                case rel => exact ⟨rfl, P⟩
              case rest =>
                obtain ⟨rfl, HP6⟩ := hcut
                clear HP5
                go_upto_region 9 with fail
                (try simp only [Act.put, List.setIfInBounds_toArray, List.set_cons_zero, List.set_cons_succ])
                go_cut [5] (fun v5 wx => v5 = .pointer (some ⟨(w.heap.size + 1 + 1), 0, none⟩) ∧ Aside0 (PF w wx w.heap.size (w.heap.size + 1) (w.heap.size + 1 + 1) (B s7) c7 u0_ u1_ f.f0 f.f1 f.f2 f.f3))
                case first => as_aux_lemma =>
                  go_wp2_with (go_at_call 57; (refine (family_scan_number.calls k7 (w.heap.size + 1) (B (wd [32, 46, 46, 32] s5).2) (c5 || !(wd [32, 46, 46, 32] s5).1) f.f3 (B s7) c7 w _ HP6.out.hI HP6.out.hB G7.out).mono ?_); rintro e w2 ⟨rfl, hI, hB, hk⟩; have P := Aside0.mk (HP6.out.call hI hB hk); have y0 := (blk_cell P.out.x 3).trans rfl; have z0 := blk_frozen P.out.x 3; clear hI hB hk)
                  go_meet
                  case rel => exact ⟨rfl, ⟨P.out.set3⟩⟩
                case rest =>
                  obtain ⟨rfl, HP7⟩ := hcut
                  clear HP6
                  go_upto_region 10 with fail
                  (try simp only [Act.put, List.setIfInBounds_toArray, List.set_cons_zero, List.set_cons_succ])
                  have HBW := Aside0.mk HP7.out.hB
                  have GE2 := Aside0.mk (Nat.le_refl w.heap.size)
                  have i0 := (blk_cell HP7.out.hI.1 0).trans rfl
                  have i1 := (blk_cell HP7.out.hI.1 1).trans rfl
                  by_cases hbad : c7 = false ∧ s7 = []
                  rotate_left
                  · have HX := Aside0.mk (HXX.out.trans (if_neg hbad))
                    have z0 := (blk_cell HP7.out.z 0).trans rfl
                    have zf0 := blk_frozen HP7.out.z 0
                    have z1 := (blk_cell HP7.out.z 1).trans rfl
                    have zf1 := blk_frozen HP7.out.z 1
                    have z2 := (blk_cell HP7.out.z 2).trans rfl
                    have zf2 := blk_frozen HP7.out.z 2
                    have z3 := (blk_cell HP7.out.z 3).trans rfl
                    have zf3 := blk_frozen HP7.out.z 3
                    cases c7
                    rotate_left
                    · clear hbad
                      go_wp2
                      refine bodyPost_ret (results_ct rfl _ _ w.heap.size 37 #[.slice none 0 0, .slice none 0 0, .int .i64 0, .int .i64 0] (0, 0) _ rfl (bKq_ HP7.out.z) Try.underlying37 rfl (by kernel_rfl)) rfl ?_
                      rw [HX.out]
                      exact gives_of (x := (z37', 3)) (o0 := fun _ => True) (o1 := fun _ => True) rfl (Kd.R_nil _ _ _ _ _) (Kd.R_nil _ _ _ _ _) bSt_
                    have hs : s7 ≠ [] := fun e => hbad ⟨rfl, e⟩
                    have q0 : (B s7).toList ≠ [] := by rw [toList_L, L_ofL]; exact hs
                    have q1 : ((B s7).toList == []) = false := beq_eq_false_iff_ne.mpr q0
                    have q2 : ((B s7).toList != []) = true := bne_iff_ne.mpr q0
                    have q3 : (B s7).toList.isEmpty = false := by cases h : (B s7).toList with | nil => exact absurd h q0 | cons => rfl
                    clear hbad hs q0
                    go_wp2
                    refine bodyPost_ret (results_ct rfl _ _ w.heap.size 37 #[.slice none 0 0, .slice none 0 0, .int .i64 0, .int .i64 0] (0, 0) _ rfl (bKq_ HP7.out.z) Try.underlying37 rfl (by kernel_rfl)) rfl ?_
                    rw [HX.out]
                    exact gives_of (x := (z37', 3)) (o0 := fun _ => True) (o1 := fun _ => True) rfl (Kd.R_nil _ _ _ _ _) (Kd.R_nil _ _ _ _ _) bSt_
                  obtain ⟨rfl, rfl⟩ := hbad
                  have hsh := HSH.out rfl
                  have q0 : (B []).toList = [] := by rw [toList_L, L_ofL]
                  have q1 : ((B []).toList == []) = true := beq_iff_eq.mpr q0
                  have q2 : ((B []).toList != []) = false := bne_eq_false_iff_eq.mpr q0
                  have q3 : (B []).toList.isEmpty = true := by rw [q0]; rfl
                  clear q0
                  obtain ⟨A, a, rfl, la, CA⟩ := Kd.R_reads HP7.out.r0
                  obtain ⟨C, c, rfl, lc, CC⟩ := Kd.R_reads HP7.out.r1
                  have HA := Aside0.mk (And.intro CA la)
                  have HC := Aside0.mk (And.intro CC lc)
                  have y0 := (blk_cell HP7.out.x 0).trans rfl
                  have y1 := (blk_cell HP7.out.x 1).trans rfl
                  have y2 := (blk_cell HP7.out.x 2).trans rfl
                  have y3 := (blk_cell HP7.out.x 3).trans rfl
                  obtain ⟨kt, gt⟩ := (textF_ev hsh).rounds
                  clear CA la CC lc hsh HSH
                  by_cases hn : isN f = true
                  · by_cases ht : txt f = t
                    · subst ht
                      have HX := Aside0.mk (HXX.out.trans ((if_pos ⟨rfl, rfl⟩).trans (show pOut f (txt f) = (f, 0) by unfold pOut; rw [if_pos ⟨hn, rfl⟩])))
                      have HT := Aside0.mk (show family_Text.f kt f.f0 f.f1 f.f2 f.f3 = some ((B (txt f)), 0) from gt.trans (by unfold textOut; rw [if_pos hn]))
                      clear gt
                      go_upto_region 13 with (go_at_call 30; (refine (family_Text.calls kt A a f.f0 C c f.f1 f.f2 f.f3 (B (txt f)) 0 _ HA.out.1 HA.out.2 HC.out.1 HC.out.2 HT.out).mono ?_); rintro e w3 ⟨rfl, hb⟩; have P := Aside0.mk (HP7.out.call ⟨blk_below HP7.out.hI.1 hb, HP7.out.hI.2⟩ (below_step HP7.out.hB hb) (KeepBut.of_below hb _ _)); clear hb i0 i1 y0 y1 y2 y3)
                      (try simp only [Act.put, List.setIfInBounds_toArray, List.set_cons_zero, List.set_cons_succ])
                      clear HBW
                      have HBW := Aside0.mk P.out.hB
                      have z0 := (blk_cell P.out.z 0).trans rfl
                      have zf0 := blk_frozen P.out.z 0
                      have z1 := (blk_cell P.out.z 1).trans rfl
                      have zf1 := blk_frozen P.out.z 1
                      have z2 := (blk_cell P.out.z 2).trans rfl
                      have zf2 := blk_frozen P.out.z 2
                      have z3 := (blk_cell P.out.z 3).trans rfl
                      have zf3 := blk_frozen P.out.z 3
                      have y0 := (blk_cell P.out.x 0).trans rfl
                      have y1 := (blk_cell P.out.x 1).trans rfl
                      have y2 := (blk_cell P.out.x 2).trans rfl
                      have y3 := (blk_cell P.out.x 3).trans rfl
                      go_wp2
                      refine bodyPost_ret (results_ct rfl _ _ w.heap.size 37 #[.slice A f.f0.length a, .slice C f.f1.length c, .int .i64 f.f2, .int .i64 f.f3] (0, 0) _ rfl (bKq_ P.out.z) Try.underlying37 rfl (by kernel_rfl)) rfl ?_
                      rw [HX.out]
                      exact gives_of (x := (f, 0)) (o0 := fun k => w.heap.size + 1 + 1 < k) (o1 := fun k => w.heap.size + 1 + 1 < k) rfl (by repeat (first | exact P.out.r0 | refine Kd.R_far ?_ (fun k hk => by show k ≠ w.heap.size; have hk' : w.heap.size + 1 + 1 < k := hk; omega) _)) (by repeat (first | exact P.out.r1 | refine Kd.R_far ?_ (fun k hk => by show k ≠ w.heap.size; have hk' : w.heap.size + 1 + 1 < k := hk; omega) _)) bSt_
                    · have HX := Aside0.mk (HXX.out.trans ((if_pos ⟨rfl, rfl⟩).trans (show pOut f t = (z37', 3) by unfold pOut; rw [if_neg (fun h => ht h.2)])))
                      have q0 : (B (txt f)).toList ≠ (B t).toList := by rw [toList_L, toList_L, L_ofL, L_ofL]; exact ht
                      have p1 : ((B (txt f)).toList == (B t).toList) = false := beq_eq_false_iff_ne.mpr q0
                      have p2 : ((B (txt f)).toList != (B t).toList) = true := bne_iff_ne.mpr q0
                      clear q0 ht
                      have HT := Aside0.mk (show family_Text.f kt f.f0 f.f1 f.f2 f.f3 = some ((B (txt f)), 0) from gt.trans (by unfold textOut; rw [if_pos hn]))
                      clear gt
                      go_upto_region 13 with (go_at_call 30; (refine (family_Text.calls kt A a f.f0 C c f.f1 f.f2 f.f3 (B (txt f)) 0 _ HA.out.1 HA.out.2 HC.out.1 HC.out.2 HT.out).mono ?_); rintro e w3 ⟨rfl, hb⟩; have P := Aside0.mk (HP7.out.call ⟨blk_below HP7.out.hI.1 hb, HP7.out.hI.2⟩ (below_step HP7.out.hB hb) (KeepBut.of_below hb _ _)); clear hb i0 i1 y0 y1 y2 y3)
                      (try simp only [Act.put, List.setIfInBounds_toArray, List.set_cons_zero, List.set_cons_succ])
                      clear HBW
                      have HBW := Aside0.mk P.out.hB
                      have z0 := (blk_cell P.out.z 0).trans rfl
                      have zf0 := blk_frozen P.out.z 0
                      have z1 := (blk_cell P.out.z 1).trans rfl
                      have zf1 := blk_frozen P.out.z 1
                      have z2 := (blk_cell P.out.z 2).trans rfl
                      have zf2 := blk_frozen P.out.z 2
                      have z3 := (blk_cell P.out.z 3).trans rfl
                      have zf3 := blk_frozen P.out.z 3
                      go_wp2
                      refine bodyPost_ret (results_ct rfl _ _ w.heap.size 37 #[.slice none 0 0, .slice none 0 0, .int .i64 0, .int .i64 0] (0, 0) _ rfl (bKq_ P.out.z) Try.underlying37 rfl (by kernel_rfl)) rfl ?_
                      rw [HX.out]
                      exact gives_of (x := (z37', 3)) (o0 := fun _ => True) (o1 := fun _ => True) rfl (Kd.R_nil _ _ _ _ _) (Kd.R_nil _ _ _ _ _) bSt_
                  · have HX := Aside0.mk (HXX.out.trans ((if_pos ⟨rfl, rfl⟩).trans (show pOut f t = (z37', 3) by unfold pOut; rw [if_neg (fun h => hn h.1)])))
                    have HT := Aside0.mk (show family_Text.f kt f.f0 f.f1 f.f2 f.f3 = some (⟨#[]⟩, 2) from gt.trans (by unfold textOut; rw [if_neg hn]))
                    clear gt
                    go_upto_region 13 with (go_at_call 30; (refine (family_Text.calls kt A a f.f0 C c f.f1 f.f2 f.f3 ⟨#[]⟩ 2 _ HA.out.1 HA.out.2 HC.out.1 HC.out.2 HT.out).mono ?_); rintro e w3 ⟨rfl, hb⟩; have P := Aside0.mk (HP7.out.call ⟨blk_below HP7.out.hI.1 hb, HP7.out.hI.2⟩ (below_step HP7.out.hB hb) (KeepBut.of_below hb _ _)); clear hb i0 i1 y0 y1 y2 y3)
                    (try simp only [Act.put, List.setIfInBounds_toArray, List.set_cons_zero, List.set_cons_succ])
                    clear HBW
                    have HBW := Aside0.mk P.out.hB
                    have z0 := (blk_cell P.out.z 0).trans rfl
                    have zf0 := blk_frozen P.out.z 0
                    have z1 := (blk_cell P.out.z 1).trans rfl
                    have zf1 := blk_frozen P.out.z 1
                    have z2 := (blk_cell P.out.z 2).trans rfl
                    have zf2 := blk_frozen P.out.z 2
                    have z3 := (blk_cell P.out.z 3).trans rfl
                    have zf3 := blk_frozen P.out.z 3
                    go_wp2
                    refine bodyPost_ret (results_ct rfl _ _ w.heap.size 37 #[.slice none 0 0, .slice none 0 0, .int .i64 0, .int .i64 0] (0, 0) _ rfl (bKq_ P.out.z) Try.underlying37 rfl (by kernel_rfl)) rfl ?_
                    rw [HX.out]
                    exact gives_of (x := (z37', 3)) (o0 := fun _ => True) (o1 := fun _ => True) rfl (Kd.R_nil _ _ _ _ _) (Kd.R_nil _ _ _ _ _) bSt_
end Go.Proofs.Ytgfbgfbnmiainaa.Fam
/-! light and lean, for any arguments. -/
namespace Go.Proofs.Ytgfbgfbnmiainaa.Fam
set_option linter.unusedVariables false
set_option linter.unusedSimpArgs false
open Go.RowKit Go.Proofs.YtgfbgfbnmiainaaW.PrintWords Go.Proofs.YtgfbgfbnmiainaaW.PrintLast Go.Proofs.YtgfbgfbnmiainaaW.PrintMore Go.Proofs.Ytgfbgfbnmiainaa.Q
theorem wrap_next' (i : Nat) (h : i < 9223372036854775807) : wrap64 ((i : Int) + 1) = ((i + 1 : Nat) : Int) := by
  unfold wrap64; omega
theorem rd37_at {l : List S37} {i : Nat} (h : i < l.length) : rd_T37 l (i : Int) = l[i] := by
  unfold rd_T37
  rw [Int.toNat_natCast, List.getD_eq_getElem?_getD, List.getElem?_eq_getElem h]
  rfl
theorem rd33_at {l : List S33} {i : Nat} (h : i < l.length) : rd_T33 l (i : Int) = l[i] := by
  unfold rd_T33
  rw [Int.toNat_natCast, List.getD_eq_getElem?_getD, List.getElem?_eq_getElem h]
  rfl
def okL (f : S37) : Bool := decide (f.f0.length ≤ 100) && decide (f.f1.length ≤ 100)
def okE (r : S33) : Bool := decide (r.f1.length ≤ 10) && decide (r.f0.size ≤ 100)
theorem light_from (l : List S37) (hl : l.length ≤ 9223372036854775807) : ∀ n i k, i + n = l.length → n < k → manystrandlaw07_light.l0 k l l (l.length : Int) (i : Int) = some ((l.drop i).all okL && decide (l.length ≤ 50)) := by
  intro n
  induction n with
  | zero =>
    intro i k hi hk
    obtain ⟨k, rfl⟩ : ∃ j, k = j + 1 := ⟨k - 1, by omega⟩
    unfold manystrandlaw07_light.l0
    rw [if_neg (by omega), List.drop_of_length_le (by omega)]
    simp only [List.all_nil, Bool.true_and]
    congr 1
    exact decide_eq_decide.mpr (by omega)
  | succ n ih =>
    intro i k hi hk
    obtain ⟨k, rfl⟩ : ∃ j, k = j + 1 := ⟨k - 1, by omega⟩
    have hlt : i < l.length := by omega
    unfold manystrandlaw07_light.l0
    rw [if_pos (by omega), if_pos (by omega), if_pos (by omega), rd37_at hlt, List.drop_eq_getElem_cons hlt, wrap_next' i (by omega), ih (i + 1) k (by omega) (by omega)]
    simp only [List.all_cons, okL]
    by_cases h0 : ((l[i].f0.length : Nat) : Int) > 100
    · rw [if_pos h0, decide_eq_false (show ¬ l[i].f0.length ≤ 100 by omega)]; rfl
    · rw [if_neg h0, decide_eq_true (show l[i].f0.length ≤ 100 by omega)]
      by_cases h1 : ((l[i].f1.length : Nat) : Int) > 100
      · rw [if_pos h1, decide_eq_false (show ¬ l[i].f1.length ≤ 100 by omega)]; rfl
      · rw [if_neg h1, decide_eq_true (show l[i].f1.length ≤ 100 by omega)]; rfl
theorem light_any (l : List S37) (hl : l.length ≤ 9223372036854775807) : ∃ k b, manystrandlaw07_light.f k l = some b ∧ (b = true → l.length ≤ 50 ∧ ∀ i : Nat, i < l.length → (rd_T37 l i).f0.length ≤ 100 ∧ (rd_T37 l i).f1.length ≤ 100) := by
  refine ⟨_, _, light_from l hl l.length 0 (l.length + 1) (by omega) (by omega), fun h => ?_⟩
  simp only [List.drop_zero, Bool.and_eq_true, decide_eq_true_eq, List.all_eq_true, okL] at h
  refine ⟨h.2, fun i hi => ?_⟩
  rw [rd37_at hi]
  exact h.1 _ (List.getElem_mem hi)
theorem lean_from (l : List S33) (hl : l.length ≤ 9223372036854775807) : ∀ n i k, i + n = l.length → n < k → manystrandlaw07_lean.l0 k l l (l.length : Int) (i : Int) = some ((l.drop i).all okE && decide (l.length ≤ 110)) := by
  intro n
  induction n with
  | zero =>
    intro i k hi hk
    obtain ⟨k, rfl⟩ : ∃ j, k = j + 1 := ⟨k - 1, by omega⟩
    unfold manystrandlaw07_lean.l0
    rw [if_neg (by omega), List.drop_of_length_le (by omega)]
    simp only [List.all_nil, Bool.true_and]
    congr 1
    exact decide_eq_decide.mpr (by omega)
  | succ n ih =>
    intro i k hi hk
    obtain ⟨k, rfl⟩ : ∃ j, k = j + 1 := ⟨k - 1, by omega⟩
    have hlt : i < l.length := by omega
    unfold manystrandlaw07_lean.l0
    rw [if_pos (by omega), if_pos (by omega), if_pos (by omega), rd33_at hlt, List.drop_eq_getElem_cons hlt, wrap_next' i (by omega), ih (i + 1) k (by omega) (by omega)]
    simp only [List.all_cons, okE]
    by_cases h0 : ((l[i].f1.length : Nat) : Int) > 10
    · rw [if_pos h0, decide_eq_false (show ¬ l[i].f1.length ≤ 10 by omega)]; rfl
    · rw [if_neg h0, decide_eq_true (show l[i].f1.length ≤ 10 by omega)]
      by_cases h1 : ((l[i].f0.size : Nat) : Int) > 100
      · rw [if_pos h1, decide_eq_false (show ¬ l[i].f0.size ≤ 100 by omega)]; rfl
      · rw [if_neg h1, decide_eq_true (show l[i].f0.size ≤ 100 by omega)]; rfl
theorem lean_any (l : List S33) (hl : l.length ≤ 9223372036854775807) : ∃ k b, manystrandlaw07_lean.f k l = some b ∧ (b = true → l.length ≤ 110 ∧ ∀ i : Nat, i < l.length → (rd_T33 l i).f1.length ≤ 10) := by
  refine ⟨_, _, lean_from l hl l.length 0 (l.length + 1) (by omega) (by omega), fun h => ?_⟩
  simp only [List.drop_zero, Bool.and_eq_true, decide_eq_true_eq, List.all_eq_true, okE] at h
  refine ⟨h.2, fun i hi => ?_⟩
  rw [rd33_at hi]
  exact (h.1 _ (List.getElem_mem hi)).1
end Go.Proofs.Ytgfbgfbnmiainaa.Fam
/-! Lists that are written out in memory. -/
namespace Go.Proofs.Ytgfbgfbnmiainaa.Fam
set_option linter.unusedVariables false
set_option linter.unusedSimpArgs false
open Go.RowKit Go.Proofs.YtgfbgfbnmiainaaW.PrintWords Go.Proofs.YtgfbgfbnmiainaaW.PrintLast Go.Proofs.YtgfbgfbnmiainaaW.PrintMore Go.Proofs.Ytgfbgfbnmiainaa.Q
theorem ints_lit {w : World} {b : Nat} {xs : List Int} {c : Array Value} {t : Nat} (h : w.heap[b]? = some (.cells c t)) (hc : c.toList = xs.map (.int .i64)) (hn : xs.length ≤ 9223372036854775807) : (Kd.int .i64).C w (some ⟨b, 0, none⟩) xs.length xs := by
  refine ⟨rfl, hn, fun _ => ⟨_, rfl, fun j p hj => ⟨[.int .i64 p], rfl, rfl, fun i u hu => ?_⟩⟩⟩
  have hi : i = 0 := by
    cases i with
    | zero => rfl
    | succ i => simp at hu
  subst hi
  have hu' : Value.int .i64 p = u := by simpa using hu
  subst hu'
  show w.cell? ((⟨b, 0, none⟩ : Addr).add (j * 1 + 0)) = _
  rw [add_plain, Nat.mul_one, Nat.add_zero, blk_cell h j]
  rw [← Array.getElem?_toList, hc, List.getElem?_map, hj]
  rfl
/-- A list of things of some cells each, in a block that is written out. -/
theorem rows_lit {α : Type} {d : Kd α} {w : World} {b : Nat} {ps : List α} {css : List (List Value)} {c : Array Value} {t : Nat} (h : w.heap[b]? = some (.cells c t)) (hl : css.length = ps.length) (hs : ∀ cs ∈ css, cs.length = d.sz) (hc : c.toList = css.flatten) (hn : ps.length ≤ 9223372036854775807)
    (hK : ∀ (j : Nat) (p : α) (cs : List Value), ps[j]? = some p → css[j]? = some cs → d.K w p cs) : d.C w (some ⟨b, 0, none⟩) ps.length ps := by
  refine ⟨rfl, hn, fun _ => ⟨_, rfl, fun j p hj => ?_⟩⟩
  have hjl : j < ps.length := (List.getElem?_eq_some_iff.1 hj).1
  have hjc : css[j]? = some css[j] := List.getElem?_eq_getElem (by omega)
  refine ⟨css[j], hs _ (List.getElem_mem _), hK j p _ hj hjc, fun i u hu => ?_⟩
  rw [add_plain, blk_cell h]
  rw [← Array.getElem?_toList, hc]
  have hi : i < d.sz := by
    rw [← hs _ (List.getElem_mem (l := css) (n := j) (by omega))]
    exact (List.getElem?_eq_some_iff.1 hu).1
  clear hK hj
  have key : ∀ (css : List (List Value)) (j : Nat) (cs : List Value), (∀ cs ∈ css, cs.length = d.sz) → css[j]? = some cs → css.flatten[j * d.sz + i]? = cs[i]? := by
    intro css
    induction css with
    | nil => intro j cs _ hj; simp at hj
    | cons c0 css ih =>
      intro j cs hs hj
      have h0 : c0.length = d.sz := hs _ List.mem_cons_self
      cases j with
      | zero =>
        simp only [List.getElem?_cons_zero, Option.some.injEq] at hj
        subst hj
        simp only [List.flatten_cons, Nat.zero_mul, Nat.zero_add]
        exact List.getElem?_append_left (by omega)
      | succ j =>
        rw [List.flatten_cons, List.getElem?_append_right (by rw [h0, Nat.succ_mul]; omega), h0]
        have e : (j + 1) * d.sz + i - d.sz = j * d.sz + i := by rw [Nat.succ_mul]; omega
        rw [e]
        exact ih j cs (fun x hx => hs x (List.mem_cons_of_mem _ hx)) (by simpa using hj)
  rw [key css j _ hs hjc]
  exact hu
theorem alloc_size (w : World) (o : Obj) : (w.alloc o).heap.size = w.heap.size + 1 := by
  have := World.alloc_eq w o
  simp [this]
theorem blk_new' {w W : World} {o : Obj} {n : Nat} (hW : W = w.alloc o) (hn : n = w.heap.size) : W.heap[n]? = some o ∧ W.heap.size = n + 1 := by
  subst hW hn
  exact ⟨blk_new w o, alloc_size w o⟩
theorem blk_old {w W : World} {o o' : Obj} {n : Nat} (hW : W = w.alloc o) (h : w.heap[n]? = some o') : W.heap[n]? = some o' := by
  subst hW
  exact blk_below h (below_alloc (Below.refl _ _) o)
theorem allocs7 (w : World) (o0 o1 o2 o3 o4 o5 o6 : Obj) : ∀ W, W = ((((((w.alloc o0).alloc o1).alloc o2).alloc o3).alloc o4).alloc o5).alloc o6 →
    W.heap[w.heap.size]? = some o0 ∧ W.heap[w.heap.size + 1]? = some o1 ∧ W.heap[w.heap.size + 1 + 1]? = some o2 ∧ W.heap[w.heap.size + 1 + 1 + 1]? = some o3 ∧ W.heap[w.heap.size + 1 + 1 + 1 + 1]? = some o4 ∧ W.heap[w.heap.size + 1 + 1 + 1 + 1 + 1]? = some o5 ∧ W.heap[w.heap.size + 1 + 1 + 1 + 1 + 1 + 1]? = some o6 ∧ W.heap.size = w.heap.size + 1 + 1 + 1 + 1 + 1 + 1 + 1 := by
  rintro W rfl
  obtain ⟨a0, s0⟩ := blk_new' (o := o0) rfl (rfl : w.heap.size = w.heap.size)
  obtain ⟨a1, s1⟩ := blk_new' (o := o1) rfl s0.symm
  obtain ⟨a2, s2⟩ := blk_new' (o := o2) rfl s1.symm
  obtain ⟨a3, s3⟩ := blk_new' (o := o3) rfl s2.symm
  obtain ⟨a4, s4⟩ := blk_new' (o := o4) rfl s3.symm
  obtain ⟨a5, s5⟩ := blk_new' (o := o5) rfl s4.symm
  obtain ⟨a6, s6⟩ := blk_new' (o := o6) rfl s5.symm
  exact ⟨blk_old rfl (blk_old rfl (blk_old rfl (blk_old rfl (blk_old rfl (blk_old rfl a0))))), blk_old rfl (blk_old rfl (blk_old rfl (blk_old rfl (blk_old rfl a1)))), blk_old rfl (blk_old rfl (blk_old rfl (blk_old rfl a2))), blk_old rfl (blk_old rfl (blk_old rfl a3)), blk_old rfl (blk_old rfl a4), blk_old rfl a5, a6, s6⟩
end Go.Proofs.Ytgfbgfbnmiainaa.Fam
/-! awake, the walk. -/
namespace Go.Proofs.Ytgfbgfbnmiainaa.Fam
set_option linter.unusedVariables false
set_option linter.unusedSimpArgs false
open Go.RowKit Go.Proofs.YtgfbgfbnmiainaaW.PrintWords Go.Proofs.YtgfbgfbnmiainaaW.PrintLast Go.Proofs.YtgfbgfbnmiainaaW.PrintMore Go.Proofs.Ytgfbgfbnmiainaa.Q
attribute [local go_sem] Go.Proofs.YtgfbgfbnmiainaaW.OwnWords.isSome_setCell max2_int min2_int
attribute [local go_sem high] eqA59
def aRels : List S33 := [⟨⟨#[112, 97, 114, 116]⟩, [0, 1], 0⟩, ⟨⟨#[115, 105, 122, 101]⟩, [1], 1⟩]
def aFams : List S37 := [⟨[3], [1, 3], 0, 64⟩, ⟨[], [2, 3], 0, 64⟩]
def aSp (i : Nat) : S59 × Bool := if i = 0 then (⟨8, 10, 0, 64⟩, true) else (⟨0, 12, 0, 64⟩, true)
def aQs (i : Nat) : Rl := if i = 0 then .part 0 1 else .size 1 1
def aT : St := ⟨[⟨8, 10, 1, 2⟩, ⟨0, 12, 0, 2⟩], false, true⟩
def aU : St := ⟨[⟨8, 8, 1, 1⟩, ⟨8, 8, 1, 1⟩], false, false⟩
theorem a_aux0 : openF 100 (rd_T37 aFams ((0 : Nat) : Int)) = some (aSp 0) := by kernel_rfl
theorem a_aux1 : openF 100 (rd_T37 aFams ((1 : Nat) : Int)) = some (aSp 1) := by kernel_rfl
theorem a_aux2 : family_ValidRel.f 100 (rd_T33 aRels ((0 : Nat) : Int)).f0 (rd_T33 aRels ((0 : Nat) : Int)).f1 (rd_T33 aRels ((0 : Nat) : Int)).f2 aFams.length = some true := by kernel_rfl
theorem a_aux3 : family_ValidRel.f 100 (rd_T33 aRels ((1 : Nat) : Int)).f0 (rd_T33 aRels ((1 : Nat) : Int)).f1 (rd_T33 aRels ((1 : Nat) : Int)).f2 aFams.length = some true := by kernel_rfl
theorem a_aux4 : closeF 100 (rd_T59 aU.xs ((0 : Nat) : Int)) = some ⟨[3], [3], 1, 1⟩ := by kernel_rfl
theorem a_aux5 : closeF 100 (rd_T59 aU.xs ((1 : Nat) : Int)) = some ⟨[3], [3], 1, 1⟩ := by kernel_rfl
theorem a_open : ∀ i : Nat, i < aFams.length → openF 100 (rd_T37 aFams i) = some (aSp i) := by
  intro i hi
  match i, hi with
  | 0, _ => exact a_aux0
  | 1, _ => exact a_aux1
theorem a_valid : ∀ i : Nat, i < aRels.length → family_ValidRel.f 100 (rd_T33 aRels i).f0 (rd_T33 aRels i).f1 (rd_T33 aRels i).f2 aFams.length = some true := by
  intro i hi
  match i, hi with
  | 0, _ => exact a_aux2
  | 1, _ => exact a_aux3
theorem a_init : initF 100 aFams.length 0 ⟨spans aSp aFams.length, false, false⟩ = some aT := by kernel_rfl
theorem a_round : roundF 100 aQs aRels.length 100 ⟨aT.xs, aT.fail, true⟩ = some aU := by kernel_rfl
theorem a_close : ∀ i : Nat, i < aFams.length → closeF 100 (rd_T59 aU.xs i) = some ⟨[3], [3], 1, 1⟩ := by
  intro i hi
  match i, hi with
  | 0, _ => exact a_aux4
  | 1, _ => exact a_aux5
theorem a_same : famSameT.f 100 [3] [3] 1 1 [3] [3] 1 1 = some true := by kernel_rfl
theorem a_rels : RelsAre aRels aQs aFams.length := by
  intro i hi
  match i, hi with
  | 0, _ => exact ⟨⟨rfl, rfl⟩, ⟨by decide, by decide⟩, by decide, by decide⟩
  | 1, _ => exact ⟨⟨rfl, rfl, rfl⟩, by decide, by decide⟩
def aOut : List S37 := [⟨[3], [3], 1, 1⟩, ⟨[3], [3], 1, 1⟩]
/-- Fix of the two families, wherever they lie. -/
theorem a_fix (A0 : Option Addr) (c0 : Nat) (A1 : Option Addr) (c1 : Nat) (w : World) (hr0 : Kd.C k33 w A0 2 aRels) (hc0 : 2 ≤ c0) (hr1 : Kd.C k37 w A1 2 aFams) (hc1 : 2 ≤ c1) :
    Calls Try.prog 11 #[.slice A0 2 c0, .slice A1 2 c1] w fun e w' => ∃ v, e = .returned (.tuple #[v, .int .i64 0]) ∧ Kd.R k37 37 w' w.heap.size (fun _ => True) v aOut ∧ Below w.heap.size w w' :=
  fix_walk 100 aSp A0 c0 aRels A1 c1 aFams w hr0 hc0 hr1 hc1 a_open (by decide) (fun _ => true) a_valid (by decide) true ⟨rfl⟩ aOut 0
    ⟨fun _ => ⟨aQs, aT, aU, 100, a_rels, a_init, a_round, fun h => (by cases h), fun _ => ⟨rfl, fun _ => ⟨[3], [3], 1, 1⟩, a_close, rfl⟩⟩⟩ ⟨fun h => (by cases h)⟩
abbrev aW (w : World) : World := ((((((w.alloc (.cells #[.int .i64 0, .int .i64 1] 3)).alloc (.cells #[.int .i64 1] 3)).alloc (.cells #[.string ⟨#[112, 97, 114, 116]⟩, .slice (some ⟨w.heap.size, 0, none⟩) 2 2, .int .i64 0, .string ⟨#[115, 105, 122, 101]⟩, .slice (some ⟨w.heap.size + 1, 0, none⟩) 1 1, .int .i64 1] 33)).alloc (.cells #[.int .i64 3] 3)).alloc (.cells #[.int .i64 1, .int .i64 3] 3)).alloc (.cells #[.int .i64 2, .int .i64 3] 3)).alloc
  (.cells #[.slice (some ⟨w.heap.size + 1 + 1 + 1, 0, none⟩) 1 1, .slice (some ⟨w.heap.size + 1 + 1 + 1 + 1, 0, none⟩) 2 2, .int .i64 0, .int .i64 64, .slice none 0 0, .slice (some ⟨w.heap.size + 1 + 1 + 1 + 1 + 1, 0, none⟩) 2 2, .int .i64 0, .int .i64 64] 37)
theorem a_args (w : World) : Kd.C k33 (aW w) (some ⟨w.heap.size + 1 + 1, 0, none⟩) 2 aRels ∧ Kd.C k37 (aW w) (some ⟨w.heap.size + 1 + 1 + 1 + 1 + 1 + 1, 0, none⟩) 2 aFams := by
  obtain ⟨b0, b1, b2, b3, b4, b5, b6, _⟩ := allocs7 w _ _ _ _ _ _ _ (aW w) rfl
  refine ⟨rows_lit (css := [[.string ⟨#[112, 97, 114, 116]⟩, .slice (some ⟨w.heap.size, 0, none⟩) 2 2, .int .i64 0], [.string ⟨#[115, 105, 122, 101]⟩, .slice (some ⟨w.heap.size + 1, 0, none⟩) 1 1, .int .i64 1]]) b2 rfl ?_ rfl (by decide) ?_, rows_lit (css := [[.slice (some ⟨w.heap.size + 1 + 1 + 1, 0, none⟩) 1 1, .slice (some ⟨w.heap.size + 1 + 1 + 1 + 1, 0, none⟩) 2 2, .int .i64 0, .int .i64 64], [.slice none 0 0, .slice (some ⟨w.heap.size + 1 + 1 + 1 + 1 + 1, 0, none⟩) 2 2, .int .i64 0, .int .i64 64]]) b6 rfl ?_ rfl (by decide) ?_⟩
  · intro cs hcs
    simp only [List.mem_cons, List.not_mem_nil, or_false] at hcs
    rcases hcs with rfl | rfl <;> rfl
  · intro j p cs hp hc
    match j with
    | 0 => cases hp; cases hc; exact k33_mk _ ⟨⟨#[112, 97, 114, 116]⟩, [0, 1], 0⟩ (by decide) (ints_lit (xs := [0, 1]) b0 rfl (by decide))
    | 1 => cases hp; cases hc; exact k33_mk _ ⟨⟨#[115, 105, 122, 101]⟩, [1], 1⟩ (by decide) (ints_lit (xs := [1]) b1 rfl (by decide))
    | j + 2 => cases hp
  · intro cs hcs
    simp only [List.mem_cons, List.not_mem_nil, or_false] at hcs
    rcases hcs with rfl | rfl <;> rfl
  · intro j p cs hp hc
    match j with
    | 0 => cases hp; cases hc; exact k37_mk _ ⟨[3], [1, 3], 0, 64⟩ (by decide) (ints_lit (xs := [3]) b3 rfl (by decide)) (by decide) (ints_lit (xs := [1, 3]) b4 rfl (by decide))
    | 1 => cases hp; cases hc; exact k37_mk _ ⟨[], [2, 3], 0, 64⟩ (by decide) (Kd.C_nil _ _) (by decide) (ints_lit (xs := [2, 3]) b5 rfl (by decide))
    | j + 2 => cases hp
end Go.Proofs.Ytgfbgfbnmiainaa.Fam
/-! awake, the walk. -/
namespace Go.Proofs.Ytgfbgfbnmiainaa.Fam
set_option linter.unusedVariables false
set_option linter.unusedSimpArgs false
open Go.RowKit Go.Proofs.YtgfbgfbnmiainaaW.PrintWords Go.Proofs.YtgfbgfbnmiainaaW.PrintLast Go.Proofs.YtgfbgfbnmiainaaW.PrintMore Go.Proofs.Ytgfbgfbnmiainaa.Q
attribute [local go_sem] Go.Proofs.YtgfbgfbnmiainaaW.OwnWords.isSome_setCell max2_int min2_int
attribute [local go_sem high] eqA59
def aS (gb : Nat) (B0 : Option Addr) (b0 : Nat) (B1 : Option Addr) (b1 : Nat) (D0 : Option Addr) (d0 : Nat) (D1 : Option Addr) (d1 : Nat) (w2 w' : World) : Prop :=
  Below w2.heap.size w2 w' ∧ w'.cell? ⟨gb, 0, none⟩ = some (.slice B0 1 b0) ∧ w'.cell? ⟨gb, 1, none⟩ = some (.slice B1 1 b1) ∧ w'.cell? ⟨gb, 2, none⟩ = some (.int .i64 1) ∧ w'.cell? ⟨gb, 3, none⟩ = some (.int .i64 1) ∧ w'.cell? ⟨gb, 4, none⟩ = some (.slice D0 1 d0) ∧ w'.cell? ⟨gb, 5, none⟩ = some (.slice D1 1 d1) ∧ w'.cell? ⟨gb, 6, none⟩ = some (.int .i64 1) ∧ w'.cell? ⟨gb, 7, none⟩ = some (.int .i64 1)
theorem aS_below {gb : Nat} {B0 : Option Addr} {b0 : Nat} {B1 : Option Addr} {b1 : Nat} {D0 : Option Addr} {d0 : Nat} {D1 : Option Addr} {d1 : Nat} {w2 w w' : World} (h : aS gb B0 b0 B1 b1 D0 d0 D1 d1 w2 w) (hb : Below w.heap.size w w') : aS gb B0 b0 B1 b1 D0 d0 D1 d1 w2 w' := by
  obtain ⟨h0, a0, a1, a2, a3, a4, a5, a6, a7⟩ := h
  exact ⟨below_then h0 h0.size hb, pw_cell_below hb a0, pw_cell_below hb a1, pw_cell_below hb a2, pw_cell_below hb a3, pw_cell_below hb a4, pw_cell_below hb a5, pw_cell_below hb a6, pw_cell_below hb a7⟩
theorem aS_alloc {gb : Nat} {B0 : Option Addr} {b0 : Nat} {B1 : Option Addr} {b1 : Nat} {D0 : Option Addr} {d0 : Nat} {D1 : Option Addr} {d1 : Nat} {w2 w : World} (h : aS gb B0 b0 B1 b1 D0 d0 D1 d1 w2 w) (o : Obj) : aS gb B0 b0 B1 b1 D0 d0 D1 d1 w2 (w.alloc o) := aS_below h (below_alloc (Below.refl _ _) o)
theorem aS_drew {gb : Nat} {B0 : Option Addr} {b0 : Nat} {B1 : Option Addr} {b1 : Nat} {D0 : Option Addr} {d0 : Nat} {D1 : Option Addr} {d1 : Nat} {w2 w : World} (h : aS gb B0 b0 B1 b1 D0 d0 D1 d1 w2 w) : aS gb B0 b0 B1 b1 D0 d0 D1 d1 w2 w.drew := aS_below h (below_drew (Below.refl _ _))
set_option maxHeartbeats 8000000 in
set_option maxRecDepth 100000 in
theorem awake_walk (w : World) :
    Calls Try.prog 10 #[] w fun e w' => e = .returned (.bool true) ∧ Below w.heap.size w w' := by
  have HA := Aside0.mk (a_args w)
  have HB0 := Aside0.mk (show Below w.heap.size w (aW w) from below_alloc (below_alloc (below_alloc (below_alloc (below_alloc (below_alloc (below_alloc (Below.refl _ _) _) _) _) _) _) _) _)
  go_enter Try.func10, Try.ntmps10
  go_upto_region 2 with (first | (go_at_call 11; (refine (a_fix _ 2 _ 2 _ HA.out.1 (by decide) HA.out.2 (by decide)).mono ?_); rintro e w2 ⟨v, rfl, hR, hb2⟩; obtain ⟨gb, cp, rfl⟩ : ∃ gb cp, v = .slice (some ⟨gb, 0, none⟩) 2 cp := (by obtain ⟨gb, cp, h_, _⟩ := Kd.R_form hR (by decide); exact ⟨gb, cp, h_⟩); have HR := Aside0.mk hR; have HB := Aside0.mk (below_then HB0.out HB0.out.size hb2); clear hR hb2))
  obtain ⟨k1, k2, hC⟩ := Kd.R_reads' HR.out
  clear k1 k2
  obtain ⟨ad, B0, b0, B1, b1, e0, x0, x1, x2, x3, m0, M0, m1, M1⟩ := at_T37 hC 0 (by decide) (by decide)
  cases e0
  obtain ⟨ad, D0, d0, D1, d1, e0, y0, y1, y2, y3, n0, N0, n1, N1⟩ := at_T37 hC 1 (by decide) (by decide)
  cases e0
  have HM0 : Aside0 ([3].length ≤ b0 ∧ (Kd.int .i64).C w2 B0 [3].length [3]) := ⟨m0, M0⟩
  have HM1 : Aside0 ([3].length ≤ b1 ∧ (Kd.int .i64).C w2 B1 [3].length [3]) := ⟨m1, M1⟩
  have HM2 : Aside0 ([3].length ≤ d0 ∧ (Kd.int .i64).C w2 D0 [3].length [3]) := ⟨n0, N0⟩
  have HM3 : Aside0 ([3].length ≤ d1 ∧ (Kd.int .i64).C w2 D1 [3].length [3]) := ⟨n1, N1⟩
  clear hC m0 M0 m1 M1 n0 N0 n1 N1
  replace x0 : w2.cell? ⟨gb, 0, none⟩ = some (.slice B0 1 b0) := x0
  replace x1 : w2.cell? ⟨gb, 1, none⟩ = some (.slice B1 1 b1) := x1
  replace x2 : w2.cell? ⟨gb, 2, none⟩ = some (.int .i64 1) := x2
  replace x3 : w2.cell? ⟨gb, 3, none⟩ = some (.int .i64 1) := x3
  replace y0 : w2.cell? ⟨gb, 4, none⟩ = some (.slice D0 1 d0) := y0
  replace y1 : w2.cell? ⟨gb, 5, none⟩ = some (.slice D1 1 d1) := y1
  replace y2 : w2.cell? ⟨gb, 6, none⟩ = some (.int .i64 1) := y2
  replace y3 : w2.cell? ⟨gb, 7, none⟩ = some (.int .i64 1) := y3
  have HS := Aside0.mk (show aS gb B0 b0 B1 b1 D0 d0 D1 d1 w2 w2 from ⟨Below.refl _ _, x0, x1, x2, x3, y0, y1, y2, y3⟩)
  have HS1 := Aside0.mk (aS_drew (aS_alloc HS.out (.cells #[.int .i64 3] 3)))
  have HS2 := Aside0.mk (aS_drew (aS_alloc (aS_alloc HS.out (.cells #[.int .i64 3] 3)) (.cells #[.int .i64 3] 3)))
  have HL1 := Aside0.mk (Kd.C_drew (Kd.C_alloc (ints_lit (xs := [3]) (blk_new w2 (.cells #[.int .i64 3] 3)) rfl (by decide)) (.cells #[.int .i64 3] 3)))
  have HL2 := Aside0.mk (Kd.C_drew (ints_lit (xs := [3]) (blk_new' (w := w2.alloc (.cells #[.int .i64 3] 3)) (o := .cells #[.int .i64 3] 3) (n := w2.heap.size + 1) rfl (by simp)).1 rfl (by decide)))
  clear x0 x1 x2 x3 y0 y1 y2 y3
  go_region_held3 (fun w' => Below w2.heap.size w2 w' ∧ w'.cell? ⟨gb, 0, none⟩ = some (.slice B0 1 b0) ∧ w'.cell? ⟨gb, 1, none⟩ = some (.slice B1 1 b1) ∧ w'.cell? ⟨gb, 2, none⟩ = some (.int .i64 1) ∧ w'.cell? ⟨gb, 3, none⟩ = some (.int .i64 1) ∧ w'.cell? ⟨gb, 4, none⟩ = some (.slice D0 1 d0) ∧ w'.cell? ⟨gb, 5, none⟩ = some (.slice D1 1 d1) ∧ w'.cell? ⟨gb, 6, none⟩ = some (.int .i64 1) ∧ w'.cell? ⟨gb, 7, none⟩ = some (.int .i64 1))
    (first | exact HT.out | exact HU.out | exact HS.out | exact aS_drew HS.out | exact HS1.out | exact HS2.out)
    (first
      | (go_at_call 18; (refine (famSameT.calls 100 B0 b0 [3] B1 b1 [3] 1 1 D0 d0 [3] D1 d1 [3] 1 1 _ (Kd.C_below HM0.out.2 HT.out.1) HM0.out.1 (Kd.C_below HM1.out.2 HT.out.1) HM1.out.1 (Kd.C_below HM2.out.2 HT.out.1) HM2.out.1 (Kd.C_below HM3.out.2 HT.out.1) HM3.out.1 a_same).mono ?_); rintro e w4 ⟨rfl, hb⟩; have HU := Aside0.mk (aS_below HT.out hb); clear hb)
      | (go_at_call 18; (refine (famSameT.calls 100 B0 b0 [3] B1 b1 [3] 1 1 _ 1 [3] _ 1 [3] 1 1 _ (Kd.C_below HM0.out.2 HS2.out.1) HM0.out.1 (Kd.C_below HM1.out.2 HS2.out.1) HM1.out.1 ?r2 ?c2 ?r3 ?c3 a_same).mono ?_); (case r2 => first | exact HL1.out | exact HL2.out); (case c2 => decide); (case r3 => first | exact HL1.out | exact HL2.out); (case c3 => decide); rintro e w3 ⟨rfl, hb⟩; have HT := Aside0.mk (aS_below HS2.out hb); clear hb))
  all_goals
    try go_wp2
    go_ret
    first
      | exact ⟨rfl, below_then HB.out HB.out.size HU.out.1⟩
      | (trace_state; fail)
end Go.Proofs.Ytgfbgfbnmiainaa.Fam
/-! FamilyTexts, the walk of the law. -/
namespace Go.Proofs.Ytgfbgfbnmiainaa.Fam
set_option linter.unusedVariables false
set_option linter.unusedSimpArgs false
open Go.RowKit Go.Proofs.YtgfbgfbnmiainaaW.PrintWords Go.Proofs.YtgfbgfbnmiainaaW.PrintLast Go.Proofs.YtgfbgfbnmiainaaW.PrintMore Go.Proofs.Ytgfbgfbnmiainaa.Q
open Go.Proofs.Ytgfbgfbnmiainaa.Pure (By L L_ofL L_inj size_ofL toList_L)
attribute [local go_sem] Go.Proofs.YtgfbgfbnmiainaaW.OwnWords.isSome_setCell max2_int min2_int
def TellEnd (w : World) (e : Ending) (w' : World) : Prop := e = .returned (.bool true) ∧ Below w.heap.size w w'
/-- A family, written out. -/
theorem one_C {w : World} {f : S37} {A : Option Addr} {a : Nat} {C : Option Addr} {c : Nat} (h1 : FC w f A a C c) {n : Nat}
    (hb : w.heap[n]? = some (.cells #[.slice A f.f0.length a, .slice C f.f1.length c, .int .i64 f.f2, .int .i64 f.f3] 37 (0, 0))) : Kd.C k37 w (some ⟨n, 0, none⟩) 1 [f] := by
  refine ⟨rfl, by omega, fun _ => ⟨_, rfl, fun j p hj => ?_⟩⟩
  match j, hj with
  | 0, hj =>
    obtain rfl : f = p := Option.some.inj hj
    refine ⟨[.slice A f.f0.length a, .slice C f.f1.length c, .int .i64 f.f2, .int .i64 f.f3], rfl, k37_mk w f h1.l0 h1.h0 h1.l1 h1.h1, fun i u hu => ?_⟩
    match i, hu with
    | 0, hu => exact ((blk_cell hb 0).trans rfl).trans hu
    | 1, hu => exact ((blk_cell hb 1).trans rfl).trans hu
    | 2, hu => exact ((blk_cell hb 2).trans rfl).trans hu
    | 3, hu => exact ((blk_cell hb 3).trans rfl).trans hu
    | i + 4, hu => simp at hu
  | j + 1, hj => simp at hj
theorem awake_tell (w : World) : Calls Try.prog 10 #[] w (TellEnd w) := awake_walk w
theorem light1 (f : S37) : manystrandlaw07_light.f 2 [f] = some (okL f) := by
  have h := light_from [f] (by simp) 1 0 2 rfl (by omega)
  have h' : manystrandlaw07_light.f 2 [f] = _ := h
  rw [h']
  simp
theorem okL_sh {f : S37} (h : okL f = true) : f.f0.length ≤ 100 ∧ f.f1.length ≤ 100 := by
  unfold okL at h
  obtain ⟨h1, h2⟩ := Bool.and_eq_true_iff.mp h
  exact ⟨of_decide_eq_true h1, of_decide_eq_true h2⟩
theorem zero_t : manystrandlaw07_zero.f z37'.f0 z37'.f1 z37'.f2 z37'.f3 = some true := by
  unfold manystrandlaw07_zero.f z37'
  rfl
/-- What both make of a text. -/
theorem parse_both {t : By} (ht : t.length ≤ 2000) : ∃ x : S37 × Int, ((∀ w, Calls Try.prog 32 #[.string (B t)] w (Gives x w)) ∧ (∀ w, Calls Try.prog 33 #[.string (B t)] w (Gives x w))) ∧
    Sh x.1 ∧ ((x.2 = 0 ∧ vl x.1 = true) ∨ (x.2 ≠ 0 ∧ x.1 = z37')) := by
  obtain ⟨g, hg, _, hP⟩ := parseR t
  obtain ⟨f, s1, s3, s5, s7, b1, b3, hS, hsh, hf⟩ := scanF ht
  obtain ⟨k, hk⟩ := hP.rounds
  refine ⟨pOut g t, ⟨fun w => parseF_walk w hS hsh (same_out hf hg), fun w => ?_⟩, ?_⟩
  · exact (manystrandref07_Parse.calls k (B t) _ _ _ _ _ w hk).mono (fun _ _ ⟨_, _, he, r0, r1, hb⟩ => gives_of he r0 r1 hb)
  · unfold pOut
    by_cases h : isN g = true ∧ txt g = t
    · rw [if_pos h]
      exact ⟨sh_vl (isN_vl h.1), .inl ⟨rfl, isN_vl h.1⟩⟩
    · rw [if_neg h]
      exact ⟨⟨by simp [z37'], by simp [z37']⟩, .inr ⟨by decide, rfl⟩⟩
/-- The text of a normal family leads back to it. -/
theorem parse_back {f : S37} (hn : isN f = true) (w : World) : Calls Try.prog 32 #[.string (B (txt f))] w (Gives (f, 0) w) := by
  obtain ⟨g, s1, s3, s5, s7, b1, b3, hS, hsh, hf⟩ := scanF (t := txt f) (by have := txt_len (isN_vl hn); omega)
  obtain ⟨e, h1, h2⟩ := hf f hn rfl
  refine parseF_walk w hS hsh ?_
  rw [if_pos ⟨h1, h2⟩, e]
  unfold pOut
  rw [if_pos ⟨hn, rfl⟩]
theorem text_both {f : S37} (h : Sh f) {w : World} {A : Option Addr} {a : Nat} {C : Option Addr} {c : Nat} (h1 : FC w f A a C c) :
    Calls Try.prog 30 #[.agg #[.slice A f.f0.length a, .slice C f.f1.length c, .int .i64 f.f2, .int .i64 f.f3]] w (fun e w' => e = .returned (.tuple #[.string (textOut f).1, .int .i64 (textOut f).2]) ∧ Below w.heap.size w w') ∧
    Calls Try.prog 31 #[.agg #[.slice A f.f0.length a, .slice C f.f1.length c, .int .i64 f.f2, .int .i64 f.f3]] w (fun e w' => e = .returned (.tuple #[.string (textOut f).1, .int .i64 (textOut f).2]) ∧ Below w.heap.size w w') := by
  obtain ⟨k, hk⟩ := (textF_ev h).rounds
  obtain ⟨k', hk'⟩ := (textR_ev h).rounds
  exact ⟨family_Text.calls k A a f.f0 C c f.f1 f.f2 f.f3 _ _ w h1.h0 h1.l0 h1.h1 h1.l1 hk, manystrandref07_Text.calls k' A a f.f0 C c f.f1 f.f2 f.f3 _ _ w h1.h0 h1.l0 h1.h1 h1.l1 hk'⟩
section
variable (f : S37) (t : By) (A : Option Addr) (a : Nat) (C : Option Addr) (c : Nat) (w : World) (h1 : FC w f A a C c)
include h1
set_option maxHeartbeats 2000000 in
set_option maxRecDepth 100000 in
theorem texts_heavy (hf : okL f = false) :
    Calls Try.prog 5 #[.agg #[.slice A f.f0.length a, .slice C f.f1.length c, .int .i64 f.f2, .int .i64 f.f3], .string (B t)] w (TellEnd w) := by
  have H1 := Aside0.mk h1
  have HL := Aside0.mk ((light1 f).trans (by rw [hf]))
  clear hf
  clear h1
  go_enter Try.func5, Try.ntmps5
  go_wp2_with (first
    | (go_at_call 10; (refine (awake_tell _).mono ?_); rintro e w9 ⟨rfl, hb⟩; have HE := Aside0.mk (below_then HB1.out HB1.out.size hb); clear hb)
    | (go_at_call 8; (refine (manystrandlaw07_light.calls 2 (some ⟨w.heap.size + 1, 0, none⟩) 1 [f] false _ (one_C (H1.out.below (below_alloc (below_alloc (Below.refl _ _) _) _)) (blk_newT (by simp))) (Nat.le_refl _) HL.out).mono ?_); rintro e w1 ⟨rfl, hb⟩; have HB1 := Aside0.mk (below_then (below_alloc (below_alloc (Below.refl _ _) _) _) (by simp <;> omega) hb); clear hb))
  go_ret
  exact ⟨rfl, HE.out⟩
set_option maxHeartbeats 2000000 in
set_option maxRecDepth 100000 in
theorem texts_long (hf : okL f = true) (ht : ¬ t.length ≤ 2000) :
    Calls Try.prog 5 #[.agg #[.slice A f.f0.length a, .slice C f.f1.length c, .int .i64 f.f2, .int .i64 f.f3], .string (B t)] w (TellEnd w) := by
  have H1 := Aside0.mk h1
  have HL := Aside0.mk ((light1 f).trans (by rw [hf]))
  have d1 : decide (2000 < ((B t).size : Int)) = true := decide_eq_true (by rw [size_ofL]; omega)
  clear hf ht
  clear h1
  go_enter Try.func5, Try.ntmps5
  go_wp2_with (first
    | (go_at_call 10; (refine (awake_tell _).mono ?_); rintro e w9 ⟨rfl, hb⟩; have HE := Aside0.mk (below_then HB1.out HB1.out.size hb); clear hb)
    | (go_at_call 8; (refine (manystrandlaw07_light.calls 2 (some ⟨w.heap.size + 1, 0, none⟩) 1 [f] true _ (one_C (H1.out.below (below_alloc (below_alloc (Below.refl _ _) _) _)) (blk_newT (by simp))) (Nat.le_refl _) HL.out).mono ?_); rintro e w1 ⟨rfl, hb⟩; have HB1 := Aside0.mk (below_then (below_alloc (below_alloc (Below.refl _ _) _) _) (by simp <;> omega) hb); clear hb))
  go_ret
  exact ⟨rfl, HE.out⟩
set_option maxHeartbeats 2000000 in
set_option maxRecDepth 100000 in
theorem texts_light (hf : okL f = true) (ht : t.length ≤ 2000) :
    Calls Try.prog 5 #[.agg #[.slice A f.f0.length a, .slice C f.f1.length c, .int .i64 f.f2, .int .i64 f.f3], .string (B t)] w (TellEnd w) := by
  have H1 := Aside0.mk h1
  have HL := Aside0.mk ((light1 f).trans (by rw [hf]))
  have HF := Aside0.mk (show Sh f from ⟨by have := okL_sh hf; omega, by have := okL_sh hf; omega⟩)
  have d1 : decide (2000 < ((B t).size : Int)) = false := decide_eq_false (by rw [size_ofL]; omega)
  obtain ⟨x, hP, hO⟩ := parse_both ht
  have HP := Aside0.mk hP
  have HO := Aside0.mk hO
  clear h1 hf ht hP hO
  go_enter Try.func5, Try.ntmps5
  go_upto_region 3 with (go_at_call 8; (refine (manystrandlaw07_light.calls 2 (some ⟨w.heap.size + 1, 0, none⟩) 1 [f] true _ (one_C (H1.out.below (below_alloc (below_alloc (Below.refl _ _) _) _)) (blk_newT (by simp))) (Nat.le_refl _) HL.out).mono ?_); rintro e w1 ⟨rfl, hb⟩; have HB := Aside0.mk (below_then (below_alloc (below_alloc (Below.refl _ _) _) _) (by simp <;> omega) hb); have B0 := Aside0.mk (blk_below (blk_alloc (blk_new w _) _) hb); clear hb)
  (try simp only [Act.put, List.setIfInBounds_toArray, List.set_cons_zero, List.set_cons_succ])
  go_cut [5, 6] (fun v5 v6 wx => v5 = .string (textOut f).1 ∧ v6 = .int .i64 (textOut f).2 ∧ Aside0 (Below w.heap.size w wx) ∧ Aside0 (wx.heap[w.heap.size]? = some (.cells #[.slice A f.f0.length a, .slice C f.f1.length c, .int .i64 f.f2, .int .i64 f.f3] 37 (0, 0))))
  case first => as_aux_lemma =>
    have x0 := (blk_cell B0.out 0).trans rfl
    have x1 := (blk_cell B0.out 1).trans rfl
    have x2 := (blk_cell B0.out 2).trans rfl
    have x3 := (blk_cell B0.out 3).trans rfl
    go_wp2_with (go_at_call 30; (refine (text_both HF.out (H1.out.below HB.out)).1.mono ?_); rintro e w2 ⟨rfl, hb⟩; have HB2 := Aside0.mk (below_step HB.out hb); have C0 := Aside0.mk (blk_below B0.out hb); clear hb x0 x1 x2 x3)
    go_meet
    case rel => exact ⟨rfl, rfl, HB2, C0⟩
  case rest =>
    obtain ⟨rfl, rfl, HB', B0'⟩ := hcut
    clear HB B0
    have HB := HB'
    have B0 := B0'
    clear HB' B0'
    go_upto_region 4 with fail
    (try simp only [Act.put, List.setIfInBounds_toArray, List.set_cons_zero, List.set_cons_succ])
    go_cut [7, 8] (fun v5 v6 wx => v5 = .string (textOut f).1 ∧ v6 = .int .i64 (textOut f).2 ∧ Aside0 (Below w.heap.size w wx) ∧ Aside0 (wx.heap[w.heap.size]? = some (.cells #[.slice A f.f0.length a, .slice C f.f1.length c, .int .i64 f.f2, .int .i64 f.f3] 37 (0, 0))))
    case first => as_aux_lemma =>
      have x0 := (blk_cell B0.out 0).trans rfl
      have x1 := (blk_cell B0.out 1).trans rfl
      have x2 := (blk_cell B0.out 2).trans rfl
      have x3 := (blk_cell B0.out 3).trans rfl
      go_wp2_with (go_at_call 31; (refine (text_both HF.out (H1.out.below HB.out)).2.mono ?_); rintro e w2 ⟨rfl, hb⟩; have HB2 := Aside0.mk (below_step HB.out hb); have C0 := Aside0.mk (blk_below B0.out hb); clear hb x0 x1 x2 x3)
      go_meet
      case rel => exact ⟨rfl, rfl, HB2, C0⟩
    case rest =>
      obtain ⟨rfl, rfl, HB', B0'⟩ := hcut
      clear HB B0
      have HB := HB'
      have B0 := B0'
      clear HB' B0'
      go_upto_region 5 with fail
      (try simp only [Act.put, List.setIfInBounds_toArray, List.set_cons_zero, List.set_cons_succ])
      go_cut [9, 10] (fun v9 v10 wx => ∃ (n9 : Nat) (A9 : Option Addr) (a9 : Nat) (C9 : Option Addr) (c9 : Nat), v9 = .pointer (some ⟨n9, 0, none⟩) ∧ v10 = .int .i64 x.2 ∧ Aside0 (Below w.heap.size w wx) ∧ Aside0 (wx.heap[w.heap.size]? = some (.cells #[.slice A f.f0.length a, .slice C f.f1.length c, .int .i64 f.f2, .int .i64 f.f3] 37 (0, 0))) ∧ Aside0 (wx.heap[n9]? = some (.cells #[.slice A9 x.1.f0.length a9, .slice C9 x.1.f1.length c9, .int .i64 x.1.f2, .int .i64 x.1.f3] 37 (0, 0))) ∧ Aside0 (FC wx x.1 A9 a9 C9 c9))
      case first => as_aux_lemma =>
        go_wp2_with (go_at_call 32; (refine (HP.out.1 _).mono ?_); rintro e w2 ⟨A9, a9, C9, c9, rfl, hx, hb⟩; have HX := Aside0.mk hx; have HB2 := Aside0.mk (below_step HB.out hb); have C0 := Aside0.mk (blk_below B0.out hb); clear hx hb)
        go_meet
        case rel => exact ⟨w2.heap.size, A9, a9, C9, c9, rfl, rfl, ⟨below_alloc HB2.out _⟩, ⟨blk_alloc C0.out _⟩, ⟨blk_new _ _⟩, ⟨HX.out.below (below_alloc (Below.refl _ _) _)⟩⟩
      case rest =>
        obtain ⟨n9, A9, a9, C9, c9, rfl, rfl, HB9, D0, N9, X9⟩ := hcut
        clear HB B0
        go_upto_region 6 with fail
        (try simp only [Act.put, List.setIfInBounds_toArray, List.set_cons_zero, List.set_cons_succ])
        go_cut [11, 12] (fun v11 v12 wx => ∃ (n11 : Nat) (A11 : Option Addr) (a11 : Nat) (C11 : Option Addr) (c11 : Nat), v11 = .pointer (some ⟨n11, 0, none⟩) ∧ v12 = .int .i64 x.2 ∧ Aside0 (Below w.heap.size w wx) ∧ Aside0 (wx.heap[w.heap.size]? = some (.cells #[.slice A f.f0.length a, .slice C f.f1.length c, .int .i64 f.f2, .int .i64 f.f3] 37 (0, 0))) ∧ Aside0 (wx.heap[n9]? = some (.cells #[.slice A9 x.1.f0.length a9, .slice C9 x.1.f1.length c9, .int .i64 x.1.f2, .int .i64 x.1.f3] 37 (0, 0))) ∧ Aside0 (FC wx x.1 A9 a9 C9 c9) ∧ Aside0 (wx.heap[n11]? = some (.cells #[.slice A11 x.1.f0.length a11, .slice C11 x.1.f1.length c11, .int .i64 x.1.f2, .int .i64 x.1.f3] 37 (0, 0))) ∧ Aside0 (FC wx x.1 A11 a11 C11 c11))
        case first => as_aux_lemma =>
          go_wp2_with (go_at_call 33; (refine (HP.out.2 _).mono ?_); rintro e w2 ⟨A11, a11, C11, c11, rfl, hx, hb⟩; have HX := Aside0.mk hx; have HB2 := Aside0.mk (below_step HB9.out hb); have C0 := Aside0.mk (blk_below D0.out hb); have C9' := Aside0.mk (blk_below N9.out hb); have Y9 := Aside0.mk (X9.out.below hb); clear hx hb)
          go_meet
          case rel => exact ⟨w2.heap.size, A11, a11, C11, c11, rfl, rfl, ⟨below_alloc HB2.out _⟩, ⟨blk_alloc C0.out _⟩, ⟨blk_alloc C9'.out _⟩, ⟨Y9.out.below (below_alloc (Below.refl _ _) _)⟩, ⟨blk_new _ _⟩, ⟨HX.out.below (below_alloc (Below.refl _ _) _)⟩⟩
        case rest =>
          obtain ⟨n11, A11, a11, C11, c11, rfl, rfl, HB11, E0, N9', X9', N11, X11⟩ := hcut
          clear HB9 D0 N9 X9
          go_upto_region 7 with fail
          (try simp only [Act.put, List.setIfInBounds_toArray, List.set_cons_zero, List.set_cons_succ])
          go_cut [76] (fun v76 wx => v76 = .bool false ∧ Aside0 (Below w.heap.size w wx) ∧ Aside0 (wx.heap[w.heap.size]? = some (.cells #[.slice A f.f0.length a, .slice C f.f1.length c, .int .i64 f.f2, .int .i64 f.f3] 37 (0, 0))))
          case first => as_aux_lemma =>
            have x0 := (blk_cell N9'.out 0).trans rfl
            have x1 := (blk_cell N9'.out 1).trans rfl
            have x2 := (blk_cell N9'.out 2).trans rfl
            have x3 := (blk_cell N9'.out 3).trans rfl
            have y0 := (blk_cell N11.out 0).trans rfl
            have y1 := (blk_cell N11.out 1).trans rfl
            have y2 := (blk_cell N11.out 2).trans rfl
            have y3 := (blk_cell N11.out 3).trans rfl
            rcases HO.out.2 with ⟨hc, hv⟩ | ⟨hc, hv⟩
            · have c0 : decide (x.2 = 0) = true := decide_eq_true hc
              have c1 : (x.2 == 0) = true := beq_iff_eq.mpr hc
              have c2 : (x.2 != 0) = false := bne_eq_false_iff_eq.mpr hc
              have hq := Aside0.mk (show famSameT.f 1001 x.1.f0 x.1.f1 x.1.f2 x.1.f3 x.1.f0 x.1.f1 x.1.f2 x.1.f3 = some true from same_self HO.out.1.1 HO.out.1.2 hv (by omega))
              clear hc hv
              go_wp2_with (go_at_call 18; (refine (famSameT.calls 1001 A9 a9 x.1.f0 C9 c9 x.1.f1 x.1.f2 x.1.f3 A11 a11 x.1.f0 C11 c11 x.1.f1 x.1.f2 x.1.f3 _ X9'.out.h0 X9'.out.l0 X9'.out.h1 X9'.out.l1 X11.out.h0 X11.out.l0 X11.out.h1 X11.out.l1 hq.out).mono ?_); rintro e w2 ⟨rfl, hb⟩; have HB2 := Aside0.mk (below_step HB11.out hb); have F0 := Aside0.mk (blk_below E0.out hb); clear hb x0 x1 x2 x3 y0 y1 y2 y3)
              go_meet
              case rel => exact ⟨rfl, HB2, F0⟩
            · have c0 : decide (x.2 = 0) = false := decide_eq_false hc
              have c1 : (x.2 == 0) = false := beq_eq_false_iff_ne.mpr hc
              have c2 : (x.2 != 0) = true := bne_iff_ne.mpr hc
              have hq := Aside0.mk (show manystrandlaw07_zero.f x.1.f0 x.1.f1 x.1.f2 x.1.f3 = some true by rw [show x.1 = z37' from hv]; exact zero_t)
              clear hc hv
              go_wp2_with (go_at_call 19; (refine (manystrandlaw07_zero.calls A9 a9 x.1.f0 C9 c9 x.1.f1 x.1.f2 x.1.f3 true _ X9'.out.h0 X9'.out.l0 X9'.out.h1 X9'.out.l1 hq.out).mono ?_); rintro e w2 ⟨rfl, hb⟩; have HB2 := Aside0.mk (below_step HB11.out hb); have F0 := Aside0.mk (blk_below E0.out hb); clear hb x0 x1 x2 x3 y0 y1 y2 y3)
              go_meet
              case rel => exact ⟨rfl, HB2, F0⟩
          case rest =>
            obtain ⟨rfl, HB7, G0⟩ := hcut
            clear HB11 E0 N9' X9' N11 X11
            by_cases hn : isN f = true
            · rw [show textOut f = (B (txt f), 0) by unfold textOut; rw [if_pos hn]]
              have HBK := Aside0.mk (fun w => parse_back hn w)
              have hq := Aside0.mk (show famSameT.f 1001 f.f0 f.f1 f.f2 f.f3 f.f0 f.f1 f.f2 f.f3 = some true from same_self HF.out.1 HF.out.2 (isN_vl hn) (by omega))
              clear hn
              go_upto_region 10 with fail
              (try simp only [Act.put, List.setIfInBounds_toArray, List.set_cons_zero, List.set_cons_succ])
              go_cut [13, 14] (fun v13 v14 wx => ∃ (n13 : Nat) (A13 : Option Addr) (a13 : Nat) (C13 : Option Addr) (c13 : Nat), v13 = .pointer (some ⟨n13, 0, none⟩) ∧ v14 = .int .i64 0 ∧ Aside0 (Below w.heap.size w wx) ∧ Aside0 (wx.heap[w.heap.size]? = some (.cells #[.slice A f.f0.length a, .slice C f.f1.length c, .int .i64 f.f2, .int .i64 f.f3] 37 (0, 0))) ∧ Aside0 (wx.heap[n13]? = some (.cells #[.slice A13 f.f0.length a13, .slice C13 f.f1.length c13, .int .i64 f.f2, .int .i64 f.f3] 37 (0, 0))) ∧ Aside0 (FC wx f A13 a13 C13 c13))
              case first => as_aux_lemma =>
                go_wp2_with (go_at_call 32; (refine (HBK.out _).mono ?_); rintro e w2 ⟨A13, a13, C13, c13, rfl, hx, hb⟩; have HX := Aside0.mk hx; have HB2 := Aside0.mk (below_step HB7.out hb); have C0 := Aside0.mk (blk_below G0.out hb); clear hx hb)
                go_meet
                case rel => exact ⟨w2.heap.size, A13, a13, C13, c13, rfl, rfl, ⟨below_alloc HB2.out _⟩, ⟨blk_alloc C0.out _⟩, ⟨blk_new _ _⟩, ⟨HX.out.below (below_alloc (Below.refl _ _) _)⟩⟩
              case rest =>
                obtain ⟨n13, A13, a13, C13, c13, rfl, rfl, HB13, J0, N13, X13⟩ := hcut
                clear HB7 G0
                have x0 := (blk_cell J0.out 0).trans rfl
                have x1 := (blk_cell J0.out 1).trans rfl
                have x2 := (blk_cell J0.out 2).trans rfl
                have x3 := (blk_cell J0.out 3).trans rfl
                have y0 := (blk_cell N13.out 0).trans rfl
                have y1 := (blk_cell N13.out 1).trans rfl
                have y2 := (blk_cell N13.out 2).trans rfl
                have y3 := (blk_cell N13.out 3).trans rfl
                go_wp2_with (first | (go_at_call 10; (refine (awake_tell _).mono ?_); rintro e w9 ⟨rfl, hb⟩; have HE := Aside0.mk (below_then HB14.out HB14.out.size hb); clear hb) | (go_at_call 18; (refine (famSameT.calls 1001 A13 a13 f.f0 C13 c13 f.f1 f.f2 f.f3 A a f.f0 C c f.f1 f.f2 f.f3 _ X13.out.h0 X13.out.l0 X13.out.h1 X13.out.l1 (H1.out.below HB13.out).h0 H1.out.l0 (H1.out.below HB13.out).h1 H1.out.l1 hq.out).mono ?_); rintro e w2 ⟨rfl, hb⟩; have HB14 := Aside0.mk (below_step HB13.out hb); clear hb x0 x1 x2 x3 y0 y1 y2 y3))
                go_ret
                exact ⟨rfl, HE.out⟩
            · rw [show textOut f = (⟨#[]⟩, 2) by unfold textOut; rw [if_neg hn]]
              clear hn
              go_wp2_with (go_at_call 10; (refine (awake_tell _).mono ?_); rintro e w9 ⟨rfl, hb⟩; have HE := Aside0.mk (below_then HB7.out HB7.out.size hb); clear hb)
              go_ret
              exact ⟨rfl, HE.out⟩
theorem texts_any : Calls Try.prog 5 #[.agg #[.slice A f.f0.length a, .slice C f.f1.length c, .int .i64 f.f2, .int .i64 f.f3], .string (B t)] w (TellEnd w) := by
  cases hf : okL f
  · exact texts_heavy f t A a C c w h1 hf
  · by_cases ht : t.length ≤ 2000
    · exact texts_light f t A a C c w h1 hf ht
    · exact texts_long f t A a C c w h1 hf ht
end
end Go.Proofs.Ytgfbgfbnmiainaa.Fam
/-! What came in, read: numbers, texts, lists, structs. -/
namespace Go.Proofs.Ytgfbgfbnmiainaa.Fam
set_option linter.unusedVariables false
set_option linter.unusedSimpArgs false
open Go.RowKit Go.Proofs.YtgfbgfbnmiainaaW.PrintWords Go.Proofs.YtgfbgfbnmiainaaW.PrintLast Go.Proofs.YtgfbgfbnmiainaaW.PrintMore Go.Proofs.Ytgfbgfbnmiainaa.Q
section
variable {H : Type} {enc : TypeId × Value → H} {w : World} {base : Nat} {spare : Nat → Bool} {held : Bool} {fuel : Nat} {cs : List Value} {x : DataW H × List MemPlace}
theorem in_int {t : TypeId} {k : IntKind} (ht : Try.prog.underlying t = some (.int k)) (h : DataW.trod enc Try.prog w base spare held fuel t cs = some x) : ∃ n, cs = [.int k n] ∧ (Lit.int k n).wf = true := by
  cases fuel with
  | zero => simp [DataW.trod] at h
  | succ n =>
    unfold DataW.trod at h
    rw [ht] at h
    split at h <;> simp_all
theorem in_string {t : TypeId} (ht : Try.prog.underlying t = some .string) (h : DataW.trod enc Try.prog w base spare held fuel t cs = some x) : ∃ s, cs = [.string s] := by
  cases fuel with
  | zero => simp [DataW.trod] at h
  | succ n =>
    unfold DataW.trod at h
    rw [ht] at h
    split at h <;> simp_all
/-- A list of what can be read. -/
theorem in_slice {α : Type} (d : Kd α) {t e : TypeId} (ht : Try.prog.underlying t = some (.slice e)) (hc : Try.prog.cellsOf e = d.sz) (hd : ∀ (n : Nat) (cs : List Value) (y : DataW H × List MemPlace), DataW.trod enc Try.prog w base spare held n e cs = some y → ∃ p, d.K w p cs)
    (h : DataW.trod enc Try.prog w base spare held fuel t cs = some x) : ∃ (xs : List α) (A : Option Addr) (c : Nat), cs = [.slice A xs.length c] ∧ xs.length ≤ c ∧ d.C w A xs.length xs := by
  rcases DataW.trod_slice ht h with ⟨rfl, _⟩ | ⟨a, len, cap, elems, rest, n, _, rfl, _, hb, hl, hm, hlen, hel, _, _⟩
  · exact ⟨[], none, 0, rfl, Nat.le_refl _, rfl, by simp, fun h => absurd h (by simp)⟩
  · have each : ∀ i, i < len → ∃ (ci : List Value) (p : α), w.cells? base (a.add (i * d.sz)) d.sz = some ci ∧ d.K w p ci := by
      intro i hi
      have h1 := hel i hi
      rw [List.getElem?_eq_getElem (by omega), hc] at h1
      obtain ⟨ci, h2, h3⟩ := Option.bind_eq_some_iff.1 h1
      obtain ⟨p, hp⟩ := hd _ _ _ h3
      exact ⟨ci, p, h2, hp⟩
    have hex : ∃ xs : List α, xs.length = len ∧ ∀ i (hi : i < xs.length), ∃ ci, w.cells? base (a.add (i * d.sz)) d.sz = some ci ∧ d.K w xs[i] ci := by
      clear hel hlen
      have key : ∀ m, m ≤ len → ∃ xs : List α, xs.length = m ∧ ∀ i (hi : i < xs.length), ∃ ci, w.cells? base (a.add (i * d.sz)) d.sz = some ci ∧ d.K w xs[i] ci := by
        intro m
        induction m with
        | zero => exact fun _ => ⟨[], rfl, fun i hi => absurd hi (by simp)⟩
        | succ m ih =>
          intro hm'
          obtain ⟨xs, hxl, hx⟩ := ih (by omega)
          obtain ⟨ci, p, h1, h2⟩ := each m (by omega)
          refine ⟨xs ++ [p], by simp [hxl], fun i hi => ?_⟩
          rcases Nat.lt_or_ge i xs.length with hlt | hge
          · obtain ⟨cj, h3, h4⟩ := hx i hlt
            exact ⟨cj, h3, by rw [List.getElem_append_left hlt]; exact h4⟩
          · simp only [List.length_append, List.length_cons, List.length_nil] at hi
            obtain rfl : i = m := by omega
            exact ⟨ci, h1, by rw [List.getElem_append_right hge]; simpa [hxl] using h2⟩
      exact key len (Nat.le_refl _)
    obtain ⟨xs, hxl, hx⟩ := hex
    refine ⟨xs, some a, cap, by rw [hxl], by omega, rfl, by simp only [maxLen] at hm; omega, fun _ => ⟨a, rfl, fun j p hj => ?_⟩⟩
    obtain ⟨hj1, hj2⟩ := List.getElem?_eq_some_iff.1 hj
    obtain ⟨ci, h1, h2⟩ := hx j hj1
    rw [hj2] at h2
    refine ⟨ci, d.K_len h2, h2, fun i u hu => ?_⟩
    obtain ⟨hb1, hb2, hb3⟩ := World.cells?_some h1
    have hi : i < d.sz := by rw [← d.K_len h2]; exact (List.getElem?_eq_some_iff.1 hu).1
    rw [← Addr.add_add]
    exact (hb3 i hi).trans hu
theorem size9 : Try.prog.cellsOf 9 = 1 := by kernel_rfl
theorem size31 : Try.prog.cellsOf 31 = 1 := by kernel_rfl
theorem size3 : Try.prog.cellsOf 3 = 1 := by kernel_rfl
theorem size33 : Try.prog.cellsOf 33 = 3 := by kernel_rfl
theorem in_ints (h : DataW.trod enc Try.prog w base spare held fuel 31 cs = some x) : ∃ (xs : List Int) (A : Option Addr) (c : Nat), cs = [.slice A xs.length c] ∧ xs.length ≤ c ∧ (Kd.int .i64).C w A xs.length xs :=
  in_slice (Kd.int .i64) Try.underlying31 size3 (fun n cs y hy => by obtain ⟨m, rfl, _⟩ := in_int Try.underlying3 hy; exact ⟨m, rfl⟩) h
set_option maxRecDepth 100000 in
theorem in_33 (h : DataW.trod enc Try.prog w base spare held fuel 33 cs = some x) : ∃ p : S33, k33.K w p cs := by
  obtain ⟨xs, n, _, _, hl, hxl, hf⟩ := DataW.trod_struct Try.underlying33 h
  rw [size33] at hl
  have hg : ∀ i, i < 3 → ∃ y, xs[i]? = some y := fun i hi => ⟨_, List.getElem?_eq_getElem (by simp at hxl; omega)⟩
  match cs, hl with
  | [c0, c1, c2], _ =>
    obtain ⟨y0, e0⟩ := hg 0 (by decide)
    obtain ⟨y1, e1⟩ := hg 1 (by decide)
    obtain ⟨y2, e2⟩ := hg 2 (by decide)
    have h0 : DataW.trod enc Try.prog w base spare held n 9 (([c0, c1, c2].drop 0).take (Try.prog.cellsOf 9)) = some y0 := (hf 0 _ rfl).trans e0
    have h1 : DataW.trod enc Try.prog w base spare held n 31 (([c0, c1, c2].drop 1).take (Try.prog.cellsOf 31)) = some y1 := (hf 1 _ rfl).trans e1
    have h2 : DataW.trod enc Try.prog w base spare held n 3 (([c0, c1, c2].drop 2).take (Try.prog.cellsOf 3)) = some y2 := (hf 2 _ rfl).trans e2
    rw [size9] at h0
    rw [size31] at h1
    rw [size3] at h2
    obtain ⟨s, g0⟩ := in_string Try.underlying9 h0
    obtain ⟨vs, A, c, g1, hv, hC⟩ := in_ints h1
    obtain ⟨m, g2, _⟩ := in_int Try.underlying3 h2
    simp at g0 g1 g2
    subst g0 g1 g2
    exact ⟨⟨s, vs, m⟩, k33_mk w ⟨s, vs, m⟩ hv hC⟩
theorem in_lists (h : DataW.trod enc Try.prog w base spare held fuel 51 cs = some x) : ∃ (L : List (List Int)) (A : Option Addr) (c : Nat), cs = [.slice A L.length c] ∧ L.length ≤ c ∧ (Kd.slice 3 (Kd.int .i64)).C w A L.length L :=
  in_slice (Kd.slice 3 (Kd.int .i64)) Try.underlying51 size31 (fun n cs y hy => by obtain ⟨xs, A, c, rfl, hc, hC⟩ := in_ints hy; exact ⟨xs, A, c, rfl, hc, hC⟩) h
end
end Go.Proofs.Ytgfbgfbnmiainaa.Fam
/-! What came in, read: families, lists of families, lists of relations. -/
namespace Go.Proofs.Ytgfbgfbnmiainaa.Fam
set_option linter.unusedVariables false
set_option linter.unusedSimpArgs false
open Go.RowKit Go.Proofs.YtgfbgfbnmiainaaW.PrintWords Go.Proofs.YtgfbgfbnmiainaaW.PrintLast Go.Proofs.YtgfbgfbnmiainaaW.PrintMore Go.Proofs.Ytgfbgfbnmiainaa.Q
section
variable {H : Type} {enc : TypeId × Value → H} {w : World} {base : Nat} {spare : Nat → Bool} {held : Bool} {fuel : Nat} {cs : List Value} {x : DataW H × List MemPlace}
theorem size37 : Try.prog.cellsOf 37 = 4 := by kernel_rfl
set_option maxRecDepth 100000 in
theorem in_37 (h : DataW.trod enc Try.prog w base spare held fuel 37 cs = some x) : ∃ p : S37, k37.K w p cs := by
  obtain ⟨xs, n, _, _, hl, hxl, hf⟩ := DataW.trod_struct Try.underlying37 h
  rw [size37] at hl
  have hg : ∀ i, i < 4 → ∃ y, xs[i]? = some y := fun i hi => ⟨_, List.getElem?_eq_getElem (by simp at hxl; omega)⟩
  match cs, hl with
  | [c0, c1, c2, c3], _ =>
    obtain ⟨y0, e0⟩ := hg 0 (by decide)
    obtain ⟨y1, e1⟩ := hg 1 (by decide)
    obtain ⟨y2, e2⟩ := hg 2 (by decide)
    obtain ⟨y3, e3⟩ := hg 3 (by decide)
    have h0 : DataW.trod enc Try.prog w base spare held n 31 (([c0, c1, c2, c3].drop 0).take (Try.prog.cellsOf 31)) = some y0 := (hf 0 _ rfl).trans e0
    have h1 : DataW.trod enc Try.prog w base spare held n 31 (([c0, c1, c2, c3].drop 1).take (Try.prog.cellsOf 31)) = some y1 := (hf 1 _ rfl).trans e1
    have h2 : DataW.trod enc Try.prog w base spare held n 3 (([c0, c1, c2, c3].drop 2).take (Try.prog.cellsOf 3)) = some y2 := (hf 2 _ rfl).trans e2
    have h3 : DataW.trod enc Try.prog w base spare held n 3 (([c0, c1, c2, c3].drop 3).take (Try.prog.cellsOf 3)) = some y3 := (hf 3 _ rfl).trans e3
    rw [size31] at h0 h1
    rw [size3] at h2 h3
    obtain ⟨v0, A0, a0, g0, hv0, hC0⟩ := in_ints h0
    obtain ⟨v1, A1, a1, g1, hv1, hC1⟩ := in_ints h1
    obtain ⟨m2, g2, _⟩ := in_int Try.underlying3 h2
    obtain ⟨m3, g3, _⟩ := in_int Try.underlying3 h3
    simp at g0 g1 g2 g3
    subst g0 g1 g2 g3
    exact ⟨⟨v0, v1, m2, m3⟩, k37_mk w ⟨v0, v1, m2, m3⟩ hv0 hC0 hv1 hC1⟩
theorem in_fams (h : DataW.trod enc Try.prog w base spare held fuel 23 cs = some x) : ∃ (l : List S37) (A : Option Addr) (c : Nat), cs = [.slice A l.length c] ∧ l.length ≤ c ∧ Kd.C k37 w A l.length l :=
  in_slice k37 Try.underlying23 size37 (fun n cs y hy => in_37 hy) h
theorem in_rels (h : DataW.trod enc Try.prog w base spare held fuel 22 cs = some x) : ∃ (l : List S33) (A : Option Addr) (c : Nat), cs = [.slice A l.length c] ∧ l.length ≤ c ∧ Kd.C k33 w A l.length l :=
  in_slice k33 Try.underlying22 size33 (fun n cs y hy => in_33 hy) h
end
end Go.Proofs.Ytgfbgfbnmiainaa.Fam
