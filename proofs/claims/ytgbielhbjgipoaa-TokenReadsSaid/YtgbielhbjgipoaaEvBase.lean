import Derived.Test.YtgbielhbjgipoaaV
/-! Words on 'from some number of rounds on', and on a text as a list of bytes of which a tail is still to be read. -/
namespace Go.Proofs.Ytgbielhbjgipoaa.Pure
set_option linter.unusedVariables false
set_option linter.unusedSimpArgs false
open Go.RowKit Go.Proofs.YtgbielhbjgipoaaW.PrintWords Go.Proofs.YtgbielhbjgipoaaW.PrintLast Go.Proofs.YtgbielhbjgipoaaW.PrintMore
theorem ev_pos {α : Type} {c : Prop} [Decidable c] {A B : Nat → Option α} {r : α} (h : c) (e : Ev A r) : Ev (fun k => if c then A k else B k) r := by
  simp only [if_pos h]; exact e
theorem ev_neg {α : Type} {c : Prop} [Decidable c] {A B : Nat → Option α} {r : α} (h : ¬c) (e : Ev B r) : Ev (fun k => if c then A k else B k) r := by
  simp only [if_neg h]; exact e
theorem ev_now {α : Type} {r r' : α} (h : r = r') : Ev (fun _ => some r) r' := ⟨0, fun _ _ => by rw [h]⟩
theorem ev_const {α : Type} {g : Option α} {r : α} (h : g = some r) : Ev (fun _ => g) r := ⟨0, fun _ _ => h⟩
theorem ev_bind0 {α β : Type} {g : Option α} {f : Nat → α → Option β} {a : α} {r : β} (h : g = some a) (k : Ev (fun n => f n a) r) : Ev (fun n => g.bind (f n)) r := by
  simp only [h, Option.bind_some]; exact k
abbrev By := List UInt8
/-- A text's bytes. -/
def L (a : ByteArray) : By := a.data.toList
/-- Where a tail of a text begins. -/
def at_ (a : ByteArray) (t : By) : Int := (a.size : Int) - (t.length : Int)
theorem L_length (a : ByteArray) : (L a).length = a.size := data_length a
theorem suf_tail {c : UInt8} {t l : By} (h : c :: t <:+ l) : t <:+ l := (List.suffix_cons c t).trans h
theorem suf_drop {t l : By} (n : Nat) (h : t <:+ l) : t.drop n <:+ l := (List.drop_suffix n t).trans h
theorem suf_len {a : ByteArray} {t : By} (h : t <:+ L a) : t.length ≤ a.size := by have := h.length_le; rwa [L_length] at this
theorem at_nil (a : ByteArray) : at_ a [] = a.size := by simp [at_]
theorem at_all (a : ByteArray) : at_ a (L a) = 0 := by simp [at_, L_length]
theorem at_cons (a : ByteArray) (c : UInt8) (t : By) : at_ a (c :: t) = at_ a t - 1 := by simp [at_]; omega
theorem at_nonneg {a : ByteArray} {t : By} (h : t <:+ L a) : 0 ≤ at_ a t := by have := suf_len h; unfold at_; omega
theorem at_le (a : ByteArray) (t : By) : at_ a t ≤ a.size := by unfold at_; omega
theorem at_lt (a : ByteArray) (c : UInt8) (t : By) : at_ a (c :: t) < a.size := by unfold at_; simp; omega
theorem suf_eq {a : ByteArray} {t : By} (h : t <:+ L a) : (L a).drop (at_ a t).toNat = t := by
  obtain ⟨p, hp⟩ := h
  have hl : a.size = p.length + t.length := by rw [← L_length, ← hp, List.length_append]
  have e : (at_ a t).toNat = p.length := by unfold at_; omega
  rw [e, ← hp, List.drop_left]
theorem L_get {a : ByteArray} (n : Nat) (h : n < a.size) : (L a)[n]'(by rw [L_length]; exact h) = a[n]'h := by
  simp [L]; rfl
theorem bt_of {a : ByteArray} {t : By} {c : UInt8} (h : c :: t <:+ L a) : bt a (at_ a (c :: t)) = (c.toNat : Int) := by
  have hn := at_nonneg h
  have hlt := at_lt a c t
  have hl : (at_ a (c :: t)).toNat < a.size := by omega
  rw [← bt_at a _ hl, ← L_get _ hl]
  have hs := suf_eq h
  have : (L a)[(at_ a (c :: t)).toNat]? = some c := by rw [← List.head?_drop, hs]; rfl
  rw [List.getElem?_eq_getElem (by rw [L_length]; exact hl)] at this
  injection this with this
  rw [this]
/-- A text of bytes. -/
def ofL (l : By) : ByteArray := ⟨l.toArray⟩
theorem L_ofL (l : By) : L (ofL l) = l := by simp [L, ofL]
theorem ofL_L (a : ByteArray) : ofL (L a) = a := by simp [L, ofL]
theorem L_inj {a b : ByteArray} (h : L a = L b) : a = b := by rw [← ofL_L a, ← ofL_L b, h]
theorem size_ofL (l : By) : (ofL l).size = l.length := by rw [← L_length, L_ofL]
theorem L_append (a b : ByteArray) : L (a ++ b) = L a ++ L b := by simp [L, ByteArray.data_append]
theorem L_extract (a : ByteArray) (i j : Nat) : L (a.extract i j) = ((L a).drop i).take (j - i) := by
  simp [L, ByteArray.data_extract]
theorem toList_L (a : ByteArray) : a.toList = L a := ByteArray.toList_eq a
theorem u8_range (c : UInt8) : 0 ≤ (c.toNat : Int) ∧ (c.toNat : Int) < 256 := by
  have := c.toNat_lt; omega
/-- What stands between two tails. -/
theorem ex_between {a : ByteArray} {w r : By} (h : w ++ r <:+ L a) : a.extract (at_ a (w ++ r)).toNat (at_ a r).toNat = ofL w := by
  apply L_inj
  rw [L_extract, L_ofL, suf_eq h]
  have hn := at_nonneg h
  have hl := suf_len h
  have e : (at_ a r).toNat - (at_ a (w ++ r)).toNat = w.length := by simp [at_] at hn hl ⊢; omega
  rw [e]; simp
theorem ex_rest {a : ByteArray} {t : By} (h : t <:+ L a) : a.extract (at_ a t).toNat a.size = ofL t := by
  apply L_inj
  rw [L_extract, L_ofL, suf_eq h]
  have hn := at_nonneg h
  have hl := suf_len h
  have e : a.size - (at_ a t).toNat = t.length := by simp [at_] at hn hl ⊢; omega
  rw [e, List.take_length]
theorem strOf (l : By) : strOfNums (l.map fun c => (c.toNat : Int)) = ofL l := by
  unfold strOfNums ofL
  rw [List.map_map]
  congr 1
  have : ((fun n : Int => UInt8.ofNat n.toNat) ∘ fun c : UInt8 => (c.toNat : Int)) = id := by
    funext c
    simp
  rw [this, List.map_id]
/-- Sizes that the statements let in. -/
abbrev Fits (a : ByteArray) : Prop := a.size ≤ 140737488351232
theorem at_succ {a : ByteArray} {c : UInt8} {t : By} (ha : Fits a) (h : c :: t <:+ L a) : wrap64 (at_ a (c :: t) + 1) = at_ a t := by
  have h1 := at_nonneg h
  have h2 := at_le a t
  rw [at_cons] at h1 ⊢
  unfold wrap64; omega
theorem at_succ2 {a : ByteArray} {c d : UInt8} {t : By} (ha : Fits a) (h : c :: d :: t <:+ L a) : wrap64 (at_ a (c :: d :: t) + 2) = at_ a t := by
  have h1 := at_nonneg h
  have h2 := at_le a t
  rw [at_cons, at_cons] at h1 ⊢
  unfold wrap64; omega
theorem at_succ3 {a : ByteArray} {c d e : UInt8} {t : By} (ha : Fits a) (h : c :: d :: e :: t <:+ L a) : wrap64 (at_ a (c :: d :: e :: t) + 3) = at_ a t := by
  have h1 := at_nonneg h
  have h2 := at_le a t
  rw [at_cons, at_cons, at_cons] at h1 ⊢
  unfold wrap64; omega
end Go.Proofs.Ytgbielhbjgipoaa.Pure
