import Derived.Test.YtgfbgfbnmiainaaBFamilyTextsq0
import Derived.Test.YtgfbgfbnmiainaaV
import Derived.RegionTactic
import Derived.Deep.QuietTactic
import Derived.BigQuiet
import Derived.Test.YtgfbgfbnmiainaaBFamilyTextsq1
/-! The number of set bits: OnesCount64 is the length of the list of them. -/
namespace Go.Proofs.Ytgfbgfbnmiainaa.Fam
set_option linter.unusedVariables false
set_option linter.unusedSimpArgs false
open Go.RowKit Go.Proofs.YtgfbgfbnmiainaaW.PrintWords Go.Proofs.YtgfbgfbnmiainaaW.PrintLast Go.Proofs.YtgfbgfbnmiainaaW.PrintMore Go.Proofs.Ytgfbgfbnmiainaa.Q
/-- How many of the first n bits are set. -/
def cnt : Nat → Nat → Nat
  | 0, _ => 0
  | n + 1, x => x % 2 + cnt n (x / 2)
theorem cnt_split : ∀ (k m b V : Nat), b < 2 ^ k → cnt (k + m) (b + 2 ^ k * V) = cnt k b + cnt m V := by
  intro k
  induction k with
  | zero =>
    intro m b V hb
    have : b = 0 := by simpa using hb
    subst this
    simp [cnt]
  | succ k ih =>
    intro m b V hb
    have e1 : k + 1 + m = (k + m) + 1 := by omega
    have h2 : (2 : Nat) ^ (k + 1) = 2 * 2 ^ k := by rw [Nat.pow_succ, Nat.mul_comm]
    rw [e1, h2]
    rw [h2] at hb
    have hm : 2 * 2 ^ k * V = 2 * (2 ^ k * V) := Nat.mul_assoc _ _ _
    have e2 : (b + 2 * 2 ^ k * V) % 2 = b % 2 := by omega
    have e3 : (b + 2 * 2 ^ k * V) / 2 = b / 2 + 2 ^ k * V := by omega
    simp only [cnt]
    rw [e2, e3, ih m (b / 2) V (by omega)]
    omega
/-- The value of bytes, the least first. -/
def val : List Nat → Nat
  | [] => 0
  | b :: bs => b + 256 * val bs
theorem val_lt : ∀ bs : List Nat, (∀ b ∈ bs, b < 256) → val bs < 256 ^ bs.length
  | [], _ => by simp [val]
  | b :: bs, h => by
    have h1 := h b (List.mem_cons_self ..)
    have h2 := val_lt bs (fun x hx => h x (List.mem_cons_of_mem _ hx))
    simp only [val, List.length_cons, Nat.pow_succ]
    omega
theorem and_step (a A m M : Nat) (ha : a < 256) (hm : m < 256) : (a + 256 * A) &&& (m + 256 * M) = (a &&& m) + 256 * (A &&& M) := by
  have hk : a &&& m < 2 ^ 8 := Nat.lt_of_le_of_lt Nat.and_le_left ha
  apply Nat.eq_of_testBit_eq
  intro i
  have e1 : a + 256 * A = 2 ^ 8 * A + a := by omega
  have e2 : m + 256 * M = 2 ^ 8 * M + m := by omega
  have e3 : (a &&& m) + 256 * (A &&& M) = 2 ^ 8 * (A &&& M) + (a &&& m) := by omega
  rw [e1, e2, e3, Nat.testBit_and, Nat.testBit_two_pow_mul_add _ ha, Nat.testBit_two_pow_mul_add _ hm, Nat.testBit_two_pow_mul_add _ hk]
  split
  · rw [Nat.testBit_and]
  · rw [Nat.testBit_and]
theorem and_mask (m : Nat) (hm : m < 256) : ∀ bs : List Nat, (∀ b ∈ bs, b < 256) → val bs &&& val (List.replicate bs.length m) = val (bs.map (· &&& m))
  | [], _ => by simp [val]
  | b :: bs, h => by
    simp only [List.length_cons, List.replicate_succ, val, List.map_cons]
    rw [and_step _ _ _ _ (h b (List.mem_cons_self ..)) hm, and_mask m hm bs (fun x hx => h x (List.mem_cons_of_mem _ hx))]
theorem shift_mask (s m : Nat) (t : Nat) (hst : s * t = 256) (hm : m < 256) (hs : 0 < s) (hk : ∀ a, a < t → ∀ c, c < s → (a + t * c) &&& m = a &&& m) : ∀ bs : List Nat, (∀ b ∈ bs, b < 256) → (val bs / s) &&& val (List.replicate bs.length m) = val (bs.map (fun b => (b / s) &&& m))
  | [], _ => by simp [val]
  | b :: bs, h => by
    have hb := h b (List.mem_cons_self ..)
    have ih := shift_mask s m t hst hm hs hk bs (fun x hx => h x (List.mem_cons_of_mem _ hx))
    simp only [List.length_cons, List.replicate_succ, val, List.map_cons]
    have hV : val bs = s * (val bs / s) + val bs % s := (Nat.div_add_mod _ _).symm
    have hc : val bs % s < s := Nat.mod_lt _ hs
    have e : (b + 256 * val bs) / s = (b / s + t * (val bs % s)) + 256 * (val bs / s) := by
      have h1 : b + 256 * val bs = b + s * (t * (val bs % s) + 256 * (val bs / s)) := by
        rw [Nat.mul_add]
        have h2 : s * (t * (val bs % s)) = 256 * (val bs % s) := by rw [← Nat.mul_assoc, hst]
        have h3 : s * (256 * (val bs / s)) = 256 * (s * (val bs / s)) := by rw [← Nat.mul_assoc, Nat.mul_comm s 256, Nat.mul_assoc]
        rw [h2, h3]
        omega
      rw [h1, Nat.add_mul_div_left _ _ hs]
      omega
    have hbt : b / s < t := by
      apply Nat.div_lt_of_lt_mul
      rw [hst]; exact hb
    have hlt : b / s + t * (val bs % s) < 256 := by
      have h4 : t * (val bs % s) ≤ t * (s - 1) := Nat.mul_le_mul_left _ (by omega)
      have h5 : t * (s - 1) + t = 256 := by
        obtain ⟨s', rfl⟩ : ∃ s', s = s' + 1 := ⟨s - 1, by omega⟩
        rw [← hst, Nat.add_sub_cancel, Nat.mul_comm (s' + 1) t, Nat.mul_succ]
      omega
    rw [e, and_step _ _ _ _ hlt hm, ih, hk _ hbt _ hc]
theorem val_add (f g : Nat → Nat) : ∀ bs : List Nat, val (bs.map f) + val (bs.map g) = val (bs.map (fun b => f b + g b))
  | [] => rfl
  | b :: bs => by
    have ih := val_add f g bs
    simp only [List.map_cons, val]
    omega
def p1 (b : Nat) : Nat := ((b / 2) &&& 85) + (b &&& 85)
def p2 (b : Nat) : Nat := ((b / 4) &&& 51) + (b &&& 51)
def p3 (b : Nat) : Nat := b / 16 + b % 16
theorem p1_lt : ∀ b, b < 256 → p1 b < 256 := by decide +kernel
theorem p2_p1 : ∀ b, b < 256 → p2 (p1 b) % 16 ≤ 4 ∧ p2 (p1 b) / 16 ≤ 4 := by decide +kernel
theorem pop8 : ∀ b, b < 256 → p3 (p2 (p1 b)) = cnt 8 b := by decide +kernel
theorem step1 (bs : List Nat) (h : ∀ b ∈ bs, b < 256) : ((val bs / 2) &&& val (List.replicate bs.length 85)) + (val bs &&& val (List.replicate bs.length 85)) = val (bs.map p1) := by
  rw [shift_mask 2 85 128 (by decide) (by decide) (by decide) (by decide +kernel) bs h, and_mask 85 (by decide) bs h, val_add]
  rfl
theorem step2 (bs : List Nat) (h : ∀ b ∈ bs, b < 256) : ((val bs / 4) &&& val (List.replicate bs.length 51)) + (val bs &&& val (List.replicate bs.length 51)) = val (bs.map p2) := by
  rw [shift_mask 4 51 64 (by decide) (by decide) (by decide) (by decide +kernel) bs h, and_mask 51 (by decide) bs h, val_add]
  rfl
theorem step3 : ∀ bs : List Nat, (∀ b ∈ bs, b % 16 ≤ 4 ∧ b / 16 ≤ 4) → (val bs / 16 + val bs) &&& val (List.replicate bs.length 15) = val (bs.map p3)
  | [], _ => by simp [val]
  | d :: ds, h => by
    have hd := h d (List.mem_cons_self ..)
    have ih := step3 ds (fun x hx => h x (List.mem_cons_of_mem _ hx))
    have hV : val ds % 16 ≤ 4 := by
      cases ds with
      | nil => simp [val]
      | cons e es =>
        have := (h e (by simp)).1
        simp only [val]
        omega
    simp only [List.length_cons, List.replicate_succ, val, List.map_cons]
    have e : (d + 256 * val ds) / 16 + (d + 256 * val ds) = (d / 16 + d + 16 * (val ds % 16)) + 256 * (val ds / 16 + val ds) := by omega
    have hlt : d / 16 + d + 16 * (val ds % 16) < 256 := by omega
    rw [e, and_step _ _ _ _ hlt (by decide), ih]
    have h15 : (d / 16 + d + 16 * (val ds % 16)) &&& 15 = p3 d := by
      have := Nat.and_two_pow_sub_one_eq_mod (d / 16 + d + 16 * (val ds % 16)) 4
      simp only [Nat.reducePow, Nat.reduceSub] at this
      rw [this]
      unfold p3
      omega
    rw [h15]
theorem wrap_u (n : Nat) (h : n < 18446744073709551616) : IntKind.u64.wrap (n : Int) = n := by
  rw [IntKind.wrap_u64]; omega
theorem and_u (a b : Nat) (ha : a < 18446744073709551616) (hb : b < 18446744073709551616) : Go.bits .and .u64 (a : Int) (b : Int) = ((a &&& b : Nat) : Int) :=
  (bits_nat .u64 64 (by decide) (fun n h0 h1 => by rw [IntKind.wrap_u64]; omega) a b ha hb).1
theorem mask85 : val (List.replicate 8 85) = 6148914691236517205 := by decide
theorem mask51 : val (List.replicate 8 51) = 3689348814741910323 := by decide
theorem mask15 : val (List.replicate 8 15) = 1085102592571150095 := by decide
theorem cnt8_le : ∀ b, b < 256 → cnt 8 b ≤ 8 := by decide +kernel
/-- The bytes of a number. -/
def byt (x : Nat) : List Nat := [x % 256, x / 256 % 256, x / 65536 % 256, x / 16777216 % 256, x / 4294967296 % 256, x / 1099511627776 % 256, x / 281474976710656 % 256, x / 72057594037927936 % 256]
theorem byt_val (x : Nat) (h : x < 18446744073709551616) : val (byt x) = x := by
  simp only [byt, val]
  omega
theorem byt_lt (x : Nat) : ∀ b ∈ byt x, b < 256 := by
  intro b hb
  simp only [byt, List.mem_cons, List.not_mem_nil, or_false] at hb
  rcases hb with rfl | rfl | rfl | rfl | rfl | rfl | rfl | rfl <;> exact Nat.mod_lt _ (by decide)
theorem cnt_byt (x : Nat) (h : x < 18446744073709551616) : cnt 64 x = (cnt 8 (x % 256)) + (cnt 8 (x / 256 % 256)) + (cnt 8 (x / 65536 % 256)) + (cnt 8 (x / 16777216 % 256)) + (cnt 8 (x / 4294967296 % 256)) + (cnt 8 (x / 1099511627776 % 256)) + (cnt 8 (x / 281474976710656 % 256)) + (cnt 8 (x / 72057594037927936 % 256)) := by
  have s : ∀ m y, cnt (8 + m) y = cnt 8 (y % 256) + cnt m (y / 256) := by
    intro m y
    have := cnt_split 8 m (y % 256) (y / 256) (Nat.mod_lt _ (by decide))
    rw [show (2 : Nat) ^ 8 = 256 from rfl, Nat.mod_add_div] at this
    exact this
  rw [show (64 : Nat) = 8 + (8 + (8 + (8 + (8 + (8 + (8 + (8 + 0))))))) from rfl, s, s, s, s, s, s, s, s]
  simp only [Nat.div_div_eq_div_mul, Nat.reduceMul, cnt]
  omega
theorem div_split (A B m : Nat) (h : A < m) : (A + m * B) / m = B := by
  rw [Nat.add_mul_div_left _ _ (by omega), Nat.div_eq_of_lt h]
  omega
theorem all_map {f : Nat → Nat} {p q : Nat → Prop} {l : List Nat} (h : ∀ b ∈ l, p b) (hf : ∀ b, p b → q (f b)) : ∀ c ∈ l.map f, q c := by
  intro c hc
  obtain ⟨b, hb, rfl⟩ := List.mem_map.1 hc
  exact hf b (h b hb)
theorem sw_k4 (t0 t1 t2 t3 t4 t5 t6 t7 : Nat) : (t0 + 256 * (t1 + 256 * (t2 + 256 * (t3 + 256 * (t4 + 256 * (t5 + 256 * (t6 + 256 * t7))))))) + (t1 + 256 * (t2 + 256 * (t3 + 256 * (t4 + 256 * (t5 + 256 * (t6 + 256 * t7)))))) = ((t0 + t1) + 256 * (t1 + t2)) + 65536 * ((t2 + t3) + 256 * ((t3 + t4) + 256 * ((t4 + t5) + 256 * ((t5 + t6) + 256 * ((t6 + t7) + 256 * t7))))) := by omega
theorem sw_k5 (t0 t1 t2 t3 t4 t5 t6 t7 : Nat) : (((t0 + t1) + 256 * (t1 + t2)) + 65536 * ((t2 + t3) + 256 * ((t3 + t4) + 256 * ((t4 + t5) + 256 * ((t5 + t6) + 256 * ((t6 + t7) + 256 * t7)))))) + ((t2 + t3) + 256 * ((t3 + t4) + 256 * ((t4 + t5) + 256 * ((t5 + t6) + 256 * ((t6 + t7) + 256 * t7))))) = ((t0 + t1 + t2 + t3) + 256 * ((t1 + t2 + t3 + t4) + 256 * ((t2 + t3 + t4 + t5) + 256 * (t3 + t4 + t5 + t6)))) + 4294967296 * ((t4 + t5 + t6 + t7) + 256 * ((t5 + t6 + t7) + 256 * ((t6 + t7) + 256 * t7))) := by omega
theorem sw_k6 (t0 t1 t2 t3 t4 t5 t6 t7 : Nat) : (((t0 + t1 + t2 + t3) + 256 * ((t1 + t2 + t3 + t4) + 256 * ((t2 + t3 + t4 + t5) + 256 * (t3 + t4 + t5 + t6)))) + 4294967296 * ((t4 + t5 + t6 + t7) + 256 * ((t5 + t6 + t7) + 256 * ((t6 + t7) + 256 * t7)))) + ((t4 + t5 + t6 + t7) + 256 * ((t5 + t6 + t7) + 256 * ((t6 + t7) + 256 * t7))) = (t0 + t1 + t2 + t3 + t4 + t5 + t6 + t7) + 128 * (2 * ((t1 + t2 + t3 + t4) + 256 * ((t2 + t3 + t4 + t5) + 256 * (t3 + t4 + t5 + t6)) + 16777216 * ((t4 + t5 + t6 + t7) + 256 * ((t5 + t6 + t7) + 256 * ((t6 + t7) + 256 * t7))) + ((t5 + t6 + t7) + 256 * ((t6 + t7) + 256 * t7)))) := by omega
theorem sw_u4 (t0 t1 t2 t3 t4 t5 t6 t7 : Nat) (c0 : t0 ≤ 8) (c1 : t1 ≤ 8) (c2 : t2 ≤ 8) (c3 : t3 ≤ 8) (c4 : t4 ≤ 8) (c5 : t5 ≤ 8) (c6 : t6 ≤ 8) (c7 : t7 ≤ 8) : ((t0 + t1) + 256 * (t1 + t2)) + 65536 * ((t2 + t3) + 256 * ((t3 + t4) + 256 * ((t4 + t5) + 256 * ((t5 + t6) + 256 * ((t6 + t7) + 256 * t7))))) < 18446744073709551616 := by omega
theorem sw_u5 (t0 t1 t2 t3 t4 t5 t6 t7 : Nat) (c0 : t0 ≤ 8) (c1 : t1 ≤ 8) (c2 : t2 ≤ 8) (c3 : t3 ≤ 8) (c4 : t4 ≤ 8) (c5 : t5 ≤ 8) (c6 : t6 ≤ 8) (c7 : t7 ≤ 8) : ((t0 + t1 + t2 + t3) + 256 * ((t1 + t2 + t3 + t4) + 256 * ((t2 + t3 + t4 + t5) + 256 * (t3 + t4 + t5 + t6)))) + 4294967296 * ((t4 + t5 + t6 + t7) + 256 * ((t5 + t6 + t7) + 256 * ((t6 + t7) + 256 * t7))) < 18446744073709551616 := by omega
theorem sw_u6 (t0 t1 t2 t3 t4 t5 t6 t7 : Nat) (c0 : t0 ≤ 8) (c1 : t1 ≤ 8) (c2 : t2 ≤ 8) (c3 : t3 ≤ 8) (c4 : t4 ≤ 8) (c5 : t5 ≤ 8) (c6 : t6 ≤ 8) (c7 : t7 ≤ 8) : (((t0 + t1 + t2 + t3) + 256 * ((t1 + t2 + t3 + t4) + 256 * ((t2 + t3 + t4 + t5) + 256 * (t3 + t4 + t5 + t6)))) + 4294967296 * ((t4 + t5 + t6 + t7) + 256 * ((t5 + t6 + t7) + 256 * ((t6 + t7) + 256 * t7)))) + ((t4 + t5 + t6 + t7) + 256 * ((t5 + t6 + t7) + 256 * ((t6 + t7) + 256 * t7))) < 9223372036854775808 := by omega
theorem sw_r1 (t0 t1 t2 t3 t4 t5 t6 t7 : Nat) (c0 : t0 ≤ 8) : (t0 + 256 * (t1 + 256 * (t2 + 256 * (t3 + 256 * (t4 + 256 * (t5 + 256 * (t6 + 256 * t7))))))) / 256 = (t1 + 256 * (t2 + 256 * (t3 + 256 * (t4 + 256 * (t5 + 256 * (t6 + 256 * t7)))))) := div_split t0 _ 256 (by omega)
theorem sw_r2 (t0 t1 t2 t3 t4 t5 t6 t7 : Nat) (c0 : t0 ≤ 8) (c1 : t1 ≤ 8) (c2 : t2 ≤ 8) (c3 : t3 ≤ 8) (c4 : t4 ≤ 8) (c5 : t5 ≤ 8) (c6 : t6 ≤ 8) (c7 : t7 ≤ 8) : (((t0 + t1) + 256 * (t1 + t2)) + 65536 * ((t2 + t3) + 256 * ((t3 + t4) + 256 * ((t4 + t5) + 256 * ((t5 + t6) + 256 * ((t6 + t7) + 256 * t7)))))) / 65536 = ((t2 + t3) + 256 * ((t3 + t4) + 256 * ((t4 + t5) + 256 * ((t5 + t6) + 256 * ((t6 + t7) + 256 * t7))))) := div_split _ _ 65536 (by omega)
theorem sw_r3 (t0 t1 t2 t3 t4 t5 t6 t7 : Nat) (c0 : t0 ≤ 8) (c1 : t1 ≤ 8) (c2 : t2 ≤ 8) (c3 : t3 ≤ 8) (c4 : t4 ≤ 8) (c5 : t5 ≤ 8) (c6 : t6 ≤ 8) (c7 : t7 ≤ 8) : (((t0 + t1 + t2 + t3) + 256 * ((t1 + t2 + t3 + t4) + 256 * ((t2 + t3 + t4 + t5) + 256 * (t3 + t4 + t5 + t6)))) + 4294967296 * ((t4 + t5 + t6 + t7) + 256 * ((t5 + t6 + t7) + 256 * ((t6 + t7) + 256 * t7)))) / 4294967296 = ((t4 + t5 + t6 + t7) + 256 * ((t5 + t6 + t7) + 256 * ((t6 + t7) + 256 * t7))) := div_split _ _ 4294967296 (by omega)
theorem swar_sum (P3 t0 t1 t2 t3 t4 t5 t6 t7 : Nat) (c0 : t0 ≤ 8) (c1 : t1 ≤ 8) (c2 : t2 ≤ 8) (c3 : t3 ≤ 8) (c4 : t4 ≤ 8) (c5 : t5 ≤ 8) (c6 : t6 ≤ 8) (c7 : t7 ≤ 8) (hE : P3 = (t0 + 256 * (t1 + 256 * (t2 + 256 * (t3 + 256 * (t4 + 256 * (t5 + 256 * (t6 + 256 * t7)))))))) :
    P3 + P3 / 256 < 18446744073709551616 ∧ (P3 + P3 / 256) + (P3 + P3 / 256) / 65536 < 18446744073709551616 ∧ ((P3 + P3 / 256) + (P3 + P3 / 256) / 65536) + ((P3 + P3 / 256) + (P3 + P3 / 256) / 65536) / 4294967296 < 9223372036854775808 ∧
      (((P3 + P3 / 256) + (P3 + P3 / 256) / 65536) + ((P3 + P3 / 256) + (P3 + P3 / 256) / 65536) / 4294967296) % 128 = t0 + t1 + t2 + t3 + t4 + t5 + t6 + t7 := by
  rw [hE, sw_r1 t0 t1 t2 t3 t4 t5 t6 t7 c0, sw_k4 t0 t1 t2 t3 t4 t5 t6 t7, sw_r2 t0 t1 t2 t3 t4 t5 t6 t7 c0 c1 c2 c3 c4 c5 c6 c7, sw_k5 t0 t1 t2 t3 t4 t5 t6 t7, sw_r3 t0 t1 t2 t3 t4 t5 t6 t7 c0 c1 c2 c3 c4 c5 c6 c7]
  refine ⟨sw_u4 t0 t1 t2 t3 t4 t5 t6 t7 c0 c1 c2 c3 c4 c5 c6 c7, sw_u5 t0 t1 t2 t3 t4 t5 t6 t7 c0 c1 c2 c3 c4 c5 c6 c7, sw_u6 t0 t1 t2 t3 t4 t5 t6 t7 c0 c1 c2 c3 c4 c5 c6 c7, ?_⟩
  rw [sw_k6 t0 t1 t2 t3 t4 t5 t6 t7, Nat.add_mul_mod_self_left, Nat.mod_eq_of_lt (by clear hE; omega)]
theorem ones (x : Nat) (hx : x < 18446744073709551616) : bits_OnesCount64.f (x : Int) = some ((cnt 64 x : Nat) : Int) := by
  have hb := byt_lt x
  have hv := byt_val x hx
  have l1 : ∀ c ∈ (byt x).map p1, c < 256 := all_map hb p1_lt
  have l2 : ∀ c ∈ ((byt x).map p1).map p2, c % 16 ≤ 4 ∧ c / 16 ≤ 4 := by
    rw [List.map_map]
    exact all_map hb p2_p1
  have l2' : ∀ c ∈ ((byt x).map p1).map p2, c < 256 := fun c hc => by have := l2 c hc; omega
  obtain ⟨P1, hP1⟩ : ∃ P, val ((byt x).map p1) = P := ⟨_, rfl⟩
  obtain ⟨P2, hP2⟩ : ∃ P, val (((byt x).map p1).map p2) = P := ⟨_, rfl⟩
  obtain ⟨P3, hP3⟩ : ∃ P, val ((((byt x).map p1).map p2).map p3) = P := ⟨_, rfl⟩
  have q1 : P1 < 18446744073709551616 := by
    have := val_lt _ l1
    rw [hP1, show ((byt x).map p1).length = 8 from rfl] at this
    simpa only [Nat.reducePow] using this
  have q2 : P2 < 18446744073709551616 := by
    have := val_lt _ l2'
    rw [hP2, show (((byt x).map p1).map p2).length = 8 from rfl] at this
    simpa only [Nat.reducePow] using this
  have e1 : (x / 2 &&& 6148914691236517205) + (x &&& 6148914691236517205) = P1 := by
    have := step1 (byt x) hb
    rw [hv, show (byt x).length = 8 from rfl, mask85, hP1] at this
    exact this
  have e2 : (P1 / 4 &&& 3689348814741910323) + (P1 &&& 3689348814741910323) = P2 := by
    have := step2 ((byt x).map p1) l1
    rw [hP1, show ((byt x).map p1).length = 8 from rfl, mask51, hP2] at this
    exact this
  have e3 : (P2 / 16 + P2) &&& 1085102592571150095 = P3 := by
    have := step3 (((byt x).map p1).map p2) l2
    rw [hP2, show (((byt x).map p1).map p2).length = 8 from rfl, mask15, hP3] at this
    exact this
  have h16 : P2 / 16 + P2 < 18446744073709551616 := by
    have : P2 ≤ 68 * 72340172838076673 := by
      rw [← hP2]
      simp only [byt, List.map_cons, List.map_nil, List.mem_cons, List.not_mem_nil, or_false, forall_eq_or_imp, forall_eq, val] at l2 ⊢
      omega
    omega
  have hE : P3 = cnt 8 (x % 256) + 256 * (cnt 8 (x / 256 % 256) + 256 * (cnt 8 (x / 65536 % 256) + 256 * (cnt 8 (x / 16777216 % 256) + 256 * (cnt 8 (x / 4294967296 % 256) + 256 * (cnt 8 (x / 1099511627776 % 256) + 256 * (cnt 8 (x / 281474976710656 % 256) + 256 * (cnt 8 (x / 72057594037927936 % 256)))))))) := by
    rw [← hP3]
    simp only [byt, List.map_cons, List.map_nil, val, pop8 _ (Nat.mod_lt _ (show 0 < 256 by decide)), Nat.mul_zero, Nat.add_zero]
  have hc := cnt_byt x hx
  have hc2 := hc
  have c0 := cnt8_le (x % 256) (Nat.mod_lt _ (by decide))
  have c1 := cnt8_le (x / 256 % 256) (Nat.mod_lt _ (by decide))
  have c2 := cnt8_le (x / 65536 % 256) (Nat.mod_lt _ (by decide))
  have c3 := cnt8_le (x / 16777216 % 256) (Nat.mod_lt _ (by decide))
  have c4 := cnt8_le (x / 4294967296 % 256) (Nat.mod_lt _ (by decide))
  have c5 := cnt8_le (x / 1099511627776 % 256) (Nat.mod_lt _ (by decide))
  have c6 := cnt8_le (x / 281474976710656 % 256) (Nat.mod_lt _ (by decide))
  have c7 := cnt8_le (x / 72057594037927936 % 256) (Nat.mod_lt _ (by decide))
  generalize cnt 8 (x % 256) = t0 at *
  generalize cnt 8 (x / 256 % 256) = t1 at *
  generalize cnt 8 (x / 65536 % 256) = t2 at *
  generalize cnt 8 (x / 16777216 % 256) = t3 at *
  generalize cnt 8 (x / 4294967296 % 256) = t4 at *
  generalize cnt 8 (x / 1099511627776 % 256) = t5 at *
  generalize cnt 8 (x / 281474976710656 % 256) = t6 at *
  generalize cnt 8 (x / 72057594037927936 % 256) = t7 at *
  clear hb hv l1 l2 l2' hP1 hP2 hP3
  have a1 : Go.bits .and .u64 ((x : Int) / 2) 6148914691236517205 = ((x / 2 &&& 6148914691236517205 : Nat) : Int) := and_u (x / 2) 6148914691236517205 (by omega) (by decide)
  have a2 : Go.bits .and .u64 (x : Int) 6148914691236517205 = ((x &&& 6148914691236517205 : Nat) : Int) := and_u x 6148914691236517205 hx (by decide)
  have a3 : IntKind.u64.wrap (((x / 2 &&& 6148914691236517205 : Nat) : Int) + ((x &&& 6148914691236517205 : Nat) : Int)) = (P1 : Int) := by
    rw [← Int.natCast_add, e1]; exact wrap_u P1 q1
  have b1 : Go.bits .and .u64 ((P1 : Int) / 4) 3689348814741910323 = ((P1 / 4 &&& 3689348814741910323 : Nat) : Int) := and_u (P1 / 4) 3689348814741910323 (by omega) (by decide)
  have b2 : Go.bits .and .u64 (P1 : Int) 3689348814741910323 = ((P1 &&& 3689348814741910323 : Nat) : Int) := and_u P1 3689348814741910323 q1 (by decide)
  have b3 : IntKind.u64.wrap (((P1 / 4 &&& 3689348814741910323 : Nat) : Int) + ((P1 &&& 3689348814741910323 : Nat) : Int)) = (P2 : Int) := by
    rw [← Int.natCast_add, e2]; exact wrap_u P2 q2
  have d1 : IntKind.u64.wrap ((P2 : Int) / 16 + (P2 : Int)) = ((P2 / 16 + P2 : Nat) : Int) := wrap_u (P2 / 16 + P2) h16
  have d2 : Go.bits .and .u64 ((P2 / 16 + P2 : Nat) : Int) 1085102592571150095 = (P3 : Int) := by
    rw [← e3]; exact and_u (P2 / 16 + P2) 1085102592571150095 h16 (by decide)
  obtain ⟨u4, u5, h8, h7⟩ := swar_sum P3 t0 t1 t2 t3 t4 t5 t6 t7 c0 c1 c2 c3 c4 c5 c6 c7 hE
  have f1 : IntKind.u64.wrap ((P3 : Int) + (P3 : Int) / 256) = ((P3 + P3 / 256 : Nat) : Int) := wrap_u (P3 + P3 / 256) u4
  obtain ⟨Y4, h4⟩ : ∃ Y, P3 + P3 / 256 = Y := ⟨_, rfl⟩
  rw [h4] at f1 u4 u5 h8 h7
  have f2 : IntKind.u64.wrap ((Y4 : Int) + (Y4 : Int) / 65536) = ((Y4 + Y4 / 65536 : Nat) : Int) := wrap_u (Y4 + Y4 / 65536) u5
  obtain ⟨Y5, h5⟩ : ∃ Y, Y4 + Y4 / 65536 = Y := ⟨_, rfl⟩
  rw [h5] at f2 u5 h8 h7
  have f3 : IntKind.u64.wrap ((Y5 : Int) + (Y5 : Int) / 4294967296) = ((Y5 + Y5 / 4294967296 : Nat) : Int) := wrap_u (Y5 + Y5 / 4294967296) (Nat.lt_trans h8 (by decide))
  obtain ⟨Y6, h6⟩ : ∃ Y, Y5 + Y5 / 4294967296 = Y := ⟨_, rfl⟩
  rw [h6] at f3 h8 h7
  clear hE hc c0 c1 c2 c3 c4 c5 c6 c7 h4 h5 h6 u4 u5
  have g1 : wrap64 (Y6 : Int) = Y6 := by unfold wrap64; omega
  have g2 : Go.bits .and .i64 (Y6 : Int) 127 = ((Y6 &&& 127 : Nat) : Int) := (bits_nat .i64 63 (by decide) (fun n h0 h1 => by rw [IntKind.wrap_i64]; omega) Y6 127 h8 (by decide)).1
  have g3 : Y6 &&& 127 = Y6 % 128 := by
    have := Nat.and_two_pow_sub_one_eq_mod Y6 7
    simpa only [Nat.reducePow, Nat.reduceSub] using this
  unfold bits_OnesCount64.f
  rw [a1, a2, a3, b1, b2, b3, d1, d2, f1, f2, f3, g1, g2, g3, h7, hc2]
end Go.Proofs.Ytgfbgfbnmiainaa.Fam
/-! The list of the set bits, and its length. -/
namespace Go.Proofs.Ytgfbgfbnmiainaa.Fam
set_option linter.unusedVariables false
set_option linter.unusedSimpArgs false
open Go.RowKit Go.Proofs.YtgfbgfbnmiainaaW.PrintWords Go.Proofs.YtgfbgfbnmiainaaW.PrintLast Go.Proofs.YtgfbgfbnmiainaaW.PrintMore Go.Proofs.Ytgfbgfbnmiainaa.Q
/-- The numbers of n bits that are set, the first one's number being i. -/
def bl : Nat → Nat → Nat → List Int
  | 0, _, _ => []
  | n + 1, i, x => (if x % 2 = 1 then [(i : Int)] else []) ++ bl n (i + 1) (x / 2)
theorem bl_length : ∀ n i x, (bl n i x).length = cnt n x
  | 0, _, _ => rfl
  | n + 1, i, x => by
    simp only [bl, cnt, List.length_append, bl_length n]
    split
    · rename_i h; rw [h]; rfl
    · rename_i h
      have : x % 2 = 0 := by omega
      rw [this]; rfl
theorem cnt_le : ∀ n x, cnt n x ≤ n
  | 0, _ => Nat.le_refl _
  | n + 1, x => by
    have := cnt_le n (x / 2)
    simp only [cnt]
    omega
theorem shr_nat (x i : Nat) (hi : i < 64) : shr .u64 (x : Int) (i : Int) = ((x / 2 ^ i : Nat) : Int) := by
  unfold shr
  rw [Int.toNat_natCast, show IntKind.u64.bits = 64 from rfl, Nat.min_eq_left (by omega)]
  rw [Int.natCast_ediv, Int.natCast_pow]
  rfl
theorem bit_nat (y : Nat) (hy : y < 18446744073709551616) : Go.bits .and .u64 (y : Int) 1 = ((y % 2 : Nat) : Int) := by
  have h := and_u y 1 hy (by decide)
  rw [Nat.and_one_is_mod] at h
  exact h
theorem listF_from (x : Nat) (hx : x < 18446744073709551616) : ∀ n i (acc : List Int) k, i + n = 64 → n < k → acc.length ≤ i → family_list.l0 k (x : Int) acc (i : Int) = some (acc ++ bl n i (x / 2 ^ i)) := by
  intro n
  induction n with
  | zero =>
    intro i acc k hi hk ha
    obtain ⟨k, rfl⟩ : ∃ m, k = m + 1 := ⟨k - 1, by omega⟩
    unfold family_list.l0
    rw [if_neg (by omega)]
    simp [bl]
  | succ n ih =>
    intro i acc k hi hk ha
    obtain ⟨k, rfl⟩ : ∃ m, k = m + 1 := ⟨k - 1, by omega⟩
    have hy : x / 2 ^ i < 18446744073709551616 := Nat.lt_of_le_of_lt (Nat.div_le_self _ _) hx
    have hn : wrap64 ((i : Int) + 1) = ((i + 1 : Nat) : Int) := by unfold wrap64; omega
    have hd : x / 2 ^ i / 2 = x / 2 ^ (i + 1) := by rw [Nat.div_div_eq_div_mul, Nat.pow_succ]
    unfold family_list.l0
    rw [if_pos (by omega), if_pos (by omega), shr_nat x i (by omega), bit_nat _ hy, hn]
    simp only [bl]
    by_cases hb : x / 2 ^ i % 2 = 1
    · rw [if_pos (by omega), if_pos hb, if_pos (by omega), ih (i + 1) _ k (by omega) (by omega) (by simp; omega), hd, List.append_assoc]
    · rw [if_neg (by omega), if_neg hb, ih (i + 1) _ k (by omega) (by omega) (by omega), hd, List.nil_append]
theorem listR_from (x : Nat) (hx : x < 18446744073709551616) : ∀ n i (acc : List Int) k, i + n = 64 → n < k → acc.length ≤ i → manystrandref07_list.l0 k (x : Int) acc (i : Int) = some (acc ++ bl n i (x / 2 ^ i)) := by
  intro n
  induction n with
  | zero =>
    intro i acc k hi hk ha
    obtain ⟨k, rfl⟩ : ∃ m, k = m + 1 := ⟨k - 1, by omega⟩
    unfold manystrandref07_list.l0
    rw [if_neg (by omega)]
    simp [bl]
  | succ n ih =>
    intro i acc k hi hk ha
    obtain ⟨k, rfl⟩ : ∃ m, k = m + 1 := ⟨k - 1, by omega⟩
    have hy : x / 2 ^ i < 18446744073709551616 := Nat.lt_of_le_of_lt (Nat.div_le_self _ _) hx
    have hn : wrap64 ((i : Int) + 1) = ((i + 1 : Nat) : Int) := by unfold wrap64; omega
    have hw : IntKind.u64.wrap (i : Int) = (i : Int) := wrap_u i (by omega)
    have hd : x / 2 ^ i / 2 = x / 2 ^ (i + 1) := by rw [Nat.div_div_eq_div_mul, Nat.pow_succ]
    unfold manystrandref07_list.l0
    rw [if_pos (by omega), hw, if_pos (by omega), shr_nat x i (by omega), bit_nat _ hy, hn]
    simp only [bl]
    by_cases hb : x / 2 ^ i % 2 = 1
    · rw [if_pos (by omega), if_pos hb, if_pos (by omega), ih (i + 1) _ k (by omega) (by omega) (by simp; omega), hd, List.append_assoc]
    · rw [if_neg (by omega), if_neg hb, ih (i + 1) _ k (by omega) (by omega) (by omega), hd, List.nil_append]
/-- The set bits of a word. -/
def bits64 (x : Nat) : List Int := bl 64 0 x
theorem listF (x : Nat) (hx : x < 18446744073709551616) {k : Nat} (hk : 64 < k) : family_list.f k (x : Int) = some (bits64 x) := by
  have := listF_from x hx 64 0 [] k (by omega) hk (Nat.le_refl _)
  rw [Nat.pow_zero, Nat.div_one, List.nil_append] at this
  exact this
theorem listR (x : Nat) (hx : x < 18446744073709551616) {k : Nat} (hk : 64 < k) : manystrandref07_list.f k (x : Int) = some (bits64 x) := by
  have := listR_from x hx 64 0 [] k (by omega) hk (Nat.le_refl _)
  rw [Nat.pow_zero, Nat.div_one, List.nil_append] at this
  exact this
theorem sizeR (x : Nat) (hx : x < 18446744073709551616) {k : Nat} (hk : 64 < k) : manystrandref07_size.f k (x : Int) = some ((cnt 64 x : Nat) : Int) := by
  unfold manystrandref07_size.f
  rw [listR x hx hk, Option.bind_some]
  unfold bits64
  rw [bl_length]
end Go.Proofs.Ytgfbgfbnmiainaa.Fam
-- The words of the walks: those of print.sh's words that this seat's texts use, taken out by own_print.py of this repo (see NOTES.md), and two of our own.

set_option linter.unusedVariables false
set_option linter.unusedSimpArgs false
namespace Go.Proofs.YtgfbgfbnmiainaaW.PrintWords
open Go.RowKit
theorem own_other {w w1 : World} {base : Nat} {e : TypeId} {size n : Nat} {v : Value} {xs : List Value} (h : w.ownsRow base e size v n xs) {row : Option Nat} (hg : w.grownBy w1 row) (hne : v.ownBlock = none ∨ v.ownBlock ≠ row) : w1.ownsRow base e size v n xs := h.kept hg hne
section
variable {α : Type} {R R' : α → List Value → Prop} {e : TypeId} {size : Nat} {w w1 : World} {base : Nat} {v : Value} {ps : List α}
theorem OwnRow.other (h : OwnRow R e size w base v ps) {row : Option Nat} (hg : w.grownBy w1 row) (hne : v.ownBlock = none ∨ v.ownBlock ≠ row) : OwnRow R e size w1 base v ps := by
  obtain ⟨inner, ho, hr⟩ := h
  exact ⟨inner, own_other ho hg hne, hr⟩
theorem OwnRow.keep (h : OwnRow R e size w base v ps) {g : Nat} {t : TypeId} {cells : Array Value} (hb : w.heap[g]? = some (.cells cells t (0, 0))) (ht : e ≠ t) (hk : KeepBut w w1 g none) : OwnRow R e size w1 base v ps := by
  obtain ⟨inner, ho, hr⟩ := h
  exact ⟨inner, hk.own ho (Ne.symm (own_ne ho hb ht)) (by cases v.ownBlock <;> simp), hr⟩
end
theorem ReadsRow.inner_ {α : Type} {R : α → List Value → Prop} {size : Nat} {w : World} {ad : Addr} {n : Nat} {ps : List α} (h : ReadsRow R size w (some ad) n ps) :
    ∃ inner, Reps R size ps inner ∧ ∀ j u, inner[j]? = some u → w.cell? (ad.add j) = some u := by
  have key : ∀ m, m ≤ ps.length → ∃ inner, Reps R size (ps.take m) inner ∧ ∀ j u, inner[j]? = some u → w.cell? (ad.add j) = some u := by
    intro m
    induction m with
    | zero => exact fun _ => ⟨[], Reps.none _ _, fun j u hu => by simp at hu⟩
    | succ m ih =>
      intro hm
      obtain ⟨inner, hr, hc⟩ := ih (by omega)
      obtain ⟨ad', he, hcell⟩ := h.2.2 (by have := h.1; omega)
      injection he with he
      subst he
      obtain ⟨c, hcl, hp, hcc⟩ := hcell m _ (List.getElem?_eq_getElem (show m < ps.length by omega))
      refine ⟨inner ++ c, ?_, fun j u hu => ?_⟩
      · rw [List.take_succ_eq_append_getElem (show m < ps.length by omega)]
        exact hr.snoc hp hcl
      · have hil : inner.length = m * size := by rw [hr.1, List.length_take, Nat.min_eq_left (by omega)]
        rcases Nat.lt_or_ge j inner.length with hj | hj
        · rw [List.getElem?_append_left hj] at hu
          exact hc j u hu
        · rw [List.getElem?_append_right hj] at hu
          have := hcc (j - inner.length) u hu
          rwa [hil, Nat.add_sub_cancel' (by omega)] at this
  obtain ⟨inner, hr, hc⟩ := key ps.length (Nat.le_refl _)
  rw [List.take_length] at hr
  exact ⟨inner, hr, hc⟩
namespace Kd
end Kd
namespace Kd
def Sub {α β : Type} (F : Kd α → Kd β) (E : List Nat) : Prop := ∀ d : Kd α, (∀ q, q ∈ d.E → q ∈ E) → ∀ q, q ∈ (F d).E → q ∈ E
end Kd
namespace Kd
end Kd
namespace Kd
section
variable {α β : Type} {d : Kd α} {d' : Kd β} {e e' : Nat} {w w1 W : World} {base b b' : Nat} {ok ok' okv oku : Nat → Prop} {v u : Value} {xs : List α} {ys : List β}
theorem C_len {A : Option Addr} {n : Nat} (h : d.C w A n xs) : xs.length = n := h.1
end
end Kd
section
variable {w w1 : World} {base n size : Nat} {e : TypeId} {v : Value} {xs : List Value}
theorem setCells_far {g : Nat} : ∀ (vs : List Value) (o : Nat) {w : World} (k : Nat), k ≠ g → (w.setCells g o vs).heap[k]? = w.heap[k]?
  | [], _, _, _, _ => rfl
  | v :: r, o, w, k, hk => by
    rw [World.setCells, setCells_far r (o + 1) k hk]
    exact Below.heap_setCell w ⟨g, o, none⟩ v k hk
theorem setCells_same (g : Nat) : ∀ (vs : List Value) (o : Nat) (w : World), (w.setCells g o vs).os = w.os ∧ (w.setCells g o vs).tape = w.tape ∧ (w.setCells g o vs).output = w.output ∧ (w.setCells g o vs).heap.size = w.heap.size
  | [], _, _ => ⟨rfl, rfl, rfl, rfl⟩
  | v :: r, o, w => by
    obtain ⟨h1, h2, h3, h4⟩ := setCells_same g r (o + 1) (w.setCell ⟨g, o, none⟩ v)
    rw [World.setCells]
    exact ⟨h1, h2, h3, by rw [h4]; simp [World.setCell]⟩
theorem setCells_row {g : Nat} {e : TypeId} : ∀ (vs : List Value) (o : Nat) (w : World) (cur : Array Value), w.heap[g]? = some (.cells cur e (0, 0)) → o + vs.length ≤ cur.size →
    ∃ cur', (w.setCells g o vs).heap[g]? = some (.cells cur' e (0, 0)) ∧ cur'.size = cur.size ∧ cur'.toList = cur.toList.take o ++ vs ++ cur.toList.drop (o + vs.length)
  | [], o, w, cur, h, _ => ⟨cur, h, rfl, by simp⟩
  | v :: r, o, w, cur, h, hl => by
    have h2 := blk_set h o v
    simp only [List.length_cons] at hl
    obtain ⟨cur', h3, h4, h5⟩ := setCells_row r (o + 1) (w.setCell ⟨g, o, none⟩ v) _ h2 (by simp; omega)
    refine ⟨cur', h3, by rw [h4]; simp, ?_⟩
    rw [h5, Array.toList_setIfInBounds]
    have ho : o < cur.toList.length := by rw [Array.length_toList]; omega
    rw [List.take_set, List.drop_set_of_lt (by omega)]
    simp only [List.length_cons]
    rw [show o + 1 + r.length = o + (r.length + 1) by omega]
    congr 1
    rw [List.take_succ_eq_append_getElem ho, List.set_append_right _ _ (by rw [List.length_take]; omega)]
    have ho' : o < cur.size := by omega
    simp [Nat.min_eq_left (Nat.le_of_lt ho')]
end
namespace Kd
end Kd
namespace Kd
end Kd
theorem seg_get {α : Type} (a seg : List α) (o : Nat) (h : o + seg.length ≤ a.length) (q : Nat) :
    (a.take o ++ seg ++ a.drop (o + seg.length))[q]? = if q < o then a[q]? else if q < o + seg.length then seg[q - o]? else a[q]? := by
  have hl : (a.take o).length = o := by rw [List.length_take]; omega
  rw [List.append_assoc]
  by_cases h1 : q < o
  · rw [if_pos h1, List.getElem?_append_left (by omega), List.getElem?_take, if_pos h1]
  · rw [if_neg h1, List.getElem?_append_right (by omega), hl]
    by_cases h2 : q < o + seg.length
    · rw [if_pos h2, List.getElem?_append_left (by omega)]
    · rw [if_neg h2, List.getElem?_append_right (by omega), List.getElem?_drop]
      congr 1
      omega
namespace Kd
section
variable {α : Type} {d : Kd α} {e base g n cap : Nat} {ok okp : Nat → Prop} {W : World} {xs : List α}
theorem R_elem (h : d.R e W base ok (.slice (some ⟨g, 0, none⟩) n cap) xs) (z : α) (i : Int) (h0 : 0 ≤ i) (h1 : i < n) :
    ∃ c, c.length = d.sz ∧ d.M W base (fun k => ok k ∧ k ≠ g) (xs.getD i.toNat z) c ∧ (∀ j u, c[j]? = some u → W.cell? ⟨g, i.toNat * d.sz + j, none⟩ = some u) ∧ ∀ j, W.frozen? ⟨g, i.toNat * d.sz + j, none⟩ = false := by
  obtain ⟨hn, hnc, hC⟩ := R_reads' h
  obtain ⟨_, inner, ho, hr⟩ := h
  have hil : i.toNat < xs.length := by omega
  have hseg : i.toNat * d.sz + d.sz ≤ inner.length := by rw [hr.1, ← Nat.succ_mul]; exact Nat.mul_le_mul_right _ hil
  have hM := hr.2 i.toNat _ (List.getElem?_eq_getElem hil)
  refine ⟨(inner.drop (i.toNat * d.sz)).take d.sz, by rw [List.length_take, List.length_drop]; omega, ?_, fun j u hu => ?_, fun j => ?_⟩
  · rw [List.getD_eq_getElem?_getD, List.getElem?_eq_getElem hil]
    exact d.M_mono (fun k hk => ⟨hk.1, fun he => hk.2 (by rw [he]; simp [Value.ownBlock])⟩) hM
  · rw [List.getElem?_take] at hu
    split at hu
    · rw [List.getElem?_drop] at hu
      have := ho.cells (g := g) (by simp [Value.ownBlock]) _ u hu
      rwa [add_plain] at this
    · cases hu
  · obtain ⟨cells, hc⟩ := own_typed ho g (by simp [Value.ownBlock])
    exact blk_frozen hc _
theorem R_seg (h : d.R e W base ok (.slice (some ⟨g, 0, none⟩) n cap) xs) (i : Int) (h0 : 0 ≤ i) (h1 : i < n) {c seg : List Value} {j : Nat} (hcl : c.length = d.sz) (hcc : ∀ j u, c[j]? = some u → W.cell? ⟨g, i.toNat * d.sz + j, none⟩ = some u)
    (hj : j + seg.length ≤ d.sz) {x' : α} (hM : d.M W base okp x' (c.take j ++ seg ++ c.drop (j + seg.length))) (hokp : ∀ k, okp k → ok k ∧ k ≠ g) :
    d.R e (W.setCells g (i.toNat * d.sz + j) seg) base ok (.slice (some ⟨g, 0, none⟩) n cap) (xs.set i.toNat x') ∧ W.grownBy (W.setCells g (i.toNat * d.sz + j) seg) (some g) := by
  obtain ⟨hn, hnc, _⟩ := R_reads' h
  obtain ⟨hok, inner, ho, hr⟩ := h
  have hil : i.toNat < xs.length := by omega
  have hseg : i.toNat * d.sz + d.sz ≤ inner.length := by rw [hr.1, ← Nat.succ_mul]; exact Nat.mul_le_mul_right _ hil
  have hin : inner.length = n * d.sz := by rw [hr.1, hn]
  obtain ⟨ho1, ho2⟩ := ho
  rcases ho2 with ⟨hv, _⟩ | ⟨g', cap', cur, hv, hb, hh, hnc', hcm, hcs, ht⟩
  · cases hv
  injection hv with ha _ hc
  injection ha with ha
  injection ha with hg
  subst hg; subst hc
  have hfit : i.toNat * d.sz + j + seg.length ≤ cur.size := by
    have : n * d.sz ≤ cap * d.sz := Nat.mul_le_mul_right _ hnc
    omega
  obtain ⟨cur', h3, h4, h5⟩ := setCells_row seg (i.toNat * d.sz + j) W cur hh hfit
  obtain ⟨s1, s2, s3, s4⟩ := setCells_same g seg (i.toNat * d.sz + j) W
  have hfar : ∀ k, k ≠ g → (W.setCells g (i.toNat * d.sz + j) seg).heap[k]? = W.heap[k]? := fun k hk => setCells_far seg _ k hk
  have hcin : ∀ q, q < d.sz → c[q]? = inner[i.toNat * d.sz + q]? := by
    intro q hq
    have hq' : q < c.length := by omega
    have h6 := hcc q _ (List.getElem?_eq_getElem hq')
    rw [cell_of_row W g _ cur e (0, 0) hh] at h6
    rw [List.getElem?_eq_getElem hq', ← h6, ← ht, List.getElem?_take, if_pos (by rw [← hn]; omega), Array.getElem?_toList]
  refine ⟨⟨hok, inner.take (i.toNat * d.sz + j) ++ seg ++ inner.drop (i.toNat * d.sz + j + seg.length), ⟨?_, .inr ⟨g, cap, cur', by rw [List.length_set, hn], hb, h3, by rw [List.length_set, ← hn]; exact hnc, hcm, by rw [h4, hcs], ?_⟩⟩, ?_⟩,
    ⟨s1, s2, s3, by rw [s4]; exact Nat.le_refl _, fun k _ hk => hfar k (fun he => hk (by rw [he]))⟩⟩
  · rw [List.length_set]
    simp only [List.length_append, List.length_take, List.length_drop]
    rw [hr.1] at hseg ⊢
    omega
  · rw [List.length_set, ← hn]
    apply List.ext_getElem?
    intro q
    rw [List.getElem?_take, h5]
    rw [seg_get cur.toList seg (i.toNat * d.sz + j) (by rw [Array.length_toList]; omega) q, seg_get inner seg (i.toNat * d.sz + j) (by omega) q]
    have hcur : ∀ q, q < n * d.sz → cur.toList[q]? = inner[q]? := by
      intro q hq
      rw [← ht, List.getElem?_take, if_pos (by rw [← hn]; exact hq)]
    by_cases hq : q < n * d.sz
    · rw [if_pos hq, hcur q hq]
    · rw [if_neg hq, if_neg (by omega), if_neg (by omega), List.getElem?_eq_none (by omega)]
  · refine ⟨?_, fun m p hm => ?_⟩
    · rw [List.length_set]
      simp only [List.length_append, List.length_take, List.length_drop]
      rw [hr.1] at hseg ⊢
      omega
    · have hml : m < xs.length := by
        have := (List.getElem?_eq_some_iff.1 hm).1
        rwa [List.length_set] at this
      have hmfit : m * d.sz + d.sz ≤ inner.length := by rw [hr.1, ← Nat.succ_mul]; exact Nat.mul_le_mul_right _ hml
      have hgo : some g = (Value.slice (some ⟨g, 0, none⟩) n cap).ownBlock := by simp [Value.ownBlock]
      by_cases hmi : m = i.toNat
      · subst hmi
        rw [List.getElem?_set_self (by omega)] at hm
        injection hm with hm
        subst hm
        have hcells : ((inner.take (i.toNat * d.sz + j) ++ seg ++ inner.drop (i.toNat * d.sz + j + seg.length)).drop (i.toNat * d.sz)).take d.sz = c.take j ++ seg ++ c.drop (j + seg.length) := by
          apply List.ext_getElem?
          intro q
          rw [List.getElem?_take, List.getElem?_drop, seg_get inner seg _ (by omega), seg_get c seg j (by omega) q]
          by_cases hq : q < d.sz
          · rw [if_pos hq, hcin q hq]
            by_cases hq1 : q < j
            · rw [if_pos (by omega), if_pos hq1]
            · rw [if_neg (by omega), if_neg hq1]
              by_cases hq2 : q < j + seg.length
              · rw [if_pos (by omega), if_pos hq2]
                congr 1
                omega
              · rw [if_neg (by omega), if_neg hq2]
          · rw [if_neg hq, if_neg (by omega), if_neg (by omega), List.getElem?_eq_none (by omega)]
        rw [hcells]
        refine d.M_mono (fun k hk => ?_) (d.M_move (w1 := W.setCells g (i.toNat * d.sz + j) seg) (fun k hk => hfar k (hokp k hk).2) hM)
        exact ⟨(hokp k hk).1, fun he => (hokp k hk).2 (by rw [← hgo] at he; injection he)⟩
      · rw [List.getElem?_set_ne (by omega)] at hm
        have hold := hr.2 m p hm
        have hcells : ((inner.take (i.toNat * d.sz + j) ++ seg ++ inner.drop (i.toNat * d.sz + j + seg.length)).drop (m * d.sz)).take d.sz = (inner.drop (m * d.sz)).take d.sz := by
          apply List.ext_getElem?
          intro q
          rw [List.getElem?_take, List.getElem?_take, List.getElem?_drop, List.getElem?_drop, seg_get inner seg _ (by omega)]
          by_cases hq : q < d.sz
          · rw [if_pos hq, if_pos hq]
            rcases Nat.lt_or_gt_of_ne hmi with hlt | hgt
            · have : m * d.sz + d.sz ≤ i.toNat * d.sz := by rw [← Nat.succ_mul]; exact Nat.mul_le_mul_right _ hlt
              rw [if_pos (by omega)]
            · have : i.toNat * d.sz + d.sz ≤ m * d.sz := by rw [← Nat.succ_mul]; exact Nat.mul_le_mul_right _ hgt
              rw [if_neg (by omega), if_neg (by omega)]
          · rw [if_neg hq, if_neg hq]
        rw [hcells]
        refine d.M_move (fun k hk => hfar k (fun he => hk.2 (by rw [he]; exact hgo))) hold
end
end Kd
namespace Kd
def or_ {α : Type} (a b : Kd α) (h : b.sz = a.sz) : Kd α where
  sz := a.sz
  E := a.E ++ b.E
  K := fun w x cs => a.K w x cs ∨ b.K w x cs
  M := fun w base ok x cs => a.M w base ok x cs ∨ b.M w base ok x cs
  K_len := fun hk => hk.elim a.K_len (fun hk => (b.K_len hk).trans h)
  K_one := fun hk => hk.elim a.K_one b.K_one
  K_below := fun hb hk => hk.imp (a.K_below hb) (b.K_below hb)
  K_of_M := fun hk => hk.imp a.K_of_M b.K_of_M
  M_mono := fun hok hk => hk.imp (a.M_mono hok) (b.M_mono hok)
  M_bound := fun hk => hk.imp
    (fun hk => a.M_mono (fun _ ⟨h1, h2, h3, q, hq, hc⟩ => ⟨h1, h2, h3, q, List.mem_append_left _ hq, hc⟩) (a.M_bound hk))
    (fun hk => b.M_mono (fun _ ⟨h1, h2, h3, q, hq, hc⟩ => ⟨h1, h2, h3, q, List.mem_append_right _ hq, hc⟩) (b.M_bound hk))
  M_move := fun hm hk => hk.imp (a.M_move hm) (b.M_move hm)
  M_lower := fun hb hk => hk.imp (a.M_lower hb) (b.M_lower hb)
theorem sub_or {α β : Type} {E : List Nat} {G H : Kd α → Kd β} (h : ∀ d, (H d).sz = (G d).sz) (hG : Sub G E) (hH : Sub H E) : Sub (fun d => or_ (G d) (H d) (h d)) E := fun d hd q hq => by
  rcases List.mem_append.1 hq with hq | hq
  · exact hG d hd q hq
  · exact hH d hd q hq
end Kd
namespace Kd
theorem reps_append {α : Type} {R : α → List Value → Prop} {size : Nat} {ps qs : List α} {cs ds : List Value} (h : Reps R size ps cs) (h' : Reps R size qs ds) : Reps R size (ps ++ qs) (cs ++ ds) := by
  refine ⟨by rw [List.length_append, List.length_append, h.1, h'.1, Nat.add_mul], fun j p hj => ?_⟩
  rcases Nat.lt_or_ge j ps.length with hlt | hge
  · rw [List.getElem?_append_left hlt] at hj
    have hle : j * size + size ≤ cs.length := by rw [h.1, ← Nat.succ_mul]; exact Nat.mul_le_mul_right _ hlt
    rw [List.drop_append_of_le_length (by omega), List.take_append_of_le_length (by rw [List.length_drop]; omega)]
    exact h.2 j p hj
  · rw [List.getElem?_append_right hge] at hj
    have h2 := h'.2 (j - ps.length) p hj
    have hle : ps.length * size ≤ j * size := Nat.mul_le_mul_right _ hge
    rw [List.drop_append, List.drop_eq_nil_of_le (by rw [h.1]; exact hle), List.nil_append, h.1, ← Nat.sub_mul]
    exact h2
section
variable {P : Program} {ops : Array Oper} {rest : List Oper} {o : Oper} {a : Act} {Q : Exit → Act → World → Prop} {α : Type}
theorem R_append_rows (d : Kd α) {Rr : α → List Value → Prop} {w0 W : World} (base : Nat) (hgd : o.guard = none) (s x : Operand) (t e : TypeId) (z : Value) (bytes : Nat)
    (ho : o.op = .call { callee := .builtin .append, args := #[s, x], argTypes := #[t, t] })
    (ht : P.underlying t = some (.slice e)) (hinfo : (P.info? e).map (fun i => (i.zero, i.size, i.bytes)) = some (some z, d.sz, bytes)) (hz : z.cells.size = d.sz) (hs0 : 0 < d.sz) (hb0 : 0 < bytes)
    (v : Value) (xs ys : List α) (A : Option Addr) (m c : Nat) (ok okp : Nat → Prop) (hs : a.eval s = v) (hx : a.eval x = .slice A m c)
    (HO : d.R e W base ok v xs) (HR : ReadsRow Rr d.sz W A m ys) (hKM : ∀ x cs, Rr x cs → d.M W base okp x cs) (hokp : ∀ k, okp k → ok k ∧ some k ≠ v.ownBlock) (hfresh : ∀ k, W.heap.size ≤ k → ok k)
    (HB : Below base w0 W) (hbase : base ≤ W.heap.size) (hl : (xs.length + m) * bytes ≤ 140737488355328)
    (h : ∀ v1 w1, d.R e w1 base ok v1 (xs ++ ys) → Below base w0 w1 → W.grownBy w1 v.ownBlock → (v1.ownBlock = v.ownBlock ∨ ∃ b, v1.ownBlock = some b ∧ W.heap.size ≤ b) → wpList P ops Q rest (a.put o.dst v1) w1) :
    wpList P ops Q (o :: rest) a W := by
  obtain ⟨i0, hi, hzz⟩ := Option.map_eq_some_iff.1 hinfo
  simp only [Prod.mk.injEq] at hzz
  obtain ⟨hz0, hz1, hz2⟩ := hzz
  have hm : ys.length = m := HR.1
  have hlen : xs.length + m ≤ 140737488355328 := Nat.le_trans (Nat.le_mul_of_pos_right _ hb0) hl
  obtain ⟨hok, inner, hown, hr⟩ := HO
  have hrun : ∃ v1 w1, (Builtin.append_ #[t, t] o.type #[v, .slice A m c]).run P W = .ok v1 w1 ∧ d.R e w1 base ok v1 (xs ++ ys) ∧ W.grownBy w1 v.ownBlock ∧ (v1.ownBlock = v.ownBlock ∨ ∃ b, v1.ownBlock = some b ∧ W.heap.size ≤ b) := by
    rcases A with _ | ad
    · have h0 : m = 0 := by
        rcases Nat.eq_zero_or_pos m with h0 | h0
        · exact h0
        · obtain ⟨ad, h, _⟩ := HR.2.2 h0
          cases h
      subst h0
      obtain rfl : ys = [] := List.eq_nil_of_length_eq_zero hm
      refine ⟨v, W, ?_, by rw [List.append_nil]; exact ⟨hok, inner, hown, hr⟩, World.grownBy.refl W _, .inl rfl⟩
      rcases hown.2 with ⟨rfl, hn⟩ | ⟨g, cap, cur, rfl, _, _, hnc, _⟩
      · simp [Builtin.append_, run_underlying ht, sizeOf, typeInfo, hi, Builtin.lenOf, Builtin.firstCells]
      · simp [Builtin.append_, run_underlying ht, sizeOf, typeInfo, hi, Builtin.lenOf, Builtin.firstCells, hnc, storeCells]
    · obtain ⟨news, hnr, hnc⟩ := ReadsRow.inner_ HR
      have hnM : Reps (d.M W base okp) d.sz ys news := hnr.imp_ (fun p c hp => hKM p c hp)
      have hone : ∀ u ∈ news, u.oneCell' = true := by
        intro u hu
        obtain ⟨q, hq, rfl⟩ := List.mem_iff_getElem.1 hu
        have hql : q / d.sz < ys.length := by
          rw [Nat.div_lt_iff_lt_mul hs0]
          rw [← hnM.1]
          exact hq
        have hc := hnM.2 (q / d.sz) _ (List.getElem?_eq_getElem hql)
        refine d.K_one (d.K_of_M hc) _ ?_
        rw [List.mem_iff_getElem?]
        refine ⟨q % d.sz, ?_⟩
        rw [List.getElem?_take, if_pos (Nat.mod_lt _ hs0), List.getElem?_drop, Nat.mul_comm, Nat.div_add_mod, List.getElem?_eq_getElem hq]
      obtain ⟨v1, w1, hrun, h2, hg, _, hat⟩ := run_append_own_at (P := P) W base t o.type e i0 z d.sz bytes ht hi hz0 hz1 hz2 hz hs0 v xs.length inner hown ad m c news (by rw [hnM.1, hm]) hnc hone (by simp only [maxLen]; omega) hl hbase
      have hat' : v1.ownBlock = v.ownBlock ∨ ∃ b, v1.ownBlock = some b ∧ W.heap.size ≤ b := by
        rcases hat with hat | hat
        · exact .inl hat
        · exact .inr ⟨_, hat, Nat.le_refl _⟩
      have hne : ∀ k, some k ≠ v.ownBlock → k < W.heap.size → some k ≠ v1.ownBlock := by
        intro k hk hlt
        rcases hat' with hat | ⟨b, hb, hle⟩
        · rw [hat]; exact hk
        · rw [hb]
          intro he
          injection he with he
          omega
      have step : ∀ {q : α} {c : List Value} {o : Nat → Prop}, d.M W base o q c → (∀ k, o k → ok k ∧ some k ≠ v.ownBlock) → d.M w1 base (fun k => ok k ∧ some k ≠ v1.ownBlock) q c := by
        intro q c o hq ho
        have h1 := d.M_move (w1 := w1) (fun k hk => hg.block k hk.2.2.1 (ho k hk.1).2) (d.M_bound hq)
        exact d.M_mono (fun k hk => ⟨(ho k hk.1).1, hne k (ho k hk.1).2 hk.2.2.1⟩) h1
      refine ⟨v1, w1, hrun, ⟨fun k hk => ?_, inner ++ news, by rw [List.length_append, hm]; exact h2, reps_append (hr.imp_ (fun _ _ hq => step hq (fun _ hk => hk))) (hnM.imp_ (fun _ _ hq => step hq hokp))⟩, hg, hat'⟩
      rcases hat' with hat | ⟨b, hb, hle⟩
      · exact hok k (hat ▸ hk)
      · rw [hb] at hk
        injection hk with hk
        exact hfresh k (by omega)
  obtain ⟨v1, w1, hr1, h1, hg, hat⟩ := hrun
  refine wpList_plain hgd fun K hK => ?_
  unfold Oper.wp execOp
  simp only [ho, resolve, invoke, builtin, Sem.run_bind, Sem.run_pure, Result.andThen_ok, List.map_toArray, List.map_cons, List.map_nil, hs, hx, hr1]
  exact hK _ _ (h v1 w1 h1 (HB.grown hg hbase (own_base hown)) hg hat)
end
end Kd
namespace Kd
end Kd
theorem add_add (a : Addr) (i j : Nat) : (a.add i).add j = a.add (i + j) := by
  unfold Addr.add
  by_cases h1 : i = 0 <;> by_cases h2 : j = 0 <;> simp [h1, h2, Nat.add_assoc]
namespace Kd
end Kd
theorem keep_cell {w W : World} {g : Nat} (h : KeepBut w W g none) {a : Addr} {v : Value} (hc : w.cell? a = some v) (hne : a.block ≠ g) : W.cell? a = some v := by
  have := h.2 a.block (World.block_lt_of_cell? w a hc) hne (by simp)
  simpa [World.cell?, this] using hc
theorem add_block (a : Addr) (i : Nat) : (a.add i).block = a.block := by unfold Addr.add; split <;> rfl
theorem ReadsInt.keep {w W : World} {k : IntKind} {A : Option Addr} {n g : Nat} {xs : List Int} (h : ReadsInt w k A n xs) (hk : KeepBut w W g none) (hf : ∀ ad, A = some ad → 0 < n → ad.block ≠ g) : ReadsInt W k A n xs :=
  ⟨h.1, h.2.1, fun hn => by
    obtain ⟨ad, e, hc⟩ := h.2.2 hn
    exact ⟨ad, e, fun j hj => keep_cell hk (hc j hj) (by rw [add_block]; exact hf ad e hn)⟩⟩
theorem ReadsOf.keep {α : Type} {enc : α → Value} {d : α} {w W : World} {A : Option Addr} {n g : Nat} {xs : List α} (h : ReadsOf enc d w A n xs) (hk : KeepBut w W g none) (hf : ∀ ad, A = some ad → 0 < n → ad.block ≠ g) : ReadsOf enc d W A n xs :=
  ⟨h.1, h.2.1, fun hn => by
    obtain ⟨ad, e, hc⟩ := h.2.2 hn
    exact ⟨ad, e, fun j hj => keep_cell hk (hc j hj) (by rw [add_block]; exact hf ad e hn)⟩⟩
theorem keep_far {w W : World} {g : Nat} {row : Option Nat} (h : KeepBut w W g row) {p : Addr} (hp : w.heap.size ≤ p.block) (u : Value) : KeepBut w (W.setCell p u) g row :=
  ⟨by simpa [World.setCell] using h.1, fun i hi hg hr => (Below.heap_setCell W p u i (by omega)).trans (h.2 i hi hg hr)⟩
namespace Kd
end Kd
namespace Kd
end Kd
namespace Kd
end Kd
namespace Kd
end Kd
section
variable {P : Program} {ops : Array Oper} {o : Oper} {a : Act} {Q : Exit → Act → World → Prop} {Kc : Act → World → Prop}
namespace Kd
variable {α : Type}
end Kd
end
namespace Kd
end Kd
end Go.Proofs.YtgfbgfbnmiainaaW.PrintWords
namespace Go.Proofs.YtgfbgfbnmiainaaW.PrintLast
end Go.Proofs.YtgfbgfbnmiainaaW.PrintLast
namespace Go.Proofs.YtgfbgfbnmiainaaW.PrintLast
open Go.Proofs.YtgfbgfbnmiainaaW.PrintWords (Aside0)
end Go.Proofs.YtgfbgfbnmiainaaW.PrintLast
namespace Go.Proofs.YtgfbgfbnmiainaaW.PrintLast
end Go.Proofs.YtgfbgfbnmiainaaW.PrintLast
namespace Go.Proofs.YtgfbgfbnmiainaaW.PrintWords
open Go.RowKit
namespace Kd
end Kd
end Go.Proofs.YtgfbgfbnmiainaaW.PrintWords
namespace Go.Proofs.YtgfbgfbnmiainaaW.PrintWords
open Go.RowKit
namespace Kd
end Kd
end Go.Proofs.YtgfbgfbnmiainaaW.PrintWords
namespace Go.Proofs.YtgfbgfbnmiainaaW.PrintWords
open Go.RowKit
namespace Kd
end Kd
end Go.Proofs.YtgfbgfbnmiainaaW.PrintWords
namespace Go.Proofs.YtgfbgfbnmiainaaW.PrintWords
open Go.RowKit
namespace Kd
end Kd
end Go.Proofs.YtgfbgfbnmiainaaW.PrintWords
namespace Go.Proofs.YtgfbgfbnmiainaaW.PrintWords
open Go.RowKit
namespace Kd
end Kd
end Go.Proofs.YtgfbgfbnmiainaaW.PrintWords
namespace Go.Proofs.YtgfbgfbnmiainaaW.PrintWords
open Go.RowKit
section
variable {w W W2 : World} {S S2 S' : Nat → Prop}
theorem Kept.keep {g : Nat} (h : KeepBut w W g none) (k : Kept W W2 S2) (hs : ∀ k, S2 k → w.heap.size ≤ k) : KeepBut w W2 g none :=
  ⟨Nat.le_trans h.1 k.1, fun i hi hg hr => (k.2 i (Nat.lt_of_lt_of_le hi h.1) (fun h2 => by have := hs i h2; omega)).trans (h.2 i hi hg hr)⟩
end
namespace Kd
end Kd
end Go.Proofs.YtgfbgfbnmiainaaW.PrintWords
namespace Go.Proofs.YtgfbgfbnmiainaaW.PrintWords
open Go.RowKit
namespace Foot
variable {P Q : World → Prop} {W W1 : World} {ok ok' : Nat → Prop}
theorem imp (h : Foot P W ok) (hi : ∀ W', P W' → Q W') : Foot Q W ok := fun W' hW => hi W' (h W' hW)
end Foot
namespace Kd
end Kd
end Go.Proofs.YtgfbgfbnmiainaaW.PrintWords
namespace Go.Proofs.YtgfbgfbnmiainaaW.PrintWords
open Go.RowKit
namespace Kd
end Kd
end Go.Proofs.YtgfbgfbnmiainaaW.PrintWords
namespace Go.Proofs.YtgfbgfbnmiainaaW.PrintWords
open Go.RowKit
namespace Kd
end Kd
end Go.Proofs.YtgfbgfbnmiainaaW.PrintWords
namespace Go.Proofs.YtgfbgfbnmiainaaW.PrintWords
open Go.RowKit
namespace Kd
end Kd
end Go.Proofs.YtgfbgfbnmiainaaW.PrintWords
namespace Go.Proofs.YtgfbgfbnmiainaaW.PrintWords
open Go.RowKit
end Go.Proofs.YtgfbgfbnmiainaaW.PrintWords
namespace Go.Proofs.YtgfbgfbnmiainaaW.PrintWords
end Go.Proofs.YtgfbgfbnmiainaaW.PrintWords
namespace Go.Proofs.YtgfbgfbnmiainaaW.PrintLast
def up (b : Nat → Bool) (i : Nat) : Nat → Bool := fun j => if j = i then true else b j
end Go.Proofs.YtgfbgfbnmiainaaW.PrintLast
namespace Go.Proofs.YtgfbgfbnmiainaaW.PrintWords
open Go.RowKit
end Go.Proofs.YtgfbgfbnmiainaaW.PrintWords
namespace Go.Proofs.YtgfbgfbnmiainaaW.PrintLast
end Go.Proofs.YtgfbgfbnmiainaaW.PrintLast
namespace Go.Proofs.YtgfbgfbnmiainaaW.PrintWords
open Go.RowKit
end Go.Proofs.YtgfbgfbnmiainaaW.PrintWords
namespace Go.Proofs.YtgfbgfbnmiainaaW.PrintWords
open Go.RowKit
namespace Kd
end Kd
end Go.Proofs.YtgfbgfbnmiainaaW.PrintWords
namespace Go.Proofs.YtgfbgfbnmiainaaW.PrintMore
open Go.RowKit Go.Proofs.YtgfbgfbnmiainaaW.PrintWords
namespace Kd
open Go.Proofs.YtgfbgfbnmiainaaW.PrintWords.Kd
end Kd
namespace Kd
open Go.Proofs.YtgfbgfbnmiainaaW.PrintWords.Kd
end Kd
end Go.Proofs.YtgfbgfbnmiainaaW.PrintMore
namespace Go.Proofs.YtgfbgfbnmiainaaW.PrintWords
open Go.RowKit
namespace Kd
end Kd
end Go.Proofs.YtgfbgfbnmiainaaW.PrintWords
namespace Go.Proofs.YtgfbgfbnmiainaaW.PrintWords
open Go.RowKit
namespace Kd
end Kd
end Go.Proofs.YtgfbgfbnmiainaaW.PrintWords
namespace Go.Proofs.YtgfbgfbnmiainaaW.PrintWords
open Go.ChangeShapes Go.WideShapes
end Go.Proofs.YtgfbgfbnmiainaaW.PrintWords
namespace Go.Proofs.YtgfbgfbnmiainaaW.OwnWords
open Go.RowKit Go.Proofs.YtgfbgfbnmiainaaW.PrintWords Go.Proofs.YtgfbgfbnmiainaaW.PrintLast Go.Proofs.YtgfbgfbnmiainaaW.PrintMore
end Go.Proofs.YtgfbgfbnmiainaaW.OwnWords
/-! The families under way (family.fixing): what is said of them in memory; put. -/
namespace Go.Proofs.Ytgfbgfbnmiainaa.Fam
set_option linter.unusedVariables false
set_option linter.unusedSimpArgs false
open Go.RowKit Go.Proofs.YtgfbgfbnmiainaaW.PrintWords Go.Proofs.YtgfbgfbnmiainaaW.PrintLast Go.Proofs.YtgfbgfbnmiainaaW.PrintMore Go.Proofs.Ytgfbgfbnmiainaa.Q
attribute [local go_sem] Go.Proofs.YtgfbgfbnmiainaaW.OwnWords.isSome_setCell max2_int min2_int
attribute [local go_sem high] eqA59
/-- Block g is the families under way: the list xs (value v), whether it fails, whether it moved. -/
def IsFx (w0 w : World) (g : Nat) (v : Value) (xs : List S59) (f m : Bool) : Prop :=
  w.heap[g]? = some (.cells #[v, .bool f, .bool m] 56 (0, 0)) ∧ w0.heap.size ≤ g ∧ Kd.R k59 59 w w0.heap.size (fun k_ => k_ ≠ g) v xs
/-- The same, with what else is kept since w1. -/
def Fx (w0 w1 w : World) (g : Nat) (v : Value) (xs : List S59) (f m : Bool) : Prop :=
  IsFx w0 w g v xs f m ∧ Below w0.heap.size w0 w ∧ KeepBut w1 w g v.ownBlock ∧ g < w1.heap.size ∧ (∀ k, v.ownBlock = some k → k < w1.heap.size) ∧ w0.heap.size ≤ w1.heap.size
theorem fx_start {w0 w : World} {g : Nat} {v : Value} {xs : List S59} {f m : Bool} (h : IsFx w0 w g v xs f m) (hB : Below w0.heap.size w0 w) : Fx w0 w w g v xs f m :=
  ⟨h, hB, KeepBut.refl _ _ _, blk_lt h.1, fun k hk => Kd.R_lt h.2.2 k hk, hB.size⟩
theorem fx_below {w0 w1 w w' : World} {g : Nat} {v : Value} {xs : List S59} {f m : Bool} (h : Fx w0 w1 w g v xs f m) (hb : Below w.heap.size w w') : Fx w0 w1 w' g v xs f m := by
  obtain ⟨⟨h1, h2, h3⟩, h4, h5, h6, h7, h8⟩ := h
  refine ⟨⟨blk_below h1 hb, h2, Kd.R_below h3 hb⟩, h4.trans (hb.mono (by have := h5.1; omega)), ⟨Nat.le_trans h5.1 hb.size, fun i hi hg hr => (hb.block i (by have := h5.1; omega)).trans (h5.2 i hi hg hr)⟩, h6, h7, h8⟩
theorem fx_alloc {w0 w1 w : World} {g : Nat} {v : Value} {xs : List S59} {f m : Bool} (h : Fx w0 w1 w g v xs f m) (o : Obj) : Fx w0 w1 (w.alloc o) g v xs f m := fx_below h (below_alloc (Below.refl _ _) o)
theorem fx_drew {w0 w1 w : World} {g : Nat} {v : Value} {xs : List S59} {f m : Bool} (h : Fx w0 w1 w g v xs f m) : Fx w0 w1 w.drew g v xs f m := fx_below h (below_drew (Below.refl _ _))
theorem fx_drewN {w0 w1 w : World} {g : Nat} {v : Value} {xs : List S59} {f m : Bool} (h : Fx w0 w1 w g v xs f m) (n : Nat) : Fx w0 w1 (w.drewN n) g v xs f m := fx_below h (pw_below_drewN (Below.refl _ _) n)
/-- The elements have no rows of their own: only where the list's own row lies counts. -/
theorem r59_ok {e : Nat} {w : World} {base : Nat} {ok ok' : Nat → Prop} {v : Value} {xs : List S59} (h : Kd.R k59 e w base ok v xs) (hok : ∀ k, v.ownBlock = some k → ok' k) : Kd.R k59 e w base ok' v xs := by
  obtain ⟨_, inner, ho, hr⟩ := h
  refine ⟨hok, inner, ho, hr.imp_ (fun x c hp => ?_)⟩
  rw [k59_openM hp]
  exact k59_mkM _ _ _ x
theorem r59_move {e : Nat} {w w' : World} {base : Nat} {ok ok' : Nat → Prop} {v : Value} {xs : List S59} (h : Kd.R k59 e w base ok v xs) (hok : ∀ k, v.ownBlock = some k → ok' k) (hm : ∀ k, v.ownBlock = some k → w'.heap[k]? = w.heap[k]?) : Kd.R k59 e w' base ok' v xs := by
  have h1 : Kd.R k59 e w base (fun k => v.ownBlock = some k) v xs := r59_ok h (fun _ hk => hk)
  exact r59_ok (Kd.R_move h1 hm) hok
theorem fx_own {w0 w1 w : World} {g : Nat} {v : Value} {xs : List S59} {f m : Bool} (h : Fx w0 w1 w g v xs f m) : ∀ k, v.ownBlock = some k → k ≠ g ∧ w0.heap.size ≤ k :=
  fun k hk => ⟨h.1.2.2.1 k hk, Kd.R_base h.1.2.2 k hk⟩
/-- A store into a block that was made since. -/
theorem fx_far {w0 w1 w : World} {g : Nat} {v : Value} {xs : List S59} {f m : Bool} (h : Fx w0 w1 w g v xs f m) {p : Addr} (hp : w1.heap.size ≤ p.block) (u : Value) : Fx w0 w1 (w.setCell p u) g v xs f m := by
  have ho := fx_own h
  obtain ⟨⟨h1, h2, h3⟩, h4, h5, h6, h7, h8⟩ := h
  refine ⟨⟨(Below.heap_setCell w p u g (by omega)).trans h1, h2, r59_move h3 (fun k hk => (ho k hk).1) (fun k hk => Below.heap_setCell w p u k (by have := h7 k hk; omega))⟩, h4.setCell (by omega) _, keep_far h5 hp u, h6, h7, h8⟩
/-- A store into the block itself. -/
theorem fx_put1 {w0 w1 w : World} {g : Nat} {v : Value} {xs : List S59} {f m : Bool} (h : Fx w0 w1 w g v xs f m) (b : Bool) : Fx w0 w1 (w.setCell ⟨g, 1, none⟩ (.bool b)) g v xs b m := by
  have ho := fx_own h
  obtain ⟨⟨h1, h2, h3⟩, h4, h5, h6, h7, h8⟩ := h
  refine ⟨⟨blk_put h1 1 (.bool b) rfl, h2, r59_move h3 (fun k hk => (ho k hk).1) (fun k hk => Below.heap_setCell w _ _ k (by have := (ho k hk).1; exact this))⟩, h4.setCell (by exact h2) _, ?_, h6, h7, h8⟩
  exact ⟨by simpa [World.setCell] using h5.1, fun i hi hg hr => (Below.heap_setCell w _ _ i (by exact hg)).trans (h5.2 i hi hg hr)⟩
theorem fx_put2 {w0 w1 w : World} {g : Nat} {v : Value} {xs : List S59} {f m : Bool} (h : Fx w0 w1 w g v xs f m) (b : Bool) : Fx w0 w1 (w.setCell ⟨g, 2, none⟩ (.bool b)) g v xs f b := by
  have ho := fx_own h
  obtain ⟨⟨h1, h2, h3⟩, h4, h5, h6, h7, h8⟩ := h
  refine ⟨⟨blk_put h1 2 (.bool b) rfl, h2, r59_move h3 (fun k hk => (ho k hk).1) (fun k hk => Below.heap_setCell w _ _ k (by have := (ho k hk).1; exact this))⟩, h4.setCell (by exact h2) _, ?_, h6, h7, h8⟩
  exact ⟨by simpa [World.setCell] using h5.1, fun i hi hg hr => (Below.heap_setCell w _ _ i (by exact hg)).trans (h5.2 i hi hg hr)⟩
/-- What is read of an element. -/
theorem fx_elem {w0 w1 w : World} {g gs cap n : Nat} {xs : List S59} {f m : Bool} (h : Fx w0 w1 w g (.slice (some ⟨gs, 0, none⟩) n cap) xs f m) (i : Int) (h0 : 0 ≤ i) (h1 : i < n) :
    w.cell? ⟨gs, i.toNat * 4, none⟩ = some (.int .u64 (rd_T59 xs i).f0) ∧ w.cell? ⟨gs, i.toNat * 4 + 1, none⟩ = some (.int .u64 (rd_T59 xs i).f1) ∧ w.cell? ⟨gs, i.toNat * 4 + 2, none⟩ = some (.int .i64 (rd_T59 xs i).f2) ∧ w.cell? ⟨gs, i.toNat * 4 + 3, none⟩ = some (.int .i64 (rd_T59 xs i).f3) ∧
      w.frozen? ⟨gs, i.toNat * 4, none⟩ = false ∧ w.frozen? ⟨gs, i.toNat * 4 + 1, none⟩ = false ∧ w.frozen? ⟨gs, i.toNat * 4 + 2, none⟩ = false ∧ w.frozen? ⟨gs, i.toNat * 4 + 3, none⟩ = false := by
  obtain ⟨c, hl, hM, hc, hf⟩ := Kd.R_elem h.1.2.2 z59 i h0 h1
  obtain rfl := k59_openM hM
  exact ⟨hc 0 _ rfl, hc 1 _ rfl, hc 2 _ rfl, hc 3 _ rfl, hf 0, hf 1, hf 2, hf 3⟩
/-- An element is stored. -/
theorem fx_store {w0 w1 w : World} {g gs cap n : Nat} {xs : List S59} {f m : Bool} (h : Fx w0 w1 w g (.slice (some ⟨gs, 0, none⟩) n cap) xs f m) (i : Int) (h0 : 0 ≤ i) (h1 : i < n) (s : S59) :
    Fx w0 w1 ((((w.setCell ⟨gs, i.toNat * 4, none⟩ (.int .u64 s.f0)).setCell ⟨gs, i.toNat * 4 + 1, none⟩ (.int .u64 s.f1)).setCell ⟨gs, i.toNat * 4 + 2, none⟩ (.int .i64 s.f2)).setCell ⟨gs, i.toNat * 4 + 3, none⟩ (.int .i64 s.f3)) g (.slice (some ⟨gs, 0, none⟩) n cap) (xs.set i.toNat s) f m := by
  have ho := fx_own h
  have hgs := ho gs (by simp [Value.ownBlock])
  obtain ⟨⟨h1', h2, h3⟩, h4, h5, h6, h7, h8⟩ := h
  obtain ⟨c, hl, hM, hc, hf⟩ := Kd.R_elem h3 z59 i h0 h1
  have hl4 : c.length = 4 := hl
  obtain ⟨r1, r2⟩ := Kd.R_seg h3 i h0 h1 (c := c) (seg := [.int .u64 s.f0, .int .u64 s.f1, .int .i64 s.f2, .int .i64 s.f3]) (j := 0) hl hc (show 4 ≤ 4 from by decide) (x' := s) (okp := fun _ => False) (by
    have : c.take 0 ++ [.int .u64 s.f0, .int .u64 s.f1, .int .i64 s.f2, .int .i64 s.f3] ++ c.drop (0 + [Value.int .u64 s.f0, .int .u64 s.f1, .int .i64 s.f2, .int .i64 s.f3].length) = [.int .u64 s.f0, .int .u64 s.f1, .int .i64 s.f2, .int .i64 s.f3] := by
      rw [List.drop_of_length_le (by simp; omega)]
      simp
    rw [this]
    exact k59_mkM _ _ _ s) (fun _ hk => hk.elim)
  have hneg : g ≠ gs := fun e => hgs.1 e.symm
  refine ⟨⟨?_, h2, r1⟩, ?_, ?_, h6, h7, h8⟩
  · exact (r2.block g (blk_lt h1') (by simpa using hneg)).trans h1'
  · exact (((h4.setCell (by exact hgs.2) _).setCell (by exact hgs.2) _).setCell (by exact hgs.2) _).setCell (by exact hgs.2) _
  · refine ⟨Nat.le_trans h5.1 r2.size, fun j hj hg hr => (r2.block j (by have := h5.1; omega) (by simpa [Value.ownBlock] using hr)).trans (h5.2 j hj hg hr)⟩
end Go.Proofs.Ytgfbgfbnmiainaa.Fam
/-! The families under way: put, against a Lean function. -/
namespace Go.Proofs.Ytgfbgfbnmiainaa.Fam
set_option linter.unusedVariables false
set_option linter.unusedSimpArgs false
open Go.RowKit Go.Proofs.YtgfbgfbnmiainaaW.PrintWords Go.Proofs.YtgfbgfbnmiainaaW.PrintLast Go.Proofs.YtgfbgfbnmiainaaW.PrintMore Go.Proofs.Ytgfbgfbnmiainaa.Q
attribute [local go_sem] Go.Proofs.YtgfbgfbnmiainaaW.OwnWords.isSome_setCell max2_int min2_int
attribute [local go_sem high] eqA59
def eq59 (a b : S59) : Bool := a.f0 == b.f0 && (a.f1 == b.f1 && (a.f2 == b.f2 && (a.f3 == b.f3)))
/-- A fact about the world is what the walk is to end with. -/
def FxEnd (w0 w1 : World) (g : Nat) (v : Value) (xs : List S59) (f m : Bool) (e : Ending) (w' : World) : Prop := e = .returned (.tuple #[]) ∧ Fx w0 w1 w' g v xs f m
theorem put_f (g : Nat) (v : Value) (xs : List S59) (m : Bool) (i : Int) (s : S59) (w0 w1 w : World) (hF : Fx w0 w1 w g v xs true m) :
    Calls Try.prog 37 #[.pointer (some ⟨g, 0, none⟩), .int .i64 i, .agg #[.int .u64 s.f0, .int .u64 s.f1, .int .i64 s.f2, .int .i64 s.f3]] w (FxEnd w0 w1 g v xs true m) := by
  have h1 : w.cell? ⟨g, 1, none⟩ = some (.bool true) := (blk_cell hF.1.1 1).trans rfl
  have hlt := blk_lt hF.1.1
  have hne : g ≠ w.heap.size := by omega
  have HF := Aside0.mk hF
  clear hF
  go_enter Try.func37, Try.ntmps37
  go_wp2
  first | go_end0 | ((try simp only [Exit.inBlock, Exit.then]); refine bodyPost_ret (results_none rfl _ _ _) rfl ?_)
  exact ⟨rfl, fx_alloc HF.out _⟩
/-- The box that put lays for s, and what else is known at its begin. -/
theorem put_no (k : Nat) (g : Nat) (v : Value) (xs : List S59) (m : Bool) (i : Int) (s : S59) (a b c d : Int) (w0 w1 w : World) (hF : Fx w0 w1 w g v xs false m) (hn : family_span_normal.f k s.f0 s.f1 s.f2 s.f3 = some (a, b, c, d, false)) :
    Calls Try.prog 37 #[.pointer (some ⟨g, 0, none⟩), .int .i64 i, .agg #[.int .u64 s.f0, .int .u64 s.f1, .int .i64 s.f2, .int .i64 s.f3]] w (FxEnd w0 w1 g v xs true m) := by
  have h1 : w.cell? ⟨g, 1, none⟩ = some (.bool false) := (blk_cell hF.1.1 1).trans rfl
  have hlt := blk_lt hF.1.1
  have hne : g ≠ w.heap.size := by omega
  have hle : w1.heap.size ≤ w.heap.size := hF.2.2.1.1
  have HF := Aside0.mk hF
  have HN := Aside0.mk hn
  clear hF hn
  go_enter Try.func37, Try.ntmps37
  go_wp2_with (go_at_call 45; (with_reducible refine (family_span_normal.calls k _ _ _ _ a b c d false _ HN.out).mono ?_); rintro e w2 ⟨rfl, hb⟩; have HF2 := Aside0.mk (fx_below (fx_alloc HF.out _) hb); have hk2 := blk_below (blk_new w _) hb; have q0 : w2.cell? ⟨w.heap.size, 0, none⟩ = some (.int .u64 s.f0) := (blk_cell hk2 0).trans rfl; have q1 : w2.cell? ⟨w.heap.size, 1, none⟩ = some (.int .u64 s.f1) := (blk_cell hk2 1).trans rfl; have q2 : w2.cell? ⟨w.heap.size, 2, none⟩ = some (.int .i64 s.f2) := (blk_cell hk2 2).trans rfl; have q3 : w2.cell? ⟨w.heap.size, 3, none⟩ = some (.int .i64 s.f3) := (blk_cell hk2 3).trans rfl; have z0 := blk_frozen hk2 0; have z1 := blk_frozen hk2 1; have z2 := blk_frozen hk2 2; have z3 := blk_frozen hk2 3; have g0 : w2.cell? ⟨g, 0, none⟩ = some v := (blk_cell HF2.out.1.1 0).trans rfl; have g1 : w2.cell? ⟨g, 1, none⟩ = some (.bool false) := (blk_cell HF2.out.1.1 1).trans rfl; have g2 : w2.cell? ⟨g, 2, none⟩ = some (.bool m) := (blk_cell HF2.out.1.1 2).trans rfl; have y0 := blk_frozen HF2.out.1.1 0; have y1 := blk_frozen HF2.out.1.1 1; have y2 := blk_frozen HF2.out.1.1 2; clear hb hk2)
  first | go_end0 | ((try simp only [Exit.inBlock, Exit.then]); refine bodyPost_ret (results_none rfl _ _ _) rfl ?_)
  exact ⟨rfl, fx_put1 (fx_far (fx_far (fx_far (fx_far HF2.out hle _) hle _) hle _) hle _) true⟩
theorem put_eq (k : Nat) (g gs cap n : Nat) (xs : List S59) (m : Bool) (i : Int) (h0 : 0 ≤ i) (hi : i < n) (s : S59) (a b c d : Int) (w0 w1 w : World) (hF : Fx w0 w1 w g (.slice (some ⟨gs, 0, none⟩) n cap) xs false m) (hn : family_span_normal.f k s.f0 s.f1 s.f2 s.f3 = some (a, b, c, d, true))
    (he : (a == (rd_T59 xs i).f0 && (b == (rd_T59 xs i).f1 && (c == (rd_T59 xs i).f2 && (d == (rd_T59 xs i).f3)))) = true) :
    Calls Try.prog 37 #[.pointer (some ⟨g, 0, none⟩), .int .i64 i, .agg #[.int .u64 s.f0, .int .u64 s.f1, .int .i64 s.f2, .int .i64 s.f3]] w (FxEnd w0 w1 g (.slice (some ⟨gs, 0, none⟩) n cap) xs false m) := by
  have h1 : w.cell? ⟨g, 1, none⟩ = some (.bool false) := (blk_cell hF.1.1 1).trans rfl
  have hlt := blk_lt hF.1.1
  have hne : g ≠ w.heap.size := by omega
  have hle : w1.heap.size ≤ w.heap.size := hF.2.2.1.1
  have hgs := fx_own hF gs (by simp [Value.ownBlock])
  have hgl : gs < w.heap.size := Kd.R_lt hF.1.2.2 gs (by simp [Value.ownBlock])
  have hn1 : g ≠ gs := fun e => hgs.1 e.symm
  have hn2 : gs ≠ w.heap.size := by omega
  have hn3 : w.heap.size ≠ gs := by omega
  have hn4 : w.heap.size ≠ g := by omega
  have hn5 : gs ≠ g := hgs.1
  have HF := Aside0.mk hF
  have HN := Aside0.mk hn
  have p1 : decide (0 ≤ i) = true := decide_eq_true h0
  have p2 : decide (i < (n : Int)) = true := decide_eq_true hi
  clear hF hn hgs
  go_enter Try.func37, Try.ntmps37
  go_wp2_with (go_at_call 45; (with_reducible refine (family_span_normal.calls k _ _ _ _ a b c d true _ HN.out).mono ?_); rintro e w2 ⟨rfl, hb⟩; have HF2 := Aside0.mk (fx_below (fx_alloc HF.out _) hb); have hk2 := blk_below (blk_new w _) hb; have q0 : w2.cell? ⟨w.heap.size, 0, none⟩ = some (.int .u64 s.f0) := (blk_cell hk2 0).trans rfl; have q1 : w2.cell? ⟨w.heap.size, 1, none⟩ = some (.int .u64 s.f1) := (blk_cell hk2 1).trans rfl; have q2 : w2.cell? ⟨w.heap.size, 2, none⟩ = some (.int .i64 s.f2) := (blk_cell hk2 2).trans rfl; have q3 : w2.cell? ⟨w.heap.size, 3, none⟩ = some (.int .i64 s.f3) := (blk_cell hk2 3).trans rfl; have z0 := blk_frozen hk2 0; have z1 := blk_frozen hk2 1; have z2 := blk_frozen hk2 2; have z3 := blk_frozen hk2 3; have g0 : w2.cell? ⟨g, 0, none⟩ = some (.slice (some ⟨gs, 0, none⟩) n cap) := (blk_cell HF2.out.1.1 0).trans rfl; have g1 : w2.cell? ⟨g, 1, none⟩ = some (.bool false) := (blk_cell HF2.out.1.1 1).trans rfl; have g2 : w2.cell? ⟨g, 2, none⟩ = some (.bool m) := (blk_cell HF2.out.1.1 2).trans rfl; have y0 := blk_frozen HF2.out.1.1 0; have y1 := blk_frozen HF2.out.1.1 1; have y2 := blk_frozen HF2.out.1.1 2; obtain ⟨e0, e1, e2, e3, f0, f1, f2, f3⟩ := fx_elem HF2.out i h0 hi; clear hb hk2)
  go_quiet (fail)
  try go_wp2
  first | go_end0 | ((try simp only [Exit.inBlock, Exit.then]); refine bodyPost_ret (results_none rfl _ _ _) rfl ?_)
  exact ⟨rfl, fx_drewN (fx_far (fx_far (fx_far (fx_far HF2.out hle _) hle _) hle _) hle _) _⟩
theorem put_ne (k : Nat) (g gs cap n : Nat) (xs : List S59) (m : Bool) (i : Int) (h0 : 0 ≤ i) (hi : i < n) (s : S59) (a b c d : Int) (w0 w1 w : World) (hF : Fx w0 w1 w g (.slice (some ⟨gs, 0, none⟩) n cap) xs false m) (hn : family_span_normal.f k s.f0 s.f1 s.f2 s.f3 = some (a, b, c, d, true))
    (he : (a == (rd_T59 xs i).f0 && (b == (rd_T59 xs i).f1 && (c == (rd_T59 xs i).f2 && (d == (rd_T59 xs i).f3)))) = false) :
    Calls Try.prog 37 #[.pointer (some ⟨g, 0, none⟩), .int .i64 i, .agg #[.int .u64 s.f0, .int .u64 s.f1, .int .i64 s.f2, .int .i64 s.f3]] w (FxEnd w0 w1 g (.slice (some ⟨gs, 0, none⟩) n cap) (xs.set i.toNat ⟨a, b, c, d⟩) false true) := by
  have h1 : w.cell? ⟨g, 1, none⟩ = some (.bool false) := (blk_cell hF.1.1 1).trans rfl
  have hlt := blk_lt hF.1.1
  have hne : g ≠ w.heap.size := by omega
  have hle : w1.heap.size ≤ w.heap.size := hF.2.2.1.1
  have hgs := fx_own hF gs (by simp [Value.ownBlock])
  have hgl : gs < w.heap.size := Kd.R_lt hF.1.2.2 gs (by simp [Value.ownBlock])
  have hn1 : g ≠ gs := fun e => hgs.1 e.symm
  have hn2 : gs ≠ w.heap.size := by omega
  have hn3 : w.heap.size ≠ gs := by omega
  have hn4 : w.heap.size ≠ g := by omega
  have hn5 : gs ≠ g := hgs.1
  have HF := Aside0.mk hF
  have HN := Aside0.mk hn
  have p1 : decide (0 ≤ i) = true := decide_eq_true h0
  have p2 : decide (i < (n : Int)) = true := decide_eq_true hi
  clear hF hn hgs
  go_enter Try.func37, Try.ntmps37
  go_wp2_with (go_at_call 45; (with_reducible refine (family_span_normal.calls k _ _ _ _ a b c d true _ HN.out).mono ?_); rintro e w2 ⟨rfl, hb⟩; have HF2 := Aside0.mk (fx_below (fx_alloc HF.out _) hb); have hk2 := blk_below (blk_new w _) hb; have q0 : w2.cell? ⟨w.heap.size, 0, none⟩ = some (.int .u64 s.f0) := (blk_cell hk2 0).trans rfl; have q1 : w2.cell? ⟨w.heap.size, 1, none⟩ = some (.int .u64 s.f1) := (blk_cell hk2 1).trans rfl; have q2 : w2.cell? ⟨w.heap.size, 2, none⟩ = some (.int .i64 s.f2) := (blk_cell hk2 2).trans rfl; have q3 : w2.cell? ⟨w.heap.size, 3, none⟩ = some (.int .i64 s.f3) := (blk_cell hk2 3).trans rfl; have z0 := blk_frozen hk2 0; have z1 := blk_frozen hk2 1; have z2 := blk_frozen hk2 2; have z3 := blk_frozen hk2 3; have g0 : w2.cell? ⟨g, 0, none⟩ = some (.slice (some ⟨gs, 0, none⟩) n cap) := (blk_cell HF2.out.1.1 0).trans rfl; have g1 : w2.cell? ⟨g, 1, none⟩ = some (.bool false) := (blk_cell HF2.out.1.1 1).trans rfl; have g2 : w2.cell? ⟨g, 2, none⟩ = some (.bool m) := (blk_cell HF2.out.1.1 2).trans rfl; have y0 := blk_frozen HF2.out.1.1 0; have y1 := blk_frozen HF2.out.1.1 1; have y2 := blk_frozen HF2.out.1.1 2; obtain ⟨e0, e1, e2, e3, f0, f1, f2, f3⟩ := fx_elem HF2.out i h0 hi; clear hb hk2)
  go_quiet (fail)
  try go_wp2
  go_region
  try go_wp2
  first | go_end0 | ((try simp only [Exit.inBlock, Exit.then]); refine bodyPost_ret (results_none rfl _ _ _) rfl ?_)
  exact ⟨rfl, fx_put2 (fx_store (fx_drewN (fx_far (fx_far (fx_far (fx_far HF2.out hle _) hle _) hle _) hle _) _) i h0 hi ⟨a, b, c, d⟩) true⟩
/-- put, against Lean functions: what becomes of the list, of whether it fails and of whether it moved. -/
def putN (k : Nat) (s : S59) : Option (S59 × Bool) := (family_span_normal.f k s.f0 s.f1 s.f2 s.f3).map (fun r => (⟨r.1, r.2.1, r.2.2.1, r.2.2.2.1⟩, r.2.2.2.2))
structure St where
  xs : List S59
  fail : Bool
  moved : Bool
def putL (k : Nat) (i : Int) (s : S59) (t : St) : Option St :=
  if t.fail then some t
  else (putN k s).map (fun r => if r.2 then (if eq59 r.1 (rd_T59 t.xs i) then t else ⟨t.xs.set i.toNat r.1, false, true⟩) else ⟨t.xs, true, t.moved⟩)
theorem put_calls (k : Nat) (g gs cap n : Nat) (t u : St) (i : Int) (h0 : 0 ≤ i) (hi : i < n) (s : S59) (w0 w1 w : World) (hF : Fx w0 w1 w g (.slice (some ⟨gs, 0, none⟩) n cap) t.xs t.fail t.moved) (hn : putL k i s t = some u) :
    Calls Try.prog 37 #[.pointer (some ⟨g, 0, none⟩), .int .i64 i, .agg #[.int .u64 s.f0, .int .u64 s.f1, .int .i64 s.f2, .int .i64 s.f3]] w (FxEnd w0 w1 g (.slice (some ⟨gs, 0, none⟩) n cap) u.xs u.fail u.moved) := by
  obtain ⟨xs, f, m⟩ := t
  unfold putL at hn
  cases f with
  | true =>
    simp only [if_true, Option.some.injEq] at hn
    subst hn
    exact put_f g _ xs m i s w0 w1 w hF
  | false =>
    simp only [Bool.false_eq_true, if_false, putN, Option.map_map, Option.map_eq_some_iff, Function.comp] at hn
    obtain ⟨⟨a, b, c, d, o⟩, hr, hu⟩ := hn
    cases o with
    | false =>
      simp only [Bool.false_eq_true, if_false] at hu
      subst hu
      exact put_no k g _ xs m i s a b c d w0 w1 w hF hr
    | true =>
      simp only [if_true] at hu
      cases he : eq59 ⟨a, b, c, d⟩ (rd_T59 xs i) with
      | true =>
        simp only [he, if_true] at hu
        subst hu
        exact put_eq k g gs cap n xs m i h0 hi s a b c d w0 w1 w hF hr he
      | false =>
        simp only [he, Bool.false_eq_true, if_false] at hu
        subst hu
        exact put_ne k g gs cap n xs m i h0 hi s a b c d w0 w1 w hF hr he
end Go.Proofs.Ytgfbgfbnmiainaa.Fam
/-! The families under way: into, only, least, greatest, each by put. -/
namespace Go.Proofs.Ytgfbgfbnmiainaa.Fam
set_option linter.unusedVariables false
set_option linter.unusedSimpArgs false
open Go.RowKit Go.Proofs.YtgfbgfbnmiainaaW.PrintWords Go.Proofs.YtgfbgfbnmiainaaW.PrintLast Go.Proofs.YtgfbgfbnmiainaaW.PrintMore Go.Proofs.Ytgfbgfbnmiainaa.Q
attribute [local go_sem] Go.Proofs.YtgfbgfbnmiainaaW.OwnWords.isSome_setCell max2_int min2_int
attribute [local go_sem high] eqA59
@[reducible] def intoS (xs : List S59) (i m : Int) : S59 := ⟨Go.bits .or .u64 (rd_T59 xs i).f0 m, (rd_T59 xs i).f1, (rd_T59 xs i).f2, (rd_T59 xs i).f3⟩
theorem into_calls (k : Nat) (g gs cap n : Nat) (t u : St) (i : Int) (h0 : 0 ≤ i) (hi : i < n) (m : Int) (w0 w1 w : World) (hF : Fx w0 w1 w g (.slice (some ⟨gs, 0, none⟩) n cap) t.xs t.fail t.moved) (hn : putL k i (intoS t.xs i m) t = some u) :
    Calls Try.prog 71 #[.pointer (some ⟨g, 0, none⟩), .int .i64 i, .int .u64 m] w (FxEnd w0 w1 g (.slice (some ⟨gs, 0, none⟩) n cap) u.xs u.fail u.moved) := by
  have g0 : w.cell? ⟨g, 0, none⟩ = some (.slice (some ⟨gs, 0, none⟩) n cap) := (blk_cell hF.1.1 0).trans rfl
  have y0 := blk_frozen hF.1.1 0
  have hlt := blk_lt hF.1.1
  have hne : g ≠ w.heap.size := by omega
  have hgl : gs < w.heap.size := Kd.R_lt hF.1.2.2 gs (by simp [Value.ownBlock])
  have hn2 : gs ≠ w.heap.size := by omega
  have hn3 : w.heap.size ≠ gs := by omega
  have hn4 : w.heap.size ≠ g := by omega
  have p1 : decide (0 ≤ i) = true := decide_eq_true h0
  have p2 : decide (i < (n : Int)) = true := decide_eq_true hi
  obtain ⟨e0, e1, e2, e3, f0, f1, f2, f3⟩ := fx_elem hF i h0 hi
  have HF := Aside0.mk hF
  have HN1 : Aside0 (True → putL k i (intoS t.xs i m) t = some u) := ⟨fun _ => hn⟩
  have HN2 := HN1
  have hT : True := trivial
  clear hF hn
  go_enter Try.func71, Try.ntmps71
  go_wp2_with (go_at_call 37; (with_reducible first | (refine (put_calls k g gs cap n t u i h0 hi _ w0 w1 _ (fx_alloc HF.out _) (HN1.out (by assumption))).mono ?_) | (refine (put_calls k g gs cap n t u i h0 hi _ w0 w1 _ (fx_alloc HF.out _) (HN2.out (by assumption))).mono ?_)); rintro e w2 ⟨rfl, HF2⟩; replace HF2 := Aside0.mk HF2)
  all_goals first | exact ⟨rfl, HF2.out⟩ | (go_end0; exact ⟨rfl, HF2.out⟩) | ((try simp only [Exit.inBlock, Exit.then]); refine bodyPost_ret (results_none rfl _ _ _) rfl ?_; exact ⟨rfl, HF2.out⟩)
@[reducible] def onlyS (xs : List S59) (i m : Int) : S59 := ⟨(rd_T59 xs i).f0, Go.bits .and .u64 (rd_T59 xs i).f1 m, (rd_T59 xs i).f2, (rd_T59 xs i).f3⟩
theorem only_calls (k : Nat) (g gs cap n : Nat) (t u : St) (i : Int) (h0 : 0 ≤ i) (hi : i < n) (m : Int) (w0 w1 w : World) (hF : Fx w0 w1 w g (.slice (some ⟨gs, 0, none⟩) n cap) t.xs t.fail t.moved) (hn : putL k i (onlyS t.xs i m) t = some u) :
    Calls Try.prog 72 #[.pointer (some ⟨g, 0, none⟩), .int .i64 i, .int .u64 m] w (FxEnd w0 w1 g (.slice (some ⟨gs, 0, none⟩) n cap) u.xs u.fail u.moved) := by
  have g0 : w.cell? ⟨g, 0, none⟩ = some (.slice (some ⟨gs, 0, none⟩) n cap) := (blk_cell hF.1.1 0).trans rfl
  have y0 := blk_frozen hF.1.1 0
  have hlt := blk_lt hF.1.1
  have hne : g ≠ w.heap.size := by omega
  have hgl : gs < w.heap.size := Kd.R_lt hF.1.2.2 gs (by simp [Value.ownBlock])
  have hn2 : gs ≠ w.heap.size := by omega
  have hn3 : w.heap.size ≠ gs := by omega
  have hn4 : w.heap.size ≠ g := by omega
  have p1 : decide (0 ≤ i) = true := decide_eq_true h0
  have p2 : decide (i < (n : Int)) = true := decide_eq_true hi
  obtain ⟨e0, e1, e2, e3, f0, f1, f2, f3⟩ := fx_elem hF i h0 hi
  have HF := Aside0.mk hF
  have HN1 : Aside0 (True → putL k i (onlyS t.xs i m) t = some u) := ⟨fun _ => hn⟩
  have HN2 := HN1
  have hT : True := trivial
  clear hF hn
  go_enter Try.func72, Try.ntmps72
  go_wp2_with (go_at_call 37; (with_reducible first | (refine (put_calls k g gs cap n t u i h0 hi _ w0 w1 _ (fx_alloc HF.out _) (HN1.out (by assumption))).mono ?_) | (refine (put_calls k g gs cap n t u i h0 hi _ w0 w1 _ (fx_alloc HF.out _) (HN2.out (by assumption))).mono ?_)); rintro e w2 ⟨rfl, HF2⟩; replace HF2 := Aside0.mk HF2)
  all_goals first | exact ⟨rfl, HF2.out⟩ | (go_end0; exact ⟨rfl, HF2.out⟩) | ((try simp only [Exit.inBlock, Exit.then]); refine bodyPost_ret (results_none rfl _ _ _) rfl ?_; exact ⟨rfl, HF2.out⟩)
@[reducible] def leastS (xs : List S59) (i m : Int) : S59 := ⟨(rd_T59 xs i).f0, (rd_T59 xs i).f1, mx (rd_T59 xs i).f2 m, (rd_T59 xs i).f3⟩
theorem least_calls (k : Nat) (g gs cap n : Nat) (t u : St) (i : Int) (h0 : 0 ≤ i) (hi : i < n) (m : Int) (w0 w1 w : World) (hF : Fx w0 w1 w g (.slice (some ⟨gs, 0, none⟩) n cap) t.xs t.fail t.moved) (hn : putL k i (leastS t.xs i m) t = some u) :
    Calls Try.prog 74 #[.pointer (some ⟨g, 0, none⟩), .int .i64 i, .int .i64 m] w (FxEnd w0 w1 g (.slice (some ⟨gs, 0, none⟩) n cap) u.xs u.fail u.moved) := by
  have g0 : w.cell? ⟨g, 0, none⟩ = some (.slice (some ⟨gs, 0, none⟩) n cap) := (blk_cell hF.1.1 0).trans rfl
  have y0 := blk_frozen hF.1.1 0
  have hlt := blk_lt hF.1.1
  have hne : g ≠ w.heap.size := by omega
  have hgl : gs < w.heap.size := Kd.R_lt hF.1.2.2 gs (by simp [Value.ownBlock])
  have hn2 : gs ≠ w.heap.size := by omega
  have hn3 : w.heap.size ≠ gs := by omega
  have hn4 : w.heap.size ≠ g := by omega
  have p1 : decide (0 ≤ i) = true := decide_eq_true h0
  have p2 : decide (i < (n : Int)) = true := decide_eq_true hi
  obtain ⟨e0, e1, e2, e3, f0, f1, f2, f3⟩ := fx_elem hF i h0 hi
  have HF := Aside0.mk hF
  have HN1 : Aside0 ((rd_T59 t.xs i).f2 < m → putL k i ⟨(rd_T59 t.xs i).f0, (rd_T59 t.xs i).f1, m, (rd_T59 t.xs i).f3⟩ t = some u) := ⟨fun h => by
    rw [← hn]
    simp only [leastS, mx, if_pos h]⟩
  have HN2 : Aside0 (¬ (rd_T59 t.xs i).f2 < m → putL k i ⟨(rd_T59 t.xs i).f0, (rd_T59 t.xs i).f1, (rd_T59 t.xs i).f2, (rd_T59 t.xs i).f3⟩ t = some u) := ⟨fun h => by
    rw [← hn]
    simp only [leastS, mx, if_neg h]⟩
  clear hF hn
  go_enter Try.func74, Try.ntmps74
  go_wp2_with (go_at_call 37; (with_reducible first | (refine (put_calls k g gs cap n t u i h0 hi _ w0 w1 _ (fx_alloc HF.out _) (HN1.out (by assumption))).mono ?_) | (refine (put_calls k g gs cap n t u i h0 hi _ w0 w1 _ (fx_alloc HF.out _) (HN2.out (by assumption))).mono ?_)); rintro e w2 ⟨rfl, HF2⟩; replace HF2 := Aside0.mk HF2)
  all_goals first | exact ⟨rfl, HF2.out⟩ | (go_end0; exact ⟨rfl, HF2.out⟩) | ((try simp only [Exit.inBlock, Exit.then]); refine bodyPost_ret (results_none rfl _ _ _) rfl ?_; exact ⟨rfl, HF2.out⟩)
@[reducible] def greatestS (xs : List S59) (i m : Int) : S59 := ⟨(rd_T59 xs i).f0, (rd_T59 xs i).f1, (rd_T59 xs i).f2, mn (rd_T59 xs i).f3 m⟩
theorem greatest_calls (k : Nat) (g gs cap n : Nat) (t u : St) (i : Int) (h0 : 0 ≤ i) (hi : i < n) (m : Int) (w0 w1 w : World) (hF : Fx w0 w1 w g (.slice (some ⟨gs, 0, none⟩) n cap) t.xs t.fail t.moved) (hn : putL k i (greatestS t.xs i m) t = some u) :
    Calls Try.prog 73 #[.pointer (some ⟨g, 0, none⟩), .int .i64 i, .int .i64 m] w (FxEnd w0 w1 g (.slice (some ⟨gs, 0, none⟩) n cap) u.xs u.fail u.moved) := by
  have g0 : w.cell? ⟨g, 0, none⟩ = some (.slice (some ⟨gs, 0, none⟩) n cap) := (blk_cell hF.1.1 0).trans rfl
  have y0 := blk_frozen hF.1.1 0
  have hlt := blk_lt hF.1.1
  have hne : g ≠ w.heap.size := by omega
  have hgl : gs < w.heap.size := Kd.R_lt hF.1.2.2 gs (by simp [Value.ownBlock])
  have hn2 : gs ≠ w.heap.size := by omega
  have hn3 : w.heap.size ≠ gs := by omega
  have hn4 : w.heap.size ≠ g := by omega
  have p1 : decide (0 ≤ i) = true := decide_eq_true h0
  have p2 : decide (i < (n : Int)) = true := decide_eq_true hi
  obtain ⟨e0, e1, e2, e3, f0, f1, f2, f3⟩ := fx_elem hF i h0 hi
  have HF := Aside0.mk hF
  have HN1 : Aside0 (m < (rd_T59 t.xs i).f3 → putL k i ⟨(rd_T59 t.xs i).f0, (rd_T59 t.xs i).f1, (rd_T59 t.xs i).f2, m⟩ t = some u) := ⟨fun h => by
    rw [← hn]
    simp only [greatestS, mn, if_pos h]⟩
  have HN2 : Aside0 (¬ m < (rd_T59 t.xs i).f3 → putL k i ⟨(rd_T59 t.xs i).f0, (rd_T59 t.xs i).f1, (rd_T59 t.xs i).f2, (rd_T59 t.xs i).f3⟩ t = some u) := ⟨fun h => by
    rw [← hn]
    simp only [greatestS, mn, if_neg h]⟩
  clear hF hn
  go_enter Try.func73, Try.ntmps73
  go_wp2_with (go_at_call 37; (with_reducible first | (refine (put_calls k g gs cap n t u i h0 hi _ w0 w1 _ (fx_alloc HF.out _) (HN1.out (by assumption))).mono ?_) | (refine (put_calls k g gs cap n t u i h0 hi _ w0 w1 _ (fx_alloc HF.out _) (HN2.out (by assumption))).mono ?_)); rintro e w2 ⟨rfl, HF2⟩; replace HF2 := Aside0.mk HF2)
  all_goals first | exact ⟨rfl, HF2.out⟩ | (go_end0; exact ⟨rfl, HF2.out⟩) | ((try simp only [Exit.inBlock, Exit.then]); refine bodyPost_ret (results_none rfl _ _ _) rfl ?_; exact ⟨rfl, HF2.out⟩)
end Go.Proofs.Ytgfbgfbnmiainaa.Fam
/-! A region that draws its order, whose operations only read, but for the last one (a call, say), which waits for all others: one walk of the order of the text, then the last operation. -/
namespace Go.Proofs.Ytgfbgfbnmiainaa.QuietLast
set_option linter.unusedVariables false
set_option linter.unusedSimpArgs false
open Go
section
variable {P : Program} {ops : Array Oper} {md : Region.Mode} {C : World → Prop}
def closed (md : Region.Mode) (ops : Array Oper) (listed : Array Bool) : Prop :=
  ∀ k ok, ops[k]? = some ok → listed.getD k true = true → ∀ e ∈ ok.after, Region.binds md e = true → listed.getD e.on false = true
def coverB (md : Region.Mode) (ops : Array Oper) (c : Nat) : Bool :=
  (List.range ops.size).all fun i => i == c || (List.range ops.size).any fun k => match ops[k]? with
    | some ok => ok.after.any (fun e => Region.binds md e && e.on == i)
    | none => false
def endB (md : Region.Mode) (ops : Array Oper) (c : Nat) (listed : Array Bool) : Bool :=
  Region.ready md ops listed == [c] && (Region.ready md ops (listed.setIfInBounds c true)).isEmpty && (List.range ops.size).all fun j => j == c || listed.getD j true
def lexLB (md : Region.Mode) (ops : Array Oper) : Nat → Nat → Array Bool → Bool
  | 0, k, listed => endB md ops k listed
  | fuel + 1, k, listed => (Region.ready md ops listed).contains k && Region.free md ops listed k && lexLB md ops fuel (k + 1) (listed.setIfInBounds k true)
def wpAnyL (P : Program) (md : Region.Mode) (ops : Array Oper) (C : World → Prop) (c : Nat) (Q : Act → Prop) : Nat → Array Bool → Act → Prop
  | 0, listed, a => endB md ops c listed = true ∧ Q a
  | fuel + 1, listed, a => Region.ready md ops listed ≠ [] ∧ ∀ i ∈ Region.ready md ops listed, i ≠ c ∧ qOp P ops C i (wpAnyL P md ops C c Q fuel (listed.setIfInBounds i true)) a
theorem unlisted {listed : Array Bool} {i : Nat} (h0 : listed.getD i true = false) (h1 : listed.getD i false = true) : False := by
  rcases Nat.lt_or_ge i listed.size with h' | h'
  · simp [h'] at h0 h1
    rw [h0] at h1
    cases h1
  · simp [Array.getElem?_eq_none h'] at h1
theorem closed_set {listed : Array Bool} {j : Nat} (hc : closed md ops listed) (hj : j ∈ Region.ready md ops listed) : closed md ops (listed.setIfInBounds j true) := by
  intro k ok hk hl e he hb
  by_cases hjk : j = k
  · subst hjk
    obtain ⟨_, o, ho, hall⟩ := mem_ready.1 hj
    rw [ho] at hk
    cases hk
    exact getD_set_true (hall e he hb)
  · rw [getD_set_ne true hjk] at hl
    exact getD_set_true (hc k ok hk hl e he hb)
theorem wpAnyL_first {Q : Act → Prop} {c i : Nat} {oi : Oper} {v : Value} (hi : ops[i]? = some oi) (hic : i ≠ c) (hsel : ∀ (j : Nat) (o : Oper) cs b, ops[j]? = some o → o.op ≠ .select cs b) (hcov : coverB md ops c = true) :
    ∀ (fuel : Nat) (listed : Array Bool) (a : Act), closed md ops listed →
      (∀ j oj, ops[j]? = some oj → j ≠ i → listed.getD j true = false → (∀ e ∈ oj.after, Region.binds md e = true → e.on ≠ i) → oi.apart ops oj = true) →
      i ∈ Region.ready md ops listed → YieldsIn P ops C oi v a →
      wpAnyL P md ops C c Q fuel (listed.setIfInBounds i true) (a.put oi.dst v) → wpAnyL P md ops C c Q (fuel + 1) listed a := by
  intro fuel
  induction fuel with
  | zero =>
    intro listed a hcl _ hr hy H
    refine ⟨fun h => (by rw [h] at hr; cases hr), fun j hj => ?_⟩
    by_cases hji : j = i
    · subst hji; exact ⟨hic, hy.qOp hi H⟩
    · exfalso
      obtain ⟨hiun, oi', hoi', hiall⟩ := mem_ready.1 hr
      obtain ⟨hjun, oj, hoj, hall⟩ := mem_ready.1 hj
      have hE := H.1
      simp only [endB, Bool.and_eq_true, List.all_eq_true, List.mem_range, Bool.or_eq_true, beq_iff_eq] at hE
      obtain ⟨_, hE⟩ := hE
      have hlt : ∀ {k o}, ops[k]? = some o → k < ops.size := fun h => (Array.getElem?_eq_some_iff.1 h).1
      have hjc : j = c := by
        rcases hE j (hlt hoj) with h | h
        · exact h
        · rw [getD_set_ne true (Ne.symm hji), hjun] at h
          cases h
      subst hjc
      have hcv := hcov
      simp only [coverB, List.all_eq_true, List.mem_range, Bool.or_eq_true, beq_iff_eq] at hcv
      rcases hcv i (hlt hi) with h | h
      · exact hic h
      · obtain ⟨k, _, hk⟩ := List.any_eq_true.1 h
        cases hok : ops[k]? with
        | none => simp [hok] at hk
        | some ok =>
          simp only [hok] at hk
          obtain ⟨e, he, hbe⟩ := Array.any_eq_true'.1 hk
          simp only [Bool.and_eq_true, beq_iff_eq] at hbe
          obtain ⟨hb, hon⟩ := hbe
          by_cases hkj : k = j
          · subst hkj
            rw [hoj] at hok
            cases hok
            exact unlisted hiun (hon ▸ hall e he hb)
          · by_cases hki : k = i
            · subst hki
              rw [hoi'] at hok
              cases hok
              exact unlisted hiun (hon ▸ hiall e he hb)
            · rcases hE k (hlt hok) with h | h
              · exact hkj h
              · rw [getD_set_ne true (Ne.symm hki)] at h
                exact unlisted hiun (hon ▸ hcl k ok hok h e he hb)
  | succ fuel ih =>
    intro listed a hcl hfree hr hy H
    refine ⟨fun h => (by rw [h] at hr; cases hr), fun j hj => ?_⟩
    by_cases hji : j = i
    · subst hji; exact ⟨hic, hy.qOp hi H⟩
    · obtain ⟨hjc, h1⟩ := H.2 j (ready_mono hj hji)
      refine ⟨hjc, ?_⟩
      obtain ⟨hjun, oj, hoj, hall⟩ := mem_ready.1 hj
      have hnot : ∀ e ∈ oj.after, Region.binds md e = true → e.on ≠ i := fun e he hb heq => unlisted (mem_ready.1 hr).1 (heq ▸ hall e he hb)
      have h2 := qOp_put hoj (hfree j oj hoj hji hjun hnot) (fun cs b => hsel i oi cs b hi) (fun cs b => hsel j oj cs b hoj) hy h1
      have hfree' : ∀ k ok, ops[k]? = some ok → k ≠ i → (listed.setIfInBounds j true).getD k true = false →
          (∀ e ∈ ok.after, Region.binds md e = true → e.on ≠ i) → oi.apart ops ok = true := fun k ok hk hki hun hno => by
        refine hfree k ok hk hki ?_ hno
        by_cases hjk : j = k
        · subst hjk; exact hjun
        · rw [getD_set_ne true hjk] at hun; exact hun
      refine qOp_mono (fun a' h3 => ih (listed.setIfInBounds j true) a' (closed_set hcl hj) hfree' (ready_mono hr (Ne.symm hji)) h3.1 ?_) h2
      rw [Array.setIfInBounds_comm _ _ hji]
      exact h3.2
theorem wpAnyL_lex {Q : Act → Prop} {c : Nat} (hs : Region.noSelect ops = true) (hcov : coverB md ops c = true) : ∀ (l : List Oper) (k : Nat) (listed : Array Bool) (a : Act), k + l.length = c → (∀ j, j < l.length → l[j]? = ops[k + j]?) →
    closed md ops listed → lexLB md ops l.length k listed = true → wpQuiet P ops C Q l a → wpAnyL P md ops C c Q l.length listed a
  | [], k, _, _, hc, _, _, hB, h => by
    obtain rfl : k = c := by simpa using hc
    exact ⟨hB, h⟩
  | o :: l, k, listed, a, hc, hl, hcl, hB, h => by
    have h0 : ops[k]? = some o := by simpa using (hl 0 (by simp)).symm
    simp only [List.length_cons] at hc
    simp only [List.length_cons, lexLB, Bool.and_eq_true] at hB
    obtain ⟨⟨hr, hf⟩, hB'⟩ := hB
    have hst : qOp P ops C k (wpQuiet P ops C Q l) a := by unfold qOp; simp only [h0]; exact h
    obtain ⟨v, hy, hK⟩ := yieldsIn_of_qOp h0 hst
    exact wpAnyL_first h0 (by omega) (Region.noSelect_spec hs) hcov l.length listed a hcl (Region.free_spec h0 hf) (by simpa using hr) hy
      (wpAnyL_lex hs hcov l (k + 1) _ _ (by omega) (fun j hj => by have := hl (j + 1) (by simp; omega); simpa [Nat.add_assoc, Nat.add_comm 1 j] using this) (closed_set hcl (by simpa using hr)) hB' hK)
theorem wpAny_of_L {Q : Act → Prop} {c : Nat} {Q' : Exit → Act → World → Prop} (hQ : ∀ a w, C w → Q a → wpOp P ops Q' c (fun a w => Q' .normal a w) a w) : ∀ (fuel : Nat) (listed : Array Bool) (a : Act) (w : World), C w →
    wpAnyL P md ops C c Q fuel listed a → wpAny P md ops Q' (fuel + 1) listed a w
  | 0, listed, a, w, hw, h => by
    obtain ⟨hE, h⟩ := h
    simp only [endB, Bool.and_eq_true, beq_iff_eq, List.isEmpty_iff] at hE
    obtain ⟨⟨h1, h2⟩, _⟩ := hE
    refine ⟨fun h0 => (by rw [h1] at h0; cases h0), fun i hi => ?_⟩
    rw [h1, List.mem_singleton] at hi
    subst hi
    exact wpOp_mono (fun a w h => ⟨h2, h⟩) (hQ a w hw h)
  | fuel + 1, listed, a, w, hw, h => ⟨fun h0 => absurd h0 h.1, fun i hi => wpOp_of_qOp hw (fun a' w' hw' => wpAny_of_L hQ fuel _ a' w' hw') (h.2 i hi).2⟩
def initL : List Oper → List Oper
  | [] => []
  | [_] => []
  | o :: o' :: r => o :: initL (o' :: r)
def lastL : List Oper → List Oper
  | [] => []
  | [o] => [o]
  | _ :: o' :: r => lastL (o' :: r)
theorem init_last : ∀ (l : List Oper), initL l ++ lastL l = l
  | [] => rfl
  | [_] => rfl
  | o :: o' :: r => by simp only [initL, lastL, List.cons_append, init_last (o' :: r)]
theorem last_some : ∀ (l : List Oper), l ≠ [] → ∃ c, lastL l = [c]
  | [], h => absurd rfl h
  | [o], _ => ⟨o, rfl⟩
  | _ :: o' :: r, _ => by
    obtain ⟨c, h⟩ := last_some (o' :: r) (by simp)
    exact ⟨c, by simp only [lastL, h]⟩
def lastB (L : List Oper) : Bool := !L.isEmpty && Region.noSelect L.toArray && coverB .any L.toArray (initL L).length && lexLB .any L.toArray (initL L).length 0 (Array.replicate L.toArray.size false)
/-- One walk of the order of the text, then the last operation, in the world after some draws. -/
theorem wp_region_qlast {id : Nat} {Q : Exit → Act → World → Prop} {a : Act} {w : World} {L : List Oper} (hm : P.follows .mixedOrders = true) (hB : lastB L = true)
    (h : wpQuiet P L.toArray (fun w' => ∃ n, w' = w.drewN n) (fun a' => ∀ w', (∃ n, w' = w.drewN n) → wpList P L.toArray Q (lastL L) a' w') (initL L) a) : (Code.region id L.toArray true).wp P Q a w := by
  simp only [lastB, Bool.and_eq_true, Bool.not_eq_true', List.isEmpty_eq_false_iff] at hB
  obtain ⟨⟨⟨hne, hs⟩, hcov⟩, hlex⟩ := hB
  obtain ⟨c, hc⟩ := last_some L hne
  have hL : initL L ++ [c] = L := by rw [← hc]; exact init_last L
  have hsz : L.toArray.size = (initL L).length + 1 := by
    have := congrArg List.length hL
    simp only [List.length_append, List.length_singleton] at this
    simpa using this.symm
  have hget : L.toArray[(initL L).length]? = some c := by
    have : L[(initL L).length]? = some c := by
      have h5 : (initL L ++ [c])[(initL L).length]? = some c := List.getElem?_concat_length
      rw [hL] at h5
      exact h5
    simpa using this
  refine wp_region_any hm ?_
  have := wpAnyL_lex (P := P) (C := fun w' => ∃ n, w' = w.drewN n) (md := .any) (c := (initL L).length) hs hcov (initL L) 0 (Array.replicate L.toArray.size false) a (by simp) (fun j hj => by
      have h2 : L[j]? = (initL L)[j]? := by
        have h5 : (initL L ++ [c])[j]? = (initL L)[j]? := List.getElem?_append_left hj
        rw [hL] at h5
        exact h5
      simpa using h2.symm) (fun k ok hk hl => by
      have hlt := (Array.getElem?_eq_some_iff.1 hk).1
      exfalso
      have hlt' : k < L.length := by simpa using hlt
      simp [Array.getElem?_replicate, hlt'] at hl) hlex h
  have h3 := wpAny_of_L (Q' := Q) (fun a' w' hw' hq => (by
    have h4 := hq w' hw'
    rw [hc] at h4
    unfold wpOp
    simp only [hget]
    exact h4)) _ _ a { w with drawn := w.drawn + 1 } ⟨1, rfl⟩ this
  rw [← hsz] at h3
  exact h3
end
end Go.Proofs.Ytgfbgfbnmiainaa.QuietLast
/-! apply: what follows from a relation, once: a kind of relation each. -/
namespace Go.Proofs.Ytgfbgfbnmiainaa.Fam
set_option linter.unusedVariables false
set_option linter.unusedSimpArgs false
open Go.RowKit Go.Proofs.YtgfbgfbnmiainaaW.PrintWords Go.Proofs.YtgfbgfbnmiainaaW.PrintLast Go.Proofs.YtgfbgfbnmiainaaW.PrintMore Go.Proofs.Ytgfbgfbnmiainaa.Q
attribute [local go_sem] Go.Proofs.YtgfbgfbnmiainaaW.OwnWords.isSome_setCell max2_int min2_int
attribute [local go_sem high] eqA59
def partL (k : Nat) (a b : Int) (t : St) : Option St :=
  (putL k b (intoS t.xs b (rd_T59 t.xs a).f0) t).bind fun t =>
  (putL k a (onlyS t.xs a (rd_T59 t.xs b).f1) t).bind fun t =>
  (putL k a (greatestS t.xs a (rd_T59 t.xs b).f3) t).bind fun t =>
  (putL k b (leastS t.xs b (rd_T59 t.xs a).f2) t).bind fun t =>
  some t
set_option maxHeartbeats 8000000 in
set_option maxRecDepth 100000 in
theorem apply_part (k : Nat) (g gs cap n : Nat) (t u : St) (ab ao : Nat) (vc : Nat) (a b N : Int) (w0 w1 w : World) (la : 0 ≤ a) (ra : a < n) (lb : 0 ≤ b) (rb : b < n) (q0 : w.cell? ⟨ab, ao, none⟩ = some (.int .i64 a)) (q1 : w.cell? ⟨ab, ao + 1, none⟩ = some (.int .i64 b)) (hF : Fx w0 w1 w g (.slice (some ⟨gs, 0, none⟩) n cap) t.xs t.fail t.moved) (hn : partL k a b t = some u) :
    Calls Try.prog 38 #[.pointer (some ⟨g, 0, none⟩), .agg #[.string ⟨#[112, 97, 114, 116]⟩, .slice (some ⟨ab, ao, none⟩) 2 vc, .int .i64 N]] w (FxEnd w0 w1 g (.slice (some ⟨gs, 0, none⟩) n cap) u.xs u.fail u.moved) := by
  have HF := Aside0.mk hF
  have hlt := blk_lt hF.1.1
  have hne : g ≠ w.heap.size := by omega
  have hab : ab ≠ w.heap.size := by
    have := World.block_lt_of_cell? w _ q0
    exact Nat.ne_of_lt this
  have hab2 : ab < w.heap.size := World.block_lt_of_cell? w _ q0
  have hab1 : w.heap.size ≠ ab := fun e => hab e.symm
  have pa : decide (0 ≤ a) = true := decide_eq_true la
  have sa : decide (a < (n : Int)) = true := decide_eq_true ra
  have pb : decide (0 ≤ b) = true := decide_eq_true lb
  have sb : decide (b < (n : Int)) = true := decide_eq_true rb
  unfold partL at hn
  obtain ⟨t1, hn1, hn⟩ := Option.bind_eq_some_iff.mp hn
  have H1 := Aside0.mk hn1
  clear hn1
  obtain ⟨t2, hn2, hn⟩ := Option.bind_eq_some_iff.mp hn
  have H2 := Aside0.mk hn2
  clear hn2
  obtain ⟨t3, hn3, hn⟩ := Option.bind_eq_some_iff.mp hn
  have H3 := Aside0.mk hn3
  clear hn3
  obtain ⟨t4, hn4, hn⟩ := Option.bind_eq_some_iff.mp hn
  have H4 := Aside0.mk hn4
  clear hn4
  obtain rfl := Option.some.inj hn
  clear hn
  clear hF
  go_enter Try.func38, Try.ntmps38
  go_upto_region 10 with fail
  have HF1 := Aside0.mk (fx_alloc HF.out (.cells #[.string ⟨#[112, 97, 114, 116]⟩, .slice (some ⟨ab, ao, none⟩) 2 vc, .int .i64 N] 33))
  clear HF
  have HF := HF1
  clear HF1
  have g0 : World.cell? _ ⟨g, 0, none⟩ = some (.slice (some ⟨gs, 0, none⟩) n cap) := (blk_cell HF.out.1.1 0).trans rfl
  have y0 := blk_frozen HF.out.1.1 0
  have ae0 := (fx_elem HF.out a la ra).1
  clear q0 q1 hab hab1 hab2 hne hlt
  go_cut [] from 37 to 47 (fun wx => Fx w0 w1 wx g (.slice (some ⟨gs, 0, none⟩) n cap) t1.xs t1.fail t1.moved)
  case first =>
    go_wp2_with (go_at_call 71; (with_reducible refine (into_calls k g gs cap n t t1 b lb rb _ w0 w1 _ (by repeat (first | exact HF.out | refine fx_drewN ?_ _ | refine fx_drew ?_)) H1.out).mono ?_); rintro e w2 ⟨rfl, HF2⟩; replace HF2 := Aside0.mk HF2)
    all_goals ((try go_wp2_with fail); go_meet; exact HF2.out)
  case rest =>
  clear HF g0 y0 ae0
  have HF := Aside0.mk hcut
  clear hcut
  go_upto_region 11 with fail
  have g0 : World.cell? _ ⟨g, 0, none⟩ = some (.slice (some ⟨gs, 0, none⟩) n cap) := (blk_cell HF.out.1.1 0).trans rfl
  have y0 := blk_frozen HF.out.1.1 0
  have be1 := (fx_elem HF.out b lb rb).2.1
  go_cut [] from 48 to 58 (fun wx => Fx w0 w1 wx g (.slice (some ⟨gs, 0, none⟩) n cap) t2.xs t2.fail t2.moved)
  case first =>
    go_wp2_with (go_at_call 72; (with_reducible refine (only_calls k g gs cap n t1 t2 a la ra _ w0 w1 _ (by repeat (first | exact HF.out | refine fx_drewN ?_ _ | refine fx_drew ?_)) H2.out).mono ?_); rintro e w2 ⟨rfl, HF2⟩; replace HF2 := Aside0.mk HF2)
    all_goals ((try go_wp2_with fail); go_meet; exact HF2.out)
  case rest =>
  clear HF g0 y0 be1
  have HF := Aside0.mk hcut
  clear hcut
  go_upto_region 12 with fail
  have g0 : World.cell? _ ⟨g, 0, none⟩ = some (.slice (some ⟨gs, 0, none⟩) n cap) := (blk_cell HF.out.1.1 0).trans rfl
  have y0 := blk_frozen HF.out.1.1 0
  have be3 := (fx_elem HF.out b lb rb).2.2.2.1
  go_cut [] from 59 to 69 (fun wx => Fx w0 w1 wx g (.slice (some ⟨gs, 0, none⟩) n cap) t3.xs t3.fail t3.moved)
  case first =>
    go_wp2_with (go_at_call 73; (with_reducible refine (greatest_calls k g gs cap n t2 t3 a la ra _ w0 w1 _ (by repeat (first | exact HF.out | refine fx_drewN ?_ _ | refine fx_drew ?_)) H3.out).mono ?_); rintro e w2 ⟨rfl, HF2⟩; replace HF2 := Aside0.mk HF2)
    all_goals ((try go_wp2_with fail); go_meet; exact HF2.out)
  case rest =>
  clear HF g0 y0 be3
  have HF := Aside0.mk hcut
  clear hcut
  go_upto_region 13 with fail
  have g0 : World.cell? _ ⟨g, 0, none⟩ = some (.slice (some ⟨gs, 0, none⟩) n cap) := (blk_cell HF.out.1.1 0).trans rfl
  have y0 := blk_frozen HF.out.1.1 0
  have ae2 := (fx_elem HF.out a la ra).2.2.1
  go_wp2_with (go_at_call 74; (with_reducible refine (least_calls k g gs cap n t3 t4 b lb rb _ w0 w1 _ (by repeat (first | exact HF.out | refine fx_drewN ?_ _ | refine fx_drew ?_)) H4.out).mono ?_); rintro e w2 ⟨rfl, HF2⟩; replace HF2 := Aside0.mk HF2)
  all_goals (try go_wp2_with fail)
  all_goals first | exact ⟨rfl, HF2.out⟩ | (go_end0; exact ⟨rfl, HF2.out⟩) | ((try simp only [Exit.inBlock, Exit.then]); refine bodyPost_ret (results_none rfl _ _ _) rfl ?_; exact ⟨rfl, HF2.out⟩)
def apartL (k : Nat) (a b : Int) (t : St) : Option St :=
  (putL k b (onlyS t.xs b (Go.bits .xor .u64 (IntKind.max .u64) (rd_T59 t.xs a).f0)) t).bind fun t =>
  (putL k a (onlyS t.xs a (Go.bits .xor .u64 (IntKind.max .u64) (rd_T59 t.xs b).f0)) t).bind fun t =>
  some t
set_option maxHeartbeats 8000000 in
set_option maxRecDepth 100000 in
theorem apply_apart (k : Nat) (g gs cap n : Nat) (t u : St) (ab ao : Nat) (vc : Nat) (a b N : Int) (w0 w1 w : World) (la : 0 ≤ a) (ra : a < n) (lb : 0 ≤ b) (rb : b < n) (q0 : w.cell? ⟨ab, ao, none⟩ = some (.int .i64 a)) (q1 : w.cell? ⟨ab, ao + 1, none⟩ = some (.int .i64 b)) (hF : Fx w0 w1 w g (.slice (some ⟨gs, 0, none⟩) n cap) t.xs t.fail t.moved) (hn : apartL k a b t = some u) :
    Calls Try.prog 38 #[.pointer (some ⟨g, 0, none⟩), .agg #[.string ⟨#[97, 112, 97, 114, 116]⟩, .slice (some ⟨ab, ao, none⟩) 2 vc, .int .i64 N]] w (FxEnd w0 w1 g (.slice (some ⟨gs, 0, none⟩) n cap) u.xs u.fail u.moved) := by
  have HF := Aside0.mk hF
  have hlt := blk_lt hF.1.1
  have hne : g ≠ w.heap.size := by omega
  have hab : ab ≠ w.heap.size := by
    have := World.block_lt_of_cell? w _ q0
    exact Nat.ne_of_lt this
  have hab2 : ab < w.heap.size := World.block_lt_of_cell? w _ q0
  have hab1 : w.heap.size ≠ ab := fun e => hab e.symm
  have pa : decide (0 ≤ a) = true := decide_eq_true la
  have sa : decide (a < (n : Int)) = true := decide_eq_true ra
  have pb : decide (0 ≤ b) = true := decide_eq_true lb
  have sb : decide (b < (n : Int)) = true := decide_eq_true rb
  unfold apartL at hn
  obtain ⟨t1, hn1, hn⟩ := Option.bind_eq_some_iff.mp hn
  have H1 := Aside0.mk hn1
  clear hn1
  obtain ⟨t2, hn2, hn⟩ := Option.bind_eq_some_iff.mp hn
  have H2 := Aside0.mk hn2
  clear hn2
  obtain rfl := Option.some.inj hn
  clear hn
  clear hF
  go_enter Try.func38, Try.ntmps38
  go_upto_region 15 with fail
  have HF1 := Aside0.mk (fx_alloc HF.out (.cells #[.string ⟨#[97, 112, 97, 114, 116]⟩, .slice (some ⟨ab, ao, none⟩) 2 vc, .int .i64 N] 33))
  clear HF
  have HF := HF1
  clear HF1
  have g0 : World.cell? _ ⟨g, 0, none⟩ = some (.slice (some ⟨gs, 0, none⟩) n cap) := (blk_cell HF.out.1.1 0).trans rfl
  have y0 := blk_frozen HF.out.1.1 0
  have ae0 := (fx_elem HF.out a la ra).1
  clear q0 q1 hab hab1 hab2 hne hlt
  go_cut [] from 83 to 94 (fun wx => Fx w0 w1 wx g (.slice (some ⟨gs, 0, none⟩) n cap) t1.xs t1.fail t1.moved)
  case first =>
    go_wp2_with (go_at_call 72; (with_reducible refine (only_calls k g gs cap n t t1 b lb rb _ w0 w1 _ (by repeat (first | exact HF.out | refine fx_drewN ?_ _ | refine fx_drew ?_)) H1.out).mono ?_); rintro e w2 ⟨rfl, HF2⟩; replace HF2 := Aside0.mk HF2)
    all_goals ((try go_wp2_with fail); go_meet; exact HF2.out)
  case rest =>
  clear HF g0 y0 ae0
  have HF := Aside0.mk hcut
  clear hcut
  go_upto_region 16 with fail
  have g0 : World.cell? _ ⟨g, 0, none⟩ = some (.slice (some ⟨gs, 0, none⟩) n cap) := (blk_cell HF.out.1.1 0).trans rfl
  have y0 := blk_frozen HF.out.1.1 0
  have be0 := (fx_elem HF.out b lb rb).1
  go_wp2_with (go_at_call 72; (with_reducible refine (only_calls k g gs cap n t1 t2 a la ra _ w0 w1 _ (by repeat (first | exact HF.out | refine fx_drewN ?_ _ | refine fx_drew ?_)) H2.out).mono ?_); rintro e w2 ⟨rfl, HF2⟩; replace HF2 := Aside0.mk HF2)
  all_goals (try go_wp2_with fail)
  all_goals first | exact ⟨rfl, HF2.out⟩ | (go_end0; exact ⟨rfl, HF2.out⟩) | ((try simp only [Exit.inBlock, Exit.then]); refine bodyPost_ret (results_none rfl _ _ _) rfl ?_; exact ⟨rfl, HF2.out⟩)
def unionL (k : Nat) (a b c : Int) (t : St) : Option St :=
  (putL k c (intoS t.xs c (Go.bits .or .u64 (rd_T59 t.xs a).f0 (rd_T59 t.xs b).f0)) t).bind fun t =>
  (putL k a (onlyS t.xs a (rd_T59 t.xs c).f1) t).bind fun t =>
  (putL k b (onlyS t.xs b (rd_T59 t.xs c).f1) t).bind fun t =>
  (putL k c (onlyS t.xs c (Go.bits .or .u64 (rd_T59 t.xs a).f1 (rd_T59 t.xs b).f1)) t).bind fun t =>
  (putL k b (intoS t.xs b (Go.bits .andNot .u64 (rd_T59 t.xs c).f0 (rd_T59 t.xs a).f1)) t).bind fun t =>
  (putL k a (intoS t.xs a (Go.bits .andNot .u64 (rd_T59 t.xs c).f0 (rd_T59 t.xs b).f1)) t).bind fun t =>
  (putL k c (greatestS t.xs c (wrap64 ((rd_T59 t.xs a).f3 + (rd_T59 t.xs b).f3))) t).bind fun t =>
  (putL k c (leastS t.xs c (if (rd_T59 t.xs a).f2 < (rd_T59 t.xs b).f2 then (rd_T59 t.xs b).f2 else (rd_T59 t.xs a).f2)) t).bind fun t =>
  some t
set_option maxHeartbeats 8000000 in
set_option maxRecDepth 100000 in
theorem apply_union (k : Nat) (g gs cap n : Nat) (t u : St) (ab ao : Nat) (vc : Nat) (a b c N : Int) (w0 w1 w : World) (la : 0 ≤ a) (ra : a < n) (lb : 0 ≤ b) (rb : b < n) (lc : 0 ≤ c) (rc : c < n) (q0 : w.cell? ⟨ab, ao, none⟩ = some (.int .i64 a)) (q1 : w.cell? ⟨ab, ao + 1, none⟩ = some (.int .i64 b)) (q2 : w.cell? ⟨ab, ao + 2, none⟩ = some (.int .i64 c)) (hF : Fx w0 w1 w g (.slice (some ⟨gs, 0, none⟩) n cap) t.xs t.fail t.moved) (hn : unionL k a b c t = some u) :
    Calls Try.prog 38 #[.pointer (some ⟨g, 0, none⟩), .agg #[.string ⟨#[117, 110, 105, 111, 110]⟩, .slice (some ⟨ab, ao, none⟩) 3 vc, .int .i64 N]] w (FxEnd w0 w1 g (.slice (some ⟨gs, 0, none⟩) n cap) u.xs u.fail u.moved) := by
  have HF := Aside0.mk hF
  have hlt := blk_lt hF.1.1
  have hne : g ≠ w.heap.size := by omega
  have hab : ab ≠ w.heap.size := by
    have := World.block_lt_of_cell? w _ q0
    exact Nat.ne_of_lt this
  have hab2 : ab < w.heap.size := World.block_lt_of_cell? w _ q0
  have hab1 : w.heap.size ≠ ab := fun e => hab e.symm
  have pa : decide (0 ≤ a) = true := decide_eq_true la
  have sa : decide (a < (n : Int)) = true := decide_eq_true ra
  have pb : decide (0 ≤ b) = true := decide_eq_true lb
  have sb : decide (b < (n : Int)) = true := decide_eq_true rb
  have pc : decide (0 ≤ c) = true := decide_eq_true lc
  have sc : decide (c < (n : Int)) = true := decide_eq_true rc
  unfold unionL at hn
  obtain ⟨t1, hn1, hn⟩ := Option.bind_eq_some_iff.mp hn
  have H1 := Aside0.mk hn1
  clear hn1
  obtain ⟨t2, hn2, hn⟩ := Option.bind_eq_some_iff.mp hn
  have H2 := Aside0.mk hn2
  clear hn2
  obtain ⟨t3, hn3, hn⟩ := Option.bind_eq_some_iff.mp hn
  have H3 := Aside0.mk hn3
  clear hn3
  obtain ⟨t4, hn4, hn⟩ := Option.bind_eq_some_iff.mp hn
  have H4 := Aside0.mk hn4
  clear hn4
  obtain ⟨t5, hn5, hn⟩ := Option.bind_eq_some_iff.mp hn
  have H5 := Aside0.mk hn5
  clear hn5
  obtain ⟨t6, hn6, hn⟩ := Option.bind_eq_some_iff.mp hn
  have H6 := Aside0.mk hn6
  clear hn6
  obtain ⟨t7, hn7, hn⟩ := Option.bind_eq_some_iff.mp hn
  have H7 := Aside0.mk hn7
  clear hn7
  obtain ⟨t8, hn8, hn⟩ := Option.bind_eq_some_iff.mp hn
  have H8 := Aside0.mk hn8
  clear hn8
  obtain rfl := Option.some.inj hn
  clear hn
  clear hF
  go_enter Try.func38, Try.ntmps38
  go_upto_region 18 with fail
  have HF1 := Aside0.mk (fx_alloc HF.out (.cells #[.string ⟨#[117, 110, 105, 111, 110]⟩, .slice (some ⟨ab, ao, none⟩) 3 vc, .int .i64 N] 33))
  clear HF
  have HF := HF1
  clear HF1
  have g0 : World.cell? _ ⟨g, 0, none⟩ = some (.slice (some ⟨gs, 0, none⟩) n cap) := (blk_cell HF.out.1.1 0).trans rfl
  have y0 := blk_frozen HF.out.1.1 0
  have ae0 := (fx_elem HF.out a la ra).1
  have be0 := (fx_elem HF.out b lb rb).1
  clear q0 q1 q2 hab hab1 hab2 hne hlt
  go_cut [] from 109 to 128 (fun wx => Fx w0 w1 wx g (.slice (some ⟨gs, 0, none⟩) n cap) t1.xs t1.fail t1.moved)
  case first =>
    refine QuietLast.wp_region_qlast (by kernel_rfl) (by kernel_rfl) ?_
    dsimp only [QuietLast.initL, QuietLast.lastL]
    repeat (go_big_quiet_step (fail))
    refine wpQuiet_nil ?_
    intro _ hw'
    obtain ⟨nq, hw''⟩ := hw'
    subst hw''
    go_wp2_with (go_at_call 71; (with_reducible refine (into_calls k g gs cap n t t1 c lc rc _ w0 w1 _ (by repeat (first | exact HF.out | refine fx_drewN ?_ _ | refine fx_drew ?_)) H1.out).mono ?_); rintro e w2 ⟨rfl, HF2⟩; replace HF2 := Aside0.mk HF2)
    all_goals ((try go_wp2_with fail); go_meet; exact HF2.out)
  case rest =>
  clear HF g0 y0 ae0 be0
  have HF := Aside0.mk hcut
  clear hcut
  go_upto_region 19 with fail
  have g0 : World.cell? _ ⟨g, 0, none⟩ = some (.slice (some ⟨gs, 0, none⟩) n cap) := (blk_cell HF.out.1.1 0).trans rfl
  have y0 := blk_frozen HF.out.1.1 0
  have ce1 := (fx_elem HF.out c lc rc).2.1
  go_cut [] from 129 to 139 (fun wx => Fx w0 w1 wx g (.slice (some ⟨gs, 0, none⟩) n cap) t2.xs t2.fail t2.moved)
  case first =>
    go_wp2_with (go_at_call 72; (with_reducible refine (only_calls k g gs cap n t1 t2 a la ra _ w0 w1 _ (by repeat (first | exact HF.out | refine fx_drewN ?_ _ | refine fx_drew ?_)) H2.out).mono ?_); rintro e w2 ⟨rfl, HF2⟩; replace HF2 := Aside0.mk HF2)
    all_goals ((try go_wp2_with fail); go_meet; exact HF2.out)
  case rest =>
  clear HF g0 y0 ce1
  have HF := Aside0.mk hcut
  clear hcut
  go_upto_region 20 with fail
  have g0 : World.cell? _ ⟨g, 0, none⟩ = some (.slice (some ⟨gs, 0, none⟩) n cap) := (blk_cell HF.out.1.1 0).trans rfl
  have y0 := blk_frozen HF.out.1.1 0
  have ce1 := (fx_elem HF.out c lc rc).2.1
  go_cut [] from 140 to 150 (fun wx => Fx w0 w1 wx g (.slice (some ⟨gs, 0, none⟩) n cap) t3.xs t3.fail t3.moved)
  case first =>
    go_wp2_with (go_at_call 72; (with_reducible refine (only_calls k g gs cap n t2 t3 b lb rb _ w0 w1 _ (by repeat (first | exact HF.out | refine fx_drewN ?_ _ | refine fx_drew ?_)) H3.out).mono ?_); rintro e w2 ⟨rfl, HF2⟩; replace HF2 := Aside0.mk HF2)
    all_goals ((try go_wp2_with fail); go_meet; exact HF2.out)
  case rest =>
  clear HF g0 y0 ce1
  have HF := Aside0.mk hcut
  clear hcut
  go_upto_region 21 with fail
  have g0 : World.cell? _ ⟨g, 0, none⟩ = some (.slice (some ⟨gs, 0, none⟩) n cap) := (blk_cell HF.out.1.1 0).trans rfl
  have y0 := blk_frozen HF.out.1.1 0
  have ae1 := (fx_elem HF.out a la ra).2.1
  have be1 := (fx_elem HF.out b lb rb).2.1
  go_cut [] from 151 to 170 (fun wx => Fx w0 w1 wx g (.slice (some ⟨gs, 0, none⟩) n cap) t4.xs t4.fail t4.moved)
  case first =>
    refine QuietLast.wp_region_qlast (by kernel_rfl) (by kernel_rfl) ?_
    dsimp only [QuietLast.initL, QuietLast.lastL]
    repeat (go_big_quiet_step (fail))
    refine wpQuiet_nil ?_
    intro _ hw'
    obtain ⟨nq, hw''⟩ := hw'
    subst hw''
    go_wp2_with (go_at_call 72; (with_reducible refine (only_calls k g gs cap n t3 t4 c lc rc _ w0 w1 _ (by repeat (first | exact HF.out | refine fx_drewN ?_ _ | refine fx_drew ?_)) H4.out).mono ?_); rintro e w2 ⟨rfl, HF2⟩; replace HF2 := Aside0.mk HF2)
    all_goals ((try go_wp2_with fail); go_meet; exact HF2.out)
  case rest =>
  clear HF g0 y0 ae1 be1
  have HF := Aside0.mk hcut
  clear hcut
  go_upto_region 22 with fail
  have g0 : World.cell? _ ⟨g, 0, none⟩ = some (.slice (some ⟨gs, 0, none⟩) n cap) := (blk_cell HF.out.1.1 0).trans rfl
  have y0 := blk_frozen HF.out.1.1 0
  have ae1 := (fx_elem HF.out a la ra).2.1
  have ce0 := (fx_elem HF.out c lc rc).1
  go_cut [] from 171 to 190 (fun wx => Fx w0 w1 wx g (.slice (some ⟨gs, 0, none⟩) n cap) t5.xs t5.fail t5.moved)
  case first =>
    refine QuietLast.wp_region_qlast (by kernel_rfl) (by kernel_rfl) ?_
    dsimp only [QuietLast.initL, QuietLast.lastL]
    repeat (go_big_quiet_step (fail))
    refine wpQuiet_nil ?_
    intro _ hw'
    obtain ⟨nq, hw''⟩ := hw'
    subst hw''
    go_wp2_with (go_at_call 71; (with_reducible refine (into_calls k g gs cap n t4 t5 b lb rb _ w0 w1 _ (by repeat (first | exact HF.out | refine fx_drewN ?_ _ | refine fx_drew ?_)) H5.out).mono ?_); rintro e w2 ⟨rfl, HF2⟩; replace HF2 := Aside0.mk HF2)
    all_goals ((try go_wp2_with fail); go_meet; exact HF2.out)
  case rest =>
  clear HF g0 y0 ae1 ce0
  have HF := Aside0.mk hcut
  clear hcut
  go_upto_region 23 with fail
  have g0 : World.cell? _ ⟨g, 0, none⟩ = some (.slice (some ⟨gs, 0, none⟩) n cap) := (blk_cell HF.out.1.1 0).trans rfl
  have y0 := blk_frozen HF.out.1.1 0
  have be1 := (fx_elem HF.out b lb rb).2.1
  have ce0 := (fx_elem HF.out c lc rc).1
  go_cut [] from 191 to 210 (fun wx => Fx w0 w1 wx g (.slice (some ⟨gs, 0, none⟩) n cap) t6.xs t6.fail t6.moved)
  case first =>
    refine QuietLast.wp_region_qlast (by kernel_rfl) (by kernel_rfl) ?_
    dsimp only [QuietLast.initL, QuietLast.lastL]
    repeat (go_big_quiet_step (fail))
    refine wpQuiet_nil ?_
    intro _ hw'
    obtain ⟨nq, hw''⟩ := hw'
    subst hw''
    go_wp2_with (go_at_call 71; (with_reducible refine (into_calls k g gs cap n t5 t6 a la ra _ w0 w1 _ (by repeat (first | exact HF.out | refine fx_drewN ?_ _ | refine fx_drew ?_)) H6.out).mono ?_); rintro e w2 ⟨rfl, HF2⟩; replace HF2 := Aside0.mk HF2)
    all_goals ((try go_wp2_with fail); go_meet; exact HF2.out)
  case rest =>
  clear HF g0 y0 be1 ce0
  have HF := Aside0.mk hcut
  clear hcut
  go_upto_region 24 with fail
  have g0 : World.cell? _ ⟨g, 0, none⟩ = some (.slice (some ⟨gs, 0, none⟩) n cap) := (blk_cell HF.out.1.1 0).trans rfl
  have y0 := blk_frozen HF.out.1.1 0
  have ae3 := (fx_elem HF.out a la ra).2.2.2.1
  have be3 := (fx_elem HF.out b lb rb).2.2.2.1
  go_cut [] from 211 to 230 (fun wx => Fx w0 w1 wx g (.slice (some ⟨gs, 0, none⟩) n cap) t7.xs t7.fail t7.moved)
  case first =>
    refine QuietLast.wp_region_qlast (by kernel_rfl) (by kernel_rfl) ?_
    dsimp only [QuietLast.initL, QuietLast.lastL]
    repeat (go_big_quiet_step (fail))
    refine wpQuiet_nil ?_
    intro _ hw'
    obtain ⟨nq, hw''⟩ := hw'
    subst hw''
    go_wp2_with (go_at_call 73; (with_reducible refine (greatest_calls k g gs cap n t6 t7 c lc rc _ w0 w1 _ (by repeat (first | exact HF.out | refine fx_drewN ?_ _ | refine fx_drew ?_)) H7.out).mono ?_); rintro e w2 ⟨rfl, HF2⟩; replace HF2 := Aside0.mk HF2)
    all_goals ((try go_wp2_with fail); go_meet; exact HF2.out)
  case rest =>
  clear HF g0 y0 ae3 be3
  have HF := Aside0.mk hcut
  clear hcut
  go_upto_region 25 with fail
  have g0 : World.cell? _ ⟨g, 0, none⟩ = some (.slice (some ⟨gs, 0, none⟩) n cap) := (blk_cell HF.out.1.1 0).trans rfl
  have y0 := blk_frozen HF.out.1.1 0
  have ae2 := (fx_elem HF.out a la ra).2.2.1
  have be2 := (fx_elem HF.out b lb rb).2.2.1
  refine QuietLast.wp_region_qlast (by kernel_rfl) (by kernel_rfl) ?_
  dsimp only [QuietLast.initL, QuietLast.lastL]
  repeat (go_big_quiet_step (fail))
  refine wpQuiet_nil ?_
  intro _ hw'
  obtain ⟨nq, hw''⟩ := hw'
  subst hw''
  go_wp2_with (go_at_call 74; (with_reducible refine (least_calls k g gs cap n t7 t8 c lc rc _ w0 w1 _ (by repeat (first | exact HF.out | refine fx_drewN ?_ _ | refine fx_drew ?_)) H8.out).mono ?_); rintro e w2 ⟨rfl, HF2⟩; replace HF2 := Aside0.mk HF2)
  all_goals (try go_wp2_with fail)
  all_goals first | exact ⟨rfl, HF2.out⟩ | (go_end0; exact ⟨rfl, HF2.out⟩) | ((try simp only [Exit.inBlock, Exit.then]); refine bodyPost_ret (results_none rfl _ _ _) rfl ?_; exact ⟨rfl, HF2.out⟩)
def meetL (k : Nat) (a b c : Int) (t : St) : Option St :=
  (putL k c (intoS t.xs c (Go.bits .and .u64 (rd_T59 t.xs a).f0 (rd_T59 t.xs b).f0)) t).bind fun t =>
  (putL k a (intoS t.xs a (rd_T59 t.xs c).f0) t).bind fun t =>
  (putL k b (intoS t.xs b (rd_T59 t.xs c).f0) t).bind fun t =>
  (putL k c (onlyS t.xs c (Go.bits .and .u64 (rd_T59 t.xs a).f1 (rd_T59 t.xs b).f1)) t).bind fun t =>
  (putL k b (onlyS t.xs b (Go.bits .xor .u64 (IntKind.max .u64) (Go.bits .andNot .u64 (rd_T59 t.xs a).f0 (rd_T59 t.xs c).f1))) t).bind fun t =>
  (putL k a (onlyS t.xs a (Go.bits .xor .u64 (IntKind.max .u64) (Go.bits .andNot .u64 (rd_T59 t.xs b).f0 (rd_T59 t.xs c).f1))) t).bind fun t =>
  (putL k c (greatestS t.xs c (if (rd_T59 t.xs b).f3 < (rd_T59 t.xs a).f3 then (rd_T59 t.xs b).f3 else (rd_T59 t.xs a).f3)) t).bind fun t =>
  some t
set_option maxHeartbeats 8000000 in
set_option maxRecDepth 100000 in
theorem apply_meet (k : Nat) (g gs cap n : Nat) (t u : St) (ab ao : Nat) (vc : Nat) (a b c N : Int) (w0 w1 w : World) (la : 0 ≤ a) (ra : a < n) (lb : 0 ≤ b) (rb : b < n) (lc : 0 ≤ c) (rc : c < n) (q0 : w.cell? ⟨ab, ao, none⟩ = some (.int .i64 a)) (q1 : w.cell? ⟨ab, ao + 1, none⟩ = some (.int .i64 b)) (q2 : w.cell? ⟨ab, ao + 2, none⟩ = some (.int .i64 c)) (hF : Fx w0 w1 w g (.slice (some ⟨gs, 0, none⟩) n cap) t.xs t.fail t.moved) (hn : meetL k a b c t = some u) :
    Calls Try.prog 38 #[.pointer (some ⟨g, 0, none⟩), .agg #[.string ⟨#[109, 101, 101, 116]⟩, .slice (some ⟨ab, ao, none⟩) 3 vc, .int .i64 N]] w (FxEnd w0 w1 g (.slice (some ⟨gs, 0, none⟩) n cap) u.xs u.fail u.moved) := by
  have HF := Aside0.mk hF
  have hlt := blk_lt hF.1.1
  have hne : g ≠ w.heap.size := by omega
  have hab : ab ≠ w.heap.size := by
    have := World.block_lt_of_cell? w _ q0
    exact Nat.ne_of_lt this
  have hab2 : ab < w.heap.size := World.block_lt_of_cell? w _ q0
  have hab1 : w.heap.size ≠ ab := fun e => hab e.symm
  have pa : decide (0 ≤ a) = true := decide_eq_true la
  have sa : decide (a < (n : Int)) = true := decide_eq_true ra
  have pb : decide (0 ≤ b) = true := decide_eq_true lb
  have sb : decide (b < (n : Int)) = true := decide_eq_true rb
  have pc : decide (0 ≤ c) = true := decide_eq_true lc
  have sc : decide (c < (n : Int)) = true := decide_eq_true rc
  unfold meetL at hn
  obtain ⟨t1, hn1, hn⟩ := Option.bind_eq_some_iff.mp hn
  have H1 := Aside0.mk hn1
  clear hn1
  obtain ⟨t2, hn2, hn⟩ := Option.bind_eq_some_iff.mp hn
  have H2 := Aside0.mk hn2
  clear hn2
  obtain ⟨t3, hn3, hn⟩ := Option.bind_eq_some_iff.mp hn
  have H3 := Aside0.mk hn3
  clear hn3
  obtain ⟨t4, hn4, hn⟩ := Option.bind_eq_some_iff.mp hn
  have H4 := Aside0.mk hn4
  clear hn4
  obtain ⟨t5, hn5, hn⟩ := Option.bind_eq_some_iff.mp hn
  have H5 := Aside0.mk hn5
  clear hn5
  obtain ⟨t6, hn6, hn⟩ := Option.bind_eq_some_iff.mp hn
  have H6 := Aside0.mk hn6
  clear hn6
  obtain ⟨t7, hn7, hn⟩ := Option.bind_eq_some_iff.mp hn
  have H7 := Aside0.mk hn7
  clear hn7
  obtain rfl := Option.some.inj hn
  clear hn
  clear hF
  go_enter Try.func38, Try.ntmps38
  go_upto_region 27 with fail
  have HF1 := Aside0.mk (fx_alloc HF.out (.cells #[.string ⟨#[109, 101, 101, 116]⟩, .slice (some ⟨ab, ao, none⟩) 3 vc, .int .i64 N] 33))
  clear HF
  have HF := HF1
  clear HF1
  have g0 : World.cell? _ ⟨g, 0, none⟩ = some (.slice (some ⟨gs, 0, none⟩) n cap) := (blk_cell HF.out.1.1 0).trans rfl
  have y0 := blk_frozen HF.out.1.1 0
  have ae0 := (fx_elem HF.out a la ra).1
  have be0 := (fx_elem HF.out b lb rb).1
  clear q0 q1 q2 hab hab1 hab2 hne hlt
  go_cut [] from 253 to 272 (fun wx => Fx w0 w1 wx g (.slice (some ⟨gs, 0, none⟩) n cap) t1.xs t1.fail t1.moved)
  case first =>
    refine QuietLast.wp_region_qlast (by kernel_rfl) (by kernel_rfl) ?_
    dsimp only [QuietLast.initL, QuietLast.lastL]
    repeat (go_big_quiet_step (fail))
    refine wpQuiet_nil ?_
    intro _ hw'
    obtain ⟨nq, hw''⟩ := hw'
    subst hw''
    go_wp2_with (go_at_call 71; (with_reducible refine (into_calls k g gs cap n t t1 c lc rc _ w0 w1 _ (by repeat (first | exact HF.out | refine fx_drewN ?_ _ | refine fx_drew ?_)) H1.out).mono ?_); rintro e w2 ⟨rfl, HF2⟩; replace HF2 := Aside0.mk HF2)
    all_goals ((try go_wp2_with fail); go_meet; exact HF2.out)
  case rest =>
  clear HF g0 y0 ae0 be0
  have HF := Aside0.mk hcut
  clear hcut
  go_upto_region 28 with fail
  have g0 : World.cell? _ ⟨g, 0, none⟩ = some (.slice (some ⟨gs, 0, none⟩) n cap) := (blk_cell HF.out.1.1 0).trans rfl
  have y0 := blk_frozen HF.out.1.1 0
  have ce0 := (fx_elem HF.out c lc rc).1
  go_cut [] from 273 to 283 (fun wx => Fx w0 w1 wx g (.slice (some ⟨gs, 0, none⟩) n cap) t2.xs t2.fail t2.moved)
  case first =>
    go_wp2_with (go_at_call 71; (with_reducible refine (into_calls k g gs cap n t1 t2 a la ra _ w0 w1 _ (by repeat (first | exact HF.out | refine fx_drewN ?_ _ | refine fx_drew ?_)) H2.out).mono ?_); rintro e w2 ⟨rfl, HF2⟩; replace HF2 := Aside0.mk HF2)
    all_goals ((try go_wp2_with fail); go_meet; exact HF2.out)
  case rest =>
  clear HF g0 y0 ce0
  have HF := Aside0.mk hcut
  clear hcut
  go_upto_region 29 with fail
  have g0 : World.cell? _ ⟨g, 0, none⟩ = some (.slice (some ⟨gs, 0, none⟩) n cap) := (blk_cell HF.out.1.1 0).trans rfl
  have y0 := blk_frozen HF.out.1.1 0
  have ce0 := (fx_elem HF.out c lc rc).1
  go_cut [] from 284 to 294 (fun wx => Fx w0 w1 wx g (.slice (some ⟨gs, 0, none⟩) n cap) t3.xs t3.fail t3.moved)
  case first =>
    go_wp2_with (go_at_call 71; (with_reducible refine (into_calls k g gs cap n t2 t3 b lb rb _ w0 w1 _ (by repeat (first | exact HF.out | refine fx_drewN ?_ _ | refine fx_drew ?_)) H3.out).mono ?_); rintro e w2 ⟨rfl, HF2⟩; replace HF2 := Aside0.mk HF2)
    all_goals ((try go_wp2_with fail); go_meet; exact HF2.out)
  case rest =>
  clear HF g0 y0 ce0
  have HF := Aside0.mk hcut
  clear hcut
  go_upto_region 30 with fail
  have g0 : World.cell? _ ⟨g, 0, none⟩ = some (.slice (some ⟨gs, 0, none⟩) n cap) := (blk_cell HF.out.1.1 0).trans rfl
  have y0 := blk_frozen HF.out.1.1 0
  have ae1 := (fx_elem HF.out a la ra).2.1
  have be1 := (fx_elem HF.out b lb rb).2.1
  go_cut [] from 295 to 314 (fun wx => Fx w0 w1 wx g (.slice (some ⟨gs, 0, none⟩) n cap) t4.xs t4.fail t4.moved)
  case first =>
    refine QuietLast.wp_region_qlast (by kernel_rfl) (by kernel_rfl) ?_
    dsimp only [QuietLast.initL, QuietLast.lastL]
    repeat (go_big_quiet_step (fail))
    refine wpQuiet_nil ?_
    intro _ hw'
    obtain ⟨nq, hw''⟩ := hw'
    subst hw''
    go_wp2_with (go_at_call 72; (with_reducible refine (only_calls k g gs cap n t3 t4 c lc rc _ w0 w1 _ (by repeat (first | exact HF.out | refine fx_drewN ?_ _ | refine fx_drew ?_)) H4.out).mono ?_); rintro e w2 ⟨rfl, HF2⟩; replace HF2 := Aside0.mk HF2)
    all_goals ((try go_wp2_with fail); go_meet; exact HF2.out)
  case rest =>
  clear HF g0 y0 ae1 be1
  have HF := Aside0.mk hcut
  clear hcut
  go_upto_region 31 with fail
  have g0 : World.cell? _ ⟨g, 0, none⟩ = some (.slice (some ⟨gs, 0, none⟩) n cap) := (blk_cell HF.out.1.1 0).trans rfl
  have y0 := blk_frozen HF.out.1.1 0
  have ae0 := (fx_elem HF.out a la ra).1
  have ce1 := (fx_elem HF.out c lc rc).2.1
  go_cut [] from 315 to 335 (fun wx => Fx w0 w1 wx g (.slice (some ⟨gs, 0, none⟩) n cap) t5.xs t5.fail t5.moved)
  case first =>
    refine QuietLast.wp_region_qlast (by kernel_rfl) (by kernel_rfl) ?_
    dsimp only [QuietLast.initL, QuietLast.lastL]
    repeat (go_big_quiet_step (fail))
    refine wpQuiet_nil ?_
    intro _ hw'
    obtain ⟨nq, hw''⟩ := hw'
    subst hw''
    go_wp2_with (go_at_call 72; (with_reducible refine (only_calls k g gs cap n t4 t5 b lb rb _ w0 w1 _ (by repeat (first | exact HF.out | refine fx_drewN ?_ _ | refine fx_drew ?_)) H5.out).mono ?_); rintro e w2 ⟨rfl, HF2⟩; replace HF2 := Aside0.mk HF2)
    all_goals ((try go_wp2_with fail); go_meet; exact HF2.out)
  case rest =>
  clear HF g0 y0 ae0 ce1
  have HF := Aside0.mk hcut
  clear hcut
  go_upto_region 32 with fail
  have g0 : World.cell? _ ⟨g, 0, none⟩ = some (.slice (some ⟨gs, 0, none⟩) n cap) := (blk_cell HF.out.1.1 0).trans rfl
  have y0 := blk_frozen HF.out.1.1 0
  have be0 := (fx_elem HF.out b lb rb).1
  have ce1 := (fx_elem HF.out c lc rc).2.1
  go_cut [] from 336 to 356 (fun wx => Fx w0 w1 wx g (.slice (some ⟨gs, 0, none⟩) n cap) t6.xs t6.fail t6.moved)
  case first =>
    refine QuietLast.wp_region_qlast (by kernel_rfl) (by kernel_rfl) ?_
    dsimp only [QuietLast.initL, QuietLast.lastL]
    repeat (go_big_quiet_step (fail))
    refine wpQuiet_nil ?_
    intro _ hw'
    obtain ⟨nq, hw''⟩ := hw'
    subst hw''
    go_wp2_with (go_at_call 72; (with_reducible refine (only_calls k g gs cap n t5 t6 a la ra _ w0 w1 _ (by repeat (first | exact HF.out | refine fx_drewN ?_ _ | refine fx_drew ?_)) H6.out).mono ?_); rintro e w2 ⟨rfl, HF2⟩; replace HF2 := Aside0.mk HF2)
    all_goals ((try go_wp2_with fail); go_meet; exact HF2.out)
  case rest =>
  clear HF g0 y0 be0 ce1
  have HF := Aside0.mk hcut
  clear hcut
  go_upto_region 33 with fail
  have g0 : World.cell? _ ⟨g, 0, none⟩ = some (.slice (some ⟨gs, 0, none⟩) n cap) := (blk_cell HF.out.1.1 0).trans rfl
  have y0 := blk_frozen HF.out.1.1 0
  have ae3 := (fx_elem HF.out a la ra).2.2.2.1
  have be3 := (fx_elem HF.out b lb rb).2.2.2.1
  refine QuietLast.wp_region_qlast (by kernel_rfl) (by kernel_rfl) ?_
  dsimp only [QuietLast.initL, QuietLast.lastL]
  repeat (go_big_quiet_step (fail))
  refine wpQuiet_nil ?_
  intro _ hw'
  obtain ⟨nq, hw''⟩ := hw'
  subst hw''
  go_wp2_with (go_at_call 73; (with_reducible refine (greatest_calls k g gs cap n t6 t7 c lc rc _ w0 w1 _ (by repeat (first | exact HF.out | refine fx_drewN ?_ _ | refine fx_drew ?_)) H7.out).mono ?_); rintro e w2 ⟨rfl, HF2⟩; replace HF2 := Aside0.mk HF2)
  all_goals (try go_wp2_with fail)
  all_goals first | exact ⟨rfl, HF2.out⟩ | (go_end0; exact ⟨rfl, HF2.out⟩) | ((try simp only [Exit.inBlock, Exit.then]); refine bodyPost_ret (results_none rfl _ _ _) rfl ?_; exact ⟨rfl, HF2.out⟩)
def minusL (k : Nat) (a b c : Int) (t : St) : Option St :=
  (putL k c (intoS t.xs c (Go.bits .andNot .u64 (rd_T59 t.xs a).f0 (rd_T59 t.xs b).f1)) t).bind fun t =>
  (putL k a (intoS t.xs a (rd_T59 t.xs c).f0) t).bind fun t =>
  (putL k b (onlyS t.xs b (Go.bits .xor .u64 (IntKind.max .u64) (rd_T59 t.xs c).f0)) t).bind fun t =>
  (putL k c (onlyS t.xs c (Go.bits .andNot .u64 (rd_T59 t.xs a).f1 (rd_T59 t.xs b).f0)) t).bind fun t =>
  (putL k b (intoS t.xs b (Go.bits .andNot .u64 (rd_T59 t.xs a).f0 (rd_T59 t.xs c).f1)) t).bind fun t =>
  (putL k c (greatestS t.xs c (rd_T59 t.xs a).f3) t).bind fun t =>
  some t
set_option maxHeartbeats 8000000 in
set_option maxRecDepth 100000 in
theorem apply_minus (k : Nat) (g gs cap n : Nat) (t u : St) (ab ao : Nat) (vc : Nat) (a b c N : Int) (w0 w1 w : World) (la : 0 ≤ a) (ra : a < n) (lb : 0 ≤ b) (rb : b < n) (lc : 0 ≤ c) (rc : c < n) (q0 : w.cell? ⟨ab, ao, none⟩ = some (.int .i64 a)) (q1 : w.cell? ⟨ab, ao + 1, none⟩ = some (.int .i64 b)) (q2 : w.cell? ⟨ab, ao + 2, none⟩ = some (.int .i64 c)) (hF : Fx w0 w1 w g (.slice (some ⟨gs, 0, none⟩) n cap) t.xs t.fail t.moved) (hn : minusL k a b c t = some u) :
    Calls Try.prog 38 #[.pointer (some ⟨g, 0, none⟩), .agg #[.string ⟨#[109, 105, 110, 117, 115]⟩, .slice (some ⟨ab, ao, none⟩) 3 vc, .int .i64 N]] w (FxEnd w0 w1 g (.slice (some ⟨gs, 0, none⟩) n cap) u.xs u.fail u.moved) := by
  have HF := Aside0.mk hF
  have hlt := blk_lt hF.1.1
  have hne : g ≠ w.heap.size := by omega
  have hab : ab ≠ w.heap.size := by
    have := World.block_lt_of_cell? w _ q0
    exact Nat.ne_of_lt this
  have hab2 : ab < w.heap.size := World.block_lt_of_cell? w _ q0
  have hab1 : w.heap.size ≠ ab := fun e => hab e.symm
  have pa : decide (0 ≤ a) = true := decide_eq_true la
  have sa : decide (a < (n : Int)) = true := decide_eq_true ra
  have pb : decide (0 ≤ b) = true := decide_eq_true lb
  have sb : decide (b < (n : Int)) = true := decide_eq_true rb
  have pc : decide (0 ≤ c) = true := decide_eq_true lc
  have sc : decide (c < (n : Int)) = true := decide_eq_true rc
  unfold minusL at hn
  obtain ⟨t1, hn1, hn⟩ := Option.bind_eq_some_iff.mp hn
  have H1 := Aside0.mk hn1
  clear hn1
  obtain ⟨t2, hn2, hn⟩ := Option.bind_eq_some_iff.mp hn
  have H2 := Aside0.mk hn2
  clear hn2
  obtain ⟨t3, hn3, hn⟩ := Option.bind_eq_some_iff.mp hn
  have H3 := Aside0.mk hn3
  clear hn3
  obtain ⟨t4, hn4, hn⟩ := Option.bind_eq_some_iff.mp hn
  have H4 := Aside0.mk hn4
  clear hn4
  obtain ⟨t5, hn5, hn⟩ := Option.bind_eq_some_iff.mp hn
  have H5 := Aside0.mk hn5
  clear hn5
  obtain ⟨t6, hn6, hn⟩ := Option.bind_eq_some_iff.mp hn
  have H6 := Aside0.mk hn6
  clear hn6
  obtain rfl := Option.some.inj hn
  clear hn
  clear hF
  go_enter Try.func38, Try.ntmps38
  go_upto_region 35 with fail
  have HF1 := Aside0.mk (fx_alloc HF.out (.cells #[.string ⟨#[109, 105, 110, 117, 115]⟩, .slice (some ⟨ab, ao, none⟩) 3 vc, .int .i64 N] 33))
  clear HF
  have HF := HF1
  clear HF1
  have g0 : World.cell? _ ⟨g, 0, none⟩ = some (.slice (some ⟨gs, 0, none⟩) n cap) := (blk_cell HF.out.1.1 0).trans rfl
  have y0 := blk_frozen HF.out.1.1 0
  have ae0 := (fx_elem HF.out a la ra).1
  have be1 := (fx_elem HF.out b lb rb).2.1
  clear q0 q1 q2 hab hab1 hab2 hne hlt
  go_cut [] from 379 to 398 (fun wx => Fx w0 w1 wx g (.slice (some ⟨gs, 0, none⟩) n cap) t1.xs t1.fail t1.moved)
  case first =>
    refine QuietLast.wp_region_qlast (by kernel_rfl) (by kernel_rfl) ?_
    dsimp only [QuietLast.initL, QuietLast.lastL]
    repeat (go_big_quiet_step (fail))
    refine wpQuiet_nil ?_
    intro _ hw'
    obtain ⟨nq, hw''⟩ := hw'
    subst hw''
    go_wp2_with (go_at_call 71; (with_reducible refine (into_calls k g gs cap n t t1 c lc rc _ w0 w1 _ (by repeat (first | exact HF.out | refine fx_drewN ?_ _ | refine fx_drew ?_)) H1.out).mono ?_); rintro e w2 ⟨rfl, HF2⟩; replace HF2 := Aside0.mk HF2)
    all_goals ((try go_wp2_with fail); go_meet; exact HF2.out)
  case rest =>
  clear HF g0 y0 ae0 be1
  have HF := Aside0.mk hcut
  clear hcut
  go_upto_region 36 with fail
  have g0 : World.cell? _ ⟨g, 0, none⟩ = some (.slice (some ⟨gs, 0, none⟩) n cap) := (blk_cell HF.out.1.1 0).trans rfl
  have y0 := blk_frozen HF.out.1.1 0
  have ce0 := (fx_elem HF.out c lc rc).1
  go_cut [] from 399 to 409 (fun wx => Fx w0 w1 wx g (.slice (some ⟨gs, 0, none⟩) n cap) t2.xs t2.fail t2.moved)
  case first =>
    go_wp2_with (go_at_call 71; (with_reducible refine (into_calls k g gs cap n t1 t2 a la ra _ w0 w1 _ (by repeat (first | exact HF.out | refine fx_drewN ?_ _ | refine fx_drew ?_)) H2.out).mono ?_); rintro e w2 ⟨rfl, HF2⟩; replace HF2 := Aside0.mk HF2)
    all_goals ((try go_wp2_with fail); go_meet; exact HF2.out)
  case rest =>
  clear HF g0 y0 ce0
  have HF := Aside0.mk hcut
  clear hcut
  go_upto_region 37 with fail
  have g0 : World.cell? _ ⟨g, 0, none⟩ = some (.slice (some ⟨gs, 0, none⟩) n cap) := (blk_cell HF.out.1.1 0).trans rfl
  have y0 := blk_frozen HF.out.1.1 0
  have ce0 := (fx_elem HF.out c lc rc).1
  go_cut [] from 410 to 421 (fun wx => Fx w0 w1 wx g (.slice (some ⟨gs, 0, none⟩) n cap) t3.xs t3.fail t3.moved)
  case first =>
    go_wp2_with (go_at_call 72; (with_reducible refine (only_calls k g gs cap n t2 t3 b lb rb _ w0 w1 _ (by repeat (first | exact HF.out | refine fx_drewN ?_ _ | refine fx_drew ?_)) H3.out).mono ?_); rintro e w2 ⟨rfl, HF2⟩; replace HF2 := Aside0.mk HF2)
    all_goals ((try go_wp2_with fail); go_meet; exact HF2.out)
  case rest =>
  clear HF g0 y0 ce0
  have HF := Aside0.mk hcut
  clear hcut
  go_upto_region 38 with fail
  have g0 : World.cell? _ ⟨g, 0, none⟩ = some (.slice (some ⟨gs, 0, none⟩) n cap) := (blk_cell HF.out.1.1 0).trans rfl
  have y0 := blk_frozen HF.out.1.1 0
  have ae1 := (fx_elem HF.out a la ra).2.1
  have be0 := (fx_elem HF.out b lb rb).1
  go_cut [] from 422 to 441 (fun wx => Fx w0 w1 wx g (.slice (some ⟨gs, 0, none⟩) n cap) t4.xs t4.fail t4.moved)
  case first =>
    refine QuietLast.wp_region_qlast (by kernel_rfl) (by kernel_rfl) ?_
    dsimp only [QuietLast.initL, QuietLast.lastL]
    repeat (go_big_quiet_step (fail))
    refine wpQuiet_nil ?_
    intro _ hw'
    obtain ⟨nq, hw''⟩ := hw'
    subst hw''
    go_wp2_with (go_at_call 72; (with_reducible refine (only_calls k g gs cap n t3 t4 c lc rc _ w0 w1 _ (by repeat (first | exact HF.out | refine fx_drewN ?_ _ | refine fx_drew ?_)) H4.out).mono ?_); rintro e w2 ⟨rfl, HF2⟩; replace HF2 := Aside0.mk HF2)
    all_goals ((try go_wp2_with fail); go_meet; exact HF2.out)
  case rest =>
  clear HF g0 y0 ae1 be0
  have HF := Aside0.mk hcut
  clear hcut
  go_upto_region 39 with fail
  have g0 : World.cell? _ ⟨g, 0, none⟩ = some (.slice (some ⟨gs, 0, none⟩) n cap) := (blk_cell HF.out.1.1 0).trans rfl
  have y0 := blk_frozen HF.out.1.1 0
  have ae0 := (fx_elem HF.out a la ra).1
  have ce1 := (fx_elem HF.out c lc rc).2.1
  go_cut [] from 442 to 461 (fun wx => Fx w0 w1 wx g (.slice (some ⟨gs, 0, none⟩) n cap) t5.xs t5.fail t5.moved)
  case first =>
    refine QuietLast.wp_region_qlast (by kernel_rfl) (by kernel_rfl) ?_
    dsimp only [QuietLast.initL, QuietLast.lastL]
    repeat (go_big_quiet_step (fail))
    refine wpQuiet_nil ?_
    intro _ hw'
    obtain ⟨nq, hw''⟩ := hw'
    subst hw''
    go_wp2_with (go_at_call 71; (with_reducible refine (into_calls k g gs cap n t4 t5 b lb rb _ w0 w1 _ (by repeat (first | exact HF.out | refine fx_drewN ?_ _ | refine fx_drew ?_)) H5.out).mono ?_); rintro e w2 ⟨rfl, HF2⟩; replace HF2 := Aside0.mk HF2)
    all_goals ((try go_wp2_with fail); go_meet; exact HF2.out)
  case rest =>
  clear HF g0 y0 ae0 ce1
  have HF := Aside0.mk hcut
  clear hcut
  go_upto_region 40 with fail
  have g0 : World.cell? _ ⟨g, 0, none⟩ = some (.slice (some ⟨gs, 0, none⟩) n cap) := (blk_cell HF.out.1.1 0).trans rfl
  have y0 := blk_frozen HF.out.1.1 0
  have ae3 := (fx_elem HF.out a la ra).2.2.2.1
  go_wp2_with (go_at_call 73; (with_reducible refine (greatest_calls k g gs cap n t5 t6 c lc rc _ w0 w1 _ (by repeat (first | exact HF.out | refine fx_drewN ?_ _ | refine fx_drew ?_)) H6.out).mono ?_); rintro e w2 ⟨rfl, HF2⟩; replace HF2 := Aside0.mk HF2)
  all_goals (try go_wp2_with fail)
  all_goals first | exact ⟨rfl, HF2.out⟩ | (go_end0; exact ⟨rfl, HF2.out⟩) | ((try simp only [Exit.inBlock, Exit.then]); refine bodyPost_ret (results_none rfl _ _ _) rfl ?_; exact ⟨rfl, HF2.out⟩)
set_option maxHeartbeats 8000000 in
set_option maxRecDepth 100000 in
theorem apply_has (g : Nat) (v : Value) (t u : St) (ab ao : Nat) (vc : Nat) (a N : Int) (w0 w1 w : World) (q0 : w.cell? ⟨ab, ao, none⟩ = some (.int .i64 a)) (hF : Fx w0 w1 w g v t.xs t.fail t.moved) (hone : ∀ w', Fx w0 w1 w' g v t.xs t.fail t.moved → Calls Try.prog 75 #[.pointer (some ⟨g, 0, none⟩), .agg #[.string ⟨#[104, 97, 115]⟩, .slice (some ⟨ab, ao, none⟩) 1 vc, .int .i64 N], .int .i64 a] w' (FxEnd w0 w1 g v u.xs u.fail u.moved)) :
    Calls Try.prog 38 #[.pointer (some ⟨g, 0, none⟩), .agg #[.string ⟨#[104, 97, 115]⟩, .slice (some ⟨ab, ao, none⟩) 1 vc, .int .i64 N]] w (FxEnd w0 w1 g v u.xs u.fail u.moved) := by
  have HF := Aside0.mk hF
  have HO := Aside0.mk hone
  have hlt := blk_lt hF.1.1
  have hne : g ≠ w.heap.size := by omega
  have hab2 : ab < w.heap.size := World.block_lt_of_cell? w _ q0
  clear hF hone
  go_enter Try.func38, Try.ntmps38
  go_wp2_with (go_at_call 75; (with_reducible refine (HO.out _ (fx_alloc HF.out _)).mono ?_); rintro e w2 ⟨rfl, HF2⟩; replace HF2 := Aside0.mk HF2)
  first | exact ⟨rfl, HF2.out⟩ | (go_end0; exact ⟨rfl, HF2.out⟩) | ((try simp only [Exit.inBlock, Exit.then]); refine bodyPost_ret (results_none rfl _ _ _) rfl ?_; exact ⟨rfl, HF2.out⟩)
set_option maxHeartbeats 8000000 in
set_option maxRecDepth 100000 in
theorem apply_lacks (g : Nat) (v : Value) (t u : St) (ab ao : Nat) (vc : Nat) (a N : Int) (w0 w1 w : World) (q0 : w.cell? ⟨ab, ao, none⟩ = some (.int .i64 a)) (hF : Fx w0 w1 w g v t.xs t.fail t.moved) (hone : ∀ w', Fx w0 w1 w' g v t.xs t.fail t.moved → Calls Try.prog 75 #[.pointer (some ⟨g, 0, none⟩), .agg #[.string ⟨#[108, 97, 99, 107, 115]⟩, .slice (some ⟨ab, ao, none⟩) 1 vc, .int .i64 N], .int .i64 a] w' (FxEnd w0 w1 g v u.xs u.fail u.moved)) :
    Calls Try.prog 38 #[.pointer (some ⟨g, 0, none⟩), .agg #[.string ⟨#[108, 97, 99, 107, 115]⟩, .slice (some ⟨ab, ao, none⟩) 1 vc, .int .i64 N]] w (FxEnd w0 w1 g v u.xs u.fail u.moved) := by
  have HF := Aside0.mk hF
  have HO := Aside0.mk hone
  have hlt := blk_lt hF.1.1
  have hne : g ≠ w.heap.size := by omega
  have hab2 : ab < w.heap.size := World.block_lt_of_cell? w _ q0
  clear hF hone
  go_enter Try.func38, Try.ntmps38
  go_wp2_with (go_at_call 75; (with_reducible refine (HO.out _ (fx_alloc HF.out _)).mono ?_); rintro e w2 ⟨rfl, HF2⟩; replace HF2 := Aside0.mk HF2)
  first | exact ⟨rfl, HF2.out⟩ | (go_end0; exact ⟨rfl, HF2.out⟩) | ((try simp only [Exit.inBlock, Exit.then]); refine bodyPost_ret (results_none rfl _ _ _) rfl ?_; exact ⟨rfl, HF2.out⟩)
set_option maxHeartbeats 8000000 in
set_option maxRecDepth 100000 in
theorem apply_size (g : Nat) (v : Value) (t u : St) (ab ao : Nat) (vc : Nat) (a N : Int) (w0 w1 w : World) (q0 : w.cell? ⟨ab, ao, none⟩ = some (.int .i64 a)) (hF : Fx w0 w1 w g v t.xs t.fail t.moved) (hone : ∀ w', Fx w0 w1 w' g v t.xs t.fail t.moved → Calls Try.prog 75 #[.pointer (some ⟨g, 0, none⟩), .agg #[.string ⟨#[115, 105, 122, 101]⟩, .slice (some ⟨ab, ao, none⟩) 1 vc, .int .i64 N], .int .i64 a] w' (FxEnd w0 w1 g v u.xs u.fail u.moved)) :
    Calls Try.prog 38 #[.pointer (some ⟨g, 0, none⟩), .agg #[.string ⟨#[115, 105, 122, 101]⟩, .slice (some ⟨ab, ao, none⟩) 1 vc, .int .i64 N]] w (FxEnd w0 w1 g v u.xs u.fail u.moved) := by
  have HF := Aside0.mk hF
  have HO := Aside0.mk hone
  have hlt := blk_lt hF.1.1
  have hne : g ≠ w.heap.size := by omega
  have hab2 : ab < w.heap.size := World.block_lt_of_cell? w _ q0
  clear hF hone
  go_enter Try.func38, Try.ntmps38
  go_wp2_with (go_at_call 75; (with_reducible refine (HO.out _ (fx_alloc HF.out _)).mono ?_); rintro e w2 ⟨rfl, HF2⟩; replace HF2 := Aside0.mk HF2)
  first | exact ⟨rfl, HF2.out⟩ | (go_end0; exact ⟨rfl, HF2.out⟩) | ((try simp only [Exit.inBlock, Exit.then]); refine bodyPost_ret (results_none rfl _ _ _) rfl ?_; exact ⟨rfl, HF2.out⟩)
end Go.Proofs.Ytgfbgfbnmiainaa.Fam
/-! one: what follows from a relation of one family and a number. -/
namespace Go.Proofs.Ytgfbgfbnmiainaa.Fam
set_option linter.unusedVariables false
set_option linter.unusedSimpArgs false
open Go.RowKit Go.Proofs.YtgfbgfbnmiainaaW.PrintWords Go.Proofs.YtgfbgfbnmiainaaW.PrintLast Go.Proofs.YtgfbgfbnmiainaaW.PrintMore Go.Proofs.Ytgfbgfbnmiainaa.Q
attribute [local go_sem] Go.Proofs.YtgfbgfbnmiainaaW.OwnWords.isSome_setCell max2_int min2_int
attribute [local go_sem high] eqA59
theorem fx_re {w0 w1 w : World} {g : Nat} {v : Value} {xs : List S59} {f m : Bool} (h : Fx w0 w1 w g v xs f m) (o : Obj) : Fx w0 (w.alloc o) (w.alloc o) g v xs f m := fx_start (fx_alloc h o).1 (fx_alloc h o).2.1
theorem blk_lt_any {w : World} {b : Nat} {o : Obj} (h : w.heap[b]? = some o) : b < w.heap.size := (Array.getElem?_eq_some_iff.1 h).1
theorem fx_kept {w0 W w2 : World} {g b : Nat} {v : Value} {xs : List S59} {f m : Bool} {o : Obj} (h : Fx w0 W w2 g v xs f m) (hb : W.heap[b]? = some o) (hg : b ≠ g) (hr : some b ≠ v.ownBlock) : w2.heap[b]? = some o :=
  (h.2.2.1.2 b (blk_lt_any hb) hg hr).trans hb
theorem fx_back {w0 w1 w w2 : World} {o : Obj} {g : Nat} {v : Value} {xs xs2 : List S59} {f m f2 m2 : Bool} (h : Fx w0 w1 w g v xs f m) (h2 : Fx w0 (w.alloc o) w2 g v xs2 f2 m2) : Fx w0 w1 w2 g v xs2 f2 m2 := by
  have h3 := fx_alloc h o
  obtain ⟨a1, a2, a3, a4, a5, a6⟩ := h3
  obtain ⟨b1, b2, b3, b4, b5, b6⟩ := h2
  exact ⟨b1, b2, ⟨Nat.le_trans a3.1 b3.1, fun i hi hg hr => (b3.2 i (Nat.lt_of_lt_of_le hi a3.1) hg hr).trans (a3.2 i hi hg hr)⟩, a4, a5, a6⟩
set_option maxHeartbeats 8000000 in
set_option maxRecDepth 100000 in
theorem one_has_in (k : Nat) (g gs cap n : Nat) (t u : St) (vs : Value) (a N : Int) (w0 w1 w : World) (la : 0 ≤ a) (ra : a < n) (i0 : 0 ≤ N) (i1 : N ≤ 63) (hF : Fx w0 w1 w g (.slice (some ⟨gs, 0, none⟩) n cap) t.xs t.fail t.moved) (hn : putL k a (intoS t.xs a (IntKind.u64.wrap (2 ^ N.toNat))) t = some u) :
    Calls Try.prog 75 #[.pointer (some ⟨g, 0, none⟩), .agg #[.string ⟨#[104, 97, 115]⟩, vs, .int .i64 N], .int .i64 a] w (FxEnd w0 w1 g (.slice (some ⟨gs, 0, none⟩) n cap) u.xs u.fail u.moved) := by
  have g1 : w.cell? ⟨g, 1, none⟩ = some (.bool t.fail) := (blk_cell hF.1.1 1).trans rfl
  have y1 := blk_frozen hF.1.1 1
  have hlt := blk_lt hF.1.1
  have hne : g ≠ w.heap.size := by omega
  have hne2 : w.heap.size ≠ g := by omega
  have HF := Aside0.mk hF
  have d0 : decide (0 ≤ N) = true := decide_eq_true i0
  have d1 : decide (N ≤ 63) = true := decide_eq_true i1
  have HN := Aside0.mk hn
  clear hn
  clear hF
  go_enter Try.func75, Try.ntmps75
  go_wp2_with (first | fail | (go_at_call 71; (with_reducible refine (into_calls k g gs cap n t u a la ra _ w0 w1 _ (fx_alloc HF.out _) HN.out).mono ?_); rintro e w2 ⟨rfl, HF2⟩; replace HF2 := Aside0.mk HF2))
  first | exact ⟨rfl, HF2.out⟩ | (go_end0; exact ⟨rfl, HF2.out⟩) | ((try simp only [Exit.inBlock, Exit.then]); refine bodyPost_ret (results_none rfl _ _ _) rfl ?_; exact ⟨rfl, HF2.out⟩)
set_option maxHeartbeats 8000000 in
set_option maxRecDepth 100000 in
theorem one_lacks_in (k : Nat) (g gs cap n : Nat) (t u : St) (vs : Value) (a N : Int) (w0 w1 w : World) (la : 0 ≤ a) (ra : a < n) (i0 : 0 ≤ N) (i1 : N ≤ 63) (hF : Fx w0 w1 w g (.slice (some ⟨gs, 0, none⟩) n cap) t.xs t.fail t.moved) (hn : putL k a (onlyS t.xs a (Go.bits .xor .u64 (IntKind.max .u64) (IntKind.u64.wrap (2 ^ N.toNat)))) t = some u) :
    Calls Try.prog 75 #[.pointer (some ⟨g, 0, none⟩), .agg #[.string ⟨#[108, 97, 99, 107, 115]⟩, vs, .int .i64 N], .int .i64 a] w (FxEnd w0 w1 g (.slice (some ⟨gs, 0, none⟩) n cap) u.xs u.fail u.moved) := by
  have g1 : w.cell? ⟨g, 1, none⟩ = some (.bool t.fail) := (blk_cell hF.1.1 1).trans rfl
  have y1 := blk_frozen hF.1.1 1
  have hlt := blk_lt hF.1.1
  have hne : g ≠ w.heap.size := by omega
  have hne2 : w.heap.size ≠ g := by omega
  have HF := Aside0.mk hF
  have d0 : decide (0 ≤ N) = true := decide_eq_true i0
  have d1 : decide (N ≤ 63) = true := decide_eq_true i1
  have HN := Aside0.mk hn
  clear hn
  clear hF
  go_enter Try.func75, Try.ntmps75
  go_wp2_with (first | fail | (go_at_call 72; (with_reducible refine (only_calls k g gs cap n t u a la ra _ w0 w1 _ (fx_alloc HF.out _) HN.out).mono ?_); rintro e w2 ⟨rfl, HF2⟩; replace HF2 := Aside0.mk HF2))
  first | exact ⟨rfl, HF2.out⟩ | (go_end0; exact ⟨rfl, HF2.out⟩) | ((try simp only [Exit.inBlock, Exit.then]); refine bodyPost_ret (results_none rfl _ _ _) rfl ?_; exact ⟨rfl, HF2.out⟩)
set_option maxHeartbeats 8000000 in
set_option maxRecDepth 100000 in
theorem one_has_lo (k : Nat) (g gs cap n : Nat) (t u : St) (vs : Value) (a N : Int) (w0 w1 w : World) (la : 0 ≤ a) (ra : a < n) (i0 : N < 0) (hF : Fx w0 w1 w g (.slice (some ⟨gs, 0, none⟩) n cap) t.xs t.fail t.moved) :
    Calls Try.prog 75 #[.pointer (some ⟨g, 0, none⟩), .agg #[.string ⟨#[104, 97, 115]⟩, vs, .int .i64 N], .int .i64 a] w (FxEnd w0 w1 g (.slice (some ⟨gs, 0, none⟩) n cap) t.xs true t.moved) := by
  have g1 : w.cell? ⟨g, 1, none⟩ = some (.bool t.fail) := (blk_cell hF.1.1 1).trans rfl
  have y1 := blk_frozen hF.1.1 1
  have hlt := blk_lt hF.1.1
  have hne : g ≠ w.heap.size := by omega
  have hne2 : w.heap.size ≠ g := by omega
  have HF := Aside0.mk hF
  have d0 : decide (0 ≤ N) = false := decide_eq_false (by omega)
  have d2 : decide (N < 0) = true := decide_eq_true i0
  clear hF
  go_enter Try.func75, Try.ntmps75
  go_wp2_with (first | fail)
  first | exact ⟨rfl, fx_alloc (fx_put1 HF.out true) _⟩ | (go_end0; exact ⟨rfl, fx_alloc (fx_put1 HF.out true) _⟩) | ((try simp only [Exit.inBlock, Exit.then]); refine bodyPost_ret (results_none rfl _ _ _) rfl ?_; exact ⟨rfl, fx_alloc (fx_put1 HF.out true) _⟩)
set_option maxHeartbeats 8000000 in
set_option maxRecDepth 100000 in
theorem one_lacks_lo (k : Nat) (g gs cap n : Nat) (t u : St) (vs : Value) (a N : Int) (w0 w1 w : World) (la : 0 ≤ a) (ra : a < n) (i0 : N < 0) (hF : Fx w0 w1 w g (.slice (some ⟨gs, 0, none⟩) n cap) t.xs t.fail t.moved) :
    Calls Try.prog 75 #[.pointer (some ⟨g, 0, none⟩), .agg #[.string ⟨#[108, 97, 99, 107, 115]⟩, vs, .int .i64 N], .int .i64 a] w (FxEnd w0 w1 g (.slice (some ⟨gs, 0, none⟩) n cap) t.xs t.fail t.moved) := by
  have g1 : w.cell? ⟨g, 1, none⟩ = some (.bool t.fail) := (blk_cell hF.1.1 1).trans rfl
  have y1 := blk_frozen hF.1.1 1
  have hlt := blk_lt hF.1.1
  have hne : g ≠ w.heap.size := by omega
  have hne2 : w.heap.size ≠ g := by omega
  have HF := Aside0.mk hF
  have d0 : decide (0 ≤ N) = false := decide_eq_false (by omega)
  have d2 : decide (N < 0) = true := decide_eq_true i0
  clear hF
  go_enter Try.func75, Try.ntmps75
  go_wp2_with (first | fail)
  first | exact ⟨rfl, fx_alloc HF.out _⟩ | (go_end0; exact ⟨rfl, fx_alloc HF.out _⟩) | ((try simp only [Exit.inBlock, Exit.then]); refine bodyPost_ret (results_none rfl _ _ _) rfl ?_; exact ⟨rfl, fx_alloc HF.out _⟩)
set_option maxHeartbeats 8000000 in
set_option maxRecDepth 100000 in
theorem one_has_hi (k : Nat) (g gs cap n : Nat) (t u : St) (vs : Value) (a N : Int) (w0 w1 w : World) (la : 0 ≤ a) (ra : a < n) (i1 : 63 < N) (hF : Fx w0 w1 w g (.slice (some ⟨gs, 0, none⟩) n cap) t.xs t.fail t.moved) :
    Calls Try.prog 75 #[.pointer (some ⟨g, 0, none⟩), .agg #[.string ⟨#[104, 97, 115]⟩, vs, .int .i64 N], .int .i64 a] w (FxEnd w0 w1 g (.slice (some ⟨gs, 0, none⟩) n cap) t.xs true t.moved) := by
  have g1 : w.cell? ⟨g, 1, none⟩ = some (.bool t.fail) := (blk_cell hF.1.1 1).trans rfl
  have y1 := blk_frozen hF.1.1 1
  have hlt := blk_lt hF.1.1
  have hne : g ≠ w.heap.size := by omega
  have hne2 : w.heap.size ≠ g := by omega
  have HF := Aside0.mk hF
  have d0 : decide (0 ≤ N) = true := decide_eq_true (by omega)
  have d1 : decide (N ≤ 63) = false := decide_eq_false (by omega)
  clear hF
  go_enter Try.func75, Try.ntmps75
  go_wp2_with (first | fail)
  first | exact ⟨rfl, fx_alloc (fx_put1 HF.out true) _⟩ | (go_end0; exact ⟨rfl, fx_alloc (fx_put1 HF.out true) _⟩) | ((try simp only [Exit.inBlock, Exit.then]); refine bodyPost_ret (results_none rfl _ _ _) rfl ?_; exact ⟨rfl, fx_alloc (fx_put1 HF.out true) _⟩)
set_option maxHeartbeats 8000000 in
set_option maxRecDepth 100000 in
theorem one_lacks_hi (k : Nat) (g gs cap n : Nat) (t u : St) (vs : Value) (a N : Int) (w0 w1 w : World) (la : 0 ≤ a) (ra : a < n) (i1 : 63 < N) (hF : Fx w0 w1 w g (.slice (some ⟨gs, 0, none⟩) n cap) t.xs t.fail t.moved) :
    Calls Try.prog 75 #[.pointer (some ⟨g, 0, none⟩), .agg #[.string ⟨#[108, 97, 99, 107, 115]⟩, vs, .int .i64 N], .int .i64 a] w (FxEnd w0 w1 g (.slice (some ⟨gs, 0, none⟩) n cap) t.xs t.fail t.moved) := by
  have g1 : w.cell? ⟨g, 1, none⟩ = some (.bool t.fail) := (blk_cell hF.1.1 1).trans rfl
  have y1 := blk_frozen hF.1.1 1
  have hlt := blk_lt hF.1.1
  have hne : g ≠ w.heap.size := by omega
  have hne2 : w.heap.size ≠ g := by omega
  have HF := Aside0.mk hF
  have d0 : decide (0 ≤ N) = true := decide_eq_true (by omega)
  have d1 : decide (N ≤ 63) = false := decide_eq_false (by omega)
  clear hF
  go_enter Try.func75, Try.ntmps75
  go_wp2_with (first | fail)
  first | exact ⟨rfl, fx_alloc HF.out _⟩ | (go_end0; exact ⟨rfl, fx_alloc HF.out _⟩) | ((try simp only [Exit.inBlock, Exit.then]); refine bodyPost_ret (results_none rfl _ _ _) rfl ?_; exact ⟨rfl, fx_alloc HF.out _⟩)
set_option maxHeartbeats 8000000 in
set_option maxRecDepth 100000 in
theorem one_size_lo (k : Nat) (g gs cap n : Nat) (t u : St) (vs : Value) (a N : Int) (w0 w1 w : World) (la : 0 ≤ a) (ra : a < n) (i0 : N < 0) (hF : Fx w0 w1 w g (.slice (some ⟨gs, 0, none⟩) n cap) t.xs t.fail t.moved) :
    Calls Try.prog 75 #[.pointer (some ⟨g, 0, none⟩), .agg #[.string ⟨#[115, 105, 122, 101]⟩, vs, .int .i64 N], .int .i64 a] w (FxEnd w0 w1 g (.slice (some ⟨gs, 0, none⟩) n cap) t.xs true t.moved) := by
  have g1 : w.cell? ⟨g, 1, none⟩ = some (.bool t.fail) := (blk_cell hF.1.1 1).trans rfl
  have y1 := blk_frozen hF.1.1 1
  have hlt := blk_lt hF.1.1
  have hne : g ≠ w.heap.size := by omega
  have hne2 : w.heap.size ≠ g := by omega
  have HF := Aside0.mk hF
  have d0 : decide (0 ≤ N) = false := decide_eq_false (by omega)
  have d2 : decide (N < 0) = true := decide_eq_true i0
  clear hF
  go_enter Try.func75, Try.ntmps75
  go_wp2_with (first | fail)
  first | exact ⟨rfl, fx_alloc (fx_put1 HF.out true) _⟩ | (go_end0; exact ⟨rfl, fx_alloc (fx_put1 HF.out true) _⟩) | ((try simp only [Exit.inBlock, Exit.then]); refine bodyPost_ret (results_none rfl _ _ _) rfl ?_; exact ⟨rfl, fx_alloc (fx_put1 HF.out true) _⟩)
set_option maxHeartbeats 8000000 in
set_option maxRecDepth 100000 in
theorem one_size_hi (k : Nat) (g gs cap n : Nat) (t u : St) (vs : Value) (a N : Int) (w0 w1 w : World) (la : 0 ≤ a) (ra : a < n) (i1 : 64 < N) (hF : Fx w0 w1 w g (.slice (some ⟨gs, 0, none⟩) n cap) t.xs t.fail t.moved) :
    Calls Try.prog 75 #[.pointer (some ⟨g, 0, none⟩), .agg #[.string ⟨#[115, 105, 122, 101]⟩, vs, .int .i64 N], .int .i64 a] w (FxEnd w0 w1 g (.slice (some ⟨gs, 0, none⟩) n cap) t.xs true t.moved) := by
  have g1 : w.cell? ⟨g, 1, none⟩ = some (.bool t.fail) := (blk_cell hF.1.1 1).trans rfl
  have y1 := blk_frozen hF.1.1 1
  have hlt := blk_lt hF.1.1
  have hne : g ≠ w.heap.size := by omega
  have hne2 : w.heap.size ≠ g := by omega
  have HF := Aside0.mk hF
  have d0 : decide (0 ≤ N) = true := decide_eq_true (by omega)
  have d1 : decide (N ≤ 63) = false := decide_eq_false (by omega)
  have d2 : decide (N < 0) = false := decide_eq_false (by omega)
  have d3 : decide (64 < N) = true := decide_eq_true (by omega)
  clear hF
  go_enter Try.func75, Try.ntmps75
  go_wp2_with (first | fail)
  first | exact ⟨rfl, fx_alloc (fx_put1 HF.out true) _⟩ | (go_end0; exact ⟨rfl, fx_alloc (fx_put1 HF.out true) _⟩) | ((try simp only [Exit.inBlock, Exit.then]); refine bodyPost_ret (results_none rfl _ _ _) rfl ?_; exact ⟨rfl, fx_alloc (fx_put1 HF.out true) _⟩)
set_option maxHeartbeats 8000000 in
set_option maxRecDepth 100000 in
theorem one_size_ok (k : Nat) (g gs cap n : Nat) (t u : St) (vs : Value) (a N : Int) (w0 w1 w : World) (la : 0 ≤ a) (ra : a < n) (i0 : 0 ≤ N) (i1 : N ≤ 64) (s : St) (hF : Fx w0 w1 w g (.slice (some ⟨gs, 0, none⟩) n cap) t.xs t.fail t.moved) (hn : putL k a (leastS t.xs a N) t = some s) (hn2 : putL k a (greatestS s.xs a N) s = some u) :
    Calls Try.prog 75 #[.pointer (some ⟨g, 0, none⟩), .agg #[.string ⟨#[115, 105, 122, 101]⟩, vs, .int .i64 N], .int .i64 a] w (FxEnd w0 w1 g (.slice (some ⟨gs, 0, none⟩) n cap) u.xs u.fail u.moved) := by
  have g1 : w.cell? ⟨g, 1, none⟩ = some (.bool t.fail) := (blk_cell hF.1.1 1).trans rfl
  have y1 := blk_frozen hF.1.1 1
  have hlt := blk_lt hF.1.1
  have hne : g ≠ w.heap.size := by omega
  have hne2 : w.heap.size ≠ g := by omega
  have HF := Aside0.mk hF
  have d0 : decide (0 ≤ N) = true := decide_eq_true i0
  have d2 : decide (N < 0) = false := decide_eq_false (by omega)
  have d3 : decide (64 < N) = false := decide_eq_false (by omega)
  have HN := Aside0.mk hn
  have HN2 := Aside0.mk hn2
  clear hn hn2
  have hgl : gs < w.heap.size := Kd.R_lt hF.1.2.2 gs (by simp [Value.ownBlock])
  have hgr : some w.heap.size ≠ (Value.slice (some ⟨gs, 0, none⟩) n cap).ownBlock := by
    simp [Value.ownBlock]
    omega
  have hk2 := blk_new w (.cells #[.string ⟨#[115, 105, 122, 101]⟩, vs, .int .i64 N] 33)
  clear hF
  go_enter Try.func75, Try.ntmps75
  go_wp2_with (first | fail | (go_at_call 74; (with_reducible refine (least_calls k g gs cap n t s a la ra _ w0 (w.alloc (.cells #[.string ⟨#[115, 105, 122, 101]⟩, vs, .int .i64 N] 33)) _ (fx_re HF.out _) HN.out).mono ?_); rintro e w2 ⟨rfl, HF2⟩; have hk3 := fx_kept HF2 hk2 hne2 hgr; have c2 : w2.cell? ⟨w.heap.size, 2, none⟩ = some (.int .i64 N) := (blk_cell hk3 2).trans rfl; replace HF2 := Aside0.mk HF2) | (go_at_call 73; (with_reducible refine (greatest_calls k g gs cap n s u a la ra _ w0 w1 _ (fx_back HF.out HF2.out) HN2.out).mono ?_); rintro e w3 ⟨rfl, HF3⟩; replace HF3 := Aside0.mk HF3))
  first | exact ⟨rfl, HF3.out⟩ | (go_end0; exact ⟨rfl, HF3.out⟩) | ((try simp only [Exit.inBlock, Exit.then]); refine bodyPost_ret (results_none rfl _ _ _) rfl ?_; exact ⟨rfl, HF3.out⟩)
end Go.Proofs.Ytgfbgfbnmiainaa.Fam
/-! apply, whole: against a Lean function over relations. -/
namespace Go.Proofs.Ytgfbgfbnmiainaa.Fam
set_option linter.unusedVariables false
set_option linter.unusedSimpArgs false
open Go.RowKit Go.Proofs.YtgfbgfbnmiainaaW.PrintWords Go.Proofs.YtgfbgfbnmiainaaW.PrintLast Go.Proofs.YtgfbgfbnmiainaaW.PrintMore Go.Proofs.Ytgfbgfbnmiainaa.Q
/-- A relation that is valid. -/
inductive Rl
  | part (a b : Int) | apart (a b : Int) | union (a b c : Int) | meet (a b c : Int) | minus (a b c : Int) | has (a N : Int) | lacks (a N : Int) | size (a N : Int)
def IsRl (r : S33) : Rl → Prop
  | .part a b => r.f0 = ⟨#[112, 97, 114, 116]⟩ ∧ r.f1 = [a, b]
  | .apart a b => r.f0 = ⟨#[97, 112, 97, 114, 116]⟩ ∧ r.f1 = [a, b]
  | .union a b c => r.f0 = ⟨#[117, 110, 105, 111, 110]⟩ ∧ r.f1 = [a, b, c]
  | .meet a b c => r.f0 = ⟨#[109, 101, 101, 116]⟩ ∧ r.f1 = [a, b, c]
  | .minus a b c => r.f0 = ⟨#[109, 105, 110, 117, 115]⟩ ∧ r.f1 = [a, b, c]
  | .has a N => r.f0 = ⟨#[104, 97, 115]⟩ ∧ r.f1 = [a] ∧ r.f2 = N
  | .lacks a N => r.f0 = ⟨#[108, 97, 99, 107, 115]⟩ ∧ r.f1 = [a] ∧ r.f2 = N
  | .size a N => r.f0 = ⟨#[115, 105, 122, 101]⟩ ∧ r.f1 = [a] ∧ r.f2 = N
def Inb (n : Nat) (a : Int) : Prop := 0 ≤ a ∧ a < n
def Rl.inb (n : Nat) : Rl → Prop
  | .part a b | .apart a b => Inb n a ∧ Inb n b
  | .union a b c | .meet a b c | .minus a b c => Inb n a ∧ Inb n b ∧ Inb n c
  | .has a _ | .lacks a _ | .size a _ => Inb n a
def hasL (k : Nat) (a N : Int) (t : St) : Option St := if 0 ≤ N ∧ N ≤ 63 then putL k a (intoS t.xs a (IntKind.u64.wrap (2 ^ N.toNat))) t else some ⟨t.xs, true, t.moved⟩
def lacksL (k : Nat) (a N : Int) (t : St) : Option St := if 0 ≤ N ∧ N ≤ 63 then putL k a (onlyS t.xs a (Go.bits .xor .u64 (IntKind.max .u64) (IntKind.u64.wrap (2 ^ N.toNat)))) t else some t
def sizeL (k : Nat) (a N : Int) (t : St) : Option St := if 0 ≤ N ∧ N ≤ 64 then (putL k a (leastS t.xs a N) t).bind fun t => putL k a (greatestS t.xs a N) t else some ⟨t.xs, true, t.moved⟩
def applyR (k : Nat) : Rl → St → Option St
  | .part a b => partL k a b
  | .apart a b => apartL k a b
  | .union a b c => unionL k a b c
  | .meet a b c => meetL k a b c
  | .minus a b c => minusL k a b c
  | .has a N => hasL k a N
  | .lacks a N => lacksL k a N
  | .size a N => sizeL k a N
theorem cells_of {w : World} {A : Option Addr} {xs : List Int} (h : (Kd.int .i64).C w A xs.length xs) (h0 : 0 < xs.length) : ∃ ab ao, A = some ⟨ab, ao, none⟩ ∧ w.cell? ⟨ab, ao, none⟩ = some (.int .i64 (rd xs 0)) ∧ ∀ j : Nat, 0 < j → j < xs.length → w.cell? ⟨ab, ao + j, none⟩ = some (.int .i64 (rd xs j)) := by
  obtain ⟨ad, e, hc⟩ := Kd.at_int h 0 (by omega) (by omega)
  have hc0 : w.cell? ad = some (.int .i64 (rd xs 0)) := hc
  obtain ⟨ab, ao, sp⟩ := ad
  cases sp with
  | some s =>
    exfalso
    unfold World.cell? at hc0
    simp only [Option.isSome_some, if_true] at hc0
    split at hc0 <;> simp at hc0
  | none =>
    refine ⟨ab, ao, e, hc0, fun j hj hlt => ?_⟩
    obtain ⟨ad', e', hc'⟩ := Kd.at_int h j (by omega) (by omega)
    rw [e] at e'
    cases e'
    have : (⟨ab, ao, none⟩ : Addr).add (j : Int).toNat = ⟨ab, ao + j, none⟩ := by
      unfold Addr.add
      rw [if_neg (by omega)]
      simp
    rw [this] at hc'
    exact hc'
theorem apply_calls (k g gs cap n : Nat) (t u : St) (r : S33) (q : Rl) (A : Option Addr) (vc : Nat) (w0 w1 w : World) (hC : (Kd.int .i64).C w A r.f1.length r.f1) (hq : IsRl r q) (hi : q.inb n) (hF : Fx w0 w1 w g (.slice (some ⟨gs, 0, none⟩) n cap) t.xs t.fail t.moved) (hn : applyR k q t = some u) :
    Calls Try.prog 38 #[.pointer (some ⟨g, 0, none⟩), .agg #[.string r.f0, .slice A r.f1.length vc, .int .i64 r.f2]] w (FxEnd w0 w1 g (.slice (some ⟨gs, 0, none⟩) n cap) u.xs u.fail u.moved) := by
  obtain ⟨f0, f1, f2⟩ := r
  cases q with
  | part a b =>
    obtain ⟨rfl, rfl⟩ := hq
    obtain ⟨⟨la, ra⟩, lb, rb⟩ := hi
    obtain ⟨ab, ao, rfl, q0, qj⟩ := cells_of hC (by simp)
    exact apply_part k g gs cap n t u ab ao vc a b f2 w0 w1 w la ra lb rb q0 (qj 1 (by omega) (by simp)) hF hn
  | apart a b =>
    obtain ⟨rfl, rfl⟩ := hq
    obtain ⟨⟨la, ra⟩, lb, rb⟩ := hi
    obtain ⟨ab, ao, rfl, q0, qj⟩ := cells_of hC (by simp)
    exact apply_apart k g gs cap n t u ab ao vc a b f2 w0 w1 w la ra lb rb q0 (qj 1 (by omega) (by simp)) hF hn
  | union a b c =>
    obtain ⟨rfl, rfl⟩ := hq
    obtain ⟨⟨la, ra⟩, ⟨lb, rb⟩, lc, rc⟩ := hi
    obtain ⟨ab, ao, rfl, q0, qj⟩ := cells_of hC (by simp)
    exact apply_union k g gs cap n t u ab ao vc a b c f2 w0 w1 w la ra lb rb lc rc q0 (qj 1 (by omega) (by simp)) (qj 2 (by omega) (by simp)) hF hn
  | meet a b c =>
    obtain ⟨rfl, rfl⟩ := hq
    obtain ⟨⟨la, ra⟩, ⟨lb, rb⟩, lc, rc⟩ := hi
    obtain ⟨ab, ao, rfl, q0, qj⟩ := cells_of hC (by simp)
    exact apply_meet k g gs cap n t u ab ao vc a b c f2 w0 w1 w la ra lb rb lc rc q0 (qj 1 (by omega) (by simp)) (qj 2 (by omega) (by simp)) hF hn
  | minus a b c =>
    obtain ⟨rfl, rfl⟩ := hq
    obtain ⟨⟨la, ra⟩, ⟨lb, rb⟩, lc, rc⟩ := hi
    obtain ⟨ab, ao, rfl, q0, qj⟩ := cells_of hC (by simp)
    exact apply_minus k g gs cap n t u ab ao vc a b c f2 w0 w1 w la ra lb rb lc rc q0 (qj 1 (by omega) (by simp)) (qj 2 (by omega) (by simp)) hF hn
  | has a N =>
    obtain ⟨rfl, rfl, rfl⟩ := hq
    obtain ⟨la, ra⟩ := hi
    obtain ⟨ab, ao, rfl, q0, qj⟩ := cells_of hC (by simp)
    refine apply_has g _ t u ab ao vc a _ w0 w1 w q0 hF (fun w' hF' => ?_)
    simp only [applyR, hasL] at hn
    by_cases h : 0 ≤ f2 ∧ f2 ≤ 63
    · rw [if_pos h] at hn
      exact one_has_in k g gs cap n t u _ a _ w0 w1 w' la ra h.1 h.2 hF' hn
    · rw [if_neg h, Option.some.injEq] at hn
      subst hn
      by_cases h2 : f2 < 0
      · exact one_has_lo k g gs cap n t t _ a _ w0 w1 w' la ra h2 hF'
      · exact one_has_hi k g gs cap n t t _ a _ w0 w1 w' la ra (show 63 < f2 by omega) hF'
  | lacks a N =>
    obtain ⟨rfl, rfl, rfl⟩ := hq
    obtain ⟨la, ra⟩ := hi
    obtain ⟨ab, ao, rfl, q0, qj⟩ := cells_of hC (by simp)
    refine apply_lacks g _ t u ab ao vc a _ w0 w1 w q0 hF (fun w' hF' => ?_)
    simp only [applyR, lacksL] at hn
    by_cases h : 0 ≤ f2 ∧ f2 ≤ 63
    · rw [if_pos h] at hn
      exact one_lacks_in k g gs cap n t u _ a _ w0 w1 w' la ra h.1 h.2 hF' hn
    · rw [if_neg h, Option.some.injEq] at hn
      subst hn
      by_cases h2 : f2 < 0
      · exact one_lacks_lo k g gs cap n t t _ a _ w0 w1 w' la ra h2 hF'
      · exact one_lacks_hi k g gs cap n t t _ a _ w0 w1 w' la ra (show 63 < f2 by omega) hF'
  | size a N =>
    obtain ⟨rfl, rfl, rfl⟩ := hq
    obtain ⟨la, ra⟩ := hi
    obtain ⟨ab, ao, rfl, q0, qj⟩ := cells_of hC (by simp)
    refine apply_size g _ t u ab ao vc a _ w0 w1 w q0 hF (fun w' hF' => ?_)
    simp only [applyR, sizeL] at hn
    by_cases h : 0 ≤ f2 ∧ f2 ≤ 64
    · rw [if_pos h] at hn
      obtain ⟨s, hn1, hn2⟩ := Option.bind_eq_some_iff.mp hn
      exact one_size_ok k g gs cap n t u _ a _ w0 w1 w' la ra h.1 h.2 s hF' hn1 hn2
    · rw [if_neg h, Option.some.injEq] at hn
      subst hn
      by_cases h2 : f2 < 0
      · exact one_size_lo k g gs cap n t t _ a _ w0 w1 w' la ra h2 hF'
      · exact one_size_hi k g gs cap n t t _ a _ w0 w1 w' la ra (show 64 < f2 by omega) hF'
end Go.Proofs.Ytgfbgfbnmiainaa.Fam
/-! Fix: the walk, against Lean functions. -/
namespace Go.Proofs.Ytgfbgfbnmiainaa.Fam
set_option linter.unusedVariables false
set_option linter.unusedSimpArgs false
open Go.RowKit Go.Proofs.YtgfbgfbnmiainaaW.PrintWords Go.Proofs.YtgfbgfbnmiainaaW.PrintLast Go.Proofs.YtgfbgfbnmiainaaW.PrintMore Go.Proofs.Ytgfbgfbnmiainaa.Q
attribute [local go_sem] Go.Proofs.YtgfbgfbnmiainaaW.OwnWords.isSome_setCell max2_int min2_int
attribute [local go_sem high] eqA59
def openF (k : Nat) (f : S37) : Option (S59 × Bool) := (family_open.f k f.f0 f.f1 f.f2 f.f3).map fun r => (⟨r.1, r.2.1, r.2.2.1, r.2.2.2.1⟩, r.2.2.2.2)
theorem openF_some {k : Nat} {f : S37} {s : S59 × Bool} (h : openF k f = some s) : family_open.f k f.f0 f.f1 f.f2 f.f3 = some (s.1.f0, s.1.f1, s.1.f2, s.1.f3, s.2) := by
  unfold openF at h
  rw [Option.map_eq_some_iff] at h
  obtain ⟨⟨a, b, c, d, e⟩, h1, rfl⟩ := h
  exact h1
/-- What loop 1 has laid, behind i rounds. -/
def spans (sp : Nat → S59 × Bool) (i : Nat) : List S59 := (List.range i).map fun j => (sp j).1
theorem spans_succ (sp : Nat → S59 × Bool) (i : Nat) : spans sp (i + 1) = spans sp i ++ [(sp i).1] := by simp [spans, List.range_succ]
theorem spans_len (sp : Nat → S59 × Bool) (i : Nat) : (spans sp i).length = i := by simp [spans]
def oks (sp : Nat → S59 × Bool) (b : Bool) (i : Nat) : Bool := b && (List.range i).all fun j => (sp j).2
theorem oks_succ (sp : Nat → S59 × Bool) (b : Bool) (i : Nat) : oks sp b (i + 1) = (oks sp b i && (sp i).2) := by simp [oks, List.range_succ, Bool.and_assoc]
def okr (vr : Nat → Bool) (b : Bool) (i : Nat) : Bool := b && (List.range i).all vr
theorem okr_succ (vr : Nat → Bool) (b : Bool) (i : Nat) : okr vr b (i + 1) = (okr vr b i && vr i) := by simp [okr, List.range_succ, Bool.and_assoc]
def Fz (w w' : World) (v : Value) (xs : List S59) (f m : Bool) : Prop := IsFx w w' w.heap.size v xs f m ∧ Below w.heap.size w w'
/-- Loop 3: each family to its normal form. -/
def initF (k : Nat) : Nat → Nat → St → Option St
  | 0, _, t => some t
  | m + 1, i, t => (putL k i (rd_T59 t.xs i) t).bind (initF k m (i + 1))
/-- Loop 5: the relations, one after the other, till one fails. -/
def passF (k : Nat) (qs : Nat → Rl) : Nat → Nat → St → Option St
  | 0, _, t => some t
  | m + 1, i, t => if t.fail then some t else (applyR k (qs i) t).bind (passF k qs m (i + 1))
/-- Loop 4. -/
def roundF (k : Nat) (qs : Nat → Rl) (n : Nat) : Nat → St → Option St
  | 0, _ => none
  | m + 1, t => if t.moved && !t.fail then (passF k qs n 0 ⟨t.xs, t.fail, false⟩).bind (roundF k qs n m) else some t
def closeF (k : Nat) (s : S59) : Option S37 := (family_span_close.f k s.f0 s.f1 s.f2 s.f3).map fun r => ⟨r.1, r.2.1, r.2.2.1, r.2.2.2⟩
def RelsAre (rels : List S33) (qs : Nat → Rl) (n : Nat) : Prop := ∀ i : Nat, i < rels.length → IsRl (rd_T33 rels i) (qs i) ∧ (qs i).inb n
theorem putL_len {k : Nat} {i : Int} {s : S59} {t u : St} (h : putL k i s t = some u) : u.xs.length = t.xs.length := by
  unfold putL at h
  split at h
  · cases h; rfl
  · rw [Option.map_eq_some_iff] at h
    obtain ⟨r, _, rfl⟩ := h
    split
    · split
      · rfl
      · simp
    · rfl
theorem rl_pos {q : Rl} {n : Nat} (h : q.inb n) : 0 < n := by
  cases q <;> simp only [Rl.inb, Inb] at h <;> omega
theorem len_bind {n : Nat} {a : Option St} {f : St → Option St} {u : St} (h : a.bind f = some u) (ha : ∀ s, a = some s → s.xs.length = n) (hf : ∀ s u, s.xs.length = n → f s = some u → u.xs.length = n) : u.xs.length = n := by
  obtain ⟨s, h1, h2⟩ := Option.bind_eq_some_iff.mp h
  exact hf s u (ha s h1) h2
theorem applyR_len {k n : Nat} {q : Rl} {t u : St} (hn : t.xs.length = n) (h : applyR k q t = some u) : u.xs.length = n := by
  cases q <;> simp only [applyR, partL, apartL, unionL, meetL, minusL, hasL, lacksL, sizeL] at h
  case part | apart | union | meet | minus =>
    repeat (refine len_bind h (fun s hs => (putL_len hs).trans (by assumption)) (fun s u hs h => ?_))
    cases h
    assumption
  case has | lacks =>
    split at h
    · exact (putL_len h).trans hn
    · cases h
      exact hn
  case size =>
    split at h
    · exact len_bind h (fun s hs => (putL_len hs).trans hn) (fun s u hs h => (putL_len h).trans hs)
    · cases h
      exact hn
theorem fz_below {w w1 w2 : World} {v : Value} {xs : List S59} {f m : Bool} (h : Fz w w1 v xs f m) (hb : Below w1.heap.size w1 w2) : Fz w w2 v xs f m := by
  have := fx_below (fx_start h.1 h.2) hb
  exact ⟨this.1, this.2.1⟩
theorem fz_alloc {w w1 : World} {v : Value} {xs : List S59} {f m : Bool} (h : Fz w w1 v xs f m) (o : Obj) : Fz w (w1.alloc o) v xs f m := fz_below h (below_alloc (Below.refl _ _) o)
theorem fz_put0 {w w3 : World} {v v1 : Value} {xs : List S59} {f m : Bool} (h3 : w3.heap[w.heap.size]? = some (.cells #[v, .bool f, .bool m] 56 (0, 0))) (hb : Below w.heap.size w w3) (ho : Kd.R k59 59 w3 w.heap.size (fun k => k ≠ w.heap.size) v1 xs) : Fz w (w3.setCell ⟨w.heap.size, 0, none⟩ v1) v1 xs f m :=
  ⟨⟨blk_put h3 0 v1 rfl, Nat.le_refl _, r59_move ho (fun k hk => ho.1 k hk) (fun k hk => Below.heap_setCell w3 _ _ k (ho.1 k hk))⟩, hb.setCell (Nat.le_refl _) _⟩
theorem fz_put2 {w w1 : World} {v : Value} {xs : List S59} {f m : Bool} (h : Fz w w1 v xs f m) (b : Bool) : Fz w (w1.setCell ⟨w.heap.size, 2, none⟩ (.bool b)) v xs f b :=
  ⟨(fx_put2 (fx_start h.1 h.2) b).1, (fx_put2 (fx_start h.1 h.2) b).2.1⟩
theorem info37' : (Try.prog.info? 37).map (fun i => (i.zero, i.size, i.bytes)) = some (some (.agg #[.slice none 0 0, .slice none 0 0, .int .i64 0, .int .i64 0]), 4, 64) := by kernel_rfl
theorem below_of_grown {w w1 : World} (hg : w.grownBy w1 none) : Below w.heap.size w w1 := ⟨hg.os, hg.tape, hg.output, hg.size, fun i hi => hg.block i hi (by simp)⟩
theorem closeF_some {k : Nat} {s : S59} {o : S37} (h : closeF k s = some o) : family_span_close.f k s.f0 s.f1 s.f2 s.f3 = some (o.f0, o.f1, o.f2, o.f3) := by
  unfold closeF at h
  rw [Option.map_eq_some_iff] at h
  obtain ⟨⟨a, b, c, d⟩, h1, rfl⟩ := h
  exact h1
theorem rint_ok {w : World} {base : Nat} {ok ok' : Nat → Prop} {v : Value} {xs : List Int} (h : (Kd.int .i64).R 3 w base ok v xs) (hok : ∀ k, v.ownBlock = some k → ok' k) : (Kd.int .i64).R 3 w base ok' v xs := by
  obtain ⟨_, inner, ho, hr⟩ := h
  exact ⟨hok, inner, ho, hr.imp_ (fun _ _ hp => hp)⟩
theorem out_set (outs : Nat → S37) (n i : Nat) (h : i < n) : (((List.range i).map outs ++ List.replicate (n - i) z37).set i (outs i)) = (List.range (i + 1)).map outs ++ List.replicate (n - (i + 1)) z37 := by
  obtain ⟨m, rfl⟩ : ∃ m, n = i + 1 + m := ⟨n - (i + 1), by omega⟩
  have e1 : i + 1 + m - i = m + 1 := by omega
  have e2 : i + 1 + m - (i + 1) = m := by omega
  rw [e1, e2, List.replicate_succ, List.range_succ, List.map_append]
  rw [List.set_append_right _ _ (by simp)]
  simp
/-- Element i of the list that is handed back is stored. -/
theorem out_store {w w2 : World} {W0 gb cp n : Nat} {xs : List S37} {o : S37} {v0 v1 : Value} {B : Nat} (h : Kd.R k37 37 w2 w.heap.size (fun k_ => W0 ≤ k_) (.slice (some ⟨gb, 0, none⟩) n cp) xs) (i : Int) (h0 : 0 ≤ i) (h1 : i < n) (hB : w.heap.size ≤ B) (hW : W0 ≤ B) (hg : gb < B)
    {ok0 ok1 : Nat → Prop} (r0 : (Kd.int .i64).R 3 w2 B ok0 v0 o.f0) (r1 : (Kd.int .i64).R 3 w2 B ok1 v1 o.f1) :
    Kd.R k37 37 ((((w2.setCell ⟨gb, i.toNat * 4, none⟩ v0).setCell ⟨gb, i.toNat * 4 + 1, none⟩ v1).setCell ⟨gb, i.toNat * 4 + 2, none⟩ (.int .i64 o.f2)).setCell ⟨gb, i.toNat * 4 + 3, none⟩ (.int .i64 o.f3)) w.heap.size (fun k_ => W0 ≤ k_) (.slice (some ⟨gb, 0, none⟩) n cp) (xs.set i.toNat o) := by
  obtain ⟨c, hl, hM, hc, hf⟩ := Kd.R_elem h z37 i h0 h1
  have hl4 : c.length = 4 := hl
  refine (Kd.R_seg h i h0 h1 (c := c) (seg := [v0, v1, .int .i64 o.f2, .int .i64 o.f3]) (j := 0) hl hc (show 4 ≤ 4 from by decide) (x' := o) (okp := fun k_ => B ≤ k_) ?_ (fun k hk => ⟨Nat.le_trans hW hk, by omega⟩)).1
  have : c.take 0 ++ [v0, v1, .int .i64 o.f2, .int .i64 o.f3] ++ c.drop (0 + [v0, v1, Value.int .i64 o.f2, .int .i64 o.f3].length) = [v0, v1, .int .i64 o.f2, .int .i64 o.f3] := by
    rw [List.drop_of_length_le (by simp; omega)]
    simp
  rw [this]
  exact k37_mkM _ _ _ o (rint_ok (Kd.R_lower r0 hB) (fun k hk => Kd.R_base r0 k hk)) (rint_ok (Kd.R_lower r1 hB) (fun k hk => Kd.R_base r1 k hk))
theorem info59 : (Try.prog.info? 59).map (fun i => (i.zero, i.size, i.bytes)) = some (some (.agg #[.int .u64 0, .int .u64 0, .int .i64 0, .int .i64 0]), 4, 32) := by kernel_rfl
set_option maxHeartbeats 8000000 in
set_option maxRecDepth 100000 in
theorem fix_walk (k : Nat) (sp : Nat → S59 × Bool) (A0 : Option Addr) (c0 : Nat) (rels : List S33) (A1 : Option Addr) (c1 : Nat) (l : List S37) (w : World) (hr0 : Kd.C k33 w A0 rels.length rels) (hc0 : rels.length ≤ c0) (hr1 : Kd.C k37 w A1 l.length l) (hc1 : l.length ≤ c1) (hop : ∀ i : Nat, i < l.length → openF k (rd_T37 l i) = some (sp i)) (hlen : l.length ≤ 17592186044416 / 8) (vr : Nat → Bool) (hvr : ∀ i : Nat, i < rels.length → family_ValidRel.f k (rd_T33 rels i).f0 (rd_T33 rels i).f1 (rd_T33 rels i).f2 l.length = some (vr i)) (hrl : rels.length ≤ 17592186044416) (b2 : Bool) (hb2 : Aside0 (okr vr (oks sp (decide ((l.length : Int) ≤ 40) && decide ((rels.length : Int) ≤ 100)) l.length) rels.length = b2)) (out : List S37) (code : Int)
    (hyes : Aside0 (b2 = true → ∃ (qs : Nat → Rl) (t0 u : St) (m0 : Nat), RelsAre rels qs l.length ∧ initF k l.length 0 ⟨spans sp l.length, false, false⟩ = some t0 ∧ roundF k qs rels.length m0 ⟨t0.xs, t0.fail, true⟩ = some u ∧ (u.fail = true → out = [] ∧ code = 60) ∧ (u.fail = false → code = 0 ∧ ∃ outs : Nat → S37, (∀ i : Nat, i < l.length → closeF k (rd_T59 u.xs i) = some (outs i)) ∧ out = (List.range l.length).map outs)))
    (hno : Aside0 (b2 = false → out = [] ∧ code = 2)) :
    Calls Try.prog 11 #[.slice A0 rels.length c0, .slice A1 l.length c1] w fun e w' => ∃ v, e = .returned (.tuple #[v, .int .i64 code]) ∧ Kd.R k37 37 w' w.heap.size (fun _ => True) v out ∧ Below w.heap.size w w' := by
  have hu33 := Try.underlying33
  have hu37 := Try.underlying37
  have HR0 := Aside0.mk hr0
  have HC0 := Aside0.mk hc0
  have HR1 := Aside0.mk hr1
  have HC1 := Aside0.mk hc1
  clear hr0 hc0 hr1 hc1
  go_enter Try.func11, Try.ntmps11
  go_upto_region 2 with fail
  go_cut [7] from 21 to 28 (fun s7 wx => s7 = .bool (decide ((l.length : Int) ≤ 40) && decide ((rels.length : Int) ≤ 100)) ∧ Fz w wx (.slice none 0 0) [] false false)
  case first =>
    have hB0 := Aside0.mk (show Fz w (w.alloc (.cells #[.slice none 0 0, .bool false, .bool false] 56)) (.slice none 0 0) [] false false from ⟨⟨blk_new w _, Nat.le_refl _, Kd.R_nil _ _ _ _ _⟩, below_alloc (Below.refl _ _) _⟩)
    cases q1 : decide ((l.length : Int) ≤ 40)
    · go_wp2
      go_meet
      exact ⟨by rw [q1]; rfl, hB0.out⟩
    · go_wp2
      go_meet
      exact ⟨by rw [q1]; rfl, hB0.out⟩
  case rest =>
  obtain ⟨rfl, hcut⟩ := hcut
  generalize (decide ((l.length : Int) ≤ 40) && decide ((rels.length : Int) ≤ 100)) = ok0 at hb2 ⊢
  have HZ := Aside0.mk hcut
  clear hcut
  go_upto_region 4 with fail
  go_loopg [7, 31] l.length (fun kq v7 v31 w' => ∃ (i : Nat) (x : Int) (v : Value), v31 = .int .i64 x ∧ Aside0 (x = (i : Int)) ∧ v7 = .bool (oks sp ok0 i) ∧ i + kq = l.length ∧ Aside0 (Fz w w' v (spans sp i) false false))
  case atStart => exact ⟨0, 0, .slice none 0 0, rfl, ⟨rfl⟩, by simp [oks], by simp, HZ⟩
  case round =>
    clear HZ
    obtain ⟨i, x, v, rfl, HX, rfl, hi, HZ⟩ := hrel
    by_cases hlt : i < l.length
    · have d0 : decide (0 ≤ x) = true := decide_eq_true (by have := HX.out; omega)
      have d1 : decide (x < (l.length : Int)) = true := decide_eq_true (by have := HX.out; omega)
      obtain ⟨ad, B0, b0, B1, b1, rfl, x0, x1, x2, x3, m0, M0, m1, M1⟩ := at_T37 HR1.out x (by have := HX.out; omega) (by have := HX.out; omega)
      have hb := HZ.out.2
      replace x0 := (hb.cell (World.block_lt_of_cell? w _ x0)).trans x0
      replace x1 := (hb.cell (World.block_lt_of_cell? w _ x1)).trans x1
      replace x2 := (hb.cell (World.block_lt_of_cell? w _ x2)).trans x2
      replace x3 := (hb.cell (World.block_lt_of_cell? w _ x3)).trans x3
      have hs := Aside0.mk (openF_some (hop i hlt))
      rw [← HX.out] at hs
      have g0 := (blk_cell HZ.out.1.1 0)
      have y0 := blk_frozen HZ.out.1.1 0
      have hsz := blk_lt HZ.out.1.1
      have hN0 := Aside0.mk M0
      have hN1 := Aside0.mk M1
      clear M0 M1 hop hb
      have p0 := eq_true (show 0 ≤ x by have := HX.out; omega)
      have p1 := eq_true (show x < (l.length : Int) by have := HX.out; omega)
      go_upto_region 7 with (first | (go_at_call 36; (refine (family_open.calls k B0 b0 (rd_T37 l x).f0 B1 b1 (rd_T37 l x).f1 (rd_T37 l x).f2 (rd_T37 l x).f3 (sp i).1.f0 (sp i).1.f1 (sp i).1.f2 (sp i).1.f3 (sp i).2 _ (Kd.C_alloc (Kd.C_below hN0.out HZ.out.2) _) m0 (Kd.C_alloc (Kd.C_below hN1.out HZ.out.2) _) m1 hs.out).mono ?_); rintro e w2 ⟨rfl, hb2⟩; have HZ2 := Aside0.mk (fz_below (fz_alloc HZ.out _) hb2); clear hb2))
      have hbx := blk_new w2 (.cells #[.int .u64 (sp i).1.f0, .int .u64 (sp i).1.f1, .int .i64 (sp i).1.f2, .int .i64 (sp i).1.f3] 59)
      have HZ3 := Aside0.mk (And.intro (fz_alloc HZ2.out (.cells #[.int .u64 (sp i).1.f0, .int .u64 (sp i).1.f1, .int .i64 (sp i).1.f2, .int .i64 (sp i).1.f3] 59)) hbx)
      clear HZ HZ2 hs hbx g0 y0 hsz x0 x1 x2 x3
      go_cut [7] from 40 to 43 (fun s7 wx => s7 = .bool (oks sp ok0 i && (sp i).2) ∧ Fz w wx v (spans sp i) false false ∧ wx.heap[w2.heap.size]? = some (.cells #[.int .u64 (sp i).1.f0, .int .u64 (sp i).1.f1, .int .i64 (sp i).1.f2, .int .i64 (sp i).1.f3] 59 (0, 0)))
      case first =>
        cases hk : oks sp ok0 i
        · go_wp2
          go_meet
          exact ⟨by rw [hk]; rfl, HZ3.out⟩
        · go_wp2
          go_meet
          exact ⟨by rw [hk]; rfl, HZ3.out⟩
      case rest =>
      obtain ⟨rfl, hcut, hbx⟩ := hcut
      clear HZ3
      have HZ := Aside0.mk hcut
      have sf0 := (blk_cell hbx 0)
      have sf1 := (blk_cell hbx 1)
      have sf2 := (blk_cell hbx 2)
      have sf3 := (blk_cell hbx 3)
      have g0 := (blk_cell hcut.1.1 0)
      have y0 := blk_frozen hcut.1.1 0
      have hsz := blk_lt hcut.1.1
      have hsz2 := blk_lt hbx
      have hne := Nat.ne_of_lt hsz
      have hne2 := Nat.ne_of_lt hsz2
      simp only [List.getElem?_toArray, List.getElem?_cons_zero, List.getElem?_cons_succ] at sf0 sf1 sf2 sf3 g0
      have LM : Aside0 ((spans sp i).length + 1 ≤ 17592186044416 / 8) := ⟨by rw [spans_len]; omega⟩
      clear hcut hbx
      go_wp2_with (first | (at_builtin; refine Kd.R_append k59 (w0 := w) w.heap.size rfl (.tmp 45) (.tmp 47) 54 59 (.agg #[.int .u64 0, .int .u64 0, .int .i64 0, .int .i64 0]) 32 rfl Try.underlying54 info59 rfl (by decide) (by omega) v (spans sp i) (sp i).1 [.int .u64 (sp i).1.f0, .int .u64 (sp i).1.f1, .int .i64 (sp i).1.f2, .int .i64 (sp i).1.f3] (fun k_ => k_ ≠ w.heap.size) (fun _ => False) rfl rfl (k59_mkM _ _ _ _) (fun _ hk => hk.elim) ?aF ?aO ?aB ?aS ?aL ?_; (case aF => exact fun k_ hk_ => by omega); (case aO => exact HZ.out.1.2.2); (case aB => exact HZ.out.2); (case aS => exact HZ.out.2.size); (case aL => have := LM.out; omega); intro v1 w3 ho hb hg hat; obtain ⟨gb, cp, rfl, hgb⟩ := Kd.R_form ho (by simp); have h3 := (hg.block _ hsz (by intro e_; exact HZ.out.1.2.2.1 _ e_.symm rfl)).trans HZ.out.1.1; have c0 := (blk_cell h3 0); have c1 := (blk_cell h3 1); have c2 := (blk_cell h3 2); have z0 := blk_frozen h3 0; have HW := Aside0.mk (And.intro h3 (And.intro hb ho)); clear h3 hb hg hat ho))
      go_roundg (l.length - (i + 1))
      case measure => omega
      case rel => exact ⟨i + 1, _, _, (by first | rfl | (simp; done)), ⟨by rw [HX.out]; unfold wrap64; omega⟩, by rw [oks_succ], by omega, ⟨by rw [spans_succ]; exact fz_put0 HW.out.1 HW.out.2.1 (by have h_ := HW.out.2.2; simp only [List.length_append, List.length_cons, List.length_nil] at h_; exact h_)⟩⟩
    · obtain rfl : i = l.length := by omega
      have d1 : decide (x < (l.length : Int)) = false := decide_eq_false (by have := HX.out; omega)
      clear hi hlt hop HX
      generalize oks sp ok0 l.length = ok1 at hb2 ⊢
      have hxl := Aside0.mk (spans_len sp l.length)
      generalize spans sp l.length = xs at HZ hxl hyes
      go_upto_region 11 with fail
      clear d1
      go_loopg [7, 53] rels.length (fun kq v7 v53 w' => ∃ (i : Nat) (x : Int), v53 = .int .i64 x ∧ Aside0 (x = (i : Int)) ∧ v7 = .bool (okr vr ok1 i) ∧ i + kq = rels.length ∧ Aside0 (Fz w w' v xs false false))
      case atStart => exact ⟨0, 0, rfl, ⟨rfl⟩, by simp [okr], by simp, HZ⟩
      case round =>
        clear HZ
        obtain ⟨i, x, rfl, HX, rfl, hi, HZ⟩ := hrel
        by_cases hlt : i < rels.length
        · have d0 : decide (0 ≤ x) = true := decide_eq_true (by have := HX.out; omega)
          have d1 : decide (x < (rels.length : Int)) = true := decide_eq_true (by have := HX.out; omega)
          have p0 := eq_true (show 0 ≤ x by have := HX.out; omega)
          have p1 := eq_true (show x < (rels.length : Int) by have := HX.out; omega)
          obtain ⟨ad, B1, b1, rfl, x0, x1, x2, m1, M1⟩ := at_T33 HR0.out x (by have := HX.out; omega) (by have := HX.out; omega)
          have hb := HZ.out.2
          replace x0 := (hb.cell (World.block_lt_of_cell? w _ x0)).trans x0
          replace x1 := (hb.cell (World.block_lt_of_cell? w _ x1)).trans x1
          replace x2 := (hb.cell (World.block_lt_of_cell? w _ x2)).trans x2
          have hs := Aside0.mk (hvr i hlt)
          rw [← HX.out] at hs
          have hN1 := Aside0.mk M1
          clear M1 hvr hb
          go_upto_region 13 with fail
          cases hk : okr vr ok1 i
          · go_wp2_with fail
            go_roundg (rels.length - (i + 1))
            case measure => omega
            case rel => exact ⟨i + 1, _, (by first | rfl | (simp; done)), ⟨by rw [HX.out]; unfold wrap64; omega⟩, by rw [okr_succ, hk]; rfl, by omega, ⟨fz_alloc HZ.out _⟩⟩
          · go_wp2_with (first | (go_at_call 14; (refine (family_ValidRel.calls k (rd_T33 rels x).f0 B1 b1 (rd_T33 rels x).f1 (rd_T33 rels x).f2 l.length (vr i) _ (Kd.C_alloc (Kd.C_below hN1.out HZ.out.2) _) m1 hs.out).mono ?_); rintro e w2 ⟨rfl, hb2⟩; have HZ2 := Aside0.mk (fz_below (fz_alloc HZ.out _) hb2); clear hb2))
            go_roundg (rels.length - (i + 1))
            case measure => omega
            case rel => exact ⟨i + 1, _, (by first | rfl | (simp; done)), ⟨by rw [HX.out]; unfold wrap64; omega⟩, by rw [okr_succ, hk]; rfl, by omega, HZ2⟩
        · obtain rfl : i = rels.length := by omega
          have d1 : decide (x < (rels.length : Int)) = false := decide_eq_false (by have := HX.out; omega)
          clear hi hlt hvr HX
          generalize okr vr ok1 rels.length = ok2 at hb2 ⊢
          have hb2' := hb2.out
          subst hb2'
          cases ok2 with
          | false =>
            go_wp2_with fail
            go_ret2
            obtain ⟨rfl, rfl⟩ := hno.out (by first | rfl | trivial)
            exact ⟨_, rfl, Kd.R_nil _ _ _ _ _, HZ.out.2⟩
          | true =>
            obtain ⟨qs, t0, u, m0, hqs, hinit, hround, hyf, hyo⟩ := hyes.out (by first | rfl | trivial)
            replace hqs := Aside0.mk hqs
            replace hinit := Aside0.mk hinit
            replace hround := Aside0.mk hround
            replace hyf := Aside0.mk hyf
            replace hyo := Aside0.mk hyo
            clear hyes hno
            obtain ⟨vA, vc, rfl, hvr⟩ := Kd.R_reads HZ.out.1.2.2
            have g0 := (blk_cell HZ.out.1.1 0)
            have y0 := blk_frozen HZ.out.1.1 0
            have hsz := blk_lt HZ.out.1.1
            clear hvr
            rw [hxl.out] at g0
            rw [hxl.out] at HZ
            go_upto_region 18 with fail
            clear d1
            go_loopg [70] l.length (fun kq v70 w' => ∃ (i : Nat) (x : Int) (t : St), v70 = .int .i64 x ∧ Aside0 (x = (i : Int)) ∧ i + kq = l.length ∧ Aside0 (initF k kq i t = some t0) ∧ Aside0 (t.xs.length = l.length) ∧ Aside0 (Fz w w' (.slice vA l.length vc) t.xs t.fail t.moved))
            case atStart => exact ⟨0, 0, ⟨xs, false, false⟩, rfl, ⟨rfl⟩, by simp, hinit, hxl, HZ⟩
            case round =>
              clear HZ
              obtain ⟨i, x, t, rfl, HX, hi, HI, HLn, HZ⟩ := hrel
              cases gk with
              | zero =>
                obtain rfl : i = l.length := by omega
                have d1 : decide (x < (l.length : Int)) = false := decide_eq_false (by have := HX.out; omega)
                obtain rfl := Option.some.inj HI.out
                have g0 := (blk_cell HZ.out.1.1 0)
                have g2 := (blk_cell HZ.out.1.1 2)
                have y2 := blk_frozen HZ.out.1.1 2
                clear HI hi HX hinit
                go_upto_region 23 with fail
                clear d1 g0 g2 y0 y2
                replace HZ := Aside0.mk (fz_put2 HZ.out true)
                go_loopg [] m0 (fun kq w' => ∃ (t : St), Aside0 (roundF k qs rels.length kq t = some u) ∧ Aside0 (t.xs.length = l.length) ∧ Aside0 (Fz w w' (.slice vA l.length vc) t.xs t.fail t.moved))
                case atStart => exact ⟨⟨t.xs, t.fail, true⟩, hround, HLn, HZ⟩
                case round =>
                  clear HZ HLn hround
                  obtain ⟨t', HI, HLn, HZ⟩ := hrel
                  cases gk with
                  | zero => exact absurd HI.out (by simp [roundF])
                  | succ m =>
                    have g1 := (blk_cell HZ.out.1.1 1)
                    have g2 := (blk_cell HZ.out.1.1 2)
                    have y1 := blk_frozen HZ.out.1.1 1
                    have y2 := blk_frozen HZ.out.1.1 2
                    have hR := Aside0.mk (show (if t'.moved && !t'.fail then (passF k qs rels.length 0 ⟨t'.xs, t'.fail, false⟩).bind (roundF k qs rels.length m) else some t') = some u from HI.out)
                    clear HI
                    go_upto_region 23 with fail
                    go_cut [88] from 82 to 87 (fun s wx => s = .bool (t'.moved && !t'.fail) ∧ Fz w wx (.slice vA l.length vc) t'.xs t'.fail t'.moved)
                    case first =>
                      cases hm : t'.moved <;> cases hf : t'.fail <;> rw [hm] at g2 <;> rw [hf] at g1
                      all_goals (go_wp2; go_meet; exact ⟨by first | rfl | (rw [hm, hf]; rfl), by first | exact HZ.out | (rw [hm, hf] at HZ; exact HZ.out)⟩)
                    case rest =>
                    obtain ⟨rfl, hcut⟩ := hcut
                    clear HZ g1 g2 y1 y2
                    have HZ := Aside0.mk hcut
                    clear hcut
                    have g1 := (blk_cell HZ.out.1.1 1)
                    have g2 := (blk_cell HZ.out.1.1 2)
                    have y1 := blk_frozen HZ.out.1.1 1
                    have y2 := blk_frozen HZ.out.1.1 2
                    have g0 := (blk_cell HZ.out.1.1 0)
                    have y0 := blk_frozen HZ.out.1.1 0
                    generalize hb : (t'.moved && !t'.fail) = b at hR
                    cases b with
                    | true =>
                      obtain ⟨tp, hp1, hp2⟩ := Option.bind_eq_some_iff.mp (show (passF k qs rels.length 0 ⟨t'.xs, t'.fail, false⟩).bind (roundF k qs rels.length m) = some u from hR.out)
                      have hp1 := Aside0.mk hp1
                      have hp2 := Aside0.mk hp2
                      clear hR hb
                      go_upto_region 26 with fail
                      clear g0 g1 g2 y0 y1 y2
                      replace HZ := Aside0.mk (fz_put2 HZ.out false)
                      go_loopg [92] rels.length (fun kq v92 w' => ∃ (i : Nat) (x : Int) (t : St), v92 = .int .i64 x ∧ Aside0 (x = (i : Int)) ∧ i + kq = rels.length ∧ Aside0 (passF k qs kq i t = some tp) ∧ Aside0 (t.xs.length = l.length) ∧ Aside0 (Fz w w' (.slice vA l.length vc) t.xs t.fail t.moved))
                      case atStart => exact ⟨0, 0, ⟨t'.xs, t'.fail, false⟩, rfl, ⟨rfl⟩, by simp, hp1, HLn, HZ⟩
                      case round =>
                        clear HZ HLn hp1
                        obtain ⟨i, x, t, rfl, HX, hi, HI, HLn, HZ⟩ := hrel
                        cases gk with
                        | zero =>
                          obtain rfl : i = rels.length := by omega
                          have d1 : decide (x < (rels.length : Int)) = false := decide_eq_false (by have := HX.out; omega)
                          obtain rfl := Option.some.inj HI.out
                          go_wp2_with fail
                          go_roundg m
                          case measure => omega
                          case rel => exact ⟨_, hp2, HLn, HZ⟩
                        | succ m5 =>
                          have hlt : i < rels.length := by omega
                          have d0 : decide (0 ≤ x) = true := decide_eq_true (by have := HX.out; omega)
                          have d1 : decide (x < (rels.length : Int)) = true := decide_eq_true (by have := HX.out; omega)
                          have p0 := eq_true (show 0 ≤ x by have := HX.out; omega)
                          have p1 := eq_true (show x < (rels.length : Int) by have := HX.out; omega)
                          obtain ⟨ad, B1, b1, rfl, x0, x1, x2, m1, M1⟩ := at_T33 HR0.out x (by have := HX.out; omega) (by have := HX.out; omega)
                          have hb := HZ.out.2
                          replace x0 := (hb.cell (World.block_lt_of_cell? w _ x0)).trans x0
                          replace x1 := (hb.cell (World.block_lt_of_cell? w _ x1)).trans x1
                          replace x2 := (hb.cell (World.block_lt_of_cell? w _ x2)).trans x2
                          have hN1 := Aside0.mk M1
                          have g1 := (blk_cell HZ.out.1.1 1)
                          have y1 := blk_frozen HZ.out.1.1 1
                          have hsz := blk_lt HZ.out.1.1
                          have hsn : w.heap.size ≠ wr.heap.size := by omega
                          clear M1 hb
                          cases hf : t.fail with
                          | true =>
                            rw [hf] at g1
                            have hI := HI.out
                            simp only [passF, hf, if_true, Option.some.injEq] at hI
                            subst hI
                            go_wp2_with fail
                            go_roundg m
                            case measure => omega
                            case rel => exact ⟨_, hp2, HLn, ⟨fz_alloc HZ.out _⟩⟩
                          | false =>
                            rw [hf] at g1
                            have hI := HI.out
                            simp only [passF, hf, Bool.false_eq_true, if_false] at hI
                            obtain ⟨t1, h1, h2⟩ := Option.bind_eq_some_iff.mp hI
                            have h1 := Aside0.mk h1
                            have h2 := Aside0.mk h2
                            clear hI HI
                            have hq := hqs.out i hlt
                            rw [← HX.out] at hq
                            have hq := Aside0.mk hq
                            obtain ⟨gs, cap, hv, _⟩ := Kd.R_form HZ.out.1.2.2 (by have := HLn.out; have := rl_pos hq.out.2; omega)
                            injection hv with hv1 hv2 hv3
                            subst hv1
                            clear hv2 hv3
                            go_wp2_with (first | (go_at_call 38; (refine (apply_calls k w.heap.size gs vc l.length t t1 (rd_T33 rels x) (qs i) B1 b1 w wr _ (Kd.C_alloc (Kd.C_below hN1.out HZ.out.2) _) hq.out.1 hq.out.2 (fx_alloc (fx_start HZ.out.1 HZ.out.2) _) h1.out).mono ?_); rintro e w2 ⟨rfl, HF⟩; replace HF := Aside0.mk HF))
                            go_roundg m5
                            case measure => omega
                            case rel => exact ⟨i + 1, _, t1, (by first | rfl | (simp; done)), ⟨by rw [HX.out]; unfold wrap64; omega⟩, by omega, h2, ⟨applyR_len HLn.out h1.out⟩, ⟨⟨HF.out.1, HF.out.2.1⟩⟩⟩
                    | false =>
                      have hu := Option.some.inj hR.out
                      clear hR
                      subst hu
                      clear hb g2 y2
                      cases hf : t'.fail with
                      | true =>
                        rw [hf] at g1
                        obtain ⟨rfl, rfl⟩ := hyf.out hf
                        go_wp2_with fail
                        go_ret2
                        exact ⟨_, rfl, Kd.R_nil _ _ _ _ _, HZ.out.2⟩
                      | false =>
                        rw [hf] at g1
                        obtain ⟨rfl, outs, hout, rfl⟩ := hyo.out hf
                        replace hout := Aside0.mk hout
                        clear hyo hyf
                        have hsz := blk_lt HZ.out.1.1
                        have HX0 := Aside0.mk (fx_start HZ.out.1 HZ.out.2)
                        rw [hf] at HX0
                        go_upto_region 34 with (first | ((with_reducible refine gate_dst (N := 105) rfl ?_); refine Kd.R_make k37 (w0 := w) w.heap.size 37 rfl rfl 23 (.tmp 104) (.tmp 104) rfl (l.length : Int) rfl rfl Try.underlying23 (.agg #[.slice none 0 0, .slice none 0 0, .int .i64 0, .int .i64 0]) 64 info37' rfl (by decide) (by omega) z37 (ok := fun k_ => wc.heap.size ≤ k_) (okp := fun _ => False) (k37_mkM _ _ _ z37 (Kd.R_nil _ _ _ _ _) (Kd.R_nil _ _ _ _ _)) (fun _ hk => hk.elim) (Nat.le_refl _) (by omega) (by simp; omega) HZ.out.2 HZ.out.2.size ?_; intro v1 w3 ho hb hg hat; have HO := Aside0.mk ho; have HF := Aside0.mk (fx_below HX0.out (below_of_grown hg)); clear ho hb hg hat))
                        have hgw := HX0.out.2.2.2.1
                        clear g0 y0 g1 y1
                        have g0 := (blk_cell HF.out.1.1 0)
                        have y0 := blk_frozen HF.out.1.1 0
                        go_upto_region 35 with fail
                        clear g0 y0
                        have hout0 := Aside0.mk (show Kd.R k37 37 w3 w.heap.size (fun k_ => wc.heap.size ≤ k_) v1 ((List.range 0).map outs ++ List.replicate (l.length - 0) z37) by simpa using HO.out)
                        clear HO HX0
                        go_loopg [109] l.length (fun kq v109 w' => ∃ (i : Nat) (x : Int), v109 = .int .i64 x ∧ Aside0 (x = (i : Int)) ∧ i + kq = l.length ∧ Aside0 (Fx w wc w' w.heap.size (.slice vA l.length vc) t'.xs false t'.moved) ∧ Aside0 (Kd.R k37 37 w' w.heap.size (fun k_ => wc.heap.size ≤ k_) v1 ((List.range i).map outs ++ List.replicate (l.length - i) z37)))
                        case atStart => exact ⟨0, 0, rfl, ⟨rfl⟩, by simp, HF, hout0⟩
                        case round =>
                          clear hout0 HF HZ
                          obtain ⟨i, x, rfl, HX, hi, HF, HO⟩ := hrel
                          by_cases hlt : i < l.length
                          · have d0 : decide (0 ≤ x) = true := decide_eq_true (by have := HX.out; omega)
                            have d1 : decide (x < (l.length : Int)) = true := decide_eq_true (by have := HX.out; omega)
                            have p0 := eq_true (show 0 ≤ x by have := HX.out; omega)
                            have p1 := eq_true (show x < (l.length : Int) by have := HX.out; omega)
                            have hcl := closeF_some (hout.out i hlt)
                            rw [← HX.out] at hcl
                            have hcl := Aside0.mk hcl
                            obtain ⟨gs, cap, hv, _⟩ := Kd.R_form HF.out.1.2.2 (by have := HLn.out; omega)
                            injection hv with hv1 hv2 hv3
                            subst hv1
                            clear hv2 hv3
                            have hLL : ((List.range i).map outs ++ List.replicate (l.length - i) z37).length = l.length := by simp; omega
                            obtain ⟨gb, cp, hv, hgb⟩ := Kd.R_form HO.out (by rw [hLL]; omega)
                            rw [hLL] at hv
                            subst hv
                            have hgw := Aside0.mk (HO.out.1 gb (by simp [Value.ownBlock]))
                            obtain ⟨e0, e1, e2, e3, f0, f1, f2, f3⟩ := fx_elem HF.out x (by have := HX.out; omega) (by have := HX.out; omega)
                            clear f0 f1 f2 f3 hLL hgb
                            have hgl := Kd.R_lt HO.out gb (by simp [Value.ownBlock])
                            go_upto_region 38 with (first | (go_at_call 39; (refine (family_span_close.calls k (rd_T59 t'.xs x).f0 (rd_T59 t'.xs x).f1 (rd_T59 t'.xs x).f2 (rd_T59 t'.xs x).f3 (outs i).f0 (outs i).f1 (outs i).f2 (outs i).f3 _ hcl.out).mono ?_); rintro e w2 ⟨v0, v1, rfl, hr0, hr1, hb2⟩; obtain ⟨a0, n0, rfl⟩ := Kd.R_slice hr0; obtain ⟨a1, n1, rfl⟩ := Kd.R_slice hr1; have HF2 := Aside0.mk (fx_below (fx_alloc HF.out (.cells #[.int .u64 (rd_T59 t'.xs x).f0, .int .u64 (rd_T59 t'.xs x).f1, .int .i64 (rd_T59 t'.xs x).f2, .int .i64 (rd_T59 t'.xs x).f3] 59)) hb2); have HO2 := Aside0.mk (Kd.R_below (Kd.R_below HO.out (below_alloc (Below.refl _ _) (.cells #[.int .u64 (rd_T59 t'.xs x).f0, .int .u64 (rd_T59 t'.xs x).f1, .int .i64 (rd_T59 t'.xs x).f2, .int .i64 (rd_T59 t'.xs x).f3] 59))) hb2); have HR0' := Aside0.mk hr0; have HR1' := Aside0.mk hr1; obtain ⟨cc, hl_, hM_, hc_, hf_⟩ := Kd.R_elem HO2.out z37 x (by have := HX.out; omega) (by have := HX.out; omega); obtain ⟨u0, u1, rfl, _, _⟩ := k37_openM hM_; have b0 : w2.cell? ⟨gb, x.toNat * 4, none⟩ = some u0 := hc_ 0 _ rfl; have b1 : w2.cell? ⟨gb, x.toNat * 4 + 1, none⟩ = some u1 := hc_ 1 _ rfl; have b2 := hc_ 2 _ rfl; have b3 := hc_ 3 _ rfl; have q0 : w2.frozen? ⟨gb, x.toNat * 4, none⟩ = false := hf_ 0; have q1 : w2.frozen? ⟨gb, x.toNat * 4 + 1, none⟩ = false := hf_ 1; have q2 : w2.frozen? ⟨gb, x.toNat * 4 + 2, none⟩ = false := hf_ 2; have q3 : w2.frozen? ⟨gb, x.toNat * 4 + 3, none⟩ = false := hf_ 3; replace b2 : w2.cell? ⟨gb, x.toNat * 4 + 2, none⟩ = some _ := b2; replace b3 : w2.cell? ⟨gb, x.toNat * 4 + 3, none⟩ = some _ := b3; clear hr0 hr1 hb2 hc_ hf_ hM_ hl_))
                            go_wp2_with fail
                            go_roundg (l.length - (i + 1))
                            case measure => omega
                            case rel => exact ⟨i + 1, _, (by first | rfl | (simp; done)), ⟨by rw [HX.out]; unfold wrap64; omega⟩, by omega, ⟨fx_far (fx_far (fx_far (fx_far HF2.out hgw.out _) hgw.out _) hgw.out _) hgw.out _⟩, ⟨by
                              have h_ := out_store HO2.out x (by have := HX.out; omega) (by have := HX.out; omega) (B := (wr.alloc (.cells #[.int .u64 (rd_T59 t'.xs x).f0, .int .u64 (rd_T59 t'.xs x).f1, .int .i64 (rd_T59 t'.xs x).f2, .int .i64 (rd_T59 t'.xs x).f3] 59)).heap.size) (Nat.le_trans HF.out.2.1.size (Nat.le_trans (Nat.le_refl _) (below_alloc (Below.refl wr.heap.size wr) (.cells #[.int .u64 (rd_T59 t'.xs x).f0, .int .u64 (rd_T59 t'.xs x).f1, .int .i64 (rd_T59 t'.xs x).f2, .int .i64 (rd_T59 t'.xs x).f3] 59)).size)) (Nat.le_trans HF.out.2.2.1.1 (below_alloc (Below.refl wr.heap.size wr) (.cells #[.int .u64 (rd_T59 t'.xs x).f0, .int .u64 (rd_T59 t'.xs x).f1, .int .i64 (rd_T59 t'.xs x).f2, .int .i64 (rd_T59 t'.xs x).f3] 59)).size) (Nat.lt_of_lt_of_le hgl (below_alloc (Below.refl wr.heap.size wr) (.cells #[.int .u64 (rd_T59 t'.xs x).f0, .int .u64 (rd_T59 t'.xs x).f1, .int .i64 (rd_T59 t'.xs x).f2, .int .i64 (rd_T59 t'.xs x).f3] 59)).size) HR0'.out HR1'.out
                              have hx : x.toNat = i := by have := HX.out; omega
                              have h2_ := out_set outs l.length i hlt
                              rw [← h2_]
                              rw [hx] at h_ ⊢
                              exact h_⟩⟩
                          · obtain rfl : i = l.length := by omega
                            have d1 : decide (x < (l.length : Int)) = false := decide_eq_false (by have := HX.out; omega)
                            go_wp2_with fail
                            go_ret2
                            exact ⟨v1, rfl, Kd.R_mono (by simpa using HO.out) (fun _ _ => trivial), HF.out.2.1⟩
              | succ m =>
                have hlt : i < l.length := by omega
                have d1 : decide (x < (l.length : Int)) = true := decide_eq_true (by have := HX.out; omega)
                have d0 : decide (0 ≤ x) = true := decide_eq_true (by have := HX.out; omega)
                have p0 := eq_true (show 0 ≤ x by have := HX.out; omega)
                have p1 := eq_true (show x < (l.length : Int) by have := HX.out; omega)
                obtain ⟨t1, h1, h2⟩ := Option.bind_eq_some_iff.mp HI.out
                rw [← HX.out] at h1
                have h1 := Aside0.mk h1
                have h2 := Aside0.mk h2
                clear HI
                obtain ⟨gs, cap, hv, _⟩ := Kd.R_form HZ.out.1.2.2 (by have := HLn.out; omega)
                injection hv with hv1 hv2 hv3
                subst hv1
                obtain ⟨e0, e1, e2, e3, f0, f1, f2, f3⟩ := fx_elem (fx_start HZ.out.1 HZ.out.2) x (by have := HX.out; omega) (by have := HX.out; omega)
                clear hv2 hv3 f0 f1 f2 f3 g0 y0 hsz
                have g0 := (blk_cell HZ.out.1.1 0)
                have y0 := blk_frozen HZ.out.1.1 0
                have hsz := blk_lt HZ.out.1.1
                go_wp2_with (first | (go_at_call 37; (refine (put_calls k w.heap.size gs vc l.length t t1 x (by have := HX.out; omega) (by have := HX.out; omega) (rd_T59 t.xs x) w wr _ (fx_start HZ.out.1 HZ.out.2) h1.out).mono ?_); rintro e w2 ⟨rfl, HF⟩; replace HF := Aside0.mk HF))
                go_roundg m
                case measure => omega
                case rel => exact ⟨i + 1, _, t1, (by first | rfl | (simp; done)), ⟨by rw [HX.out]; unfold wrap64; omega⟩, by omega, h2, ⟨(putL_len h1.out).trans HLn.out⟩, ⟨⟨HF.out.1, HF.out.2.1⟩⟩⟩
end Go.Proofs.Ytgfbgfbnmiainaa.Fam
/-! Families ordered by how much is known; normal forms. -/
namespace Go.Proofs.Ytgfbgfbnmiainaa.Fam
set_option linter.unusedVariables false
set_option linter.unusedSimpArgs false
open Go.RowKit Go.Proofs.YtgfbgfbnmiainaaW.PrintWords Go.Proofs.YtgfbgfbnmiainaaW.PrintLast Go.Proofs.YtgfbgfbnmiainaaW.PrintMore Go.Proofs.Ytgfbgfbnmiainaa.Q
/-- Whether a word has bit i. -/
def bt (v : Int) (i : Nat) : Bool := v.toNat.testBit i
def Wd (v : Int) : Prop := 0 ≤ v ∧ v < 18446744073709551616
theorem wd_nat {v : Int} (h : Wd v) : ∃ n : Nat, v = (n : Int) ∧ n < 18446744073709551616 := ⟨v.toNat, by have := h.1; omega, by have := h.1; have := h.2; omega⟩
theorem ofInt_bt {v : Int} (h : Wd v) (i : Nat) : (BitVec.ofInt 64 v).getLsbD i = bt v i := by
  obtain ⟨n, rfl, hn⟩ := wd_nat h
  rw [BitVec.ofInt_natCast, ← BitVec.testBit_toNat, BitVec.toNat_ofNat, Nat.mod_eq_of_lt hn]
  rfl
theorem wrap_bv (x : BitVec 64) : IntKind.u64.wrap ((x.toNat : Nat) : Int) = ((x.toNat : Nat) : Int) := wrap_u _ x.isLt
theorem bt_bv (x : BitVec 64) (i : Nat) : bt ((x.toNat : Nat) : Int) i = x.getLsbD i := by
  unfold bt
  rw [Int.toNat_natCast, BitVec.testBit_toNat]
theorem wd_bv (x : BitVec 64) : Wd ((x.toNat : Nat) : Int) := ⟨by omega, by have := x.isLt; omega⟩
theorem or_bv (a b : Int) : Go.bits .or .u64 a b = (((BitVec.ofInt 64 a ||| BitVec.ofInt 64 b).toNat : Nat) : Int) := wrap_bv _
theorem and_bv (a b : Int) : Go.bits .and .u64 a b = (((BitVec.ofInt 64 a &&& BitVec.ofInt 64 b).toNat : Nat) : Int) := wrap_bv _
theorem xor_bv (a b : Int) : Go.bits .xor .u64 a b = (((BitVec.ofInt 64 a ^^^ BitVec.ofInt 64 b).toNat : Nat) : Int) := wrap_bv _
theorem andNot_bv (a b : Int) : Go.bits .andNot .u64 a b = (((BitVec.ofInt 64 a &&& ~~~ BitVec.ofInt 64 b).toNat : Nat) : Int) := wrap_bv _
theorem wd_or (a b : Int) : Wd (Go.bits .or .u64 a b) := by rw [or_bv]; exact wd_bv _
theorem wd_and (a b : Int) : Wd (Go.bits .and .u64 a b) := by rw [and_bv]; exact wd_bv _
theorem wd_xor (a b : Int) : Wd (Go.bits .xor .u64 a b) := by rw [xor_bv]; exact wd_bv _
theorem wd_andNot (a b : Int) : Wd (Go.bits .andNot .u64 a b) := by rw [andNot_bv]; exact wd_bv _
theorem bt_or {a b : Int} (ha : Wd a) (hb : Wd b) (i : Nat) : bt (Go.bits .or .u64 a b) i = (bt a i || bt b i) := by
  rw [or_bv, bt_bv, BitVec.getLsbD_or, ofInt_bt ha, ofInt_bt hb]
theorem bt_and {a b : Int} (ha : Wd a) (hb : Wd b) (i : Nat) : bt (Go.bits .and .u64 a b) i = (bt a i && bt b i) := by
  rw [and_bv, bt_bv, BitVec.getLsbD_and, ofInt_bt ha, ofInt_bt hb]
theorem bt_andNot {a b : Int} (ha : Wd a) (hb : Wd b) (i : Nat) (hi : i < 64) : bt (Go.bits .andNot .u64 a b) i = (bt a i && !bt b i) := by
  rw [andNot_bv, bt_bv, BitVec.getLsbD_and, BitVec.getLsbD_not, ofInt_bt ha, ofInt_bt hb]
  simp [hi]
theorem wd_max : Wd (IntKind.max .u64) := by constructor <;> decide
theorem bt_max (i : Nat) (hi : i < 64) : bt (IntKind.max .u64) i = true := by
  have : (IntKind.max .u64) = (((2 ^ 64 - 1 : Nat)) : Int) := by decide
  rw [this]
  unfold bt
  rw [Int.toNat_natCast, Nat.testBit_two_pow_sub_one]
  simp [hi]
theorem bt_not {a : Int} (ha : Wd a) (i : Nat) (hi : i < 64) : bt (Go.bits .xor .u64 (IntKind.max .u64) a) i = !bt a i := by
  rw [xor_bv, bt_bv, BitVec.getLsbD_xor, ofInt_bt ha, ofInt_bt wd_max, bt_max i hi]
  simp
theorem bt_out {a : Int} (ha : Wd a) (i : Nat) (hi : ¬ i < 64) : bt a i = false := by
  obtain ⟨n, rfl, hn⟩ := wd_nat ha
  unfold bt
  rw [Int.toNat_natCast]
  refine Nat.testBit_lt_two_pow (Nat.lt_of_lt_of_le hn ?_)
  have : 2 ^ 64 ≤ 2 ^ i := Nat.pow_le_pow_right (by decide) (by omega)
  exact this
/-- Words with the same bits are the same. -/
theorem wd_ext {a b : Int} (ha : Wd a) (hb : Wd b) (h : ∀ i, i < 64 → bt a i = bt b i) : a = b := by
  obtain ⟨n, rfl, hn⟩ := wd_nat ha
  obtain ⟨m, rfl, hm⟩ := wd_nat hb
  have : n = m := by
    apply Nat.eq_of_testBit_eq
    intro i
    by_cases hi : i < 64
    · have := h i hi
      simpa [bt] using this
    · have h1 := bt_out ha i hi
      have h2 := bt_out hb i hi
      unfold bt at h1 h2
      rw [Int.toNat_natCast] at h1 h2
      rw [h1, h2]
  rw [this]
def sub (a b : Int) : Prop := ∀ i, i < 64 → bt a i = true → bt b i = true
theorem sub_refl (a : Int) : sub a a := fun _ _ h => h
theorem sub_trans {a b c : Int} (h1 : sub a b) (h2 : sub b c) : sub a c := fun i hi h => h2 i hi (h1 i hi h)
theorem sub_anti {a b : Int} (ha : Wd a) (hb : Wd b) (h1 : sub a b) (h2 : sub b a) : a = b :=
  wd_ext ha hb (fun i hi => by
    have p := h1 i hi; have q := h2 i hi
    cases e1 : bt a i <;> cases e2 : bt b i <;> simp_all)
theorem andNot_zero {a b : Int} (ha : Wd a) (hb : Wd b) : Go.bits .andNot .u64 a b = 0 ↔ sub a b := by
  constructor
  · intro h i hi h1
    have := bt_andNot ha hb i hi
    rw [h, h1] at this
    cases e : bt b i with
    | true => rfl
    | false => rw [e] at this; simp [bt] at this
  · intro h
    refine wd_ext (wd_andNot a b) ⟨by omega, by omega⟩ (fun i hi => ?_)
    rw [bt_andNot ha hb i hi]
    have := h i hi
    have z : bt 0 i = false := by simp [bt]
    rw [z]
    cases e1 : bt a i <;> cases e2 : bt b i <;> simp_all
/-- How many bits a word has. -/
def card (v : Int) : Int := ((cnt 64 v.toNat : Nat) : Int)
theorem cnt_mono : ∀ n x y, (∀ i, i < n → x.testBit i = true → y.testBit i = true) → cnt n x ≤ cnt n y ∧ (cnt n x = cnt n y → ∀ i, i < n → x.testBit i = y.testBit i)
  | 0, _, _, _ => ⟨Nat.le_refl _, fun _ i hi => absurd hi (by omega)⟩
  | n + 1, x, y, h => by
    obtain ⟨h1, h2⟩ := cnt_mono n (x / 2) (y / 2) (fun i hi hx => by
      have := h (i + 1) (by omega)
      rw [Nat.testBit_succ, Nat.testBit_succ] at this
      exact this hx)
    have h0 := h 0 (by omega)
    rw [Nat.testBit_zero, Nat.testBit_zero] at h0
    simp only [decide_eq_true_eq] at h0
    simp only [cnt]
    refine ⟨by omega, fun e i hi => ?_⟩
    have e2 : cnt n (x / 2) = cnt n (y / 2) := by omega
    have e1 : x % 2 = y % 2 := by omega
    cases i with
    | zero => rw [Nat.testBit_zero, Nat.testBit_zero, e1]
    | succ i => rw [Nat.testBit_succ, Nat.testBit_succ]; exact h2 e2 i (by omega)
theorem card_mono {a b : Int} (h : sub a b) : card a ≤ card b := by
  have := (cnt_mono 64 a.toNat b.toNat h).1
  unfold card
  omega
theorem card_eq {a b : Int} (ha : Wd a) (hb : Wd b) (h : sub a b) (he : card a = card b) : a = b :=
  wd_ext ha hb ((cnt_mono 64 a.toNat b.toNat h).2 (by unfold card at he; omega))
theorem card_le (a : Int) : 0 ≤ card a ∧ card a ≤ 64 := by
  have := cnt_le 64 a.toNat
  unfold card
  omega
theorem ones_i {v : Int} (h : Wd v) : bits_OnesCount64.f v = some (card v) := by
  obtain ⟨n, rfl, hn⟩ := wd_nat h
  rw [ones n hn]
  rfl
theorem sizeR_i {v : Int} (h : Wd v) {k : Nat} (hk : 64 < k) : manystrandref07_size.f k v = some (card v) := by
  obtain ⟨n, rfl, hn⟩ := wd_nat h
  rw [sizeR n hn hk]
  rfl
/-- At least as much is known by p as by s. -/
structure Le (s p : S59) : Prop where
  lo : sub s.f0 p.f0
  hi : sub p.f1 s.f1
  mn : s.f2 ≤ p.f2
  mx : p.f3 ≤ s.f3
theorem Le.refl (s : S59) : Le s s := ⟨sub_refl _, sub_refl _, Int.le_refl _, Int.le_refl _⟩
theorem Le.trans {a b c : S59} (h : Le a b) (g : Le b c) : Le a c := ⟨sub_trans h.lo g.lo, sub_trans g.hi h.hi, Int.le_trans h.mn g.mn, Int.le_trans g.mx h.mx⟩
/-- Words. -/
def Ws (s : S59) : Prop := Wd s.f0 ∧ Wd s.f1
theorem Le.anti {a b : S59} (ha : Ws a) (hb : Ws b) (h : Le a b) (g : Le b a) : a = b := by
  have h0 := sub_anti ha.1 hb.1 h.lo g.lo
  have h1 := sub_anti ha.2 hb.2 g.hi h.hi
  have h2 := Int.le_antisymm h.mn g.mn
  have h3 := Int.le_antisymm g.mx h.mx
  obtain ⟨a0, a1, a2, a3⟩ := a
  obtain ⟨b0, b1, b2, b3⟩ := b
  simp only at h0 h1 h2 h3
  rw [h0, h1, h2, h3]
open Classical in
/-- The normal form. -/
noncomputable def nrm (s : S59) : Option S59 :=
  if sub s.f0 s.f1 ∧ mx s.f2 (card s.f0) ≤ mn s.f3 (card s.f1) then
    (if mx s.f2 (card s.f0) = card s.f1 then some ⟨s.f1, s.f1, mx s.f2 (card s.f0), mn s.f3 (card s.f1)⟩
     else if mn s.f3 (card s.f1) = card s.f0 then some ⟨s.f0, s.f0, mx s.f2 (card s.f0), mn s.f3 (card s.f1)⟩
     else some ⟨s.f0, s.f1, mx s.f2 (card s.f0), mn s.f3 (card s.f1)⟩)
  else none
/-- A normal form. -/
structure Nm (s : S59) : Prop where
  wf : Ws s
  in_ : sub s.f0 s.f1
  c0 : card s.f0 ≤ s.f2
  c1 : s.f2 ≤ s.f3
  c2 : s.f3 ≤ card s.f1
  e0 : s.f2 = card s.f1 → s.f0 = s.f1
  e1 : s.f3 = card s.f0 → s.f0 = s.f1
theorem mx_def (a b : Int) : mx a b = if a < b then b else a := rfl
theorem mn_def (a b : Int) : mn a b = if b < a then b else a := rfl
theorem mx_facts (a b : Int) : a ≤ mx a b ∧ b ≤ mx a b ∧ (mx a b = a ∨ mx a b = b) := by rw [mx_def]; split <;> omega
theorem mn_facts (a b : Int) : mn a b ≤ a ∧ mn a b ≤ b ∧ (mn a b = a ∨ mn a b = b) := by rw [mn_def]; split <;> omega
theorem nrm_spec {s : S59} (hs : Ws s) : (∀ t, nrm s = some t → Nm t ∧ Le s t) ∧ (∀ p, Nm p → Le s p → ∃ t, nrm s = some t ∧ Le t p) := by
  constructor
  · intro t h
    unfold nrm at h
    obtain ⟨f0, f1, f2, f3⟩ := s
    simp only at h
    obtain ⟨x1, x2, _⟩ := mx_facts f2 (card f0)
    obtain ⟨y1, y2, _⟩ := mn_facts f3 (card f1)
    generalize mx f2 (card f0) = m at *
    generalize mn f3 (card f1) = M at *
    split at h
    · rename_i hc
      obtain ⟨h0, h1⟩ := hc
      have hm := card_mono h0
      split at h
      · rename_i e
        cases h
        exact ⟨⟨⟨hs.2, hs.2⟩, sub_refl _, Int.le_of_eq e.symm, h1, y2, fun _ => rfl, fun _ => rfl⟩, ⟨h0, sub_refl _, x1, y1⟩⟩
      · split at h
        · rename_i e1 e
          cases h
          exact ⟨⟨⟨hs.1, hs.1⟩, sub_refl _, x2, h1, Int.le_of_eq e, fun _ => rfl, fun _ => rfl⟩, ⟨sub_refl _, h0, x1, y1⟩⟩
        · rename_i e1 e
          cases h
          exact ⟨⟨⟨hs.1, hs.2⟩, h0, x2, h1, y2, fun e' => absurd e' e1, fun e' => absurd e' e⟩, ⟨sub_refl _, sub_refl _, x1, y1⟩⟩
    · cases h
  · intro p hp hl
    have h0 : sub s.f0 s.f1 := sub_trans hl.lo (sub_trans hp.in_ hl.hi)
    have k0 := card_mono hl.lo
    have k1 := card_mono hl.hi
    have k2 := card_mono hp.in_
    have a0 := hp.c0; have a1 := hp.c1; have a2 := hp.c2; have b0 := hl.mn; have b1 := hl.mx
    have m0 : mx s.f2 (card s.f0) ≤ p.f2 := by
      obtain ⟨_, _, h | h⟩ := mx_facts s.f2 (card s.f0) <;> rw [h] <;> omega
    have m1 : p.f3 ≤ mn s.f3 (card s.f1) := by
      obtain ⟨_, _, h | h⟩ := mn_facts s.f3 (card s.f1) <;> rw [h] <;> omega
    have x2 := (mx_facts s.f2 (card s.f0)).2.1
    have y2 := (mn_facts s.f3 (card s.f1)).2.1
    unfold nrm
    generalize mx s.f2 (card s.f0) = m at *
    generalize mn s.f3 (card s.f1) = M at *
    rw [if_pos ⟨h0, by omega⟩]
    split
    · rename_i e
      have e1 : card p.f1 = card s.f1 := by omega
      have e2 := card_eq hp.wf.2 hs.2 hl.hi e1
      have e3 := hp.e0 (by omega)
      exact ⟨_, rfl, ⟨by rw [e3, e2]; exact sub_refl _, hl.hi, m0, m1⟩⟩
    · split
      · rename_i _ e
        have e1 : card s.f0 = card p.f0 := by omega
        have e2 := card_eq hs.1 hp.wf.1 hl.lo e1
        have e3 := hp.e1 (by omega)
        exact ⟨_, rfl, ⟨hl.lo, by rw [← e3, ← e2]; exact sub_refl _, m0, m1⟩⟩
      · exact ⟨_, rfl, ⟨hl.lo, hl.hi, m0, m1⟩⟩
theorem nrm_nm {s : S59} (h : Nm s) : nrm s = some s := by
  obtain ⟨t, h1, h2⟩ := (nrm_spec h.wf).2 s h (Le.refl s)
  obtain ⟨h3, h4⟩ := (nrm_spec h.wf).1 t h1
  rw [h1, Le.anti h3.wf h.wf h2 h4]
end Go.Proofs.Ytgfbgfbnmiainaa.Fam
/-! The program's normal form is nrm. -/
namespace Go.Proofs.Ytgfbgfbnmiainaa.Fam
set_option linter.unusedVariables false
set_option linter.unusedSimpArgs false
open Go.RowKit Go.Proofs.YtgfbgfbnmiainaaW.PrintWords Go.Proofs.YtgfbgfbnmiainaaW.PrintLast Go.Proofs.YtgfbgfbnmiainaaW.PrintMore Go.Proofs.Ytgfbgfbnmiainaa.Q
theorem nrm_none {s : S59} (h : nrm s = none) : ¬ (sub s.f0 s.f1 ∧ mx s.f2 (card s.f0) ≤ mn s.f3 (card s.f1)) := by
  intro hc
  unfold nrm at h
  rw [if_pos hc] at h
  split at h
  · cases h
  · split at h <;> cases h
theorem nrm_some {s t : S59} (h : nrm s = some t) : (sub s.f0 s.f1 ∧ mx s.f2 (card s.f0) ≤ mn s.f3 (card s.f1)) ∧
    ((mx s.f2 (card s.f0) = card s.f1 ∧ t = ⟨s.f1, s.f1, mx s.f2 (card s.f0), mn s.f3 (card s.f1)⟩) ∨
     (mx s.f2 (card s.f0) ≠ card s.f1 ∧ mn s.f3 (card s.f1) = card s.f0 ∧ t = ⟨s.f0, s.f0, mx s.f2 (card s.f0), mn s.f3 (card s.f1)⟩) ∨
     (mx s.f2 (card s.f0) ≠ card s.f1 ∧ mn s.f3 (card s.f1) ≠ card s.f0 ∧ t = ⟨s.f0, s.f1, mx s.f2 (card s.f0), mn s.f3 (card s.f1)⟩)) := by
  unfold nrm at h
  split at h
  · rename_i hc
    refine ⟨hc, ?_⟩
    split at h
    · rename_i e
      cases h
      exact .inl ⟨e, rfl⟩
    · rename_i e
      split at h
      · rename_i e1
        cases h
        exact .inr (.inl ⟨e, e1, rfl⟩)
      · rename_i e1
        cases h
        exact .inr (.inr ⟨e, e1, rfl⟩)
  · cases h
def eqs (a b : S59) : Bool := a.f0 == b.f0 && (a.f1 == b.f1 && (a.f2 == b.f2 && (a.f3 == b.f3)))
theorem eqs_iff {a b : S59} : eqs a b = true ↔ a = b := by
  obtain ⟨a0, a1, a2, a3⟩ := a
  obtain ⟨b0, b1, b2, b3⟩ := b
  simp [eqs]
theorem eqs_ne {a b : S59} (h : a ≠ b) : eqs a b = false := by
  cases e : eqs a b with
  | true => exact absurd (eqs_iff.mp e) h
  | false => rfl
theorem eqs_self (a : S59) : eqs a a = true := eqs_iff.mpr rfl
/-- The last part of a round. -/
theorem j3_sub (k : Nat) (s t : S59) (ht : Ws t) (h : sub t.f0 t.f1) : family_span_normal.j3 (k + 1) s.f0 s.f1 s.f2 s.f3 t.f0 t.f1 t.f2 t.f3 = if eqs t s = true then some (s.f0, s.f1, s.f2, s.f3, true) else family_span_normal.l0 k t.f0 t.f1 t.f2 t.f3 := by
  unfold family_span_normal.j3
  rw [if_pos ((andNot_zero ht.1 ht.2).mpr h)]
  rfl
theorem stepF_some (k : Nat) {s t : S59} (hs : Ws s) (h : nrm s = some t) : family_span_normal.l0 (k + 4) s.f0 s.f1 s.f2 s.f3 = if eqs t s = true then some (s.f0, s.f1, s.f2, s.f3, true) else family_span_normal.l0 k t.f0 t.f1 t.f2 t.f3 := by
  have hN := ((nrm_spec hs).1 t h).1
  rw [← j3_sub k s t hN.wf hN.in_]
  obtain ⟨⟨h0, h1⟩, hc⟩ := nrm_some h
  unfold family_span_normal.l0
  rw [ones_i hs.1, ones_i hs.2, Option.bind_some, Option.bind_some, if_pos ((andNot_zero hs.1 hs.2).mpr h0)]
  unfold family_span_normal.j1
  rw [if_neg (by simp; omega)]
  rcases hc with ⟨e, rfl⟩ | ⟨e, e1, rfl⟩ | ⟨e, e1, rfl⟩
  · rw [if_pos e]
    unfold family_span_normal.j2
    split <;> rfl
  · rw [if_neg e]
    unfold family_span_normal.j2
    rw [if_pos e1]
  · rw [if_neg e]
    unfold family_span_normal.j2
    rw [if_neg e1]
theorem stepF_none (k : Nat) {s : S59} (hs : Ws s) (h : nrm s = none) : family_span_normal.l0 (k + 4) s.f0 s.f1 s.f2 s.f3 = some (0, 0, 0, 0, false) := by
  have hc := nrm_none h
  unfold family_span_normal.l0
  rw [ones_i hs.1, ones_i hs.2, Option.bind_some, Option.bind_some]
  split
  · rename_i h0
    have h1 := (andNot_zero hs.1 hs.2).mp h0
    unfold family_span_normal.j1
    rw [if_pos (by
      have : ¬ mx s.f2 (card s.f0) ≤ mn s.f3 (card s.f1) := fun h2 => hc ⟨h1, h2⟩
      simp; omega)]
  · unfold family_span_normal.j1
    rw [if_pos rfl]
def outF (o : Option S59) : S59 × Bool := match o with | some t => (t, true) | none => (z59, false)
theorem putN_eq {s : S59} (hs : Ws s) {k : Nat} (hk : 8 ≤ k) : putN k s = some (outF (nrm s)) := by
  obtain ⟨k, rfl⟩ : ∃ m, k = m + 4 + 4 := ⟨k - 8, by omega⟩
  unfold putN family_span_normal.f
  cases h : nrm s with
  | none =>
    rw [stepF_none (k + 4) hs h]
    rfl
  | some t =>
    rw [stepF_some (k + 4) hs h]
    have hN := ((nrm_spec hs).1 t h).1
    split
    · rename_i e
      obtain rfl := eqs_iff.mp e
      rfl
    · rw [stepF_some k hN.wf (nrm_nm hN), if_pos (eqs_self t)]
      rfl
end Go.Proofs.Ytgfbgfbnmiainaa.Fam
/-! The program's Fix: what it ends with is the least of all that all relations leave as it is. -/
namespace Go.Proofs.Ytgfbgfbnmiainaa.Fam
set_option linter.unusedVariables false
set_option linter.unusedSimpArgs false
open Go.RowKit Go.Proofs.YtgfbgfbnmiainaaW.PrintWords Go.Proofs.YtgfbgfbnmiainaaW.PrintLast Go.Proofs.YtgfbgfbnmiainaaW.PrintMore Go.Proofs.Ytgfbgfbnmiainaa.Q
/-- A family under way. -/
structure Rg (s : S59) : Prop where
  wf : Ws s
  a0 : 0 ≤ s.f2
  a1 : s.f2 ≤ 64
  b0 : 0 ≤ s.f3
  b1 : s.f3 ≤ 64
theorem Nm.rg {s : S59} (h : Nm s) : Rg s := by
  have h0 := card_le s.f0
  have h1 := card_le s.f1
  exact ⟨h.wf, by have := h.c0; omega, by have := h.c1; have := h.c2; omega, by have := h.c1; have := h.c0; omega, by have := h.c2; omega⟩
def ARg (n : Nat) (xs : List S59) : Prop := xs.length = n ∧ ∀ i : Int, 0 ≤ i → i < n → Rg (rd_T59 xs i)
def AN (n : Nat) (xs : List S59) : Prop := xs.length = n ∧ ∀ i : Int, 0 ≤ i → i < n → Nm (rd_T59 xs i)
theorem AN.rg {n : Nat} {xs : List S59} (h : AN n xs) : ARg n xs := ⟨h.1, fun i h0 h1 => (h.2 i h0 h1).rg⟩
def LE (n : Nat) (xs ys : List S59) : Prop := ∀ i : Int, 0 ≤ i → i < n → Le (rd_T59 xs i) (rd_T59 ys i)
theorem LE.refl (n : Nat) (xs : List S59) : LE n xs xs := fun _ _ _ => Le.refl _
theorem LE.trans {n : Nat} {a b c : List S59} (h : LE n a b) (g : LE n b c) : LE n a c := fun i h0 h1 => (h i h0 h1).trans (g i h0 h1)
theorem rd_set {xs : List S59} {i j : Int} (hi : 0 ≤ i) (hl : i < xs.length) (hj : 0 ≤ j) (r : S59) : rd_T59 (xs.set i.toNat r) j = if j = i then r else rd_T59 xs j := by
  unfold rd_T59
  rw [List.getD_eq_getElem?_getD, List.getD_eq_getElem?_getD, List.getElem?_set]
  by_cases h : j = i
  · subst h
    rw [if_pos rfl, if_pos rfl, if_pos (by omega)]
    rfl
  · rw [if_neg (by omega), if_neg h]
theorem rd_ext {n : Nat} {xs ys : List S59} (hx : xs.length = n) (hy : ys.length = n) (h : ∀ i : Int, 0 ≤ i → i < n → rd_T59 xs i = rd_T59 ys i) : xs = ys := by
  apply List.ext_getElem (by omega)
  intro i h1 h2
  have := h (i : Int) (by omega) (by omega)
  unfold rd_T59 at this
  rw [Int.toNat_natCast, List.getD_eq_getElem?_getD, List.getD_eq_getElem?_getD, List.getElem?_eq_getElem h1, List.getElem?_eq_getElem h2] at this
  exact this
theorem LE.anti {n : Nat} {xs ys : List S59} (hx : ARg n xs) (hy : ARg n ys) (h : LE n xs ys) (g : LE n ys xs) : xs = ys :=
  rd_ext hx.1 hy.1 (fun i h0 h1 => Le.anti (hx.2 i h0 h1).wf (hy.2 i h0 h1).wf (h i h0 h1) (g i h0 h1))
/-- What is put: the place, and the family that is put there. -/
structure Op where
  i : Int
  g : List S59 → S59
structure Good (n : Nat) (o : Op) : Prop where
  inb : Inb n o.i
  rg : ∀ xs, ARg n xs → Rg (o.g xs)
  mono : ∀ xs ys, ARg n xs → ARg n ys → LE n xs ys → Le (o.g xs) (o.g ys)
  infl : ∀ xs, ARg n xs → Le (rd_T59 xs o.i) (o.g xs)
open Classical in
noncomputable def putT (i : Int) (s : S59) (t : St) : St :=
  if t.fail then t
  else match nrm s with
    | some r => if eq59 r (rd_T59 t.xs i) then t else ⟨t.xs.set i.toNat r, false, true⟩
    | none => ⟨t.xs, true, t.moved⟩
theorem putL_eq {k : Nat} (hk : 8 ≤ k) (i : Int) {s : S59} (hs : Ws s) (t : St) : putL k i s t = some (putT i s t) := by
  unfold putL putT
  split
  · rfl
  · rw [putN_eq hs hk, Option.map_some]
    cases nrm s <;> rfl
theorem eq59_iff {a b : S59} : eq59 a b = true ↔ a = b := eqs_iff
/-- The three ends of putT. -/
theorem putT_cases (i : Int) (s : S59) (t : St) (hf : t.fail = false) :
    (nrm s = none ∧ putT i s t = ⟨t.xs, true, t.moved⟩) ∨ (nrm s = some (rd_T59 t.xs i) ∧ putT i s t = t) ∨ (∃ r, nrm s = some r ∧ r ≠ rd_T59 t.xs i ∧ putT i s t = ⟨t.xs.set i.toNat r, false, true⟩) := by
  unfold putT
  rw [hf, if_neg (by simp)]
  cases h : nrm s with
  | none => exact .inl ⟨rfl, rfl⟩
  | some r =>
    by_cases e : r = rd_T59 t.xs i
    · subst e
      exact .inr (.inl ⟨rfl, by simp only [eq59_iff.mpr rfl, if_true]⟩)
    · refine .inr (.inr ⟨r, rfl, e, ?_⟩)
      have : eq59 r (rd_T59 t.xs i) = false := by
        cases e' : eq59 r (rd_T59 t.xs i) with
        | true => exact absurd (eq59_iff.mp e') e
        | false => rfl
      simp only [this, Bool.false_eq_true, if_false]
def me (s : S59) : Nat := (64 - card s.f0).toNat + (card s.f1).toNat + (64 - s.f2).toNat + s.f3.toNat
theorem me_lt {s r : S59} (hs : Ws s) (hr : Nm r) (h : Le s r) (hne : r ≠ s) : me r < me s := by
  have k0 := card_mono h.lo
  have k1 := card_mono h.hi
  have c0 := card_le s.f0
  have c1 := card_le s.f1
  have d0 := card_le r.f0
  have d1 := card_le r.f1
  have g := hr.rg
  have g0 := g.a1; have g1 := g.b0; have l0 := h.mn; have l1 := h.mx
  unfold me
  have : ¬ (card r.f0 = card s.f0 ∧ card r.f1 = card s.f1 ∧ r.f2 = s.f2 ∧ r.f3 = s.f3) := by
    rintro ⟨e0, e1, e2, e3⟩
    have f0 := card_eq hs.1 hr.wf.1 h.lo e0.symm
    have f1 := card_eq hr.wf.2 hs.2 h.hi e1
    exact hne (eqs_iff.mp (by simp [eqs, f0, f1, e2, e3]))
  omega
def meas (xs : List S59) : Nat := (xs.map me).sum
theorem meas_cons (x : S59) (xs : List S59) : meas (x :: xs) = me x + meas xs := by simp [meas]
theorem meas_set (r : S59) : ∀ (xs : List S59) (i : Nat) (h : i < xs.length), me r < me (xs[i]) → meas (xs.set i r) < meas xs := by
  intro xs
  induction xs with
  | nil => intro i h; exact absurd h (by simp)
  | cons x xs ih =>
    intro i h hr
    cases i with
    | zero =>
      rw [List.set_cons_zero, meas_cons, meas_cons]
      rw [List.getElem_cons_zero] at hr
      omega
    | succ i =>
      rw [List.set_cons_succ, meas_cons, meas_cons]
      rw [List.getElem_cons_succ] at hr
      have := ih i (by simpa using h) hr
      omega
/-- From t on to u. -/
structure Adv (n : Nat) (t u : St) : Prop where
  ok : u.fail = false → t.fail = false
  le : u.fail = false → LE n t.xs u.xs
  st : u.fail = false → (u = t ∨ (u.moved = true ∧ meas u.xs < meas t.xs))
theorem Adv.refl (n : Nat) (t : St) : Adv n t t := ⟨id, fun _ => LE.refl _ _, fun _ => .inl rfl⟩
theorem Adv.trans {n : Nat} {a b c : St} (h : Adv n a b) (g : Adv n b c) : Adv n a c := by
  refine ⟨fun e => h.ok (g.ok e), fun e => (h.le (g.ok e)).trans (g.le e), fun e => ?_⟩
  rcases g.st e with rfl | ⟨g1, g2⟩
  · exact h.st e
  · rcases h.st (g.ok e) with rfl | ⟨h1, h2⟩
    · exact .inr ⟨g1, g2⟩
    · exact .inr ⟨g1, Nat.lt_trans g2 h2⟩
theorem ARg.set {n : Nat} {xs : List S59} (h : ARg n xs) {i : Int} (hi : Inb n i) {r : S59} (hr : Rg r) : ARg n (xs.set i.toNat r) := by
  refine ⟨by rw [List.length_set]; exact h.1, fun j h0 h1 => ?_⟩
  rw [rd_set hi.1 (by rw [h.1]; exact hi.2) h0]
  split
  · exact hr
  · exact h.2 j h0 h1
/-- A put. -/
theorem put_adv {n : Nat} {o : Op} (ho : Good n o) {t : St} (ht : ARg n t.xs) : ARg n (putT o.i (o.g t.xs) t).xs ∧ Adv n t (putT o.i (o.g t.xs) t) ∧ ((putT o.i (o.g t.xs) t).fail = false → Nm (rd_T59 (putT o.i (o.g t.xs) t).xs o.i) ∧ ∀ j : Int, 0 ≤ j → j < n → Nm (rd_T59 t.xs j) → Nm (rd_T59 (putT o.i (o.g t.xs) t).xs j)) := by
  have hr := ho.rg t.xs ht
  have hN := nrm_spec hr.wf
  have hl : o.i < t.xs.length := by rw [ht.1]; exact ho.inb.2
  cases hf : t.fail with
  | true =>
    have e : putT o.i (o.g t.xs) t = t := by unfold putT; rw [hf, if_pos rfl]
    rw [e]
    exact ⟨ht, Adv.refl n t, fun h => by rw [hf] at h; cases h⟩
  | false =>
    rcases putT_cases o.i (o.g t.xs) t hf with ⟨h1, e⟩ | ⟨h1, e⟩ | ⟨r, h1, h2, e⟩
    · rw [e]
      exact ⟨ht, ⟨fun h => (by cases h), fun h => (by cases h), fun h => (by cases h)⟩, fun h => (by cases h)⟩
    · rw [e]
      exact ⟨ht, Adv.refl n t, fun _ => ⟨(hN.1 _ h1).1, fun _ _ _ h => h⟩⟩
    · rw [e]
      obtain ⟨h3, h4⟩ := hN.1 r h1
      have h5 : Le (rd_T59 t.xs o.i) r := (ho.infl t.xs ht).trans h4
      refine ⟨ht.set ho.inb h3.rg, ⟨fun _ => hf, fun _ => ?_, fun _ => .inr ⟨rfl, ?_⟩⟩, fun _ => ⟨?_, fun j h0 h1' hj => ?_⟩⟩
      · intro j h0 h1'
        simp only
        rw [rd_set ho.inb.1 hl h0]
        split
        · rename_i e; subst e; exact h5
        · exact Le.refl _
      · have := ho.inb.1
        refine meas_set r t.xs o.i.toNat (by omega) ?_
        have e2 : t.xs[o.i.toNat]'(by omega) = rd_T59 t.xs o.i := by
          unfold rd_T59
          rw [List.getD_eq_getElem?_getD, List.getElem?_eq_getElem (by omega)]
          rfl
        rw [e2]
        exact me_lt (ht.2 o.i ho.inb.1 ho.inb.2).wf h3 h5 h2
      · simp only
        rw [rd_set ho.inb.1 hl ho.inb.1, if_pos rfl]
        exact h3
      · simp only
        rw [rd_set ho.inb.1 hl h0]
        split
        · exact h3
        · exact hj
/-- What all relations leave as it is stays below. -/
theorem put_below {n : Nat} {o : Op} (ho : Good n o) {t : St} (ht : ARg n t.xs) {P : List S59} (hP : AN n P) (hle : LE n t.xs P) (hq : Le (o.g P) (rd_T59 P o.i)) (hf : t.fail = false) : (putT o.i (o.g t.xs) t).fail = false ∧ LE n (putT o.i (o.g t.xs) t).xs P := by
  have hr := ho.rg t.xs ht
  have hl : o.i < t.xs.length := by rw [ht.1]; exact ho.inb.2
  obtain ⟨r, h1, h2⟩ := (nrm_spec hr.wf).2 _ (hP.2 o.i ho.inb.1 ho.inb.2) ((ho.mono _ _ ht hP.rg hle).trans hq)
  rcases putT_cases o.i (o.g t.xs) t hf with ⟨h3, e⟩ | ⟨h3, e⟩ | ⟨r', h3, h4, e⟩
  · rw [h3] at h1; cases h1
  · rw [e]; exact ⟨hf, hle⟩
  · rw [e]
    rw [h3] at h1
    obtain rfl := Option.some.inj h1
    refine ⟨rfl, fun j h0 h1' => ?_⟩
    simp only
    rw [rd_set ho.inb.1 hl h0]
    split
    · rename_i e; subst e; exact h2
    · exact hle j h0 h1'
/-- A put that moves nothing. -/
theorem put_still {n : Nat} {o : Op} (ho : Good n o) {t : St} (ht : ARg n t.xs) (hf : (putT o.i (o.g t.xs) t).fail = false) (hm : (putT o.i (o.g t.xs) t).moved = false) : putT o.i (o.g t.xs) t = t ∧ Le (o.g t.xs) (rd_T59 t.xs o.i) := by
  have h0 : t.fail = false := ((put_adv ho ht).2.1).ok hf
  rcases putT_cases o.i (o.g t.xs) t h0 with ⟨h3, e⟩ | ⟨h3, e⟩ | ⟨r', h3, h4, e⟩
  · rw [e] at hf; cases hf
  · exact ⟨e, ((nrm_spec (ho.rg t.xs ht).wf).1 _ h3).2⟩
  · rw [e] at hm; cases hm
/-- Puts, one after the other. -/
def runL (k : Nat) : List Op → St → Option St
  | [], t => some t
  | o :: os, t => (putL k o.i (o.g t.xs) t).bind (runL k os)
noncomputable def runT : List Op → St → St
  | [], t => t
  | o :: os, t => runT os (putT o.i (o.g t.xs) t)
def Qs (os : List Op) (P : List S59) : Prop := ∀ o ∈ os, Le (o.g P) (rd_T59 P o.i)
structure Run (n : Nat) (t u : St) (Q : List S59 → Prop) : Prop where
  rg : ARg n u.xs
  adv : Adv n t u
  nm : u.fail = false → ∀ j : Int, 0 ≤ j → j < n → Nm (rd_T59 t.xs j) → Nm (rd_T59 u.xs j)
  below : ∀ P, AN n P → Q P → LE n t.xs P → t.fail = false → u.fail = false ∧ LE n u.xs P
  still : u.fail = false → u.moved = false → u = t ∧ Q t.xs
theorem run_run {n : Nat} {k : Nat} (hk : 8 ≤ k) : ∀ (os : List Op), (∀ o ∈ os, Good n o) → ∀ t : St, ARg n t.xs → runL k os t = some (runT os t) ∧ Run n t (runT os t) (Qs os)
  | [], _, t, ht => ⟨rfl, ⟨ht, Adv.refl n t, fun _ _ _ _ h => h, fun _ _ _ h hf => ⟨hf, h⟩, fun _ _ => ⟨rfl, fun _ h => by cases h⟩⟩⟩
  | o :: os, h, t, ht => by
    have ho := h o (List.mem_cons_self ..)
    obtain ⟨a1, a2, a3⟩ := put_adv ho ht
    obtain ⟨b1, b2⟩ := run_run hk os (fun o' h' => h o' (List.mem_cons_of_mem _ h')) (putT o.i (o.g t.xs) t) a1
    refine ⟨?_, ⟨b2.rg, a2.trans b2.adv, fun hf j h0 h1 hj => b2.nm hf j h0 h1 ((a3 (b2.adv.ok hf)).2 j h0 h1 hj), ?_, ?_⟩⟩
    · simp only [runL, runT]
      rw [putL_eq hk _ (ho.rg t.xs ht).wf, Option.bind_some]
      exact b1
    · intro P hP hQ hle hf
      obtain ⟨c1, c2⟩ := put_below ho ht hP hle (hQ o (List.mem_cons_self ..)) hf
      exact b2.below P hP (fun o' h' => hQ o' (List.mem_cons_of_mem _ h')) c2 c1
    · intro hf hm
      obtain ⟨c1, c2⟩ := b2.still hf hm
      have hf' := b2.adv.ok hf
      have hm' : (putT o.i (o.g t.xs) t).moved = false := by rw [← c1]; exact hm
      obtain ⟨d1, d2⟩ := put_still ho ht hf' hm'
      refine ⟨c1.trans d1, fun o' h' => ?_⟩
      rcases List.mem_cons.mp h' with rfl | h'
      · exact d2
      · have := c2 o' h'
        rw [d1] at this
        exact this
/-- The puts of a relation. -/
def opsQ : Rl → List Op
  | .part a b => [⟨b, fun xs => intoS xs b (rd_T59 xs a).f0⟩, ⟨a, fun xs => onlyS xs a (rd_T59 xs b).f1⟩, ⟨a, fun xs => greatestS xs a (rd_T59 xs b).f3⟩, ⟨b, fun xs => leastS xs b (rd_T59 xs a).f2⟩]
  | .apart a b => [⟨b, fun xs => onlyS xs b (Go.bits .xor .u64 (IntKind.max .u64) (rd_T59 xs a).f0)⟩, ⟨a, fun xs => onlyS xs a (Go.bits .xor .u64 (IntKind.max .u64) (rd_T59 xs b).f0)⟩]
  | .union a b c => [⟨c, fun xs => intoS xs c (Go.bits .or .u64 (rd_T59 xs a).f0 (rd_T59 xs b).f0)⟩, ⟨a, fun xs => onlyS xs a (rd_T59 xs c).f1⟩, ⟨b, fun xs => onlyS xs b (rd_T59 xs c).f1⟩,
      ⟨c, fun xs => onlyS xs c (Go.bits .or .u64 (rd_T59 xs a).f1 (rd_T59 xs b).f1)⟩, ⟨b, fun xs => intoS xs b (Go.bits .andNot .u64 (rd_T59 xs c).f0 (rd_T59 xs a).f1)⟩, ⟨a, fun xs => intoS xs a (Go.bits .andNot .u64 (rd_T59 xs c).f0 (rd_T59 xs b).f1)⟩,
      ⟨c, fun xs => greatestS xs c (wrap64 ((rd_T59 xs a).f3 + (rd_T59 xs b).f3))⟩, ⟨c, fun xs => leastS xs c (if (rd_T59 xs a).f2 < (rd_T59 xs b).f2 then (rd_T59 xs b).f2 else (rd_T59 xs a).f2)⟩]
  | .meet a b c => [⟨c, fun xs => intoS xs c (Go.bits .and .u64 (rd_T59 xs a).f0 (rd_T59 xs b).f0)⟩, ⟨a, fun xs => intoS xs a (rd_T59 xs c).f0⟩, ⟨b, fun xs => intoS xs b (rd_T59 xs c).f0⟩,
      ⟨c, fun xs => onlyS xs c (Go.bits .and .u64 (rd_T59 xs a).f1 (rd_T59 xs b).f1)⟩, ⟨b, fun xs => onlyS xs b (Go.bits .xor .u64 (IntKind.max .u64) (Go.bits .andNot .u64 (rd_T59 xs a).f0 (rd_T59 xs c).f1))⟩,
      ⟨a, fun xs => onlyS xs a (Go.bits .xor .u64 (IntKind.max .u64) (Go.bits .andNot .u64 (rd_T59 xs b).f0 (rd_T59 xs c).f1))⟩, ⟨c, fun xs => greatestS xs c (if (rd_T59 xs b).f3 < (rd_T59 xs a).f3 then (rd_T59 xs b).f3 else (rd_T59 xs a).f3)⟩]
  | .minus a b c => [⟨c, fun xs => intoS xs c (Go.bits .andNot .u64 (rd_T59 xs a).f0 (rd_T59 xs b).f1)⟩, ⟨a, fun xs => intoS xs a (rd_T59 xs c).f0⟩, ⟨b, fun xs => onlyS xs b (Go.bits .xor .u64 (IntKind.max .u64) (rd_T59 xs c).f0)⟩,
      ⟨c, fun xs => onlyS xs c (Go.bits .andNot .u64 (rd_T59 xs a).f1 (rd_T59 xs b).f0)⟩, ⟨b, fun xs => intoS xs b (Go.bits .andNot .u64 (rd_T59 xs a).f0 (rd_T59 xs c).f1)⟩, ⟨c, fun xs => greatestS xs c (rd_T59 xs a).f3⟩]
  | .has a N => [⟨a, fun xs => intoS xs a (IntKind.u64.wrap (2 ^ N.toNat))⟩]
  | .lacks a N => if 0 ≤ N ∧ N ≤ 63 then [⟨a, fun xs => onlyS xs a (Go.bits .xor .u64 (IntKind.max .u64) (IntKind.u64.wrap (2 ^ N.toNat)))⟩] else []
  | .size a N => [⟨a, fun xs => leastS xs a N⟩, ⟨a, fun xs => greatestS xs a N⟩]
/-- A relation that cannot hold. -/
def failQ : Rl → Bool
  | .has _ N => !decide (0 ≤ N ∧ N ≤ 63)
  | .size _ N => !decide (0 ≤ N ∧ N ≤ 64)
  | _ => false
theorem applyR_run (k : Nat) (q : Rl) (t : St) : applyR k q t = if failQ q then some ⟨t.xs, true, t.moved⟩ else runL k (opsQ q) t := by
  cases q with
  | part a b => rfl
  | apart a b => rfl
  | union a b c => rfl
  | meet a b c => rfl
  | minus a b c => rfl
  | has a N =>
    by_cases h : 0 ≤ N ∧ N ≤ 63
    · rw [show failQ (.has a N) = false by simp [failQ, h], if_neg (by simp)]
      simp only [applyR, hasL, opsQ, runL]
      rw [if_pos h]
      cases putL k a (intoS t.xs a (IntKind.u64.wrap (2 ^ N.toNat))) t <;> rfl
    · rw [show failQ (.has a N) = true by (simp only [failQ, decide_eq_false h]; rfl), if_pos rfl]
      simp only [applyR, hasL]
      rw [if_neg h]
  | lacks a N =>
    rw [show failQ (.lacks a N) = false from rfl, if_neg (by simp)]
    simp only [applyR, lacksL, opsQ]
    by_cases h : 0 ≤ N ∧ N ≤ 63
    · rw [if_pos h, if_pos h]
      simp only [runL]
      cases putL k a (onlyS t.xs a (Go.bits .xor .u64 (IntKind.max .u64) (IntKind.u64.wrap (2 ^ N.toNat)))) t <;> rfl
    · rw [if_neg h, if_neg h]
      rfl
  | size a N =>
    by_cases h : 0 ≤ N ∧ N ≤ 64
    · rw [show failQ (.size a N) = false by simp [failQ, h], if_neg (by simp)]
      simp only [applyR, sizeL, opsQ, runL]
      rw [if_pos h]
      cases putL k a (leastS t.xs a N) t with
      | none => rfl
      | some t1 =>
        simp only [Option.bind_some]
        cases putL k a (greatestS t1.xs a N) t1 <;> rfl
    · rw [show failQ (.size a N) = true by (simp only [failQ, decide_eq_false h]; rfl), if_pos rfl]
      simp only [applyR, sizeL]
      rw [if_neg h]
end Go.Proofs.Ytgfbgfbnmiainaa.Fam
/-! The puts of a relation grow with what is known. -/
namespace Go.Proofs.Ytgfbgfbnmiainaa.Fam
set_option linter.unusedVariables false
set_option linter.unusedSimpArgs false
open Go.RowKit Go.Proofs.YtgfbgfbnmiainaaW.PrintWords Go.Proofs.YtgfbgfbnmiainaaW.PrintLast Go.Proofs.YtgfbgfbnmiainaaW.PrintMore Go.Proofs.Ytgfbgfbnmiainaa.Q
theorem good_into {n : Nat} {i : Int} (hi : Inb n i) (m : List S59 → Int) (hw : ∀ xs, ARg n xs → Wd (m xs)) (hm : ∀ xs ys, ARg n xs → ARg n ys → LE n xs ys → sub (m xs) (m ys)) : Good n ⟨i, fun xs => intoS xs i (m xs)⟩ := by
  refine ⟨hi, fun xs h => ?_, fun xs ys h h' hl => ?_, fun xs h => ?_⟩
  · have := h.2 i hi.1 hi.2
    exact ⟨⟨wd_or _ _, this.wf.2⟩, this.a0, this.a1, this.b0, this.b1⟩
  · have hx := h.2 i hi.1 hi.2
    have hy := h'.2 i hi.1 hi.2
    have hl' := hl i hi.1 hi.2
    refine ⟨fun j hj hb => ?_, hl'.hi, hl'.mn, hl'.mx⟩
    simp only at hb ⊢
    rw [bt_or hx.wf.1 (hw xs h)] at hb
    rw [bt_or hy.wf.1 (hw ys h')]
    rcases Bool.or_eq_true_iff.mp hb with hb | hb
    · rw [hl'.lo j hj hb]; rfl
    · rw [hm xs ys h h' hl j hj hb, Bool.or_true]
  · have hx := h.2 i hi.1 hi.2
    refine ⟨fun j hj hb => ?_, sub_refl _, Int.le_refl _, Int.le_refl _⟩
    simp only
    rw [bt_or hx.wf.1 (hw xs h), hb]
    rfl
theorem good_only {n : Nat} {i : Int} (hi : Inb n i) (m : List S59 → Int) (hw : ∀ xs, ARg n xs → Wd (m xs)) (hm : ∀ xs ys, ARg n xs → ARg n ys → LE n xs ys → sub (m ys) (m xs)) : Good n ⟨i, fun xs => onlyS xs i (m xs)⟩ := by
  refine ⟨hi, fun xs h => ?_, fun xs ys h h' hl => ?_, fun xs h => ?_⟩
  · have := h.2 i hi.1 hi.2
    exact ⟨⟨this.wf.1, wd_and _ _⟩, this.a0, this.a1, this.b0, this.b1⟩
  · have hx := h.2 i hi.1 hi.2
    have hy := h'.2 i hi.1 hi.2
    have hl' := hl i hi.1 hi.2
    refine ⟨hl'.lo, fun j hj hb => ?_, hl'.mn, hl'.mx⟩
    simp only at hb ⊢
    rw [bt_and hy.wf.2 (hw ys h')] at hb
    rw [bt_and hx.wf.2 (hw xs h)]
    obtain ⟨h1, h2⟩ := Bool.and_eq_true_iff.mp hb
    rw [hl'.hi j hj h1, hm xs ys h h' hl j hj h2]
    rfl
  · have hx := h.2 i hi.1 hi.2
    refine ⟨sub_refl _, fun j hj hb => ?_, Int.le_refl _, Int.le_refl _⟩
    simp only at hb
    rw [bt_and hx.wf.2 (hw xs h)] at hb
    exact (Bool.and_eq_true_iff.mp hb).1
theorem good_least {n : Nat} {i : Int} (hi : Inb n i) (m : List S59 → Int) (hw : ∀ xs, ARg n xs → 0 ≤ m xs ∧ m xs ≤ 64) (hm : ∀ xs ys, ARg n xs → ARg n ys → LE n xs ys → m xs ≤ m ys) : Good n ⟨i, fun xs => leastS xs i (m xs)⟩ := by
  refine ⟨hi, fun xs h => ?_, fun xs ys h h' hl => ?_, fun xs h => ?_⟩
  · have := h.2 i hi.1 hi.2
    have k := hw xs h
    have a0 := this.a0; have a1 := this.a1
    refine ⟨this.wf, ?_, ?_, this.b0, this.b1⟩ <;> (simp only; rcases (mx_facts (rd_T59 xs i).f2 (m xs)).2.2 with e | e <;> rw [e] <;> omega)
  · have hl' := hl i hi.1 hi.2
    have k := hm xs ys h h' hl
    have l0 := hl'.mn
    refine ⟨hl'.lo, hl'.hi, ?_, hl'.mx⟩
    simp only
    obtain ⟨p1, p2, _⟩ := mx_facts (rd_T59 ys i).f2 (m ys)
    rcases (mx_facts (rd_T59 xs i).f2 (m xs)).2.2 with e | e <;> rw [e] <;> omega
  · refine ⟨sub_refl _, sub_refl _, ?_, Int.le_refl _⟩
    exact (mx_facts (rd_T59 xs i).f2 (m xs)).1
theorem good_greatest {n : Nat} {i : Int} (hi : Inb n i) (m : List S59 → Int) (hw : ∀ xs, ARg n xs → 0 ≤ m xs) (hm : ∀ xs ys, ARg n xs → ARg n ys → LE n xs ys → m ys ≤ m xs) : Good n ⟨i, fun xs => greatestS xs i (m xs)⟩ := by
  refine ⟨hi, fun xs h => ?_, fun xs ys h h' hl => ?_, fun xs h => ?_⟩
  · have := h.2 i hi.1 hi.2
    have k := hw xs h
    have a0 := this.b0; have a1 := this.b1
    obtain ⟨p1, p2, p3⟩ := mn_facts (rd_T59 xs i).f3 (m xs)
    refine ⟨this.wf, this.a0, this.a1, ?_, ?_⟩ <;> (simp only; omega)
  · have hl' := hl i hi.1 hi.2
    have k := hm xs ys h h' hl
    have l0 := hl'.mx
    refine ⟨hl'.lo, hl'.hi, hl'.mn, ?_⟩
    simp only
    obtain ⟨p1, p2, _⟩ := mn_facts (rd_T59 ys i).f3 (m ys)
    rcases (mn_facts (rd_T59 xs i).f3 (m xs)).2.2 with e | e <;> rw [e] <;> omega
  · refine ⟨sub_refl _, sub_refl _, Int.le_refl _, ?_⟩
    exact (mn_facts (rd_T59 xs i).f3 (m xs)).1
theorem sub_or {a b c d : Int} (ha : Wd a) (hb : Wd b) (hc : Wd c) (hd : Wd d) (h1 : sub a c) (h2 : sub b d) : sub (Go.bits .or .u64 a b) (Go.bits .or .u64 c d) := fun j hj h => by
  rw [bt_or ha hb] at h
  rw [bt_or hc hd]
  rcases Bool.or_eq_true_iff.mp h with h | h
  · rw [h1 j hj h]; rfl
  · rw [h2 j hj h, Bool.or_true]
theorem sub_and {a b c d : Int} (ha : Wd a) (hb : Wd b) (hc : Wd c) (hd : Wd d) (h1 : sub a c) (h2 : sub b d) : sub (Go.bits .and .u64 a b) (Go.bits .and .u64 c d) := fun j hj h => by
  rw [bt_and ha hb] at h
  rw [bt_and hc hd]
  obtain ⟨k1, k2⟩ := Bool.and_eq_true_iff.mp h
  rw [h1 j hj k1, h2 j hj k2]
  rfl
theorem sub_not {a b : Int} (ha : Wd a) (hb : Wd b) (h1 : sub a b) : sub (Go.bits .xor .u64 (IntKind.max .u64) b) (Go.bits .xor .u64 (IntKind.max .u64) a) := fun j hj h => by
  rw [bt_not hb j hj] at h
  rw [bt_not ha j hj]
  cases e : bt a j with
  | false => rfl
  | true => rw [h1 j hj e] at h; exact h
theorem sub_andNot {a b c d : Int} (ha : Wd a) (hb : Wd b) (hc : Wd c) (hd : Wd d) (h1 : sub a c) (h2 : sub d b) : sub (Go.bits .andNot .u64 a b) (Go.bits .andNot .u64 c d) := fun j hj h => by
  rw [bt_andNot ha hb j hj] at h
  rw [bt_andNot hc hd j hj]
  obtain ⟨k1, k2⟩ := Bool.and_eq_true_iff.mp h
  rw [h1 j hj k1]
  cases e : bt d j with
  | false => rfl
  | true => rw [h2 j hj e] at k2; exact k2
theorem wd_bit {N : Int} (h0 : 0 ≤ N) (h1 : N ≤ 63) : Wd (IntKind.u64.wrap (2 ^ N.toNat)) := by
  rw [IntKind.wrap_u64]
  constructor <;> omega
theorem ops_good {n : Nat} {q : Rl} (hi : q.inb n) (hf : failQ q = false) : ∀ o ∈ opsQ q, Good n o := by
  cases q with
  | part a b =>
    obtain ⟨ha, hb⟩ := hi
    intro o ho
    simp only [opsQ, List.mem_cons, List.not_mem_nil, or_false] at ho
    rcases ho with rfl | rfl | rfl | rfl
    · exact good_into hb (fun xs => (rd_T59 xs a).f0) (fun xs h => (h.2 a ha.1 ha.2).wf.1) (fun xs ys h h' hl => (hl a ha.1 ha.2).lo)
    · exact good_only ha (fun xs => (rd_T59 xs b).f1) (fun xs h => (h.2 b hb.1 hb.2).wf.2) (fun xs ys h h' hl => (hl b hb.1 hb.2).hi)
    · exact good_greatest ha (fun xs => (rd_T59 xs b).f3) (fun xs h => (h.2 b hb.1 hb.2).b0) (fun xs ys h h' hl => (hl b hb.1 hb.2).mx)
    · exact good_least hb (fun xs => (rd_T59 xs a).f2) (fun xs h => ⟨(h.2 a ha.1 ha.2).a0, (h.2 a ha.1 ha.2).a1⟩) (fun xs ys h h' hl => (hl a ha.1 ha.2).mn)
  | apart a b =>
    obtain ⟨ha, hb⟩ := hi
    intro o ho
    simp only [opsQ, List.mem_cons, List.not_mem_nil, or_false] at ho
    rcases ho with rfl | rfl
    · exact good_only hb (fun xs => Go.bits .xor .u64 (IntKind.max .u64) (rd_T59 xs a).f0) (fun xs h => wd_xor _ _) (fun xs ys h h' hl => sub_not (h.2 a ha.1 ha.2).wf.1 (h'.2 a ha.1 ha.2).wf.1 (hl a ha.1 ha.2).lo)
    · exact good_only ha (fun xs => Go.bits .xor .u64 (IntKind.max .u64) (rd_T59 xs b).f0) (fun xs h => wd_xor _ _) (fun xs ys h h' hl => sub_not (h.2 b hb.1 hb.2).wf.1 (h'.2 b hb.1 hb.2).wf.1 (hl b hb.1 hb.2).lo)
  | union a b c =>
    obtain ⟨ha, hb, hc⟩ := hi
    intro o ho
    simp only [opsQ, List.mem_cons, List.not_mem_nil, or_false] at ho
    have A := fun xs (h : ARg n xs) => h.2 a ha.1 ha.2
    have B := fun xs (h : ARg n xs) => h.2 b hb.1 hb.2
    have C := fun xs (h : ARg n xs) => h.2 c hc.1 hc.2
    rcases ho with rfl | rfl | rfl | rfl | rfl | rfl | rfl | rfl
    · exact good_into hc _ (fun xs h => wd_or _ _) (fun xs ys h h' hl => sub_or (A _ h).wf.1 (B _ h).wf.1 (A _ h').wf.1 (B _ h').wf.1 (hl a ha.1 ha.2).lo (hl b hb.1 hb.2).lo)
    · exact good_only ha _ (fun xs h => (C _ h).wf.2) (fun xs ys h h' hl => (hl c hc.1 hc.2).hi)
    · exact good_only hb _ (fun xs h => (C _ h).wf.2) (fun xs ys h h' hl => (hl c hc.1 hc.2).hi)
    · exact good_only hc _ (fun xs h => wd_or _ _) (fun xs ys h h' hl => sub_or (A _ h').wf.2 (B _ h').wf.2 (A _ h).wf.2 (B _ h).wf.2 (hl a ha.1 ha.2).hi (hl b hb.1 hb.2).hi)
    · exact good_into hb _ (fun xs h => wd_andNot _ _) (fun xs ys h h' hl => sub_andNot (C _ h).wf.1 (A _ h).wf.2 (C _ h').wf.1 (A _ h').wf.2 (hl c hc.1 hc.2).lo (hl a ha.1 ha.2).hi)
    · exact good_into ha _ (fun xs h => wd_andNot _ _) (fun xs ys h h' hl => sub_andNot (C _ h).wf.1 (B _ h).wf.2 (C _ h').wf.1 (B _ h').wf.2 (hl c hc.1 hc.2).lo (hl b hb.1 hb.2).hi)
    · refine good_greatest hc _ (fun xs h => ?_) (fun xs ys h h' hl => ?_)
      · have p := A _ h; have q := B _ h
        have p0 := p.b0; have p1 := p.b1; have q0 := q.b0; have q1 := q.b1
        unfold wrap64
        omega
      · have p := A _ h; have q := B _ h; have p' := A _ h'; have q' := B _ h'
        have p0 := p.b0; have p1 := p.b1; have q0 := q.b0; have q1 := q.b1
        have p0' := p'.b0; have p1' := p'.b1; have q0' := q'.b0; have q1' := q'.b1
        have u := (hl a ha.1 ha.2).mx; have v := (hl b hb.1 hb.2).mx
        unfold wrap64
        omega
    · refine good_least hc _ (fun xs h => ?_) (fun xs ys h h' hl => ?_)
      · have p := A _ h; have q := B _ h
        have p0 := p.a0; have p1 := p.a1; have q0 := q.a0; have q1 := q.a1
        try simp only
        split <;> omega
      · have u := (hl a ha.1 ha.2).mn; have v := (hl b hb.1 hb.2).mn
        try simp only
        split <;> split <;> omega
  | meet a b c =>
    obtain ⟨ha, hb, hc⟩ := hi
    intro o ho
    simp only [opsQ, List.mem_cons, List.not_mem_nil, or_false] at ho
    have A := fun xs (h : ARg n xs) => h.2 a ha.1 ha.2
    have B := fun xs (h : ARg n xs) => h.2 b hb.1 hb.2
    have C := fun xs (h : ARg n xs) => h.2 c hc.1 hc.2
    rcases ho with rfl | rfl | rfl | rfl | rfl | rfl | rfl
    · exact good_into hc _ (fun xs h => wd_and _ _) (fun xs ys h h' hl => sub_and (A _ h).wf.1 (B _ h).wf.1 (A _ h').wf.1 (B _ h').wf.1 (hl a ha.1 ha.2).lo (hl b hb.1 hb.2).lo)
    · exact good_into ha _ (fun xs h => (C _ h).wf.1) (fun xs ys h h' hl => (hl c hc.1 hc.2).lo)
    · exact good_into hb _ (fun xs h => (C _ h).wf.1) (fun xs ys h h' hl => (hl c hc.1 hc.2).lo)
    · exact good_only hc _ (fun xs h => wd_and _ _) (fun xs ys h h' hl => sub_and (A _ h').wf.2 (B _ h').wf.2 (A _ h).wf.2 (B _ h).wf.2 (hl a ha.1 ha.2).hi (hl b hb.1 hb.2).hi)
    · exact good_only hb _ (fun xs h => wd_xor _ _) (fun xs ys h h' hl => sub_not (wd_andNot _ _) (wd_andNot _ _) (sub_andNot (A _ h).wf.1 (C _ h).wf.2 (A _ h').wf.1 (C _ h').wf.2 (hl a ha.1 ha.2).lo (hl c hc.1 hc.2).hi))
    · exact good_only ha _ (fun xs h => wd_xor _ _) (fun xs ys h h' hl => sub_not (wd_andNot _ _) (wd_andNot _ _) (sub_andNot (B _ h).wf.1 (C _ h).wf.2 (B _ h').wf.1 (C _ h').wf.2 (hl b hb.1 hb.2).lo (hl c hc.1 hc.2).hi))
    · refine good_greatest hc _ (fun xs h => ?_) (fun xs ys h h' hl => ?_)
      · have p := A _ h; have q := B _ h
        have p0 := p.b0; have q0 := q.b0
        try simp only
        split <;> omega
      · have u := (hl a ha.1 ha.2).mx; have v := (hl b hb.1 hb.2).mx
        try simp only
        split <;> split <;> omega
  | minus a b c =>
    obtain ⟨ha, hb, hc⟩ := hi
    intro o ho
    simp only [opsQ, List.mem_cons, List.not_mem_nil, or_false] at ho
    have A := fun xs (h : ARg n xs) => h.2 a ha.1 ha.2
    have B := fun xs (h : ARg n xs) => h.2 b hb.1 hb.2
    have C := fun xs (h : ARg n xs) => h.2 c hc.1 hc.2
    rcases ho with rfl | rfl | rfl | rfl | rfl | rfl
    · exact good_into hc _ (fun xs h => wd_andNot _ _) (fun xs ys h h' hl => sub_andNot (A _ h).wf.1 (B _ h).wf.2 (A _ h').wf.1 (B _ h').wf.2 (hl a ha.1 ha.2).lo (hl b hb.1 hb.2).hi)
    · exact good_into ha _ (fun xs h => (C _ h).wf.1) (fun xs ys h h' hl => (hl c hc.1 hc.2).lo)
    · exact good_only hb _ (fun xs h => wd_xor _ _) (fun xs ys h h' hl => sub_not (C _ h).wf.1 (C _ h').wf.1 (hl c hc.1 hc.2).lo)
    · exact good_only hc _ (fun xs h => wd_andNot _ _) (fun xs ys h h' hl => sub_andNot (A _ h').wf.2 (B _ h').wf.1 (A _ h).wf.2 (B _ h).wf.1 (hl a ha.1 ha.2).hi (hl b hb.1 hb.2).lo)
    · exact good_into hb _ (fun xs h => wd_andNot _ _) (fun xs ys h h' hl => sub_andNot (A _ h).wf.1 (C _ h).wf.2 (A _ h').wf.1 (C _ h').wf.2 (hl a ha.1 ha.2).lo (hl c hc.1 hc.2).hi)
    · exact good_greatest hc _ (fun xs h => (A _ h).b0) (fun xs ys h h' hl => (hl a ha.1 ha.2).mx)
  | has a N =>
    intro o ho
    simp only [opsQ, List.mem_cons, List.not_mem_nil, or_false] at ho
    subst ho
    have hN : 0 ≤ N ∧ N ≤ 63 := by simpa [failQ] using hf
    exact good_into hi _ (fun xs h => wd_bit hN.1 hN.2) (fun xs ys h h' hl => sub_refl _)
  | lacks a N =>
    intro o ho
    simp only [opsQ] at ho
    split at ho
    · simp only [List.mem_cons, List.not_mem_nil, or_false] at ho
      subst ho
      exact good_only hi _ (fun xs h => wd_xor _ _) (fun xs ys h h' hl => sub_refl _)
    · cases ho
  | size a N =>
    intro o ho
    simp only [opsQ, List.mem_cons, List.not_mem_nil, or_false] at ho
    have hN : 0 ≤ N ∧ N ≤ 64 := by simpa [failQ] using hf
    rcases ho with rfl | rfl
    · exact good_least hi _ (fun xs h => hN) (fun xs ys h h' hl => Int.le_refl _)
    · exact good_greatest hi _ (fun xs h => hN.1) (fun xs ys h h' hl => Int.le_refl _)
end Go.Proofs.Ytgfbgfbnmiainaa.Fam
/-! The program's Fix: the rounds. -/
namespace Go.Proofs.Ytgfbgfbnmiainaa.Fam
set_option linter.unusedVariables false
set_option linter.unusedSimpArgs false
open Go.RowKit Go.Proofs.YtgfbgfbnmiainaaW.PrintWords Go.Proofs.YtgfbgfbnmiainaaW.PrintLast Go.Proofs.YtgfbgfbnmiainaaW.PrintMore Go.Proofs.Ytgfbgfbnmiainaa.Q
/-- A relation leaves P as it is. -/
def Qr (q : Rl) (P : List S59) : Prop := failQ q = false ∧ Qs (opsQ q) P
theorem Run.trans {n : Nat} {t v u : St} {Q1 Q2 : List S59 → Prop} (h : Run n t v Q1) (g : Run n v u Q2) : Run n t u (fun P => Q1 P ∧ Q2 P) := by
  refine ⟨g.rg, h.adv.trans g.adv, fun hf j h0 h1 hj => g.nm hf j h0 h1 (h.nm (g.adv.ok hf) j h0 h1 hj), fun P hP hQ hle hf => ?_, fun hf hm => ?_⟩
  · obtain ⟨a, b⟩ := h.below P hP hQ.1 hle hf
    exact g.below P hP hQ.2 b a
  · obtain ⟨rfl, a⟩ := g.still hf hm
    obtain ⟨rfl, b⟩ := h.still hf hm
    exact ⟨rfl, b, a⟩
theorem Run.iff {n : Nat} {t u : St} {Q1 Q2 : List S59 → Prop} (h : Run n t u Q1) (e : ∀ P, Q1 P ↔ Q2 P) : Run n t u Q2 :=
  ⟨h.rg, h.adv, h.nm, fun P hP hQ => h.below P hP ((e P).mpr hQ), fun hf hm => ⟨(h.still hf hm).1, (e _).mp (h.still hf hm).2⟩⟩
theorem apply_run {n k : Nat} (hk : 8 ≤ k) {q : Rl} (hi : q.inb n) {t : St} (ht : ARg n t.xs) : ∃ u, applyR k q t = some u ∧ Run n t u (Qr q) := by
  rw [applyR_run]
  cases hf : failQ q with
  | true =>
    refine ⟨_, rfl, ⟨ht, ⟨fun h => (by cases h), fun h => (by cases h), fun h => (by cases h)⟩, fun h => (by cases h), fun P hP hQ => ?_, fun h => (by cases h)⟩⟩
    have := hQ.1
    rw [hf] at this
    cases this
  | false =>
    obtain ⟨h1, h2⟩ := run_run hk (opsQ q) (ops_good hi hf) t ht
    refine ⟨_, h1, h2.iff (fun P => ⟨fun h => ⟨hf, h⟩, fun h => h.2⟩)⟩
theorem pass_run {n k : Nat} (hk : 8 ≤ k) (qs : Nat → Rl) : ∀ (m i : Nat), (∀ j, j < i + m → (qs j).inb n) → ∀ t : St, ARg n t.xs → ∃ u, passF k qs m i t = some u ∧ Run n t u (fun P => ∀ j, i ≤ j → j < i + m → Qr (qs j) P) := by
  intro m
  induction m with
  | zero =>
    intro i _ t ht
    exact ⟨t, rfl, ⟨ht, Adv.refl n t, fun _ _ _ _ h => h, fun _ _ _ h hf => ⟨hf, h⟩, fun _ _ => ⟨rfl, fun j h0 h1 => absurd h1 (by omega)⟩⟩⟩
  | succ m ih =>
    intro i hq t ht
    unfold passF
    cases hf : t.fail with
    | true =>
      rw [if_pos rfl]
      exact ⟨t, rfl, ⟨ht, Adv.refl n t, fun _ _ _ _ h => h, fun _ _ _ _ h => absurd (hf.symm.trans h) (by simp), fun h => absurd (hf.symm.trans h) (by simp)⟩⟩
    | false =>
      rw [if_neg (by simp)]
      obtain ⟨v, h1, h2⟩ := apply_run hk (hq i (by omega)) ht
      obtain ⟨u, h3, h4⟩ := ih (i + 1) (fun j hj => hq j (by omega)) v h2.rg
      refine ⟨u, by rw [h1, Option.bind_some]; exact h3, (h2.trans h4).iff (fun P => ⟨fun h j h0 h1 => ?_, fun h => ⟨h i (Nat.le_refl _) (by omega), fun j h0 h1 => h j (by omega) (by omega)⟩⟩)⟩
      by_cases e : j = i
      · subst e; exact h.1
      · exact h.2 j (by omega) (by omega)
theorem good_same {n : Nat} {i : Int} (hi : Inb n i) : Good n ⟨i, fun xs => rd_T59 xs i⟩ :=
  ⟨hi, fun xs h => h.2 i hi.1 hi.2, fun _ _ _ _ hl => hl i hi.1 hi.2, fun _ _ => Le.refl _⟩
theorem init_run {n k : Nat} (hk : 8 ≤ k) : ∀ (m i : Nat), i + m = n → ∀ t : St, ARg n t.xs → (t.fail = false → ∀ j : Int, 0 ≤ j → j < i → Nm (rd_T59 t.xs j)) →
    ∃ u, initF k m i t = some u ∧ ARg n u.xs ∧ Adv n t u ∧ (u.fail = false → AN n u.xs) ∧ ∀ P, AN n P → LE n t.xs P → t.fail = false → u.fail = false ∧ LE n u.xs P := by
  intro m
  induction m with
  | zero =>
    intro i hi t ht hN
    exact ⟨t, rfl, ht, Adv.refl n t, fun hf => ⟨ht.1, fun j h0 h1 => hN hf j h0 (by omega)⟩, fun _ _ h hf => ⟨hf, h⟩⟩
  | succ m ih =>
    intro i hi t ht hN
    have hI : Inb n (i : Int) := ⟨by omega, by omega⟩
    have ho := good_same hI
    obtain ⟨a1, a2, a3⟩ := put_adv ho ht
    obtain ⟨u, h1, h2, h3, h4, h5⟩ := ih (i + 1) (by omega) (putT i (rd_T59 t.xs i) t) a1 (fun hf j h0 h1 => by
      by_cases e : j = i
      · subst e; exact (a3 hf).1
      · exact (a3 hf).2 j h0 (by omega) (hN (a2.ok hf) j h0 (by omega)))
    refine ⟨u, ?_, h2, a2.trans h3, h4, fun P hP hle hf => ?_⟩
    · unfold initF
      rw [putL_eq hk _ (ht.2 i hI.1 hI.2).wf, Option.bind_some]
      exact h1
    · obtain ⟨c1, c2⟩ := put_below ho ht hP hle (Le.refl _) hf
      exact h5 P hP c2 c1
/-- All relations leave P as it is, and each family is in its normal form. -/
structure Cl (n : Nat) (qs : Nat → Rl) (nr : Nat) (P : List S59) : Prop where
  nm : AN n P
  q : ∀ j, j < nr → Qr (qs j) P
theorem round_run {n k : Nat} (hk : 8 ≤ k) (qs : Nat → Rl) (nr : Nat) (hq : ∀ j, j < nr → (qs j).inb n) : ∀ (M : Nat) (t : St), meas t.xs < M → ARg n t.xs → (t.fail = false → AN n t.xs) → (t.fail = false → t.moved = false → Cl n qs nr t.xs) →
    ∃ m0 u, roundF k qs nr m0 t = some u ∧ (u.fail = false → LE n t.xs u.xs ∧ Cl n qs nr u.xs) ∧ ∀ P, Cl n qs nr P → LE n t.xs P → t.fail = false → u.fail = false ∧ LE n u.xs P := by
  intro M
  induction M with
  | zero => intro t h; exact absurd h (by omega)
  | succ M ih =>
    intro t hM ht hN hC
    by_cases hc : (t.moved && !t.fail) = true
    · obtain ⟨hm, hf⟩ := Bool.and_eq_true_iff.mp hc
      have hf : t.fail = false := by cases h : t.fail <;> simp_all
      obtain ⟨v, h1, h2⟩ := pass_run hk qs nr 0 (fun j hj => hq j (by omega)) ⟨t.xs, t.fail, false⟩ ht
      have stop : (v.moved && !v.fail) = false → ∃ m0 u, roundF k qs nr m0 t = some u ∧ u = v := fun hs => by
        refine ⟨2, v, ?_, rfl⟩
        unfold roundF
        rw [if_pos hc, h1, Option.bind_some]
        unfold roundF
        rw [hs, if_neg (by simp)]
      cases hvf : v.fail with
      | true =>
        obtain ⟨m0, u, h3, rfl⟩ := stop (by rw [hvf]; simp)
        refine ⟨m0, u, h3, fun h => absurd (hvf.symm.trans h) (by simp), fun P hP hle _ => ?_⟩
        exact h2.below P hP.nm (fun j _ hj => hP.q j (by omega)) hle hf
      | false =>
        have hN' : AN n v.xs := ⟨h2.rg.1, fun j h0 h1 => h2.nm hvf j h0 h1 ((hN hf).2 j h0 h1)⟩
        have hle := h2.adv.le hvf
        cases hvm : v.moved with
        | false =>
          obtain ⟨m0, u, h3, rfl⟩ := stop (by rw [hvm]; rfl)
          obtain ⟨e, hQ⟩ := h2.still hvf hvm
          have e2 : u.xs = t.xs := by rw [e]
          refine ⟨m0, u, h3, fun _ => ⟨hle, ⟨hN', fun j hj => ?_⟩⟩, fun P hP hl _ => h2.below P hP.nm (fun j _ hj => hP.q j (by omega)) hl hf⟩
          rw [e2]
          exact hQ j (by omega) (by omega)
        | true =>
          have hlt : meas v.xs < meas t.xs := by
            rcases h2.adv.st hvf with e | ⟨_, h⟩
            · rw [e] at hvm; cases hvm
            · exact h
          obtain ⟨m0, u, h3, h4, h5⟩ := ih v (by omega) h2.rg (fun _ => hN') (fun _ h => by rw [hvm] at h; cases h)
          refine ⟨m0 + 1, u, ?_, fun hu => ⟨hle.trans (h4 hu).1, (h4 hu).2⟩, fun P hP hl _ => ?_⟩
          · unfold roundF
            rw [if_pos hc, h1, Option.bind_some]
            exact h3
          · obtain ⟨c1, c2⟩ := h2.below P hP.nm (fun j _ hj => hP.q j (by omega)) hl hf
            exact h5 P hP c2 c1
    · refine ⟨1, t, ?_, fun hf => ⟨LE.refl _ _, hC hf ?_⟩, fun P hP hl hf => ⟨hf, hl⟩⟩
      · unfold roundF
        rw [if_neg hc]
      · cases h : t.moved
        · rfl
        · rw [h, hf] at hc; simp at hc
/-- Fix, from its first families on. -/
theorem fix_run {n k : Nat} (hk : 8 ≤ k) (qs : Nat → Rl) (nr : Nat) (hq : ∀ j, j < nr → (qs j).inb n) {xs : List S59} (hx : ARg n xs) :
    ∃ t0 u m0, initF k n 0 ⟨xs, false, false⟩ = some t0 ∧ roundF k qs nr m0 ⟨t0.xs, t0.fail, true⟩ = some u ∧ (u.fail = false → LE n xs u.xs ∧ Cl n qs nr u.xs) ∧ ∀ P, Cl n qs nr P → LE n xs P → u.fail = false ∧ LE n u.xs P := by
  obtain ⟨t0, h1, h2, h3, h4, h5⟩ := init_run hk n 0 (by omega) ⟨xs, false, false⟩ hx (fun _ j h0 h1 => absurd h1 (by omega))
  obtain ⟨m0, u, g1, g2, g3⟩ := round_run hk qs nr hq (meas t0.xs + 1) ⟨t0.xs, t0.fail, true⟩ (Nat.lt_succ_self _) h2 h4 (fun _ h => by cases h)
  refine ⟨t0, u, m0, h1, g1, fun hu => ?_, fun P hP hle => ?_⟩
  · obtain ⟨a, b⟩ := g2 hu
    refine ⟨LE.trans (h3.le ?_) a, b⟩
    cases hf : t0.fail with
    | false => rfl
    | true =>
      exfalso
      cases m0 with
      | zero => cases g1
      | succ m =>
        unfold roundF at g1
        rw [hf, if_neg (by simp)] at g1
        rw [← Option.some.inj g1] at hu
        cases hu
  · obtain ⟨a, b⟩ := h5 P hP.nm hle rfl
    exact g3 P hP b a
end Go.Proofs.Ytgfbgfbnmiainaa.Fam
/-! Plain laws of lists of numbers. -/
namespace Go.Proofs.Ytgfbgfbnmiainaa.Fam
set_option linter.unusedVariables false
set_option linter.unusedSimpArgs false
open Go.RowKit Go.Proofs.YtgfbgfbnmiainaaW.PrintWords Go.Proofs.YtgfbgfbnmiainaaW.PrintLast Go.Proofs.YtgfbgfbnmiainaaW.PrintMore Go.Proofs.Ytgfbgfbnmiainaa.Q
theorem rd_at {xs : List Int} {i : Nat} (h : i < xs.length) : rd xs (i : Int) = xs[i] := by
  simp [rd, h]
theorem drop_at {xs : List Int} {i : Nat} (h : i < xs.length) : xs.drop i = xs[i] :: xs.drop (i + 1) := List.drop_eq_getElem_cons h
theorem wrap_next (i : Nat) (h : i < 4611686018427387904) : wrap64 ((i : Int) + 1) = ((i + 1 : Nat) : Int) := by
  unfold wrap64; omega
theorem wrap_prev (i : Nat) (h : i < 4611686018427387904) : wrap64 (((i + 1 : Nat) : Int) - 1) = (i : Int) := by
  unfold wrap64; omega
/-- Whether a list ascends. -/
def ascB : List Int → Bool
  | [] => true
  | [_] => true
  | x :: y :: l => decide (x < y) && ascB (y :: l)
end Go.Proofs.Ytgfbgfbnmiainaa.Fam
/-! Kinds of relations; which are valid: the program's function. -/
namespace Go.Proofs.Ytgfbgfbnmiainaa.Fam
set_option linter.unusedVariables false
set_option linter.unusedSimpArgs false
open Go.RowKit Go.Proofs.YtgfbgfbnmiainaaW.PrintWords Go.Proofs.YtgfbgfbnmiainaaW.PrintLast Go.Proofs.YtgfbgfbnmiainaaW.PrintMore Go.Proofs.Ytgfbgfbnmiainaa.Q
/-- The kinds of relations. -/
inductive Kn where
  | part | apart | union | meet | minus | has | lacks | size
def Kn.text : Kn → ByteArray
  | .part => ⟨#[112, 97, 114, 116]⟩
  | .apart => ⟨#[97, 112, 97, 114, 116]⟩
  | .union => ⟨#[117, 110, 105, 111, 110]⟩
  | .meet => ⟨#[109, 101, 101, 116]⟩
  | .minus => ⟨#[109, 105, 110, 117, 115]⟩
  | .has => ⟨#[104, 97, 115]⟩
  | .lacks => ⟨#[108, 97, 99, 107, 115]⟩
  | .size => ⟨#[115, 105, 122, 101]⟩
def Kn.arity : Kn → Nat
  | .part => 2
  | .apart => 2
  | .union => 3
  | .meet => 3
  | .minus => 3
  | .has => 1
  | .lacks => 1
  | .size => 1
theorem bytes_eq {a b : ByteArray} (h : a.toList = b.toList) : a = b := by
  rw [ByteArray.toList_eq, ByteArray.toList_eq] at h
  exact ByteArray.ext (Array.toList_inj.1 h)
/-- The kind of a text. -/
def qOf (s : List UInt8) : Option Kn :=
  if s = [112, 97, 114, 116] then some .part else if s = [97, 112, 97, 114, 116] then some .apart else if s = [117, 110, 105, 111, 110] then some .union else if s = [109, 101, 101, 116] then some .meet
  else if s = [109, 105, 110, 117, 115] then some .minus else if s = [104, 97, 115] then some .has else if s = [108, 97, 99, 107, 115] then some .lacks else if s = [115, 105, 122, 101] then some .size else none
theorem text_list (q : Kn) : qOf q.text.toList = some q := by cases q <;> kernel_rfl
theorem qOf_text {s : List UInt8} {q : Kn} (h : qOf s = some q) : s = q.text.toList := by
  unfold qOf at h
  split at h
  · rename_i h1; cases h; rw [h1]; kernel_rfl
  split at h
  · rename_i h1; cases h; rw [h1]; kernel_rfl
  split at h
  · rename_i h1; cases h; rw [h1]; kernel_rfl
  split at h
  · rename_i h1; cases h; rw [h1]; kernel_rfl
  split at h
  · rename_i h1; cases h; rw [h1]; kernel_rfl
  split at h
  · rename_i h1; cases h; rw [h1]; kernel_rfl
  split at h
  · rename_i h1; cases h; rw [h1]; kernel_rfl
  split at h
  · rename_i h1; cases h; rw [h1]; kernel_rfl
  · cases h
def arityI : Option Kn → Int
  | some q => q.arity
  | none => 0
theorem arity_f (kind : ByteArray) (k : Nat) (hk : 3 ≤ k) : family_arity.f k kind = some (arityI (qOf kind.toList)) := by
  obtain ⟨k, rfl⟩ : ∃ m, k = m + 3 := ⟨k - 3, by omega⟩
  generalize hs : kind.toList = s
  by_cases h1 : s = [112, 97, 114, 116]
  · subst h1; simp [family_arity.f, family_arity.j0, family_arity.j1, hs, qOf, arityI, Kn.arity]
  by_cases h2 : s = [97, 112, 97, 114, 116]
  · subst h2; simp [family_arity.f, family_arity.j0, family_arity.j1, hs, qOf, arityI, Kn.arity]
  by_cases h3 : s = [117, 110, 105, 111, 110]
  · subst h3; simp [family_arity.f, family_arity.j0, family_arity.j1, hs, qOf, arityI, Kn.arity]
  by_cases h4 : s = [109, 101, 101, 116]
  · subst h4; simp [family_arity.f, family_arity.j0, family_arity.j1, hs, qOf, arityI, Kn.arity]
  by_cases h5 : s = [109, 105, 110, 117, 115]
  · subst h5; simp [family_arity.f, family_arity.j0, family_arity.j1, hs, qOf, arityI, Kn.arity]
  by_cases h6 : s = [104, 97, 115]
  · subst h6; simp [family_arity.f, family_arity.j0, family_arity.j1, hs, qOf, arityI, Kn.arity]
  by_cases h7 : s = [108, 97, 99, 107, 115]
  · subst h7; simp [family_arity.f, family_arity.j0, family_arity.j1, hs, qOf, arityI, Kn.arity]
  by_cases h8 : s = [115, 105, 122, 101]
  · subst h8; simp [family_arity.f, family_arity.j0, family_arity.j1, hs, qOf, arityI, Kn.arity]
  simp [family_arity.f, family_arity.j0, family_arity.j1, hs, qOf, h1, h2, h3, h4, h5, h6, h7, h8, arityI]
/-- Whether all variables from the i-th on are in range. -/
def inRg (vars : List Int) (N : Int) : Bool := vars.all fun v => decide (0 ≤ v) && decide (v < N)
theorem inRg_cons (v : Int) (vars : List Int) (N : Int) : inRg (v :: vars) N = (decide (0 ≤ v) && decide (v < N) && inRg vars N) := rfl
theorem validF_from (vars : List Int) (N : Int) (hl : vars.length ≤ 1000) : ∀ n i k, i + n = vars.length → n < k → family_ValidRel.l0 k N vars (vars.length : Int) (i : Int) = some (inRg (vars.drop i) N) := by
  intro n
  induction n with
  | zero =>
    intro i k hi hk
    obtain ⟨k, rfl⟩ : ∃ m, k = m + 1 := ⟨k - 1, by omega⟩
    unfold family_ValidRel.l0
    rw [if_neg (by omega), List.drop_eq_nil_of_le (by omega)]; rfl
  | succ n ih =>
    intro i k hi hk
    obtain ⟨k, rfl⟩ : ∃ m, k = m + 1 := ⟨k - 1, by omega⟩
    have hlt : i < vars.length := by omega
    unfold family_ValidRel.l0
    rw [if_pos (by omega), if_pos (by omega), if_pos (by omega), rd_at hlt, drop_at hlt, wrap_next i (by omega), ih (i + 1) k (by omega) (by omega), inRg_cons]
    by_cases h1 : vars[i] < 0
    · rw [if_pos h1, decide_eq_false (by omega)]; rfl
    · rw [if_neg h1, decide_eq_true (by omega)]
      by_cases h2 : vars[i] ≥ N
      · rw [if_pos h2, decide_eq_false (by omega)]; rfl
      · rw [if_neg h2, decide_eq_true (by omega)]; rfl
/-- Whether a relation is one of N lists. -/
def validB (kind : ByteArray) (vars : List Int) (N : Nat) : Bool :=
  match qOf kind.toList with
  | some q => inRg vars N && decide (vars.length = q.arity) && decide (N ≤ 40)
  | none => false
theorem arity_pos (q : Kn) : 0 < q.arity := by cases q <;> decide
theorem j0F (k : Nat) (x1 : Int) (b : Bool) (kind : ByteArray) (vars : List Int) (n : Int) : family_ValidRel.j0 (k + 1) x1 b kind vars n = if b = true then some false else family_ValidRel.l0 k x1 vars (vars.length : Int) 0 := by
  unfold family_ValidRel.j0
  rfl
theorem validF (kind : ByteArray) (vars : List Int) (n : Int) (N : Nat) (hl : vars.length ≤ 1000) : family_ValidRel.f (vars.length + 5) kind vars n N = some (validB kind vars N) := by
  unfold family_ValidRel.f validB
  rw [if_neg (by omega), arity_f kind _ (by omega), Option.bind_some]
  obtain ⟨k, hk⟩ : ∃ k, vars.length + 5 = k + 1 := ⟨vars.length + 4, rfl⟩
  rw [hk]
  by_cases h1 : (N : Int) > 40
  · rw [if_pos h1]
    rw [j0F]
    rw [if_pos rfl]
    cases qOf kind.toList with
    | none => rfl
    | some q => simp [show ¬ N ≤ 40 by omega]
  · rw [if_neg h1]
    by_cases h2 : (vars.length : Int) = 0
    · rw [if_pos h2]
      rw [j0F]
      rw [if_pos rfl]
      cases qOf kind.toList with
      | none => rfl
      | some q => have := arity_pos q; simp [show ¬ vars.length = q.arity by omega]
    · rw [if_neg h2]
      rw [j0F]
      cases hq : qOf kind.toList with
      | none =>
        rw [if_pos (by simp only [arityI, bne_iff_ne]; exact h2)]
      | some q =>
        by_cases h3 : vars.length = q.arity
        · rw [if_neg (by simp [arityI, h3])]
          have h5 := validF_from vars N hl vars.length 0 k (by omega) (by omega)
          rw [List.drop_zero] at h5
          refine h5.trans ?_
          simp [h3, show N ≤ 40 by omega]
        · rw [if_pos (by simp only [arityI, bne_iff_ne]; omega)]
          simp [h3]
/-- What is known of a valid one. -/
theorem valid_kn {kind : ByteArray} {vars : List Int} {N : Nat} (h : validB kind vars N = true) : ∃ q : Kn, kind = q.text ∧ vars.length = q.arity ∧ ∀ j : Nat, j < vars.length → 0 ≤ rd vars (j : Int) ∧ rd vars (j : Int) < N := by
  unfold validB at h
  cases hq : qOf kind.toList with
  | none => rw [hq] at h; cases h
  | some q =>
    rw [hq] at h
    simp only [Bool.and_eq_true, decide_eq_true_eq] at h
    obtain ⟨⟨h1, h2⟩, h3⟩ := h
    refine ⟨q, bytes_eq (qOf_text hq), h2, fun j hj => ?_⟩
    rw [rd_at hj]
    have := (List.all_eq_true.1 h1) _ (List.getElem_mem hj)
    simpa using this
end Go.Proofs.Ytgfbgfbnmiainaa.Fam
/-! Lists of numbers and words: mask, list, open, close. -/
namespace Go.Proofs.Ytgfbgfbnmiainaa.Fam
set_option linter.unusedVariables false
set_option linter.unusedSimpArgs false
open Go.RowKit Go.Proofs.YtgfbgfbnmiainaaW.PrintWords Go.Proofs.YtgfbgfbnmiainaaW.PrintLast Go.Proofs.YtgfbgfbnmiainaaW.PrintMore Go.Proofs.Ytgfbgfbnmiainaa.Q
/-- A list of elements, ascending, behind one that is p. -/
def chk : Option Int → List Int → Bool
  | _, [] => true
  | p, x :: l => decide (0 ≤ x) && decide (x ≤ 63) && (match p with | none => true | some y => decide (y < x)) && chk (some x) l
def stp (m x : Int) : Int := Go.bits .or .u64 m (shl .u64 1 x)
theorem shl_bit {x : Int} (h0 : 0 ≤ x) (h1 : x ≤ 63) : shl .u64 1 x = ((2 ^ x.toNat : Nat) : Int) := by
  obtain ⟨n, rfl, hn⟩ : ∃ n : Nat, x = (n : Int) ∧ n ≤ 63 := ⟨x.toNat, by omega, by omega⟩
  unfold shl
  rw [Int.toNat_natCast, show IntKind.u64.bits = 64 from rfl, Nat.min_eq_left (by omega), Int.one_mul]
  have h2 : ((2 ^ n : Nat) : Int) = (2 : Int) ^ n := by rw [Int.natCast_pow]; rfl
  rw [← h2]
  exact wrap_u _ (Nat.lt_of_le_of_lt (Nat.pow_le_pow_right (by decide) hn) (by decide))
theorem wd_pow {n : Nat} (h : n ≤ 63) : Wd ((2 ^ n : Nat) : Int) := ⟨Int.natCast_nonneg _, by
  have : 2 ^ n < 18446744073709551616 := Nat.lt_of_le_of_lt (Nat.pow_le_pow_right (by decide) h) (by decide)
  omega⟩
theorem bt_pow (n i : Nat) : bt ((2 ^ n : Nat) : Int) i = decide (n = i) := by
  unfold bt
  rw [Int.toNat_natCast, Nat.testBit_two_pow]
theorem wd_stp (m x : Int) : Wd (stp m x) := wd_or _ _
theorem bt_stp {m x : Int} (hm : Wd m) (h0 : 0 ≤ x) (h1 : x ≤ 63) (i : Nat) : bt (stp m x) i = (bt m i || decide (x = (i : Int))) := by
  unfold stp
  rw [shl_bit h0 h1, bt_or hm (wd_pow (by omega)), bt_pow]
  congr 1
  exact decide_eq_decide.mpr (by omega)
def ofF (l : List Int) (m : Int) : Int := l.foldl stp m
def ofL (l : List Int) : Int := ofF l 0
theorem wd_zero : Wd 0 := ⟨by omega, by omega⟩
theorem wd_ofF : ∀ (l : List Int) (m : Int), Wd m → Wd (ofF l m)
  | [], _, h => h
  | _ :: l, _, _ => wd_ofF l _ (wd_stp _ _)
theorem bt_ofF : ∀ (l : List Int) (m : Int), Wd m → (∀ x ∈ l, 0 ≤ x ∧ x ≤ 63) → ∀ i, bt (ofF l m) i = (bt m i || decide ((i : Int) ∈ l))
  | [], m, _, _, i => by simp [ofF]
  | x :: l, m, hm, h, i => by
    have hx := h x (List.mem_cons_self ..)
    have := bt_ofF l (stp m x) (wd_stp _ _) (fun y hy => h y (List.mem_cons_of_mem _ hy)) i
    rw [show ofF (x :: l) m = ofF l (stp m x) from rfl, this, bt_stp hm hx.1 hx.2, Bool.or_assoc]
    congr 1
    rw [Bool.eq_iff_iff, Bool.or_eq_true_iff, decide_eq_true_iff, decide_eq_true_iff, decide_eq_true_iff, List.mem_cons]
    exact ⟨fun h => h.imp Eq.symm id, fun h => h.imp Eq.symm id⟩
theorem bt_zero (i : Nat) : bt 0 i = false := by simp [bt]
theorem chk_rng : ∀ (p : Option Int) (l : List Int), chk p l = true → ∀ x ∈ l, 0 ≤ x ∧ x ≤ 63
  | _, [], _, x, hx => by cases hx
  | p, y :: l, h, x, hx => by
    simp only [chk, Bool.and_eq_true, decide_eq_true_eq] at h
    rcases List.mem_cons.mp hx with rfl | hx
    · exact h.1.1
    · exact chk_rng _ l h.2 x hx
theorem chk_sort : ∀ (p : Option Int) (l : List Int), chk p l = true → l.Pairwise (· < ·) ∧ ∀ y, p = some y → ∀ x ∈ l, y < x
  | _, [], _ => ⟨List.Pairwise.nil, fun _ _ x hx => by cases hx⟩
  | p, z :: l, h => by
    simp only [chk, Bool.and_eq_true, decide_eq_true_eq] at h
    obtain ⟨h1, h2⟩ := chk_sort (some z) l h.2
    refine ⟨List.Pairwise.cons (fun x hx => h2 z rfl x hx) h1, fun y e x hx => ?_⟩
    subst e
    have h3 : y < z := by simpa using h.1.2
    rcases List.mem_cons.mp hx with rfl | hx
    · exact h3
    · have := h2 z rfl x hx; omega
theorem chk_mk : ∀ (p : Option Int) (l : List Int), (∀ x ∈ l, 0 ≤ x ∧ x ≤ 63) → l.Pairwise (· < ·) → (∀ y, p = some y → ∀ x ∈ l, y < x) → chk p l = true
  | _, [], _, _, _ => rfl
  | p, z :: l, h, hs, hp => by
    obtain ⟨h1, h2⟩ := List.pairwise_cons.mp hs
    have hz := h z (List.mem_cons_self ..)
    simp only [chk, Bool.and_eq_true, decide_eq_true_eq]
    refine ⟨⟨hz, ?_⟩, chk_mk (some z) l (fun x hx => h x (List.mem_cons_of_mem _ hx)) h2 (fun y e x hx => by cases e; exact h1 x hx)⟩
    cases p with
    | none => rfl
    | some y => simpa using hp y rfl z (List.mem_cons_self ..)
/-- The set of a word, as a list. -/
theorem mem_bl : ∀ (n i x : Nat) (z : Int), z ∈ bl n i x ↔ ∃ j, j < n ∧ z = ((i + j : Nat) : Int) ∧ x.testBit j = true
  | 0, _, _, z => by simp [bl]
  | n + 1, i, x, z => by
    simp only [bl, List.mem_append]
    rw [mem_bl n (i + 1) (x / 2) z]
    constructor
    · rintro (h | ⟨j, h1, h2, h3⟩)
      · split at h
        · rename_i hx
          refine ⟨0, by omega, by simpa using h, ?_⟩
          rw [Nat.testBit_zero, decide_eq_true hx]
        · cases h
      · exact ⟨j + 1, by omega, by rw [h2]; congr 1; omega, by rw [Nat.testBit_succ]; exact h3⟩
    · rintro ⟨j, h1, h2, h3⟩
      cases j with
      | zero =>
        rw [Nat.testBit_zero] at h3
        rw [if_pos (of_decide_eq_true h3)]
        exact .inl (by simpa using h2)
      | succ j => exact .inr ⟨j, by omega, by rw [h2]; congr 1; omega, by rw [Nat.testBit_succ] at h3; exact h3⟩
theorem sort_bl : ∀ (n i x : Nat), (bl n i x).Pairwise (· < ·)
  | 0, _, _ => List.Pairwise.nil
  | n + 1, i, x => by
    simp only [bl]
    have ih := sort_bl n (i + 1) (x / 2)
    split
    · refine List.Pairwise.cons (fun z hz => ?_) ih
      obtain ⟨j, _, h, _⟩ := (mem_bl _ _ _ _).mp hz
      omega
    · exact ih
def lsO (v : Int) : List Int := bits64 v.toNat
theorem mem_lsO {v : Int} (z : Int) : z ∈ lsO v ↔ 0 ≤ z ∧ z ≤ 63 ∧ bt v z.toNat = true := by
  unfold lsO bits64
  rw [mem_bl]
  constructor
  · rintro ⟨j, h1, h2, h3⟩
    rw [Nat.zero_add] at h2
    subst h2
    exact ⟨by omega, by omega, h3⟩
  · rintro ⟨h1, h2, h3⟩
    exact ⟨z.toNat, by omega, by omega, h3⟩
theorem chk_lsO (v : Int) : chk none (lsO v) = true := chk_mk _ _ (fun x hx => by obtain ⟨h1, h2, _⟩ := (mem_lsO x).mp hx; exact ⟨h1, h2⟩) (sort_bl _ _ _) (fun y e => by cases e)
theorem wd_ofL (l : List Int) : Wd (ofL l) := wd_ofF l 0 wd_zero
theorem bt_ofL {l : List Int} (h : chk none l = true) (i : Nat) : bt (ofL l) i = decide ((i : Int) ∈ l) := by
  unfold ofL
  rw [bt_ofF l 0 wd_zero (chk_rng _ _ h), bt_zero, Bool.false_or]
theorem ofL_lsO {v : Int} (h : Wd v) : ofL (lsO v) = v :=
  wd_ext (wd_ofL _) h (fun i hi => by
    rw [bt_ofL (chk_lsO v), Bool.eq_iff_iff, decide_eq_true_iff, mem_lsO]
    simp
    omega)
theorem sortExt : ∀ (a b : List Int), a.Pairwise (· < ·) → b.Pairwise (· < ·) → (∀ z, z ∈ a ↔ z ∈ b) → a = b
  | [], [], _, _, _ => rfl
  | [], y :: b, _, _, h => by have := (h y).2 (List.mem_cons_self ..); cases this
  | x :: a, [], _, _, h => by have := (h x).1 (List.mem_cons_self ..); cases this
  | x :: a, y :: b, ha, hb, h => by
    obtain ⟨hx, ha'⟩ := List.pairwise_cons.1 ha
    obtain ⟨hy, hb'⟩ := List.pairwise_cons.1 hb
    have e : x = y := by
      have h1 := (h x).1 (List.mem_cons_self ..)
      have h2 := (h y).2 (List.mem_cons_self ..)
      rcases List.mem_cons.1 h1 with e | h1
      · exact e
      · rcases List.mem_cons.1 h2 with e | h2
        · exact e.symm
        · have := hy x h1; have := hx y h2; omega
    subst e
    refine congrArg (x :: ·) (sortExt a b ha' hb' (fun z => ⟨fun hz => ?_, fun hz => ?_⟩))
    · rcases List.mem_cons.1 ((h z).1 (List.mem_cons_of_mem _ hz)) with e | e
      · have := hx z hz; omega
      · exact e
    · rcases List.mem_cons.1 ((h z).2 (List.mem_cons_of_mem _ hz)) with e | e
      · have := hy z hz; omega
      · exact e
theorem lsO_ofL {l : List Int} (h : chk none l = true) : lsO (ofL l) = l :=
  sortExt _ _ (sort_bl _ _ _) (chk_sort _ _ h).1 (fun z => by
    rw [mem_lsO]
    constructor
    · rintro ⟨h1, h2, h3⟩
      rw [bt_ofL h, decide_eq_true_iff, Int.toNat_of_nonneg h1] at h3
      exact h3
    · intro hz
      obtain ⟨h1, h2⟩ := chk_rng _ _ h z hz
      refine ⟨h1, h2, ?_⟩
      rw [bt_ofL h, decide_eq_true_iff, Int.toNat_of_nonneg h1]
      exact hz)
theorem card_lsO (v : Int) : ((lsO v).length : Int) = card v := by
  unfold lsO bits64 card
  rw [bl_length]
theorem card_ofL {l : List Int} (h : chk none l = true) : card (ofL l) = (l.length : Int) := by
  rw [← card_lsO, lsO_ofL h]
def res (b : Bool) (m : Int) : Int × Bool := match b with | true => (m, true) | false => (0, false)
theorem chk_cons (p : Option Int) (x : Int) (l : List Int) : chk p (x :: l) = (decide (0 ≤ x) && decide (x ≤ 63) && (match p with | none => true | some y => decide (y < x)) && chk (some x) l) := rfl
def prv (l : List Int) (i : Nat) : Option Int := if i = 0 then none else some (rd l ((i - 1 : Nat) : Int))
theorem mask_from (l : List Int) (hl : l.length ≤ 4611686018427387904) : ∀ n i k (m : Int), i + n = l.length → n < k → family_mask.l0 k l m l (l.length : Int) (i : Int) = some (res (chk (prv l i) (l.drop i)) (ofF (l.drop i) m)) := by
  intro n
  induction n with
  | zero =>
    intro i k m hi hk
    obtain ⟨k, rfl⟩ : ∃ j, k = j + 1 := ⟨k - 1, by omega⟩
    unfold family_mask.l0
    rw [if_neg (by omega), List.drop_of_length_le (by omega)]
    rfl
  | succ n ih =>
    intro i k m hi hk
    obtain ⟨k, rfl⟩ : ∃ j, k = j + 1 := ⟨k - 1, by omega⟩
    have hlt : i < l.length := by omega
    have hd := drop_at hlt
    have hp : prv l (i + 1) = some l[i] := by
      unfold prv
      rw [if_neg (by omega), Nat.add_sub_cancel, rd_at hlt]
    have ih' := ih (i + 1) k (stp m l[i]) (by omega) (by omega)
    rw [hp] at ih'
    unfold family_mask.l0
    rw [if_pos (by omega), if_pos (by omega), if_pos (by omega), rd_at hlt, hd, chk_cons]
    by_cases h0 : l[i] < 0
    · rw [if_pos h0, decide_eq_false (show ¬ 0 ≤ l[i] by omega)]; rfl
    · rw [if_neg h0, decide_eq_true (show 0 ≤ l[i] by omega)]
      by_cases h1 : l[i] > 63
      · rw [if_pos h1, decide_eq_false (show ¬ l[i] ≤ 63 by omega)]; rfl
      · rw [if_neg h1, decide_eq_true (show l[i] ≤ 63 by omega)]
        rw [wrap_next i (by omega)]
        cases i with
        | zero =>
          rw [if_neg (by omega), if_pos (by omega)]
          refine Eq.trans ih' ?_
          rfl
        | succ i =>
          rw [if_pos (by omega), wrap_prev i (by omega), if_pos (by omega), if_pos (by omega)]
          have hp2 : prv l (i + 1) = some (rd l (i : Int)) := by
            unfold prv
            rw [if_neg (by omega), Nat.add_sub_cancel]
          rw [hp2]
          by_cases h2 : l[i + 1] ≤ rd l (i : Int)
          · rw [if_pos h2]
            simp only [decide_eq_false (show ¬ rd l (i : Int) < l[i + 1] by omega), Bool.and_false, Bool.false_and, res]
          · rw [if_neg h2, if_pos (by omega)]
            refine Eq.trans ih' ?_
            simp only [decide_eq_true (show rd l (i : Int) < l[i + 1] by omega), Bool.true_and]
            rfl
def mskF (l : List Int) : Int × Bool := res (chk none l) (ofL l)
theorem mask_f {l : List Int} (hl : l.length ≤ 4611686018427387904) {k : Nat} (hk : l.length < k) : family_mask.f k l = some (mskF l) := mask_from l hl l.length 0 k 0 (by omega) hk
/-- Whether a family is valid. -/
def vl (f : S37) : Bool := chk none f.f0 && chk none f.f1 && decide (0 ≤ f.f2) && decide (f.f2 ≤ 64) && decide (0 ≤ f.f3) && decide (f.f3 ≤ 64)
/-- A family as it is worked with. -/
def opn (f : S37) : S59 := ⟨(mskF f.f0).1, (mskF f.f1).1, f.f2, f.f3⟩
theorem openF_eq {f : S37} (h0 : f.f0.length ≤ 1000) (h1 : f.f1.length ≤ 1000) {k : Nat} (hk : 1000 < k) : openF k f = some (opn f, vl f) := by
  unfold openF family_open.f
  rw [mask_f (by omega) (by omega), mask_f (by omega) (by omega), Option.bind_some, Option.bind_some]
  unfold vl opn mskF
  cases chk none f.f0
  · simp [res]
  cases chk none f.f1
  · simp [res]
  simp only [res, if_true, Bool.true_and]
  by_cases a0 : 0 ≤ f.f2
  · rw [if_pos a0, decide_eq_true a0]
    by_cases a1 : f.f2 ≤ 64
    · rw [if_pos a1, decide_eq_true a1]
      by_cases a2 : 0 ≤ f.f3
      · rw [if_pos a2, decide_eq_true a2]; rfl
      · rw [if_neg a2, decide_eq_false a2]; rfl
    · rw [if_neg a1, decide_eq_false a1]; rfl
  · rw [if_neg a0, decide_eq_false a0]; rfl
theorem vl_facts {f : S37} (h : vl f = true) : chk none f.f0 = true ∧ chk none f.f1 = true ∧ 0 ≤ f.f2 ∧ f.f2 ≤ 64 ∧ 0 ≤ f.f3 ∧ f.f3 ≤ 64 := by
  simp only [vl, Bool.and_eq_true, decide_eq_true_eq] at h
  obtain ⟨⟨⟨⟨⟨a, b⟩, c⟩, d⟩, e⟩, g⟩ := h
  exact ⟨a, b, c, d, e, g⟩
theorem opn_eq {f : S37} (h : vl f = true) : opn f = ⟨ofL f.f0, ofL f.f1, f.f2, f.f3⟩ := by
  obtain ⟨h0, h1, _⟩ := vl_facts h
  unfold opn mskF
  rw [h0, h1]
  rfl
theorem opn_rg {f : S37} (h : vl f = true) : Rg (opn f) := by
  obtain ⟨h0, h1, h2, h3, h4, h5⟩ := vl_facts h
  rw [opn_eq h]
  exact ⟨⟨wd_ofL _, wd_ofL _⟩, h2, h3, h4, h5⟩
/-- The family of what was worked with. -/
def clo (s : S59) : S37 := ⟨lsO s.f0, lsO s.f1, s.f2, s.f3⟩
theorem closeF_eq {s : S59} (h : Ws s) {k : Nat} (hk : 64 < k) : closeF k s = some (clo s) := by
  obtain ⟨a, ha, ha'⟩ := wd_nat h.1
  obtain ⟨b, hb, hb'⟩ := wd_nat h.2
  unfold closeF family_span_close.f clo lsO
  rw [ha, hb, listF a ha' hk, listF b hb' hk]
  rfl
theorem vl_clo {s : S59} (h : Rg s) : vl (clo s) = true := by
  unfold vl clo
  rw [chk_lsO, chk_lsO, decide_eq_true h.a0, decide_eq_true h.a1, decide_eq_true h.b0, decide_eq_true h.b1]
  rfl
theorem opn_clo {s : S59} (h : Rg s) : opn (clo s) = s := by
  rw [opn_eq (vl_clo h)]
  simp only [clo, ofL_lsO h.wf.1, ofL_lsO h.wf.2]
end Go.Proofs.Ytgfbgfbnmiainaa.Fam
/-! Plain laws of the reference's small functions on lists of numbers. -/
namespace Go.Proofs.Ytgfbgfbnmiainaa.Fam
set_option linter.unusedVariables false
set_option linter.unusedSimpArgs false
open Go.RowKit Go.Proofs.YtgfbgfbnmiainaaW.PrintWords Go.Proofs.YtgfbgfbnmiainaaW.PrintLast Go.Proofs.YtgfbgfbnmiainaaW.PrintMore Go.Proofs.Ytgfbgfbnmiainaa.Q
theorem has_from (xs : List Int) (t : Int) (hl : xs.length ≤ 4611686018427387904) : ∀ n i k, i + n = xs.length → n < k → manystrandref07_has.l0 k xs t (i : Int) = some (decide (t ∈ xs.drop i)) := by
  intro n
  induction n with
  | zero =>
    intro i k hi hk
    obtain ⟨k, rfl⟩ : ∃ m, k = m + 1 := ⟨k - 1, by omega⟩
    unfold manystrandref07_has.l0
    rw [if_neg (by omega), List.drop_eq_nil_of_le (by omega)]; simp
  | succ n ih =>
    intro i k hi hk
    obtain ⟨k, rfl⟩ : ∃ m, k = m + 1 := ⟨k - 1, by omega⟩
    have hlt : i < xs.length := by omega
    unfold manystrandref07_has.l0
    rw [if_pos (by omega), if_pos (by omega), rd_at hlt, drop_at hlt]
    by_cases he : xs[i] = t
    · rw [if_pos he]; simp [he]
    · rw [if_neg he, wrap_next i (by omega), ih (i + 1) k (by omega) (by omega)]
      congr 1
      exact decide_eq_decide.2 (by rw [List.mem_cons]; exact ⟨.inr, fun h => h.resolve_left (Ne.symm he)⟩)
theorem has_f (xs : List Int) (t : Int) (hl : xs.length ≤ 4611686018427387904) {k : Nat} (hk : xs.length < k) : manystrandref07_has.f k xs t = some (decide (t ∈ xs)) :=
  has_from xs t hl xs.length 0 k (by omega) hk
theorem inAll_from (xs ys : List Int) (b : Bool) (hl : xs.length ≤ 4611686018427387904) (hl2 : ys.length ≤ 4611686018427387904) : ∀ n i k, i + n = xs.length → n + ys.length < k →
    manystrandref07_inAll.l0 k xs ys b (i : Int) = some (decide (∀ x ∈ xs.drop i, decide (x ∈ ys) = b)) := by
  intro n
  induction n with
  | zero =>
    intro i k hi hk
    obtain ⟨k, rfl⟩ : ∃ m, k = m + 1 := ⟨k - 1, by omega⟩
    unfold manystrandref07_inAll.l0
    rw [if_neg (by omega), List.drop_eq_nil_of_le (by omega)]; simp
  | succ n ih =>
    intro i k hi hk
    obtain ⟨k, rfl⟩ : ∃ m, k = m + 1 := ⟨k - 1, by omega⟩
    have hlt : i < xs.length := by omega
    unfold manystrandref07_inAll.l0
    rw [if_pos (by omega), if_pos (by omega), rd_at hlt, drop_at hlt, has_f ys _ hl2 (by omega), Option.bind_some]
    by_cases he : decide (xs[i] ∈ ys) = b
    · rw [he, if_neg (by simp), wrap_next i (by omega), ih (i + 1) k (by omega) (by omega)]
      congr 1
      exact decide_eq_decide.2 ⟨fun h x hx => by rcases List.mem_cons.1 hx with rfl | hx; exact he; exact h x hx, fun h x hx => h x (List.mem_cons_of_mem _ hx)⟩
    · rw [if_pos (by cases b <;> cases hd : decide (xs[i] ∈ ys) <;> simp_all)]
      congr 1
      exact (decide_eq_false (fun h => he (h _ (List.mem_cons_self ..)))).symm
theorem inAll_f (xs ys : List Int) (b : Bool) (hl : xs.length ≤ 4611686018427387904) (hl2 : ys.length ≤ 4611686018427387904) : manystrandref07_inAll.f (xs.length + ys.length + 1) xs ys b = some (decide (∀ x ∈ xs, decide (x ∈ ys) = b)) :=
  inAll_from xs ys b hl hl2 xs.length 0 _ (by omega) (by omega)
theorem manystrandref07_ascending_from (l : List Int) (hl : l.length ≤ 4611686018427387904) : ∀ n i k, i + n = l.length → n < k → manystrandref07_ascending.l0 k l ((i + 1 : Nat) : Int) = some (ascB (l.drop i)) := by
  intro n
  induction n with
  | zero =>
    intro i k hi hk
    obtain ⟨k, rfl⟩ : ∃ m, k = m + 1 := ⟨k - 1, by omega⟩
    unfold manystrandref07_ascending.l0
    rw [if_neg (by omega), List.drop_eq_nil_of_le (by omega)]; rfl
  | succ n ih =>
    intro i k hi hk
    obtain ⟨k, rfl⟩ : ∃ m, k = m + 1 := ⟨k - 1, by omega⟩
    have hlt : i < l.length := by omega
    unfold manystrandref07_ascending.l0
    by_cases h2 : i + 1 < l.length
    · rw [if_pos (by omega), if_pos (by omega), wrap_prev i (by omega), if_pos (by omega), if_pos (by omega), rd_at hlt, rd_at h2, drop_at hlt, drop_at h2, wrap_next (i + 1) (by omega), ih (i + 1) k (by omega) (by omega), drop_at h2]
      by_cases h3 : l[i + 1] ≤ l[i]
      · rw [if_pos h3]
        simp only [ascB, decide_eq_false (show ¬ l[i] < l[i + 1] by omega), Bool.false_and]
      · rw [if_neg h3]
        simp only [ascB, decide_eq_true (show l[i] < l[i + 1] by omega), Bool.true_and]
    · rw [if_neg (by omega), drop_at hlt, List.drop_eq_nil_of_le (by omega)]; rfl
theorem manystrandref07_ascending_f (l : List Int) (hl : l.length ≤ 4611686018427387904) {k : Nat} (hk : l.length < k) : manystrandref07_ascending.f k l = some (ascB l) :=
  manystrandref07_ascending_from l hl l.length 0 k (by omega) hk
end Go.Proofs.Ytgfbgfbnmiainaa.Fam
/-! The reference's normal form is nrm. -/
namespace Go.Proofs.Ytgfbgfbnmiainaa.Fam
set_option linter.unusedVariables false
set_option linter.unusedSimpArgs false
open Go.RowKit Go.Proofs.YtgfbgfbnmiainaaW.PrintWords Go.Proofs.YtgfbgfbnmiainaaW.PrintLast Go.Proofs.YtgfbgfbnmiainaaW.PrintMore Go.Proofs.Ytgfbgfbnmiainaa.Q
def ab (s : S68) : S59 := ⟨s.f0, s.f1, s.f2, s.f3⟩
def bad68 : S68 := ⟨0, 0, 0, 0, true⟩
def outR (o : Option S59) : S68 := match o with | some t => ⟨t.f0, t.f1, t.f2, t.f3, false⟩ | none => bad68
noncomputable def NR (s : S68) : S68 := if s.f4 = true then bad68 else outR (nrm (ab s))
theorem stepR_some (k : Nat) (hk : 64 < k) {s t : S59} (hs : Ws s) (h : nrm s = some t) : manystrandref07_normal.l0 (k + 3) s.f0 s.f1 s.f2 s.f3 false = if eqs t s = true then some (s.f0, s.f1, s.f2, s.f3, false) else manystrandref07_normal.l0 k t.f0 t.f1 t.f2 t.f3 false := by
  obtain ⟨R, hR⟩ : ∃ R, R = manystrandref07_normal.l0 k t.f0 t.f1 t.f2 t.f3 false := ⟨_, rfl⟩
  rw [← hR]
  obtain ⟨⟨h0, h1⟩, hc⟩ := nrm_some h
  unfold manystrandref07_normal.l0
  rw [sizeR_i hs.1 (by omega), sizeR_i hs.2 (by omega), Option.bind_some, Option.bind_some, if_neg (by simp), if_pos ((andNot_zero hs.1 hs.2).mpr h0)]
  unfold manystrandref07_normal.j1
  rw [if_neg (by simp; omega), sizeR_i hs.2 (by omega), Option.bind_some]
  rcases hc with ⟨e, rfl⟩ | ⟨e, e1, rfl⟩ | ⟨e, e1, rfl⟩
  · rw [if_pos e]
    unfold manystrandref07_normal.j2
    rw [sizeR_i hs.2 hk, Option.bind_some]
    simp only [eqs, beq_self_eq_true, Bool.and_true]
    rw [hR]
    split <;> rfl
  · rw [if_neg e]
    unfold manystrandref07_normal.j2
    rw [sizeR_i hs.1 hk, Option.bind_some, if_pos e1]
    simp only [eqs, beq_self_eq_true, Bool.and_true]
    rw [hR]
  · rw [if_neg e]
    unfold manystrandref07_normal.j2
    rw [sizeR_i hs.1 hk, Option.bind_some, if_neg e1]
    simp only [eqs, beq_self_eq_true, Bool.and_true]
    rw [hR]
theorem stepR_none (k : Nat) (hk : 64 < k) {s : S59} (hs : Ws s) (h : nrm s = none) : manystrandref07_normal.l0 (k + 3) s.f0 s.f1 s.f2 s.f3 false = some (0, 0, 0, 0, true) := by
  have hc := nrm_none h
  unfold manystrandref07_normal.l0
  rw [sizeR_i hs.1 (by omega), sizeR_i hs.2 (by omega), Option.bind_some, Option.bind_some, if_neg (by simp)]
  split
  · rename_i h0
    have h1 := (andNot_zero hs.1 hs.2).mp h0
    unfold manystrandref07_normal.j1
    rw [if_pos (by
      have : ¬ mx s.f2 (card s.f0) ≤ mn s.f3 (card s.f1) := fun h2 => hc ⟨h1, h2⟩
      simp; omega)]
  · unfold manystrandref07_normal.j1
    rw [if_pos rfl]
theorem stepR_bad (k : Nat) (hk : 64 < k) {s : S59} (hs : Ws s) : manystrandref07_normal.l0 (k + 3) s.f0 s.f1 s.f2 s.f3 true = some (0, 0, 0, 0, true) := by
  unfold manystrandref07_normal.l0
  rw [sizeR_i hs.1 (by omega), sizeR_i hs.2 (by omega), Option.bind_some, Option.bind_some, if_pos rfl]
  unfold manystrandref07_normal.j1
  rw [if_pos rfl]
theorem NR_bad {s : S68} (h : s.f4 = true) : NR s = bad68 := by unfold NR; rw [if_pos h]
theorem NR_good {s : S68} (h : s.f4 = false) : NR s = outR (nrm (ab s)) := by unfold NR; rw [if_neg (by rw [h]; simp)]
theorem normR_aux (f : S59) (b : Bool) (hs : Ws f) {k : Nat} (hk : 100 ≤ k) (r : S68) (hr : (b = true ∧ r = bad68) ∨ (b = false ∧ r = outR (nrm f))) : manystrandref07_normal.l0 k f.f0 f.f1 f.f2 f.f3 b = some (r.f0, r.f1, r.f2, r.f3, r.f4) := by
  obtain ⟨k, rfl⟩ : ∃ m, k = m + 3 + 3 := ⟨k - 6, by omega⟩
  rcases hr with ⟨rfl, rfl⟩ | ⟨rfl, rfl⟩
  · rw [stepR_bad (k + 3) (by omega) hs]; rfl
  · cases h : nrm f with
    | none => rw [stepR_none (k + 3) (by omega) hs h]; rfl
    | some t =>
      rw [stepR_some (k + 3) (by omega) hs h]
      have hN := ((nrm_spec hs).1 t h).1
      split
      · rename_i e
        rw [← eqs_iff.mp e]
        rfl
      · rw [stepR_some k (by omega) hN.wf (nrm_nm hN), if_pos (eqs_self t)]
        rfl
theorem normR (s : S68) (hs : Ws (ab s)) {k : Nat} (hk : 100 ≤ k) : manystrandref07_normal.f k s.f0 s.f1 s.f2 s.f3 s.f4 = some ((NR s).f0, (NR s).f1, (NR s).f2, (NR s).f3, (NR s).f4) := by
  unfold manystrandref07_normal.f
  cases h : s.f4 with
  | true => exact normR_aux (ab s) true hs hk (NR s) (.inl ⟨rfl, NR_bad h⟩)
  | false => exact normR_aux (ab s) false hs hk (NR s) (.inr ⟨rfl, NR_good h⟩)
end Go.Proofs.Ytgfbgfbnmiainaa.Fam
