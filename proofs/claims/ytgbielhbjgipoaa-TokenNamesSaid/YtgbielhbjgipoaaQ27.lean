-- Walks of Go functions; written by own_print.py of this repo (see NOTES.md).
import Derived.Test.YtgbielhbjgipoaaQ0
import Derived.Test.YtgbielhbjgipoaaQ26
namespace Go.Proofs.Ytgbielhbjgipoaa.Q
open Go.RowKit Go.Proofs.YtgbielhbjgipoaaW.PrintWords Go.Proofs.YtgbielhbjgipoaaW.PrintLast Go.Proofs.YtgbielhbjgipoaaW.PrintMore
attribute [local go_sem] Go.Proofs.YtgbielhbjgipoaaW.OwnWords.isSome_setCell max2_int min2_int max_two min_two max_three min_three max_four min_four   -- for this text's walks alone
set_option linter.unusedVariables false
set_option linter.unusedSimpArgs false

/-! ### manystrandref01_IsInt: function 49 -/
def manystrandref01_IsInt.j0 : Nat → ByteArray → Bool → Option (Bool)
 | 0, _, _ => none
 | k + 1, x0, x9 => if x9 = true then (if x0.toList = ([126, 48] : List UInt8) then (some false) else (if 1 ≤ (x0.size : Int) then ((manystrandref01_IsNumber.f k (x0.extract 1 x0.size)).bind fun t172 => (some t172)) else (none))) else ((manystrandref01_IsNumber.f k x0).bind fun t173 => (some t173))
def manystrandref01_IsInt.f (k : Nat) (a0 : ByteArray) : Option (Bool) := if a0.toList = ([] : List UInt8) then (manystrandref01_IsInt.j0 k a0 false) else (if 0 < (a0.size : Int) then (manystrandref01_IsInt.j0 k a0 ((bt a0 0) == 126)) else (none))
theorem manystrandref01_IsInt.mono_l : ∀ k, (∀ y0 y1, LeO (manystrandref01_IsInt.j0 k y0 y1) (manystrandref01_IsInt.j0 (k + 1) y0 y1))
 | 0 => fun _ _ r h => by simp [manystrandref01_IsInt.j0] at h
 | k + 1 => by
  have ih0 := manystrandref01_IsInt.mono_l k
  ·intro y0 y1
   unfold manystrandref01_IsInt.j0
   repeat' first
   | (with_reducible exact ih0 _ _)
   | (with_reducible exact manystrandref01_IsNumber.mono _ _)
   | (with_reducible exact LeO.refl _)
   | (with_reducible exact LeO.none _)
   | (with_reducible refine LeO.ite ?_ ?_)
   | (with_reducible refine LeO.bind ?_ (fun _ => ?_))
   | exact ih0 _ _
   | exact manystrandref01_IsNumber.mono _ _
   | exact LeO.none _
   | refine LeO.ite ?_ ?_
   | refine LeO.bind ?_ (fun _ => ?_)
theorem manystrandref01_IsInt.mono : ∀ a0 k, LeO (manystrandref01_IsInt.f k a0) (manystrandref01_IsInt.f (k + 1) a0) := by
 intro a0 k
 have ih0 := manystrandref01_IsInt.mono_l k
 unfold manystrandref01_IsInt.f
 repeat' first
   | (with_reducible exact ih0 _ _)
   | (with_reducible exact manystrandref01_IsNumber.mono _ _)
   | (with_reducible exact LeO.refl _)
   | (with_reducible exact LeO.none _)
   | (with_reducible refine LeO.ite ?_ ?_)
   | (with_reducible refine LeO.bind ?_ (fun _ => ?_))
   | exact ih0 _ _
   | exact manystrandref01_IsNumber.mono _ _
   | exact LeO.none _
   | refine LeO.ite ?_ ?_
   | refine LeO.bind ?_ (fun _ => ?_)
set_option maxHeartbeats 8000000 in
set_option maxRecDepth 100000 in
theorem manystrandref01_IsInt.calls (k : Nat) (a0 : ByteArray) (r : Bool) (w : World) (h : manystrandref01_IsInt.f k a0 = some r) :
  Calls Try.prog 49 #[.string a0] w fun e w' => e = .returned (.bool r) ∧ Drawn0 w w' := by
 have H : (if a0.toList = ([] : List UInt8) then (manystrandref01_IsInt.j0 k a0 false) else (if 0 < (a0.size : Int) then (manystrandref01_IsInt.j0 k a0 ((bt a0 0) == 126)) else (none))) = some r := h
 clear h
 have HC2 := Aside0.mk H
 clear H
 go_enter Try.func49, Try.ntmps49
 go_upto_region 1 with (fail)
 go_cut [9] (fun v9 wc => ∃ (kq : Nat) (x9_1 : Bool), v9 = .bool x9_1 ∧ Aside0 (manystrandref01_IsInt.j0 kq a0 x9_1 = some r) ∧ Aside0 (kq ≤ k) ∧ Drawn0 w wc)
 case first =>
  have H := HC2.out
  clear HC2
  by_cases c3 : a0.toList = ([] : List UInt8)
  ·rw [if_pos c3] at H
   have c3b0 : (a0.toList == ([] : List UInt8)) = true := beq_iff_eq.mpr c3
   have c3b1 : (a0.toList != ([] : List UInt8)) = false := bne_eq_false_iff_eq.mpr c3
   clear c3
   (first | rw [c3b0] | (simp only [i64_w, i32_w]; rw [c3b0]) | skip)
   have H' := Aside0.mk H
   clear H
   go_wp2
   go_meet
   case rel => exact ⟨_, (false), (by first | rfl | (simp; done) | (simp [*]; done)), H', ⟨by first | omega | exact Nat.le_refl _⟩, by repeat (first | exact Drawn0.refl _ | apply Drawn0.step)⟩
  ·rw [if_neg c3] at H
   have c3b0 : (a0.toList == ([] : List UInt8)) = false := beq_eq_false_iff_ne.mpr c3
   have c3b1 : (a0.toList != ([] : List UInt8)) = true := bne_iff_ne.mpr c3
   (first | rw [c3b0] | (simp only [i64_w, i32_w]; rw [c3b0]) | skip)
   by_cases c4 : 0 < (a0.size : Int)
   ·rw [if_pos c4] at H
    have c4b0 : decide (0 < (a0.size : Int)) = true := decide_eq_true c4
    have c4b1 : decide (0 < a0.size) = true := decide_eq_true (by omega)
    clear c4
    have H' := Aside0.mk H
    clear H
    have p5 : 0 ≤ (0 : Int) := (by omega)
    have q5 : 0 < a0.size := (by have : (0 : Int) < (a0.size : Int) := of_decide_eq_true (by first | (with_reducible assumption) | assumption); omega)
    have hx5 : ∀ h : 0 < a0.size, ((a0[0]'h).toNat : Int) = bt a0 0 := bt_at a0 0
    clear p5
    have qi5 : (0 < (a0.size : Int)) = True := eq_true (of_decide_eq_true (by first | (with_reducible assumption) | assumption))
    replace q5 := eq_true q5
    go_wp2
    go_meet
    case rel => exact ⟨_, (((bt a0 0) == 126)), (by first | rfl | (simp; done) | (simp [*]; done)), H', ⟨by first | omega | exact Nat.le_refl _⟩, by repeat (first | exact Drawn0.refl _ | apply Drawn0.step)⟩
   ·rw [if_neg c4] at H
    exact absurd H (by simp)
 case rest =>
  clear HC2
  try clear p2
  try clear c3
  try clear c3b0
  try clear c3b1
  try clear c4
  try clear c4b0
  try clear c4b1
  try clear p5
  try clear q5
  try clear hx5
  try clear qi5
  try clear p5
  try clear q5
  obtain ⟨kq, x9_1, rfl, HA, HJ1, ⟨mc1, rfl⟩⟩ := hcut
  cases kq with
  | zero => exact absurd HA.out (by simp [manystrandref01_IsInt.j0])
  | succ kj1 =>
   have H := HA.out
   clear HA
   simp only [manystrandref01_IsInt.j0] at H
   by_cases c6 : x9_1 = true
   ·subst c6
    have H1 : (if a0.toList = ([126, 48] : List UInt8) then (some false) else (if 1 ≤ (a0.size : Int) then ((manystrandref01_IsNumber.f kj1 (a0.extract 1 a0.size)).bind fun t172 => (some t172)) else (none))) = some r := by rw [if_pos rfl] at H; exact H
    clear H
    have H := H1
    clear H1
    by_cases c7 : a0.toList = ([126, 48] : List UInt8)
    ·rw [if_pos c7] at H
     have c7b0 : (a0.toList == ([126, 48] : List UInt8)) = true := beq_iff_eq.mpr c7
     have c7b1 : (a0.toList != ([126, 48] : List UInt8)) = false := bne_eq_false_iff_eq.mpr c7
     clear c7
     obtain rfl := Option.some.inj H
     go_wp2
     go_ret
     exact ⟨by first | rfl | (simp; done) | (simp [*]; done), by repeat (first | exact Drawn0.refl _ | apply Drawn0.step)⟩
    ·rw [if_neg c7] at H
     have c7b0 : (a0.toList == ([126, 48] : List UInt8)) = false := beq_eq_false_iff_ne.mpr c7
     have c7b1 : (a0.toList != ([126, 48] : List UInt8)) = true := bne_iff_ne.mpr c7
     by_cases c8 : 1 ≤ (a0.size : Int)
     ·rw [if_pos c8] at H
      have c8b0 := eq_true c8
      have c8b1 : decide (1 ≤ (a0.size : Int)) = true := decide_eq_true c8
      clear c8
      replace H := Option.bind_eq_some_iff.mp H
      obtain ⟨t172, A90, H⟩ := H
      replace H : (some t172) = some r := H
      have A9 := Aside0.mk A90
      clear A90
      obtain rfl := Option.some.inj H
      go_wp2_with (first | (go_at_call 59; (with_reducible refine (manystrandref01_IsNumber.calls kj1 (a0.extract 1 a0.size) t172 _ A9.out).mono ?_); rintro e w' ⟨rfl, ⟨nd, rfl⟩⟩))
      go_ret
      exact ⟨by first | rfl | (simp; done) | (simp [*]; done), by repeat (first | exact Drawn0.refl _ | apply Drawn0.step)⟩
     ·rw [if_neg c8] at H
      exact absurd H (by simp)
   ·replace c6 := Bool.eq_false_iff.mpr c6
    subst c6
    have H1 : ((manystrandref01_IsNumber.f kj1 a0).bind fun t173 => (some t173)) = some r := by rw [if_neg (show ¬ (false = true) by decide)] at H; exact H
    clear H
    have H := H1
    clear H1
    replace H := Option.bind_eq_some_iff.mp H
    obtain ⟨t173, A100, H⟩ := H
    replace H : (some t173) = some r := H
    have A10 := Aside0.mk A100
    clear A100
    obtain rfl := Option.some.inj H
    go_wp2_with (first | ((with_reducible refine gate_callee (f := 59) rfl ?_); refine goesL_ (some 18) rfl rfl Try.func59 (by kernel_rfl) rfl #[.string a0] rfl (by (try simp only [List.map_toArray, List.map_cons, List.map_nil]); first | done | rfl | (simp only [List.length_drop, List.length_take]; rfl)) ?_; (with_reducible refine (manystrandref01_IsNumber.calls kj1 a0 t173 _ A10.out).mono ?_); rintro e w' ⟨rfl, ⟨nd, rfl⟩⟩; refine ⟨_, rfl, ?_⟩))
    go_ret
    exact ⟨by first | rfl | (simp; done) | (simp [*]; done), by repeat (first | exact Drawn0.refl _ | apply Drawn0.step)⟩

end Go.Proofs.Ytgbielhbjgipoaa.Q
