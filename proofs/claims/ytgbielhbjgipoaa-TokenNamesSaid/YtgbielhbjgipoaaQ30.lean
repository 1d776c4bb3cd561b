-- Walks of Go functions; written by own_print.py of this repo (see NOTES.md).
import Derived.Test.YtgbielhbjgipoaaQ0
import Derived.Test.YtgbielhbjgipoaaQ25
import Derived.Test.YtgbielhbjgipoaaQ29
namespace Go.Proofs.Ytgbielhbjgipoaa.Q
open Go.RowKit Go.Proofs.YtgbielhbjgipoaaW.PrintWords Go.Proofs.YtgbielhbjgipoaaW.PrintLast Go.Proofs.YtgbielhbjgipoaaW.PrintMore
attribute [local go_sem] Go.Proofs.YtgbielhbjgipoaaW.OwnWords.isSome_setCell max2_int min2_int max_two min_two max_three min_three max_four min_four   -- for this text's walks alone
set_option linter.unusedVariables false
set_option linter.unusedSimpArgs false

/-! ### manystrandref01_run: function 68 -/
def manystrandref01_run.l0 : Nat → ByteArray → Int → Bool → Option (Int)
 | 0, _, _, _ => none
 | k + 1, x0, x1, x2 => if x1 < (x0.size : Int) then (if 0 ≤ x1 then ((manystrandref01_digit.f (bt x0 x1)).bind fun t178 => (if t178 = true then (manystrandref01_run.l0 k x0 (wrap64 (x1 + 1)) x2) else (if x2 = true then (some x1) else ((manystrandref01_inner.f (bt x0 x1)).bind fun t179 => (if t179 = true then (manystrandref01_run.l0 k x0 (wrap64 (x1 + 1)) x2) else (some x1)))))) else (none)) else (some x1)
def manystrandref01_run.f (k : Nat) (a0 : ByteArray) (a1 : Int) (a2 : Bool) : Option (Int) := manystrandref01_run.l0 k a0 a1 a2
theorem manystrandref01_run.mono_l : ∀ k, (∀ y0 y1 y2, LeO (manystrandref01_run.l0 k y0 y1 y2) (manystrandref01_run.l0 (k + 1) y0 y1 y2))
 | 0 => fun _ _ _ r h => by simp [manystrandref01_run.l0] at h
 | k + 1 => by
  have ih0 := manystrandref01_run.mono_l k
  ·intro y0 y1 y2
   unfold manystrandref01_run.l0
   repeat' first
   | (with_reducible exact ih0 _ _ _)
   | (with_reducible exact LeO.refl _)
   | (with_reducible exact LeO.none _)
   | (with_reducible refine LeO.ite ?_ ?_)
   | (with_reducible refine LeO.bind ?_ (fun _ => ?_))
   | exact ih0 _ _ _
   | exact LeO.none _
   | refine LeO.ite ?_ ?_
   | refine LeO.bind ?_ (fun _ => ?_)
theorem manystrandref01_run.mono : ∀ a0 a1 a2 k, LeO (manystrandref01_run.f k a0 a1 a2) (manystrandref01_run.f (k + 1) a0 a1 a2) := by
 intro a0 a1 a2 k
 have ih0 := manystrandref01_run.mono_l k
 unfold manystrandref01_run.f
 repeat' first
   | (with_reducible exact ih0 _ _ _)
   | (with_reducible exact LeO.refl _)
   | (with_reducible exact LeO.none _)
   | (with_reducible refine LeO.ite ?_ ?_)
   | (with_reducible refine LeO.bind ?_ (fun _ => ?_))
   | exact ih0 _ _ _
   | exact LeO.none _
   | refine LeO.ite ?_ ?_
   | refine LeO.bind ?_ (fun _ => ?_)
set_option maxHeartbeats 8000000 in
set_option maxRecDepth 100000 in
theorem manystrandref01_run.calls (k : Nat) (a0 : ByteArray) (a1 : Int) (a2 : Bool) (r : Int) (w : World) (h : manystrandref01_run.f k a0 a1 a2 = some r) :
  Calls Try.prog 68 #[.string a0, .int .i64 a1, .bool a2] w fun e w' => e = .returned (.int .i64 r) ∧ Drawn0 w w' := by
 have H : (manystrandref01_run.l0 k a0 a1 a2) = some r := h
 clear h
 have H' := Aside0.mk H
 clear H
 go_enter Try.func68, Try.ntmps68
 go_wp2
 go_loopg [1] k (fun kq v1 w' => ∃ (x1_1 : Int), v1 = .int .i64 x1_1 ∧ Aside0 (manystrandref01_run.l0 kq a0 x1_1 a2 = some r) ∧ Aside0 (kq ≤ k) ∧ Drawn0 w w')
 case atStart => exact ⟨(a1), (by first | rfl | (simp; done) | (simp [*]; done)), H', ⟨Nat.le_refl _⟩, by repeat (first | exact Drawn0.refl _ | apply Drawn0.step)⟩
 case round =>
  clear H'
  try clear p2
  obtain ⟨x1_1, rfl, HA, HK1, ⟨m1, rfl⟩⟩ := hrel
  cases gk with
  | zero => exact absurd HA.out (by simp [manystrandref01_run.l0])
  | succ k1 =>
   have H := HA.out
   clear HA
   simp only [manystrandref01_run.l0] at H
   by_cases c4 : x1_1 < (a0.size : Int)
   ·rw [if_pos c4] at H
    have c4b0 : decide (x1_1 < (a0.size : Int)) = true := decide_eq_true c4
    clear c4
    by_cases c5 : 0 ≤ x1_1
    ·rw [if_pos c5] at H
     have c5b0 : decide (0 ≤ x1_1) = true := decide_eq_true c5
     clear c5
     replace H := Option.bind_eq_some_iff.mp H
     obtain ⟨t178, A70, H⟩ := H
     replace H : (if t178 = true then (manystrandref01_run.l0 k1 a0 (wrap64 (x1_1 + 1)) a2) else (if a2 = true then (some x1_1) else ((manystrandref01_inner.f (bt a0 x1_1)).bind fun t179 => (if t179 = true then (manystrandref01_run.l0 k1 a0 (wrap64 (x1_1 + 1)) a2) else (some x1_1))))) = some r := H
     have A7 := Aside0.mk A70
     clear A70
     by_cases c8 : t178 = true
     ·subst c8
      have H1 : (manystrandref01_run.l0 k1 a0 (wrap64 (x1_1 + 1)) a2) = some r := by rw [if_pos rfl] at H; exact H
      clear H
      have H := H1
      clear H1
      have H' := Aside0.mk H
      clear H
      have p6 : 0 ≤ (x1_1 : Int) := of_decide_eq_true (by first | (with_reducible assumption) | assumption)
      have q6 : x1_1 < (a0.size : Int) := of_decide_eq_true (by first | (with_reducible assumption) | assumption)
      have hx6 := bt_at a0 x1_1
      replace p6 := eq_true p6
      replace q6 := eq_true q6
      go_wp2_with (first | (go_at_call 70; (with_reducible refine (manystrandref01_digit.calls (bt a0 x1_1) true _ A7.out).mono ?_); rintro e w' ⟨rfl, ⟨nd, rfl⟩⟩))
      go_roundg k1
      case measure => have := HK1.out; omega
      case rel => exact ⟨(wrap64 (x1_1 + 1)), (by first | rfl | (simp; done) | (simp [*]; done)), H', ⟨by have := HK1.out; omega⟩, by repeat (first | exact Drawn0.refl _ | apply Drawn0.step)⟩
     ·replace c8 := Bool.eq_false_iff.mpr c8
      subst c8
      have H1 : (if a2 = true then (some x1_1) else ((manystrandref01_inner.f (bt a0 x1_1)).bind fun t179 => (if t179 = true then (manystrandref01_run.l0 k1 a0 (wrap64 (x1_1 + 1)) a2) else (some x1_1)))) = some r := by rw [if_neg (show ¬ (false = true) by decide)] at H; exact H
      clear H
      have H := H1
      clear H1
      by_cases c9 : a2 = true
      ·subst c9
       have H1 : (some x1_1) = some r := by rw [if_pos rfl] at H; exact H
       clear H
       have H := H1
       clear H1
       obtain rfl := Option.some.inj H
       have p6 : 0 ≤ (x1_1 : Int) := of_decide_eq_true (by first | (with_reducible assumption) | assumption)
       have q6 : x1_1 < (a0.size : Int) := of_decide_eq_true (by first | (with_reducible assumption) | assumption)
       have hx6 := bt_at a0 x1_1
       replace p6 := eq_true p6
       replace q6 := eq_true q6
       go_wp2_with (first | (go_at_call 70; (with_reducible refine (manystrandref01_digit.calls (bt a0 x1_1) false _ A7.out).mono ?_); rintro e w' ⟨rfl, ⟨nd, rfl⟩⟩))
       go_ret
       exact ⟨by first | rfl | (simp; done) | (simp [*]; done), by repeat (first | exact Drawn0.refl _ | apply Drawn0.step)⟩
      ·replace c9 := Bool.eq_false_iff.mpr c9
       subst c9
       have H1 : ((manystrandref01_inner.f (bt a0 x1_1)).bind fun t179 => (if t179 = true then (manystrandref01_run.l0 k1 a0 (wrap64 (x1_1 + 1)) false) else (some x1_1))) = some r := by rw [if_neg (show ¬ (false = true) by decide)] at H; exact H
       clear H
       have H := H1
       clear H1
       replace H := Option.bind_eq_some_iff.mp H
       obtain ⟨t179, A110, H⟩ := H
       replace H : (if t179 = true then (manystrandref01_run.l0 k1 a0 (wrap64 (x1_1 + 1)) false) else (some x1_1)) = some r := H
       have A11 := Aside0.mk A110
       clear A110
       by_cases c12 : t179 = true
       ·subst c12
        have H1 : (manystrandref01_run.l0 k1 a0 (wrap64 (x1_1 + 1)) false) = some r := by rw [if_pos rfl] at H; exact H
        clear H
        have H := H1
        clear H1
        have H' := Aside0.mk H
        clear H
        have p6 : 0 ≤ (x1_1 : Int) := of_decide_eq_true (by first | (with_reducible assumption) | assumption)
        have q6 : x1_1 < (a0.size : Int) := of_decide_eq_true (by first | (with_reducible assumption) | assumption)
        have hx6 := bt_at a0 x1_1
        replace p6 := eq_true p6
        replace q6 := eq_true q6
        go_wp2_with (first | (go_at_call 70; (with_reducible refine (manystrandref01_digit.calls (bt a0 x1_1) false _ A7.out).mono ?_); rintro e w' ⟨rfl, ⟨nd, rfl⟩⟩; have p10 : 0 ≤ (x1_1 : Int) := of_decide_eq_true (by first | (with_reducible assumption) | assumption); have q10 : x1_1 < (a0.size : Int) := of_decide_eq_true (by first | (with_reducible assumption) | assumption); have hx10 := bt_at a0 x1_1; replace p10 := eq_true p10; replace q10 := eq_true q10) | (go_at_call 57; (with_reducible refine (manystrandref01_inner.calls (bt a0 x1_1) true _ A11.out).mono ?_); rintro e w' ⟨rfl, ⟨nd, rfl⟩⟩))
        go_roundg k1
        case measure => have := HK1.out; omega
        case rel => exact ⟨(wrap64 (x1_1 + 1)), (by first | rfl | (simp; done) | (simp [*]; done)), H', ⟨by have := HK1.out; omega⟩, by repeat (first | exact Drawn0.refl _ | apply Drawn0.step)⟩
       ·replace c12 := Bool.eq_false_iff.mpr c12
        subst c12
        have H1 : (some x1_1) = some r := by rw [if_neg (show ¬ (false = true) by decide)] at H; exact H
        clear H
        have H := H1
        clear H1
        obtain rfl := Option.some.inj H
        have p6 : 0 ≤ (x1_1 : Int) := of_decide_eq_true (by first | (with_reducible assumption) | assumption)
        have q6 : x1_1 < (a0.size : Int) := of_decide_eq_true (by first | (with_reducible assumption) | assumption)
        have hx6 := bt_at a0 x1_1
        replace p6 := eq_true p6
        replace q6 := eq_true q6
        go_wp2_with (first | (go_at_call 70; (with_reducible refine (manystrandref01_digit.calls (bt a0 x1_1) false _ A7.out).mono ?_); rintro e w' ⟨rfl, ⟨nd, rfl⟩⟩; have p10 : 0 ≤ (x1_1 : Int) := of_decide_eq_true (by first | (with_reducible assumption) | assumption); have q10 : x1_1 < (a0.size : Int) := of_decide_eq_true (by first | (with_reducible assumption) | assumption); have hx10 := bt_at a0 x1_1; replace p10 := eq_true p10; replace q10 := eq_true q10) | (go_at_call 57; (with_reducible refine (manystrandref01_inner.calls (bt a0 x1_1) false _ A11.out).mono ?_); rintro e w' ⟨rfl, ⟨nd, rfl⟩⟩))
        go_ret
        exact ⟨by first | rfl | (simp; done) | (simp [*]; done), by repeat (first | exact Drawn0.refl _ | apply Drawn0.step)⟩
    ·rw [if_neg c5] at H
     exact absurd H (by simp)
   ·rw [if_neg c4] at H
    have c4b0 : decide (x1_1 < (a0.size : Int)) = false := decide_eq_false c4
    clear c4
    obtain rfl := Option.some.inj H
    go_wp2
    go_ret
    exact ⟨by first | rfl | (simp; done) | (simp [*]; done), by repeat (first | exact Drawn0.refl _ | apply Drawn0.step)⟩

end Go.Proofs.Ytgbielhbjgipoaa.Q
