-- Walks of Go functions; written by own_print.py of this repo (see NOTES.md).
import Derived.Test.YtgbielhbjgipoaaQ0
import Derived.Test.YtgbielhbjgipoaaQ9
namespace Go.Proofs.Ytgbielhbjgipoaa.Q
open Go.RowKit Go.Proofs.YtgbielhbjgipoaaW.PrintWords Go.Proofs.YtgbielhbjgipoaaW.PrintLast Go.Proofs.YtgbielhbjgipoaaW.PrintMore
attribute [local go_sem] Go.Proofs.YtgbielhbjgipoaaW.OwnWords.isSome_setCell max2_int min2_int max_two min_two max_three min_three max_four min_four   -- for this text's walks alone
set_option linter.unusedVariables false
set_option linter.unusedSimpArgs false

/-! ### token_number: function 47 -/
mutual
def token_number.j0 : Nat → ByteArray → Int → Int → Option (Int × Bool)
 | 0, _, _, _ => none
 | k + 1, x0, x1, x6 => token_number.l0 k x0 x1 x6 x1
def token_number.l0 : Nat → ByteArray → Int → Int → Int → Option (Int × Bool)
 | 0, _, _, _, _ => none
 | k + 1, x0, x1, x6, x7 => if x1 < (x0.size : Int) then (if 0 ≤ x1 then ((token_digit.f (bt x0 x1)).bind fun t106 => (if t106 = true then (token_number.l0 k x0 (wrap64 (x1 + 1)) x6 x7) else (if (wrap64 (x1 - x7)) ≥ 1 then (if (wrap64 (x1 - x7)) ≤ 18 then (if 0 ≤ x7 then (if x7 < (x0.size : Int) then (if (bt x0 x7) = 48 then (if (wrap64 (x1 - x7)) = 1 then (some (x1, (x6 == x7))) else (some (x1, false))) else (some (x1, true))) else (none)) else (none)) else (some (x1, false))) else (some (x1, false))))) else (none)) else (if (wrap64 (x1 - x7)) ≥ 1 then (if (wrap64 (x1 - x7)) ≤ 18 then (if 0 ≤ x7 then (if x7 < (x0.size : Int) then (if (bt x0 x7) = 48 then (if (wrap64 (x1 - x7)) = 1 then (some (x1, (x6 == x7))) else (some (x1, false))) else (some (x1, true))) else (none)) else (none)) else (some (x1, false))) else (some (x1, false)))
end
def token_number.f (k : Nat) (a0 : ByteArray) (a1 : Int) : Option (Int × Bool) := if 0 ≤ a1 then (if a1 < (a0.size : Int) then (if (bt a0 a1) = 126 then (token_number.j0 k a0 (wrap64 (a1 + 1)) a1) else (token_number.j0 k a0 a1 a1)) else (none)) else (none)
theorem token_number.mono_l : ∀ k, (∀ y0 y1 y2, LeO (token_number.j0 k y0 y1 y2) (token_number.j0 (k + 1) y0 y1 y2)) ∧ (∀ y0 y1 y2 y3, LeO (token_number.l0 k y0 y1 y2 y3) (token_number.l0 (k + 1) y0 y1 y2 y3))
 | 0 => ⟨fun _ _ _ r h => by simp [token_number.j0] at h, fun _ _ _ _ r h => by simp [token_number.l0] at h⟩
 | k + 1 => by
  obtain ⟨ih0, ih1⟩ := token_number.mono_l k
  refine ⟨?_, ?_⟩
  ·intro y0 y1 y2
   unfold token_number.j0
   repeat' first
   | (with_reducible exact ih0 _ _ _)
   | (with_reducible exact ih1 _ _ _ _)
   | (with_reducible exact LeO.refl _)
   | (with_reducible exact LeO.none _)
   | (with_reducible refine LeO.ite ?_ ?_)
   | (with_reducible refine LeO.bind ?_ (fun _ => ?_))
   | exact ih0 _ _ _
   | exact ih1 _ _ _ _
   | exact LeO.none _
   | refine LeO.ite ?_ ?_
   | refine LeO.bind ?_ (fun _ => ?_)
  ·intro y0 y1 y2 y3
   unfold token_number.l0
   repeat' first
   | (with_reducible exact ih0 _ _ _)
   | (with_reducible exact ih1 _ _ _ _)
   | (with_reducible exact LeO.refl _)
   | (with_reducible exact LeO.none _)
   | (with_reducible refine LeO.ite ?_ ?_)
   | (with_reducible refine LeO.bind ?_ (fun _ => ?_))
   | exact ih0 _ _ _
   | exact ih1 _ _ _ _
   | exact LeO.none _
   | refine LeO.ite ?_ ?_
   | refine LeO.bind ?_ (fun _ => ?_)
theorem token_number.mono : ∀ a0 a1 k, LeO (token_number.f k a0 a1) (token_number.f (k + 1) a0 a1) := by
 intro a0 a1 k
 obtain ⟨ih0, ih1⟩ := token_number.mono_l k
 unfold token_number.f
 repeat' first
   | (with_reducible exact ih0 _ _ _)
   | (with_reducible exact ih1 _ _ _ _)
   | (with_reducible exact LeO.refl _)
   | (with_reducible exact LeO.none _)
   | (with_reducible refine LeO.ite ?_ ?_)
   | (with_reducible refine LeO.bind ?_ (fun _ => ?_))
   | exact ih0 _ _ _
   | exact ih1 _ _ _ _
   | exact LeO.none _
   | refine LeO.ite ?_ ?_
   | refine LeO.bind ?_ (fun _ => ?_)
set_option maxHeartbeats 8000000 in
set_option maxRecDepth 100000 in
theorem token_number.calls (k : Nat) (a0 : ByteArray) (a1 : Int) (r1 : Int) (r2 : Bool) (w : World) (h : token_number.f k a0 a1 = some (r1, r2)) :
  Calls Try.prog 47 #[.string a0, .int .i64 a1] w fun e w' => e = .returned (.tuple #[.int .i64 r1, .bool r2]) ∧ Drawn0 w w' := by
 have H : (if 0 ≤ a1 then (if a1 < (a0.size : Int) then (if (bt a0 a1) = 126 then (token_number.j0 k a0 (wrap64 (a1 + 1)) a1) else (token_number.j0 k a0 a1 a1)) else (none)) else (none)) = some (r1, r2) := h
 clear h
 by_cases c3 : 0 ≤ a1
 ·rw [if_pos c3] at H
  have c3b0 : decide (0 ≤ a1) = true := decide_eq_true c3
  clear c3
  by_cases c4 : a1 < (a0.size : Int)
  ·rw [if_pos c4] at H
   have c4b0 : decide (a1 < (a0.size : Int)) = true := decide_eq_true c4
   clear c4
   have HC6 := Aside0.mk H
   clear H
   have p5 : 0 ≤ (a1 : Int) := of_decide_eq_true (by first | (with_reducible assumption) | assumption)
   have q5 : a1 < (a0.size : Int) := of_decide_eq_true (by first | (with_reducible assumption) | assumption)
   have hx5 := bt_at a0 a1
   replace p5 := eq_true p5
   replace q5 := eq_true q5
   go_enter Try.func47, Try.ntmps47
   go_upto_if 13 with (fail)
   go_cut [1] (fun v1 wc => ∃ (kq : Nat) (x1_5 : Int), v1 = .int .i64 x1_5 ∧ Aside0 (token_number.j0 kq a0 x1_5 a1 = some (r1, r2)) ∧ Aside0 (kq ≤ k) ∧ Drawn0 w wc)
   case first =>
    have H := HC6.out
    clear HC6
    by_cases c7 : (bt a0 a1) = 126
    ·rw [if_pos c7] at H
     have c7b0 : ((bt a0 a1) == 126) = true := beq_iff_eq.mpr c7
     have c7b1 : ((bt a0 a1) != 126) = false := bne_eq_false_iff_eq.mpr c7
     clear c7
     (first | rw [c7b0] | (simp only [i64_w, i32_w]; rw [c7b0]) | skip)
     have H' := Aside0.mk H
     clear H
     go_wp2
     go_meet
     case rel => exact ⟨_, (wrap64 (a1 + 1)), (by first | rfl | (simp; done) | (simp [*]; done)), H', ⟨by first | omega | exact Nat.le_refl _⟩, by repeat (first | exact Drawn0.refl _ | apply Drawn0.step)⟩
    ·rw [if_neg c7] at H
     have c7b0 : ((bt a0 a1) == 126) = false := beq_eq_false_iff_ne.mpr c7
     have c7b1 : ((bt a0 a1) != 126) = true := bne_iff_ne.mpr c7
     (first | rw [c7b0] | (simp only [i64_w, i32_w]; rw [c7b0]) | skip)
     have H' := Aside0.mk H
     clear H
     go_wp2
     go_meet
     case rel => exact ⟨_, (a1), (by first | rfl | (simp; done) | (simp [*]; done)), H', ⟨by first | omega | exact Nat.le_refl _⟩, by repeat (first | exact Drawn0.refl _ | apply Drawn0.step)⟩
   case rest =>
    clear HC6
    try clear p2
    try clear c3
    try clear c3b0
    try clear c4
    try clear c4b0
    try clear p5
    try clear q5
    try clear hx5
    try clear p6
    try clear c7
    try clear c7b0
    try clear c7b1
    try clear p5
    try clear q5
    obtain ⟨kq, x1_5, rfl, HA, HJ5, ⟨mc5, rfl⟩⟩ := hcut
    cases kq with
    | zero => exact absurd HA.out (by simp [token_number.j0])
    | succ kj5 =>
     have H := HA.out
     clear HA
     simp only [token_number.j0] at H
     have H' := Aside0.mk H
     clear H
     go_wp2
     go_loopg [1] kj5 (fun kq v1 w' => ∃ (x1_2 : Int), v1 = .int .i64 x1_2 ∧ Aside0 (token_number.l0 kq a0 x1_2 a1 x1_5 = some (r1, r2)) ∧ Aside0 (kq ≤ kj5) ∧ Drawn0 w w')
     case atStart => exact ⟨(x1_5), (by first | rfl | (simp; done) | (simp [*]; done)), H', ⟨Nat.le_refl _⟩, by repeat (first | exact Drawn0.refl _ | apply Drawn0.step)⟩
     case round =>
      clear H'
      try clear p2
      try clear c3
      try clear c3b0
      try clear c4
      try clear c4b0
      try clear c5
      try clear p5
      try clear q5
      try clear hx5
      try clear p6
      try clear c7
      try clear c7b0
      try clear c7b1
      try clear p2
      try clear p5
      try clear p6
      try clear q5
      obtain ⟨x1_2, rfl, HA, HK2, ⟨m2, rfl⟩⟩ := hrel
      cases gk with
      | zero => exact absurd HA.out (by simp [token_number.l0])
      | succ k2 =>
       have H := HA.out
       clear HA
       simp only [token_number.l0] at H
       by_cases c8 : x1_2 < (a0.size : Int)
       ·rw [if_pos c8] at H
        have c8b0 : decide (x1_2 < (a0.size : Int)) = true := decide_eq_true c8
        clear c8
        by_cases c9 : 0 ≤ x1_2
        ·rw [if_pos c9] at H
         have c9b0 : decide (0 ≤ x1_2) = true := decide_eq_true c9
         clear c9
         replace H := Option.bind_eq_some_iff.mp H
         obtain ⟨t106, A110, H⟩ := H
         replace H : (if t106 = true then (token_number.l0 k2 a0 (wrap64 (x1_2 + 1)) a1 x1_5) else (if (wrap64 (x1_2 - x1_5)) ≥ 1 then (if (wrap64 (x1_2 - x1_5)) ≤ 18 then (if 0 ≤ x1_5 then (if x1_5 < (a0.size : Int) then (if (bt a0 x1_5) = 48 then (if (wrap64 (x1_2 - x1_5)) = 1 then (some (x1_2, (a1 == x1_5))) else (some (x1_2, false))) else (some (x1_2, true))) else (none)) else (none)) else (some (x1_2, false))) else (some (x1_2, false)))) = some (r1, r2) := H
         have A11 := Aside0.mk A110
         clear A110
         by_cases c12 : t106 = true
         ·subst c12
          have H1 : (token_number.l0 k2 a0 (wrap64 (x1_2 + 1)) a1 x1_5) = some (r1, r2) := by rw [if_pos rfl] at H; exact H
          clear H
          have H := H1
          clear H1
          have H' := Aside0.mk H
          clear H
          have p10 : 0 ≤ (x1_2 : Int) := of_decide_eq_true (by first | (with_reducible assumption) | assumption)
          have q10 : x1_2 < (a0.size : Int) := of_decide_eq_true (by first | (with_reducible assumption) | assumption)
          have hx10 := bt_at a0 x1_2
          replace p10 := eq_true p10
          replace q10 := eq_true q10
          go_wp2_with (first | (go_at_call 46; (with_reducible refine (token_digit.calls (bt a0 x1_2) true _ A11.out).mono ?_); rintro e w' ⟨rfl, ⟨nd, rfl⟩⟩))
          go_roundg k2
          case measure => have := HJ5.out; have := HK2.out; omega
          case rel => exact ⟨(wrap64 (x1_2 + 1)), (by first | rfl | (simp; done) | (simp [*]; done)), H', ⟨by have := HJ5.out; have := HK2.out; omega⟩, by repeat (first | exact Drawn0.refl _ | apply Drawn0.step)⟩
         ·replace c12 := Bool.eq_false_iff.mpr c12
          subst c12
          have H1 : (if (wrap64 (x1_2 - x1_5)) ≥ 1 then (if (wrap64 (x1_2 - x1_5)) ≤ 18 then (if 0 ≤ x1_5 then (if x1_5 < (a0.size : Int) then (if (bt a0 x1_5) = 48 then (if (wrap64 (x1_2 - x1_5)) = 1 then (some (x1_2, (a1 == x1_5))) else (some (x1_2, false))) else (some (x1_2, true))) else (none)) else (none)) else (some (x1_2, false))) else (some (x1_2, false))) = some (r1, r2) := by rw [if_neg (show ¬ (false = true) by decide)] at H; exact H
          clear H
          have H := H1
          clear H1
          by_cases c13 : (wrap64 (x1_2 - x1_5)) ≥ 1
          ·rw [if_pos c13] at H
           have c13b0 : decide (1 ≤ (wrap64 (x1_2 - x1_5))) = true := decide_eq_true c13
           clear c13
           by_cases c14 : (wrap64 (x1_2 - x1_5)) ≤ 18
           ·rw [if_pos c14] at H
            have c14b0 : decide ((wrap64 (x1_2 - x1_5)) ≤ 18) = true := decide_eq_true c14
            clear c14
            by_cases c15 : 0 ≤ x1_5
            ·rw [if_pos c15] at H
             have c15b0 : decide (0 ≤ x1_5) = true := decide_eq_true c15
             clear c15
             by_cases c16 : x1_5 < (a0.size : Int)
             ·rw [if_pos c16] at H
              have c16b0 : decide (x1_5 < (a0.size : Int)) = true := decide_eq_true c16
              clear c16
              by_cases c18 : (bt a0 x1_5) = 48
              ·rw [if_pos c18] at H
               have c18b0 : ((bt a0 x1_5) == 48) = true := beq_iff_eq.mpr c18
               have c18b1 : ((bt a0 x1_5) != 48) = false := bne_eq_false_iff_eq.mpr c18
               clear c18
               by_cases c19 : (wrap64 (x1_2 - x1_5)) = 1
               ·rw [if_pos c19] at H
                have c19b0 : ((wrap64 (x1_2 - x1_5)) == 1) = true := beq_iff_eq.mpr c19
                have c19b1 : ((wrap64 (x1_2 - x1_5)) != 1) = false := bne_eq_false_iff_eq.mpr c19
                clear c19
                simp only [Option.some.injEq, Prod.mk.injEq] at H
                obtain ⟨rfl, rfl⟩ := H
                have p10 : 0 ≤ (x1_2 : Int) := of_decide_eq_true (by first | (with_reducible assumption) | assumption)
                have q10 : x1_2 < (a0.size : Int) := of_decide_eq_true (by first | (with_reducible assumption) | assumption)
                have hx10 := bt_at a0 x1_2
                replace p10 := eq_true p10
                replace q10 := eq_true q10
                go_wp2_with (first | (go_at_call 46; (with_reducible refine (token_digit.calls (bt a0 x1_2) false _ A11.out).mono ?_); rintro e w' ⟨rfl, ⟨nd, rfl⟩⟩; have p17 : 0 ≤ (x1_5 : Int) := of_decide_eq_true (by first | (with_reducible assumption) | assumption); have q17 : x1_5 < (a0.size : Int) := of_decide_eq_true (by first | (with_reducible assumption) | assumption); have hx17 := bt_at a0 x1_5; replace p17 := eq_true p17; replace q17 := eq_true q17))
                go_ret2
                exact ⟨by first | rfl | (simp; done) | (simp [*]; done), by repeat (first | exact Drawn0.refl _ | apply Drawn0.step)⟩
               ·rw [if_neg c19] at H
                have c19b0 : ((wrap64 (x1_2 - x1_5)) == 1) = false := beq_eq_false_iff_ne.mpr c19
                have c19b1 : ((wrap64 (x1_2 - x1_5)) != 1) = true := bne_iff_ne.mpr c19
                simp only [Option.some.injEq, Prod.mk.injEq] at H
                obtain ⟨rfl, rfl⟩ := H
                have p10 : 0 ≤ (x1_2 : Int) := of_decide_eq_true (by first | (with_reducible assumption) | assumption)
                have q10 : x1_2 < (a0.size : Int) := of_decide_eq_true (by first | (with_reducible assumption) | assumption)
                have hx10 := bt_at a0 x1_2
                replace p10 := eq_true p10
                replace q10 := eq_true q10
                go_wp2_with (first | (go_at_call 46; (with_reducible refine (token_digit.calls (bt a0 x1_2) false _ A11.out).mono ?_); rintro e w' ⟨rfl, ⟨nd, rfl⟩⟩; have p17 : 0 ≤ (x1_5 : Int) := of_decide_eq_true (by first | (with_reducible assumption) | assumption); have q17 : x1_5 < (a0.size : Int) := of_decide_eq_true (by first | (with_reducible assumption) | assumption); have hx17 := bt_at a0 x1_5; replace p17 := eq_true p17; replace q17 := eq_true q17))
                go_ret2
                exact ⟨by first | rfl | (simp; done) | (simp [*]; done), by repeat (first | exact Drawn0.refl _ | apply Drawn0.step)⟩
              ·rw [if_neg c18] at H
               have c18b0 : ((bt a0 x1_5) == 48) = false := beq_eq_false_iff_ne.mpr c18
               have c18b1 : ((bt a0 x1_5) != 48) = true := bne_iff_ne.mpr c18
               simp only [Option.some.injEq, Prod.mk.injEq] at H
               obtain ⟨rfl, rfl⟩ := H
               have p10 : 0 ≤ (x1_2 : Int) := of_decide_eq_true (by first | (with_reducible assumption) | assumption)
               have q10 : x1_2 < (a0.size : Int) := of_decide_eq_true (by first | (with_reducible assumption) | assumption)
               have hx10 := bt_at a0 x1_2
               replace p10 := eq_true p10
               replace q10 := eq_true q10
               go_wp2_with (first | (go_at_call 46; (with_reducible refine (token_digit.calls (bt a0 x1_2) false _ A11.out).mono ?_); rintro e w' ⟨rfl, ⟨nd, rfl⟩⟩; have p17 : 0 ≤ (x1_5 : Int) := of_decide_eq_true (by first | (with_reducible assumption) | assumption); have q17 : x1_5 < (a0.size : Int) := of_decide_eq_true (by first | (with_reducible assumption) | assumption); have hx17 := bt_at a0 x1_5; replace p17 := eq_true p17; replace q17 := eq_true q17))
               go_ret2
               exact ⟨by first | rfl | (simp; done) | (simp [*]; done), by repeat (first | exact Drawn0.refl _ | apply Drawn0.step)⟩
             ·rw [if_neg c16] at H
              exact absurd H (by simp)
            ·rw [if_neg c15] at H
             exact absurd H (by simp)
           ·rw [if_neg c14] at H
            have c14b0 : decide ((wrap64 (x1_2 - x1_5)) ≤ 18) = false := decide_eq_false c14
            clear c14
            simp only [Option.some.injEq, Prod.mk.injEq] at H
            obtain ⟨rfl, rfl⟩ := H
            have p10 : 0 ≤ (x1_2 : Int) := of_decide_eq_true (by first | (with_reducible assumption) | assumption)
            have q10 : x1_2 < (a0.size : Int) := of_decide_eq_true (by first | (with_reducible assumption) | assumption)
            have hx10 := bt_at a0 x1_2
            replace p10 := eq_true p10
            replace q10 := eq_true q10
            go_wp2_with (first | (go_at_call 46; (with_reducible refine (token_digit.calls (bt a0 x1_2) false _ A11.out).mono ?_); rintro e w' ⟨rfl, ⟨nd, rfl⟩⟩))
            go_ret2
            exact ⟨by first | rfl | (simp; done) | (simp [*]; done), by repeat (first | exact Drawn0.refl _ | apply Drawn0.step)⟩
          ·rw [if_neg c13] at H
           have c13b0 : decide (1 ≤ (wrap64 (x1_2 - x1_5))) = false := decide_eq_false c13
           clear c13
           simp only [Option.some.injEq, Prod.mk.injEq] at H
           obtain ⟨rfl, rfl⟩ := H
           have p10 : 0 ≤ (x1_2 : Int) := of_decide_eq_true (by first | (with_reducible assumption) | assumption)
           have q10 : x1_2 < (a0.size : Int) := of_decide_eq_true (by first | (with_reducible assumption) | assumption)
           have hx10 := bt_at a0 x1_2
           replace p10 := eq_true p10
           replace q10 := eq_true q10
           go_wp2_with (first | (go_at_call 46; (with_reducible refine (token_digit.calls (bt a0 x1_2) false _ A11.out).mono ?_); rintro e w' ⟨rfl, ⟨nd, rfl⟩⟩))
           go_ret2
           exact ⟨by first | rfl | (simp; done) | (simp [*]; done), by repeat (first | exact Drawn0.refl _ | apply Drawn0.step)⟩
        ·rw [if_neg c9] at H
         exact absurd H (by simp)
       ·rw [if_neg c8] at H
        have c8b0 : decide (x1_2 < (a0.size : Int)) = false := decide_eq_false c8
        clear c8
        by_cases c20 : (wrap64 (x1_2 - x1_5)) ≥ 1
        ·rw [if_pos c20] at H
         have c20b0 : decide (1 ≤ (wrap64 (x1_2 - x1_5))) = true := decide_eq_true c20
         clear c20
         by_cases c21 : (wrap64 (x1_2 - x1_5)) ≤ 18
         ·rw [if_pos c21] at H
          have c21b0 : decide ((wrap64 (x1_2 - x1_5)) ≤ 18) = true := decide_eq_true c21
          clear c21
          by_cases c22 : 0 ≤ x1_5
          ·rw [if_pos c22] at H
           have c22b0 : decide (0 ≤ x1_5) = true := decide_eq_true c22
           clear c22
           by_cases c23 : x1_5 < (a0.size : Int)
           ·rw [if_pos c23] at H
            have c23b0 : decide (x1_5 < (a0.size : Int)) = true := decide_eq_true c23
            clear c23
            by_cases c25 : (bt a0 x1_5) = 48
            ·rw [if_pos c25] at H
             have c25b0 : ((bt a0 x1_5) == 48) = true := beq_iff_eq.mpr c25
             have c25b1 : ((bt a0 x1_5) != 48) = false := bne_eq_false_iff_eq.mpr c25
             clear c25
             by_cases c26 : (wrap64 (x1_2 - x1_5)) = 1
             ·rw [if_pos c26] at H
              have c26b0 : ((wrap64 (x1_2 - x1_5)) == 1) = true := beq_iff_eq.mpr c26
              have c26b1 : ((wrap64 (x1_2 - x1_5)) != 1) = false := bne_eq_false_iff_eq.mpr c26
              clear c26
              simp only [Option.some.injEq, Prod.mk.injEq] at H
              obtain ⟨rfl, rfl⟩ := H
              have p24 : 0 ≤ (x1_5 : Int) := of_decide_eq_true (by first | (with_reducible assumption) | assumption)
              have q24 : x1_5 < (a0.size : Int) := of_decide_eq_true (by first | (with_reducible assumption) | assumption)
              have hx24 := bt_at a0 x1_5
              replace p24 := eq_true p24
              replace q24 := eq_true q24
              go_wp2
              go_ret2
              exact ⟨by first | rfl | (simp; done) | (simp [*]; done), by repeat (first | exact Drawn0.refl _ | apply Drawn0.step)⟩
             ·rw [if_neg c26] at H
              have c26b0 : ((wrap64 (x1_2 - x1_5)) == 1) = false := beq_eq_false_iff_ne.mpr c26
              have c26b1 : ((wrap64 (x1_2 - x1_5)) != 1) = true := bne_iff_ne.mpr c26
              simp only [Option.some.injEq, Prod.mk.injEq] at H
              obtain ⟨rfl, rfl⟩ := H
              have p24 : 0 ≤ (x1_5 : Int) := of_decide_eq_true (by first | (with_reducible assumption) | assumption)
              have q24 : x1_5 < (a0.size : Int) := of_decide_eq_true (by first | (with_reducible assumption) | assumption)
              have hx24 := bt_at a0 x1_5
              replace p24 := eq_true p24
              replace q24 := eq_true q24
              go_wp2
              go_ret2
              exact ⟨by first | rfl | (simp; done) | (simp [*]; done), by repeat (first | exact Drawn0.refl _ | apply Drawn0.step)⟩
            ·rw [if_neg c25] at H
             have c25b0 : ((bt a0 x1_5) == 48) = false := beq_eq_false_iff_ne.mpr c25
             have c25b1 : ((bt a0 x1_5) != 48) = true := bne_iff_ne.mpr c25
             simp only [Option.some.injEq, Prod.mk.injEq] at H
             obtain ⟨rfl, rfl⟩ := H
             have p24 : 0 ≤ (x1_5 : Int) := of_decide_eq_true (by first | (with_reducible assumption) | assumption)
             have q24 : x1_5 < (a0.size : Int) := of_decide_eq_true (by first | (with_reducible assumption) | assumption)
             have hx24 := bt_at a0 x1_5
             replace p24 := eq_true p24
             replace q24 := eq_true q24
             go_wp2
             go_ret2
             exact ⟨by first | rfl | (simp; done) | (simp [*]; done), by repeat (first | exact Drawn0.refl _ | apply Drawn0.step)⟩
           ·rw [if_neg c23] at H
            exact absurd H (by simp)
          ·rw [if_neg c22] at H
           exact absurd H (by simp)
         ·rw [if_neg c21] at H
          have c21b0 : decide ((wrap64 (x1_2 - x1_5)) ≤ 18) = false := decide_eq_false c21
          clear c21
          simp only [Option.some.injEq, Prod.mk.injEq] at H
          obtain ⟨rfl, rfl⟩ := H
          go_wp2
          go_ret2
          exact ⟨by first | rfl | (simp; done) | (simp [*]; done), by repeat (first | exact Drawn0.refl _ | apply Drawn0.step)⟩
        ·rw [if_neg c20] at H
         have c20b0 : decide (1 ≤ (wrap64 (x1_2 - x1_5))) = false := decide_eq_false c20
         clear c20
         simp only [Option.some.injEq, Prod.mk.injEq] at H
         obtain ⟨rfl, rfl⟩ := H
         go_wp2
         go_ret2
         exact ⟨by first | rfl | (simp; done) | (simp [*]; done), by repeat (first | exact Drawn0.refl _ | apply Drawn0.step)⟩
  ·rw [if_neg c4] at H
   exact absurd H (by simp)
 ·rw [if_neg c3] at H
  exact absurd H (by simp)

end Go.Proofs.Ytgbielhbjgipoaa.Q
