-- Walks of Go functions; written by own_print.py of this repo (see NOTES.md).
import Derived.Test.YtgbielhbjgipoaaQ0
import Derived.Test.YtgbielhbjgipoaaQ19
namespace Go.Proofs.Ytgbielhbjgipoaa.Q
open Go.RowKit Go.Proofs.YtgbielhbjgipoaaW.PrintWords Go.Proofs.YtgbielhbjgipoaaW.PrintLast Go.Proofs.YtgbielhbjgipoaaW.PrintMore
attribute [local go_sem] Go.Proofs.YtgbielhbjgipoaaW.OwnWords.isSome_setCell max2_int min2_int max_two min_two max_three min_three max_four min_four   -- for this text's walks alone
set_option linter.unusedVariables false
set_option linter.unusedSimpArgs false

/-! ### manystrandref01_remark: function 54 -/
mutual
def manystrandref01_remark.j0 : Nat → ByteArray → Int → Int → Bool → Option (Int)
 | 0, _, _, _, _ => none
 | k + 1, x0, x1, x5, x24 => if x24 = true then (some (wrap64 (x1 + 1))) else (if x5 = 37 then (manystrandref01_remark.l0 k x0 x1) else ((manystrandref01_begins.f x0 x1 (⟨#[47, 42]⟩ : ByteArray)).bind fun t167 => (if t167 = true then (manystrandref01_remark.l1 k x0 1 (wrap64 (x1 + 2))) else (some x1))))
def manystrandref01_remark.l0 : Nat → ByteArray → Int → Option (Int)
 | 0, _, _ => none
 | k + 1, x0, x1 => if x1 < (x0.size : Int) then (if 0 ≤ x1 then (if (bt x0 x1) = 10 then (some x1) else (manystrandref01_remark.l0 k x0 (wrap64 (x1 + 1)))) else (none)) else (some x1)
def manystrandref01_remark.l1 : Nat → ByteArray → Int → Int → Option (Int)
 | 0, _, _, _ => none
 | k + 1, x0, x6, x7 => if x7 < (x0.size : Int) then ((manystrandref01_begins.f x0 x7 (⟨#[47, 42]⟩ : ByteArray)).bind fun t168 => (if t168 = true then (manystrandref01_remark.l1 k x0 (wrap64 (x6 + 1)) (wrap64 ((wrap64 (x7 + 1)) + 1))) else ((manystrandref01_begins.f x0 x7 (⟨#[42, 47]⟩ : ByteArray)).bind fun t169 => (if t169 = true then (if (wrap64 (x6 - 1)) = 0 then (some (wrap64 ((wrap64 (x7 + 1)) + 1))) else (manystrandref01_remark.l1 k x0 (wrap64 (x6 - 1)) (wrap64 ((wrap64 (x7 + 1)) + 1)))) else (manystrandref01_remark.l1 k x0 x6 (wrap64 (x7 + 1))))))) else (some (-1))
end
def manystrandref01_remark.f (k : Nat) (a0 : ByteArray) (a1 : Int) : Option (Int) := if 0 ≤ a1 then (if a1 < (a0.size : Int) then (if (bt a0 a1) = 32 then (manystrandref01_remark.j0 k a0 a1 (bt a0 a1) true) else (if (bt a0 a1) = 9 then (manystrandref01_remark.j0 k a0 a1 (bt a0 a1) true) else (if (bt a0 a1) = 10 then (manystrandref01_remark.j0 k a0 a1 (bt a0 a1) true) else (manystrandref01_remark.j0 k a0 a1 (bt a0 a1) ((bt a0 a1) == 13))))) else (none)) else (none)
theorem manystrandref01_remark.mono_l : ∀ k, (∀ y0 y1 y2 y3, LeO (manystrandref01_remark.j0 k y0 y1 y2 y3) (manystrandref01_remark.j0 (k + 1) y0 y1 y2 y3)) ∧ (∀ y0 y1, LeO (manystrandref01_remark.l0 k y0 y1) (manystrandref01_remark.l0 (k + 1) y0 y1)) ∧ (∀ y0 y1 y2, LeO (manystrandref01_remark.l1 k y0 y1 y2) (manystrandref01_remark.l1 (k + 1) y0 y1 y2))
 | 0 => ⟨fun _ _ _ _ r h => by simp [manystrandref01_remark.j0] at h, fun _ _ r h => by simp [manystrandref01_remark.l0] at h, fun _ _ _ r h => by simp [manystrandref01_remark.l1] at h⟩
 | k + 1 => by
  obtain ⟨ih0, ih1, ih2⟩ := manystrandref01_remark.mono_l k
  refine ⟨?_, ?_, ?_⟩
  ·intro y0 y1 y2 y3
   unfold manystrandref01_remark.j0
   repeat' first
   | (with_reducible exact ih0 _ _ _ _)
   | (with_reducible exact ih1 _ _)
   | (with_reducible exact ih2 _ _ _)
   | (with_reducible exact LeO.refl _)
   | (with_reducible exact LeO.none _)
   | (with_reducible refine LeO.ite ?_ ?_)
   | (with_reducible refine LeO.bind ?_ (fun _ => ?_))
   | exact ih0 _ _ _ _
   | exact ih1 _ _
   | exact ih2 _ _ _
   | exact LeO.none _
   | refine LeO.ite ?_ ?_
   | refine LeO.bind ?_ (fun _ => ?_)
  ·intro y0 y1
   unfold manystrandref01_remark.l0
   repeat' first
   | (with_reducible exact ih0 _ _ _ _)
   | (with_reducible exact ih1 _ _)
   | (with_reducible exact ih2 _ _ _)
   | (with_reducible exact LeO.refl _)
   | (with_reducible exact LeO.none _)
   | (with_reducible refine LeO.ite ?_ ?_)
   | (with_reducible refine LeO.bind ?_ (fun _ => ?_))
   | exact ih0 _ _ _ _
   | exact ih1 _ _
   | exact ih2 _ _ _
   | exact LeO.none _
   | refine LeO.ite ?_ ?_
   | refine LeO.bind ?_ (fun _ => ?_)
  ·intro y0 y1 y2
   unfold manystrandref01_remark.l1
   repeat' first
   | (with_reducible exact ih0 _ _ _ _)
   | (with_reducible exact ih1 _ _)
   | (with_reducible exact ih2 _ _ _)
   | (with_reducible exact LeO.refl _)
   | (with_reducible exact LeO.none _)
   | (with_reducible refine LeO.ite ?_ ?_)
   | (with_reducible refine LeO.bind ?_ (fun _ => ?_))
   | exact ih0 _ _ _ _
   | exact ih1 _ _
   | exact ih2 _ _ _
   | exact LeO.none _
   | refine LeO.ite ?_ ?_
   | refine LeO.bind ?_ (fun _ => ?_)
theorem manystrandref01_remark.mono : ∀ a0 a1 k, LeO (manystrandref01_remark.f k a0 a1) (manystrandref01_remark.f (k + 1) a0 a1) := by
 intro a0 a1 k
 obtain ⟨ih0, ih1, ih2⟩ := manystrandref01_remark.mono_l k
 unfold manystrandref01_remark.f
 repeat' first
   | (with_reducible exact ih0 _ _ _ _)
   | (with_reducible exact ih1 _ _)
   | (with_reducible exact ih2 _ _ _)
   | (with_reducible exact LeO.refl _)
   | (with_reducible exact LeO.none _)
   | (with_reducible refine LeO.ite ?_ ?_)
   | (with_reducible refine LeO.bind ?_ (fun _ => ?_))
   | exact ih0 _ _ _ _
   | exact ih1 _ _
   | exact ih2 _ _ _
   | exact LeO.none _
   | refine LeO.ite ?_ ?_
   | refine LeO.bind ?_ (fun _ => ?_)
set_option maxHeartbeats 8000000 in
set_option maxRecDepth 100000 in
theorem manystrandref01_remark.calls (k : Nat) (a0 : ByteArray) (a1 : Int) (r : Int) (w : World) (h : manystrandref01_remark.f k a0 a1 = some r) :
  Calls Try.prog 54 #[.string a0, .int .i64 a1] w fun e w' => e = .returned (.int .i64 r) ∧ Drawn0 w w' := by
 have H : (if 0 ≤ a1 then (if a1 < (a0.size : Int) then (if (bt a0 a1) = 32 then (manystrandref01_remark.j0 k a0 a1 (bt a0 a1) true) else (if (bt a0 a1) = 9 then (manystrandref01_remark.j0 k a0 a1 (bt a0 a1) true) else (if (bt a0 a1) = 10 then (manystrandref01_remark.j0 k a0 a1 (bt a0 a1) true) else (manystrandref01_remark.j0 k a0 a1 (bt a0 a1) ((bt a0 a1) == 13))))) else (none)) else (none)) = some r := h
 clear h
 by_cases c3 : 0 ≤ a1
 ·rw [if_pos c3] at H
  have c3b0 : decide (0 ≤ a1) = true := decide_eq_true c3
  clear c3
  by_cases c4 : a1 < (a0.size : Int)
  ·rw [if_pos c4] at H
   have c4b0 : decide (a1 < (a0.size : Int)) = true := decide_eq_true c4
   clear c4
   have HC6 := Aside0.mk H
   clear H
   have p5 : 0 ≤ (a1 : Int) := of_decide_eq_true (by first | (with_reducible assumption) | assumption)
   have q5 : a1 < (a0.size : Int) := of_decide_eq_true (by first | (with_reducible assumption) | assumption)
   have hx5 := bt_at a0 a1
   replace p5 := eq_true p5
   replace q5 := eq_true q5
   go_enter Try.func54, Try.ntmps54
   go_upto_region 2 with (fail)
   go_cut [24] (fun v24 wc => ∃ (kq : Nat) (x24_5 : Bool), v24 = .bool x24_5 ∧ Aside0 (manystrandref01_remark.j0 kq a0 a1 (bt a0 a1) x24_5 = some r) ∧ Aside0 (kq ≤ k) ∧ Drawn0 w wc)
   case first =>
    have H := HC6.out
    clear HC6
    by_cases c7 : (bt a0 a1) = 32
    ·rw [if_pos c7] at H
     have c7b0 : ((bt a0 a1) == 32) = true := beq_iff_eq.mpr c7
     have c7b1 : ((bt a0 a1) != 32) = false := bne_eq_false_iff_eq.mpr c7
     clear c7
     (first | rw [c7b0] | (simp only [i64_w, i32_w]; rw [c7b0]) | skip)
     have H' := Aside0.mk H
     clear H
     go_wp2
     go_meet
     case rel => exact ⟨_, (true), (by first | rfl | (simp; done) | (simp [*]; done)), H', ⟨by first | omega | exact Nat.le_refl _⟩, by repeat (first | exact Drawn0.refl _ | apply Drawn0.step)⟩
    ·rw [if_neg c7] at H
     have c7b0 : ((bt a0 a1) == 32) = false := beq_eq_false_iff_ne.mpr c7
     have c7b1 : ((bt a0 a1) != 32) = true := bne_iff_ne.mpr c7
     (first | rw [c7b0] | (simp only [i64_w, i32_w]; rw [c7b0]) | skip)
     by_cases c8 : (bt a0 a1) = 9
     ·rw [if_pos c8] at H
      have c8b0 : ((bt a0 a1) == 9) = true := beq_iff_eq.mpr c8
      have c8b1 : ((bt a0 a1) != 9) = false := bne_eq_false_iff_eq.mpr c8
      clear c8
      have H' := Aside0.mk H
      clear H
      go_wp2
      go_meet
      case rel => exact ⟨_, (true), (by first | rfl | (simp; done) | (simp [*]; done)), H', ⟨by first | omega | exact Nat.le_refl _⟩, by repeat (first | exact Drawn0.refl _ | apply Drawn0.step)⟩
     ·rw [if_neg c8] at H
      have c8b0 : ((bt a0 a1) == 9) = false := beq_eq_false_iff_ne.mpr c8
      have c8b1 : ((bt a0 a1) != 9) = true := bne_iff_ne.mpr c8
      by_cases c9 : (bt a0 a1) = 10
      ·rw [if_pos c9] at H
       have c9b0 : ((bt a0 a1) == 10) = true := beq_iff_eq.mpr c9
       have c9b1 : ((bt a0 a1) != 10) = false := bne_eq_false_iff_eq.mpr c9
       clear c9
       have H' := Aside0.mk H
       clear H
       go_wp2
       go_meet
       case rel => exact ⟨_, (true), (by first | rfl | (simp; done) | (simp [*]; done)), H', ⟨by first | omega | exact Nat.le_refl _⟩, by repeat (first | exact Drawn0.refl _ | apply Drawn0.step)⟩
      ·rw [if_neg c9] at H
       have c9b0 : ((bt a0 a1) == 10) = false := beq_eq_false_iff_ne.mpr c9
       have c9b1 : ((bt a0 a1) != 10) = true := bne_iff_ne.mpr c9
       have H' := Aside0.mk H
       clear H
       go_wp2
       go_meet
       case rel => exact ⟨_, (((bt a0 a1) == 13)), (by first | rfl | (simp; done) | (simp [*]; done)), H', ⟨by first | omega | exact Nat.le_refl _⟩, by repeat (first | exact Drawn0.refl _ | apply Drawn0.step)⟩
   case rest =>
    clear HC6
    try clear p2
    try clear c3
    try clear c3b0
    try clear c4
    try clear c4b0
    try clear c5
    try clear p5
    try clear q5
    try clear hx5
    try clear c7
    try clear c7b0
    try clear c7b1
    try clear c8
    try clear c8b0
    try clear c8b1
    try clear c9
    try clear c9b0
    try clear c9b1
    try clear p5
    try clear q5
    obtain ⟨kq, x24_5, rfl, HA, HJ5, ⟨mc5, rfl⟩⟩ := hcut
    cases kq with
    | zero => exact absurd HA.out (by simp [manystrandref01_remark.j0])
    | succ kj5 =>
     have H := HA.out
     clear HA
     simp only [manystrandref01_remark.j0] at H
     by_cases c10 : x24_5 = true
     ·subst c10
      have H1 : (some (wrap64 (a1 + 1))) = some r := by rw [if_pos rfl] at H; exact H
      clear H
      have H := H1
      clear H1
      obtain rfl := Option.some.inj H
      go_wp2
      go_ret
      exact ⟨by first | rfl | (simp; done) | (simp [*]; done), by repeat (first | exact Drawn0.refl _ | apply Drawn0.step)⟩
     ·replace c10 := Bool.eq_false_iff.mpr c10
      subst c10
      have H1 : (if (bt a0 a1) = 37 then (manystrandref01_remark.l0 kj5 a0 a1) else ((manystrandref01_begins.f a0 a1 (⟨#[47, 42]⟩ : ByteArray)).bind fun t167 => (if t167 = true then (manystrandref01_remark.l1 kj5 a0 1 (wrap64 (a1 + 2))) else (some a1)))) = some r := by rw [if_neg (show ¬ (false = true) by decide)] at H; exact H
      clear H
      have H := H1
      clear H1
      by_cases c11 : (bt a0 a1) = 37
      ·rw [if_pos c11] at H
       have c11b0 : ((bt a0 a1) == 37) = true := beq_iff_eq.mpr c11
       have c11b1 : ((bt a0 a1) != 37) = false := bne_eq_false_iff_eq.mpr c11
       clear c11
       have H' := Aside0.mk H
       clear H
       go_wp2
       go_loopg [1] kj5 (fun kq v1 w' => ∃ (x1_2 : Int), v1 = .int .i64 x1_2 ∧ Aside0 (manystrandref01_remark.l0 kq a0 x1_2 = some r) ∧ Aside0 (kq ≤ kj5) ∧ Drawn0 w w')
       case atStart => exact ⟨(a1), (by first | rfl | (simp; done) | (simp [*]; done)), H', ⟨Nat.le_refl _⟩, by repeat (first | exact Drawn0.refl _ | apply Drawn0.step)⟩
       case round =>
        clear H'
        try clear c1
        try clear p2
        try clear c3
        try clear c3b0
        try clear c4
        try clear c4b0
        try clear c5
        try clear p5
        try clear q5
        try clear hx5
        try clear p6
        try clear c7
        try clear c7b0
        try clear c7b1
        try clear c8
        try clear c8b0
        try clear c8b1
        try clear c9
        try clear c9b0
        try clear c9b1
        try clear c10
        try clear c11
        try clear c11b0
        try clear c11b1
        try clear p2
        try clear p5
        try clear q5
        obtain ⟨x1_2, rfl, HA, HK2, ⟨m2, rfl⟩⟩ := hrel
        cases gk with
        | zero => exact absurd HA.out (by simp [manystrandref01_remark.l0])
        | succ k2 =>
         have H := HA.out
         clear HA
         simp only [manystrandref01_remark.l0] at H
         by_cases c12 : x1_2 < (a0.size : Int)
         ·rw [if_pos c12] at H
          have c12b0 : decide (x1_2 < (a0.size : Int)) = true := decide_eq_true c12
          clear c12
          by_cases c13 : 0 ≤ x1_2
          ·rw [if_pos c13] at H
           have c13b0 : decide (0 ≤ x1_2) = true := decide_eq_true c13
           clear c13
           by_cases c15 : (bt a0 x1_2) = 10
           ·rw [if_pos c15] at H
            have c15b0 : ((bt a0 x1_2) == 10) = true := beq_iff_eq.mpr c15
            have c15b1 : ((bt a0 x1_2) != 10) = false := bne_eq_false_iff_eq.mpr c15
            clear c15
            obtain rfl := Option.some.inj H
            have p14 : 0 ≤ (x1_2 : Int) := of_decide_eq_true (by first | (with_reducible assumption) | assumption)
            have q14 : x1_2 < (a0.size : Int) := of_decide_eq_true (by first | (with_reducible assumption) | assumption)
            have hx14 := bt_at a0 x1_2
            replace p14 := eq_true p14
            replace q14 := eq_true q14
            go_wp2
            go_ret
            exact ⟨by first | rfl | (simp; done) | (simp [*]; done), by repeat (first | exact Drawn0.refl _ | apply Drawn0.step)⟩
           ·rw [if_neg c15] at H
            have c15b0 : ((bt a0 x1_2) == 10) = false := beq_eq_false_iff_ne.mpr c15
            have c15b1 : ((bt a0 x1_2) != 10) = true := bne_iff_ne.mpr c15
            have H' := Aside0.mk H
            clear H
            have p14 : 0 ≤ (x1_2 : Int) := of_decide_eq_true (by first | (with_reducible assumption) | assumption)
            have q14 : x1_2 < (a0.size : Int) := of_decide_eq_true (by first | (with_reducible assumption) | assumption)
            have hx14 := bt_at a0 x1_2
            replace p14 := eq_true p14
            replace q14 := eq_true q14
            go_wp2
            go_roundg k2
            case measure => have := HJ5.out; have := HK2.out; omega
            case rel => exact ⟨(wrap64 (x1_2 + 1)), (by first | rfl | (simp; done) | (simp [*]; done)), H', ⟨by have := HJ5.out; have := HK2.out; omega⟩, by repeat (first | exact Drawn0.refl _ | apply Drawn0.step)⟩
          ·rw [if_neg c13] at H
           exact absurd H (by simp)
         ·rw [if_neg c12] at H
          have c12b0 : decide (x1_2 < (a0.size : Int)) = false := decide_eq_false c12
          clear c12
          obtain rfl := Option.some.inj H
          go_wp2
          go_ret
          exact ⟨by first | rfl | (simp; done) | (simp [*]; done), by repeat (first | exact Drawn0.refl _ | apply Drawn0.step)⟩
      ·rw [if_neg c11] at H
       have c11b0 : ((bt a0 a1) == 37) = false := beq_eq_false_iff_ne.mpr c11
       have c11b1 : ((bt a0 a1) != 37) = true := bne_iff_ne.mpr c11
       replace H := Option.bind_eq_some_iff.mp H
       obtain ⟨t167, A160, H⟩ := H
       replace H : (if t167 = true then (manystrandref01_remark.l1 kj5 a0 1 (wrap64 (a1 + 2))) else (some a1)) = some r := H
       have A16 := Aside0.mk A160
       clear A160
       by_cases c17 : t167 = true
       ·subst c17
        have H1 : (manystrandref01_remark.l1 kj5 a0 1 (wrap64 (a1 + 2))) = some r := by rw [if_pos rfl] at H; exact H
        clear H
        have H := H1
        clear H1
        have H' := Aside0.mk H
        clear H
        go_wp2_with (first | ((with_reducible refine gate_callee (f := 67) rfl ?_); refine goesL_ (some 44) rfl rfl Try.func67 (by kernel_rfl) rfl #[.string a0, .int .i64 a1, .string (⟨#[47, 42]⟩ : ByteArray)] rfl (by (try simp only [List.map_toArray, List.map_cons, List.map_nil]); first | done | rfl | (simp only [List.length_drop, List.length_take]; rfl)) ?_; (with_reducible refine (manystrandref01_begins.calls a0 a1 (⟨#[47, 42]⟩ : ByteArray) true _ A16.out).mono ?_); rintro e w' ⟨rfl, ⟨nd, rfl⟩⟩; refine ⟨_, rfl, ?_⟩))
        go_loopg [6, 7] kj5 (fun kq v6 v7 w' => ∃ (x6_2 : Int) (x7_2 : Int), v6 = .int .i64 x6_2 ∧ v7 = .int .i64 x7_2 ∧ Aside0 (manystrandref01_remark.l1 kq a0 x6_2 x7_2 = some r) ∧ Aside0 (kq ≤ kj5) ∧ Drawn0 w w')
        case atStart => exact ⟨(1), (wrap64 (a1 + 2)), (by first | rfl | (simp; done) | (simp [*]; done)), (by first | rfl | (simp; done) | (simp [*]; done)), H', ⟨Nat.le_refl _⟩, by repeat (first | exact Drawn0.refl _ | apply Drawn0.step)⟩
        case round =>
         clear H'
         try clear c1
         try clear p1
         try clear q1
         try clear hx1
         try clear p2
         try clear c3
         try clear c3b0
         try clear c4
         try clear c4b0
         try clear c5
         try clear p5
         try clear q5
         try clear hx5
         try clear c6
         try clear p6
         try clear c7
         try clear c7b0
         try clear c7b1
         try clear c8
         try clear c8b0
         try clear c8b1
         try clear c9
         try clear c9b0
         try clear c9b1
         try clear c10
         try clear c11
         try clear c11b0
         try clear c11b1
         try clear c12
         try clear c12b0
         try clear c13
         try clear c13b0
         try clear p14
         try clear q14
         try clear hx14
         try clear c15
         try clear c15b0
         try clear c15b1
         try clear c17
         try clear p14
         try clear p2
         try clear p5
         try clear p6
         try clear q14
         try clear q5
         obtain ⟨x6_2, x7_2, rfl, rfl, HA, HK2, ⟨m2, rfl⟩⟩ := hrel
         cases gk with
         | zero => exact absurd HA.out (by simp [manystrandref01_remark.l1])
         | succ k2 =>
          have H := HA.out
          clear HA
          simp only [manystrandref01_remark.l1] at H
          by_cases c18 : x7_2 < (a0.size : Int)
          ·rw [if_pos c18] at H
           have c18b0 : decide (x7_2 < (a0.size : Int)) = true := decide_eq_true c18
           clear c18
           replace H := Option.bind_eq_some_iff.mp H
           obtain ⟨t168, A190, H⟩ := H
           replace H : (if t168 = true then (manystrandref01_remark.l1 k2 a0 (wrap64 (x6_2 + 1)) (wrap64 ((wrap64 (x7_2 + 1)) + 1))) else ((manystrandref01_begins.f a0 x7_2 (⟨#[42, 47]⟩ : ByteArray)).bind fun t169 => (if t169 = true then (if (wrap64 (x6_2 - 1)) = 0 then (some (wrap64 ((wrap64 (x7_2 + 1)) + 1))) else (manystrandref01_remark.l1 k2 a0 (wrap64 (x6_2 - 1)) (wrap64 ((wrap64 (x7_2 + 1)) + 1)))) else (manystrandref01_remark.l1 k2 a0 x6_2 (wrap64 (x7_2 + 1)))))) = some r := H
           have A19 := Aside0.mk A190
           clear A190
           by_cases c20 : t168 = true
           ·subst c20
            have H1 : (manystrandref01_remark.l1 k2 a0 (wrap64 (x6_2 + 1)) (wrap64 ((wrap64 (x7_2 + 1)) + 1))) = some r := by rw [if_pos rfl] at H; exact H
            clear H
            have H := H1
            clear H1
            have H' := Aside0.mk H
            clear H
            go_wp2_with (first | ((with_reducible refine gate_callee (f := 67) rfl ?_); refine goesL_ (some 58) rfl rfl Try.func67 (by kernel_rfl) rfl #[.string a0, .int .i64 x7_2, .string (⟨#[47, 42]⟩ : ByteArray)] rfl (by (try simp only [List.map_toArray, List.map_cons, List.map_nil]); first | done | rfl | (simp only [List.length_drop, List.length_take]; rfl)) ?_; (with_reducible refine (manystrandref01_begins.calls a0 x7_2 (⟨#[47, 42]⟩ : ByteArray) true _ A19.out).mono ?_); rintro e w' ⟨rfl, ⟨nd, rfl⟩⟩; refine ⟨_, rfl, ?_⟩))
            go_roundg k2
            case measure => have := HJ5.out; have := HK2.out; omega
            case rel => exact ⟨(wrap64 (x6_2 + 1)), (wrap64 ((wrap64 (x7_2 + 1)) + 1)), (by first | rfl | (simp; done) | (simp [*]; done)), (by first | rfl | (simp; done) | (simp [*]; done)), H', ⟨by have := HJ5.out; have := HK2.out; omega⟩, by repeat (first | exact Drawn0.refl _ | apply Drawn0.step)⟩
           ·replace c20 := Bool.eq_false_iff.mpr c20
            subst c20
            have H1 : ((manystrandref01_begins.f a0 x7_2 (⟨#[42, 47]⟩ : ByteArray)).bind fun t169 => (if t169 = true then (if (wrap64 (x6_2 - 1)) = 0 then (some (wrap64 ((wrap64 (x7_2 + 1)) + 1))) else (manystrandref01_remark.l1 k2 a0 (wrap64 (x6_2 - 1)) (wrap64 ((wrap64 (x7_2 + 1)) + 1)))) else (manystrandref01_remark.l1 k2 a0 x6_2 (wrap64 (x7_2 + 1))))) = some r := by rw [if_neg (show ¬ (false = true) by decide)] at H; exact H
            clear H
            have H := H1
            clear H1
            replace H := Option.bind_eq_some_iff.mp H
            obtain ⟨t169, A210, H⟩ := H
            replace H : (if t169 = true then (if (wrap64 (x6_2 - 1)) = 0 then (some (wrap64 ((wrap64 (x7_2 + 1)) + 1))) else (manystrandref01_remark.l1 k2 a0 (wrap64 (x6_2 - 1)) (wrap64 ((wrap64 (x7_2 + 1)) + 1)))) else (manystrandref01_remark.l1 k2 a0 x6_2 (wrap64 (x7_2 + 1)))) = some r := H
            have A21 := Aside0.mk A210
            clear A210
            by_cases c22 : t169 = true
            ·subst c22
             have H1 : (if (wrap64 (x6_2 - 1)) = 0 then (some (wrap64 ((wrap64 (x7_2 + 1)) + 1))) else (manystrandref01_remark.l1 k2 a0 (wrap64 (x6_2 - 1)) (wrap64 ((wrap64 (x7_2 + 1)) + 1)))) = some r := by rw [if_pos rfl] at H; exact H
             clear H
             have H := H1
             clear H1
             by_cases c23 : (wrap64 (x6_2 - 1)) = 0
             ·rw [if_pos c23] at H
              have c23b0 : ((wrap64 (x6_2 - 1)) == 0) = true := beq_iff_eq.mpr c23
              have c23b1 : ((wrap64 (x6_2 - 1)) != 0) = false := bne_eq_false_iff_eq.mpr c23
              clear c23
              obtain rfl := Option.some.inj H
              go_wp2_with (first | ((with_reducible refine gate_callee (f := 67) rfl ?_); refine goesL_ (some 58) rfl rfl Try.func67 (by kernel_rfl) rfl #[.string a0, .int .i64 x7_2, .string (⟨#[47, 42]⟩ : ByteArray)] rfl (by (try simp only [List.map_toArray, List.map_cons, List.map_nil]); first | done | rfl | (simp only [List.length_drop, List.length_take]; rfl)) ?_; (with_reducible refine (manystrandref01_begins.calls a0 x7_2 (⟨#[47, 42]⟩ : ByteArray) false _ A19.out).mono ?_); rintro e w' ⟨rfl, ⟨nd, rfl⟩⟩; refine ⟨_, rfl, ?_⟩) | ((with_reducible refine gate_callee (f := 67) rfl ?_); refine goesL_ (some 66) rfl rfl Try.func67 (by kernel_rfl) rfl #[.string a0, .int .i64 x7_2, .string (⟨#[42, 47]⟩ : ByteArray)] rfl (by (try simp only [List.map_toArray, List.map_cons, List.map_nil]); first | done | rfl | (simp only [List.length_drop, List.length_take]; rfl)) ?_; (with_reducible refine (manystrandref01_begins.calls a0 x7_2 (⟨#[42, 47]⟩ : ByteArray) true _ A21.out).mono ?_); rintro e w' ⟨rfl, ⟨nd, rfl⟩⟩; refine ⟨_, rfl, ?_⟩))
              go_ret
              exact ⟨by first | rfl | (simp; done) | (simp [*]; done), by repeat (first | exact Drawn0.refl _ | apply Drawn0.step)⟩
             ·rw [if_neg c23] at H
              have c23b0 : ((wrap64 (x6_2 - 1)) == 0) = false := beq_eq_false_iff_ne.mpr c23
              have c23b1 : ((wrap64 (x6_2 - 1)) != 0) = true := bne_iff_ne.mpr c23
              have H' := Aside0.mk H
              clear H
              go_wp2_with (first | ((with_reducible refine gate_callee (f := 67) rfl ?_); refine goesL_ (some 58) rfl rfl Try.func67 (by kernel_rfl) rfl #[.string a0, .int .i64 x7_2, .string (⟨#[47, 42]⟩ : ByteArray)] rfl (by (try simp only [List.map_toArray, List.map_cons, List.map_nil]); first | done | rfl | (simp only [List.length_drop, List.length_take]; rfl)) ?_; (with_reducible refine (manystrandref01_begins.calls a0 x7_2 (⟨#[47, 42]⟩ : ByteArray) false _ A19.out).mono ?_); rintro e w' ⟨rfl, ⟨nd, rfl⟩⟩; refine ⟨_, rfl, ?_⟩) | ((with_reducible refine gate_callee (f := 67) rfl ?_); refine goesL_ (some 66) rfl rfl Try.func67 (by kernel_rfl) rfl #[.string a0, .int .i64 x7_2, .string (⟨#[42, 47]⟩ : ByteArray)] rfl (by (try simp only [List.map_toArray, List.map_cons, List.map_nil]); first | done | rfl | (simp only [List.length_drop, List.length_take]; rfl)) ?_; (with_reducible refine (manystrandref01_begins.calls a0 x7_2 (⟨#[42, 47]⟩ : ByteArray) true _ A21.out).mono ?_); rintro e w' ⟨rfl, ⟨nd, rfl⟩⟩; refine ⟨_, rfl, ?_⟩))
              go_roundg k2
              case measure => have := HJ5.out; have := HK2.out; omega
              case rel => exact ⟨(wrap64 (x6_2 - 1)), (wrap64 ((wrap64 (x7_2 + 1)) + 1)), (by first | rfl | (simp; done) | (simp [*]; done)), (by first | rfl | (simp; done) | (simp [*]; done)), H', ⟨by have := HJ5.out; have := HK2.out; omega⟩, by repeat (first | exact Drawn0.refl _ | apply Drawn0.step)⟩
            ·replace c22 := Bool.eq_false_iff.mpr c22
             subst c22
             have H1 : (manystrandref01_remark.l1 k2 a0 x6_2 (wrap64 (x7_2 + 1))) = some r := by rw [if_neg (show ¬ (false = true) by decide)] at H; exact H
             clear H
             have H := H1
             clear H1
             have H' := Aside0.mk H
             clear H
             go_wp2_with (first | ((with_reducible refine gate_callee (f := 67) rfl ?_); refine goesL_ (some 58) rfl rfl Try.func67 (by kernel_rfl) rfl #[.string a0, .int .i64 x7_2, .string (⟨#[47, 42]⟩ : ByteArray)] rfl (by (try simp only [List.map_toArray, List.map_cons, List.map_nil]); first | done | rfl | (simp only [List.length_drop, List.length_take]; rfl)) ?_; (with_reducible refine (manystrandref01_begins.calls a0 x7_2 (⟨#[47, 42]⟩ : ByteArray) false _ A19.out).mono ?_); rintro e w' ⟨rfl, ⟨nd, rfl⟩⟩; refine ⟨_, rfl, ?_⟩) | ((with_reducible refine gate_callee (f := 67) rfl ?_); refine goesL_ (some 66) rfl rfl Try.func67 (by kernel_rfl) rfl #[.string a0, .int .i64 x7_2, .string (⟨#[42, 47]⟩ : ByteArray)] rfl (by (try simp only [List.map_toArray, List.map_cons, List.map_nil]); first | done | rfl | (simp only [List.length_drop, List.length_take]; rfl)) ?_; (with_reducible refine (manystrandref01_begins.calls a0 x7_2 (⟨#[42, 47]⟩ : ByteArray) false _ A21.out).mono ?_); rintro e w' ⟨rfl, ⟨nd, rfl⟩⟩; refine ⟨_, rfl, ?_⟩))
             go_roundg k2
             case measure => have := HJ5.out; have := HK2.out; omega
             case rel => exact ⟨(x6_2), (wrap64 (x7_2 + 1)), (by first | rfl | (simp; done) | (simp [*]; done)), (by first | rfl | (simp; done) | (simp [*]; done)), H', ⟨by have := HJ5.out; have := HK2.out; omega⟩, by repeat (first | exact Drawn0.refl _ | apply Drawn0.step)⟩
          ·rw [if_neg c18] at H
           have c18b0 : decide (x7_2 < (a0.size : Int)) = false := decide_eq_false c18
           clear c18
           obtain rfl := Option.some.inj H
           go_wp2
           go_ret
           exact ⟨by first | rfl | (simp; done) | (simp [*]; done), by repeat (first | exact Drawn0.refl _ | apply Drawn0.step)⟩
       ·replace c17 := Bool.eq_false_iff.mpr c17
        subst c17
        have H1 : (some a1) = some r := by rw [if_neg (show ¬ (false = true) by decide)] at H; exact H
        clear H
        have H := H1
        clear H1
        obtain rfl := Option.some.inj H
        go_wp2_with (first | ((with_reducible refine gate_callee (f := 67) rfl ?_); refine goesL_ (some 44) rfl rfl Try.func67 (by kernel_rfl) rfl #[.string a0, .int .i64 a1, .string (⟨#[47, 42]⟩ : ByteArray)] rfl (by (try simp only [List.map_toArray, List.map_cons, List.map_nil]); first | done | rfl | (simp only [List.length_drop, List.length_take]; rfl)) ?_; (with_reducible refine (manystrandref01_begins.calls a0 a1 (⟨#[47, 42]⟩ : ByteArray) false _ A16.out).mono ?_); rintro e w' ⟨rfl, ⟨nd, rfl⟩⟩; refine ⟨_, rfl, ?_⟩))
        go_ret
        exact ⟨by first | rfl | (simp; done) | (simp [*]; done), by repeat (first | exact Drawn0.refl _ | apply Drawn0.step)⟩
  ·rw [if_neg c4] at H
   exact absurd H (by simp)
 ·rw [if_neg c3] at H
  exact absurd H (by simp)

end Go.Proofs.Ytgbielhbjgipoaa.Q
