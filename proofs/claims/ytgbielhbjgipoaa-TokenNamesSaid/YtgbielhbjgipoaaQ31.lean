-- Walks of Go functions; written by own_print.py of this repo (see NOTES.md).
import Derived.Test.YtgbielhbjgipoaaQ0
namespace Go.Proofs.Ytgbielhbjgipoaa.Q
open Go.RowKit Go.Proofs.YtgbielhbjgipoaaW.PrintWords Go.Proofs.YtgbielhbjgipoaaW.PrintLast Go.Proofs.YtgbielhbjgipoaaW.PrintMore
attribute [local go_sem] Go.Proofs.YtgbielhbjgipoaaW.OwnWords.isSome_setCell max2_int min2_int max_two min_two max_three min_three max_four min_four   -- for this text's walks alone
set_option linter.unusedVariables false
set_option linter.unusedSimpArgs false

/-! ### manystrandref01_quote: function 69 -/
mutual
def manystrandref01_quote.l0 : Nat → ByteArray → Int → Int → Int → ByteArray → Int → Option (ByteArray × Int × Bool)
 | 0, _, _, _, _, _, _ => none
 | k + 1, x0, x1, x2, x9, x10, x11 => if x11 < (x0.size : Int) then (if 0 ≤ x11 then (if (bt x0 x11) = x9 then (some (x10, wrap64 (x11 + 1), decide ((x10.size : Int) ≤ x2))) else (if (bt x0 x11) = 92 then (if (wrap64 (x11 + 1)) = (x0.size : Int) then (manystrandref01_quote.j1 k x0 x1 x2 x9 x10 (wrap64 (x11 + 1)) true) else (if 0 ≤ (wrap64 (x11 + 1)) then (if (wrap64 (x11 + 1)) < (x0.size : Int) then (if (bt x0 (wrap64 (x11 + 1))) = x9 then (manystrandref01_quote.j1 k x0 x1 x2 x9 x10 (wrap64 (x11 + 1)) false) else (if (bt x0 (wrap64 (x11 + 1))) = 92 then (manystrandref01_quote.j1 k x0 x1 x2 x9 x10 (wrap64 (x11 + 1)) false) else (manystrandref01_quote.j1 k x0 x1 x2 x9 x10 (wrap64 (x11 + 1)) ((bt x0 (wrap64 (x11 + 1))) != 110)))) else (none)) else (none))) else (if (bt x0 x11) < 32 then (some ((⟨#[]⟩ : ByteArray), x1, false)) else (if (bt x0 x11) > 126 then (some ((⟨#[]⟩ : ByteArray), x1, false)) else (if x11 ≤ (wrap64 (x11 + 1)) then (if (wrap64 (x11 + 1)) ≤ (x0.size : Int) then (if x10.size + (x0.extract (x11 : Int).toNat ((wrap64 (x11 + 1)) : Int).toNat).size ≤ 9223372036854775807 then (manystrandref01_quote.l0 k x0 x1 x2 x9 (x10 ++ (x0.extract (x11 : Int).toNat ((wrap64 (x11 + 1)) : Int).toNat)) (wrap64 (x11 + 1))) else (none)) else (none)) else (none)))))) else (none)) else (some ((⟨#[]⟩ : ByteArray), x1, false))
def manystrandref01_quote.j1 : Nat → ByteArray → Int → Int → Int → ByteArray → Int → Bool → Option (ByteArray × Int × Bool)
 | 0, _, _, _, _, _, _, _ => none
 | k + 1, x0, x1, x2, x9, x10, x11, x72 => if x72 = true then (some ((⟨#[]⟩ : ByteArray), x1, false)) else (if 0 ≤ x11 then (if x11 < (x0.size : Int) then (if (bt x0 x11) = 110 then (if x10.size + 1 ≤ 9223372036854775807 then (manystrandref01_quote.l0 k x0 x1 x2 x9 (x10 ++ (⟨#[10]⟩ : ByteArray)) (wrap64 (x11 + 1))) else (none)) else (if x11 ≤ (wrap64 (x11 + 1)) then (if (wrap64 (x11 + 1)) ≤ (x0.size : Int) then (if x10.size + (x0.extract (x11 : Int).toNat ((wrap64 (x11 + 1)) : Int).toNat).size ≤ 9223372036854775807 then (manystrandref01_quote.l0 k x0 x1 x2 x9 (x10 ++ (x0.extract (x11 : Int).toNat ((wrap64 (x11 + 1)) : Int).toNat)) (wrap64 (x11 + 1))) else (none)) else (none)) else (none))) else (none)) else (none))
end
def manystrandref01_quote.f (k : Nat) (a0 : ByteArray) (a1 : Int) (a2 : Int) : Option (ByteArray × Int × Bool) := if 0 ≤ a1 then (if a1 < (a0.size : Int) then (manystrandref01_quote.l0 k a0 a1 a2 (bt a0 a1) (⟨#[]⟩ : ByteArray) (wrap64 (a1 + 1))) else (none)) else (none)
theorem manystrandref01_quote.mono_l : ∀ k, (∀ y0 y1 y2 y3 y4 y5, LeO (manystrandref01_quote.l0 k y0 y1 y2 y3 y4 y5) (manystrandref01_quote.l0 (k + 1) y0 y1 y2 y3 y4 y5)) ∧ (∀ y0 y1 y2 y3 y4 y5 y6, LeO (manystrandref01_quote.j1 k y0 y1 y2 y3 y4 y5 y6) (manystrandref01_quote.j1 (k + 1) y0 y1 y2 y3 y4 y5 y6))
 | 0 => ⟨fun _ _ _ _ _ _ r h => by simp [manystrandref01_quote.l0] at h, fun _ _ _ _ _ _ _ r h => by simp [manystrandref01_quote.j1] at h⟩
 | k + 1 => by
  obtain ⟨ih0, ih1⟩ := manystrandref01_quote.mono_l k
  refine ⟨?_, ?_⟩
  ·intro y0 y1 y2 y3 y4 y5
   unfold manystrandref01_quote.l0
   repeat' first
   | (with_reducible exact ih0 _ _ _ _ _ _)
   | (with_reducible exact ih1 _ _ _ _ _ _ _)
   | (with_reducible exact LeO.refl _)
   | (with_reducible exact LeO.none _)
   | (with_reducible refine LeO.ite ?_ ?_)
   | (with_reducible refine LeO.bind ?_ (fun _ => ?_))
   | exact ih0 _ _ _ _ _ _
   | exact ih1 _ _ _ _ _ _ _
   | exact LeO.none _
   | refine LeO.ite ?_ ?_
   | refine LeO.bind ?_ (fun _ => ?_)
  ·intro y0 y1 y2 y3 y4 y5 y6
   unfold manystrandref01_quote.j1
   repeat' first
   | (with_reducible exact ih0 _ _ _ _ _ _)
   | (with_reducible exact ih1 _ _ _ _ _ _ _)
   | (with_reducible exact LeO.refl _)
   | (with_reducible exact LeO.none _)
   | (with_reducible refine LeO.ite ?_ ?_)
   | (with_reducible refine LeO.bind ?_ (fun _ => ?_))
   | exact ih0 _ _ _ _ _ _
   | exact ih1 _ _ _ _ _ _ _
   | exact LeO.none _
   | refine LeO.ite ?_ ?_
   | refine LeO.bind ?_ (fun _ => ?_)
theorem manystrandref01_quote.mono : ∀ a0 a1 a2 k, LeO (manystrandref01_quote.f k a0 a1 a2) (manystrandref01_quote.f (k + 1) a0 a1 a2) := by
 intro a0 a1 a2 k
 obtain ⟨ih0, ih1⟩ := manystrandref01_quote.mono_l k
 unfold manystrandref01_quote.f
 repeat' first
   | (with_reducible exact ih0 _ _ _ _ _ _)
   | (with_reducible exact ih1 _ _ _ _ _ _ _)
   | (with_reducible exact LeO.refl _)
   | (with_reducible exact LeO.none _)
   | (with_reducible refine LeO.ite ?_ ?_)
   | (with_reducible refine LeO.bind ?_ (fun _ => ?_))
   | exact ih0 _ _ _ _ _ _
   | exact ih1 _ _ _ _ _ _ _
   | exact LeO.none _
   | refine LeO.ite ?_ ?_
   | refine LeO.bind ?_ (fun _ => ?_)
set_option maxHeartbeats 8000000 in
set_option maxRecDepth 100000 in
theorem manystrandref01_quote.calls (k : Nat) (a0 : ByteArray) (a1 : Int) (a2 : Int) (r1 : ByteArray) (r2 : Int) (r3 : Bool) (w : World) (h : manystrandref01_quote.f k a0 a1 a2 = some (r1, r2, r3)) :
  Calls Try.prog 69 #[.string a0, .int .i64 a1, .int .i64 a2] w fun e w' => e = .returned (.tuple #[.string r1, .int .i64 r2, .bool r3]) ∧ Drawn0 w w' := by
 have H : (if 0 ≤ a1 then (if a1 < (a0.size : Int) then (manystrandref01_quote.l0 k a0 a1 a2 (bt a0 a1) (⟨#[]⟩ : ByteArray) (wrap64 (a1 + 1))) else (none)) else (none)) = some (r1, r2, r3) := h
 clear h
 by_cases c4 : 0 ≤ a1
 ·rw [if_pos c4] at H
  have c4b0 : decide (0 ≤ a1) = true := decide_eq_true c4
  clear c4
  by_cases c5 : a1 < (a0.size : Int)
  ·rw [if_pos c5] at H
   have c5b0 : decide (a1 < (a0.size : Int)) = true := decide_eq_true c5
   clear c5
   have H' := Aside0.mk H
   clear H
   have p6 : 0 ≤ (a1 : Int) := of_decide_eq_true (by first | (with_reducible assumption) | assumption)
   have q6 : a1 < (a0.size : Int) := of_decide_eq_true (by first | (with_reducible assumption) | assumption)
   have hx6 := bt_at a0 a1
   replace p6 := eq_true p6
   replace q6 := eq_true q6
   go_enter Try.func69, Try.ntmps69
   go_wp2
   go_loopg [10, 11] k (fun kq v10 v11 w' => ∃ (x10_1 : ByteArray) (x11_1 : Int), v10 = .string x10_1 ∧ v11 = .int .i64 x11_1 ∧ Aside0 (manystrandref01_quote.l0 kq a0 a1 a2 (bt a0 a1) x10_1 x11_1 = some (r1, r2, r3)) ∧ Aside0 (kq ≤ k) ∧ Drawn0 w w')
   case atStart => exact ⟨((⟨#[]⟩ : ByteArray)), (wrap64 (a1 + 1)), (by first | rfl | (simp; done) | (simp [*]; done)), (by first | rfl | (simp; done) | (simp [*]; done)), H', ⟨Nat.le_refl _⟩, by repeat (first | exact Drawn0.refl _ | apply Drawn0.step)⟩
   case round =>
    clear H'
    try clear p2
    try clear c4
    try clear c4b0
    try clear c5
    try clear c5b0
    try clear c6
    try clear p6
    try clear q6
    try clear hx6
    try clear p6
    try clear q6
    obtain ⟨x10_1, x11_1, rfl, rfl, HA, HK1, ⟨m1, rfl⟩⟩ := hrel
    cases gk with
    | zero => exact absurd HA.out (by simp [manystrandref01_quote.l0])
    | succ k1 =>
     have H := HA.out
     clear HA
     simp only [manystrandref01_quote.l0] at H
     by_cases c7 : x11_1 < (a0.size : Int)
     ·rw [if_pos c7] at H
      have c7b0 : decide (x11_1 < (a0.size : Int)) = true := decide_eq_true c7
      clear c7
      by_cases c8 : 0 ≤ x11_1
      ·rw [if_pos c8] at H
       have c8b0 : decide (0 ≤ x11_1) = true := decide_eq_true c8
       clear c8
       by_cases c10 : (bt a0 x11_1) = (bt a0 a1)
       ·rw [if_pos c10] at H
        have c10b0 : ((bt a0 x11_1) == (bt a0 a1)) = true := beq_iff_eq.mpr c10
        have c10b1 : ((bt a0 x11_1) != (bt a0 a1)) = false := bne_eq_false_iff_eq.mpr c10
        clear c10
        simp only [Option.some.injEq, Prod.mk.injEq] at H
        obtain ⟨rfl, rfl, rfl⟩ := H
        have p9 : 0 ≤ (x11_1 : Int) := of_decide_eq_true (by first | (with_reducible assumption) | assumption)
        have q9 : x11_1 < (a0.size : Int) := of_decide_eq_true (by first | (with_reducible assumption) | assumption)
        have hx9 := bt_at a0 x11_1
        replace p9 := eq_true p9
        replace q9 := eq_true q9
        go_wp2
        go_ret3
        exact ⟨by first | rfl | (simp; done) | (simp [*]; done), by repeat (first | exact Drawn0.refl _ | apply Drawn0.step)⟩
       ·rw [if_neg c10] at H
        have c10b0 : ((bt a0 x11_1) == (bt a0 a1)) = false := beq_eq_false_iff_ne.mpr c10
        have c10b1 : ((bt a0 x11_1) != (bt a0 a1)) = true := bne_iff_ne.mpr c10
        by_cases c11 : (bt a0 x11_1) = 92
        ·rw [if_pos c11] at H
         have c11b0 : ((bt a0 x11_1) == 92) = true := beq_iff_eq.mpr c11
         have c11b1 : ((bt a0 x11_1) != 92) = false := bne_eq_false_iff_eq.mpr c11
         clear c11
         have HC12 := Aside0.mk H
         clear H
         have p9 : 0 ≤ (x11_1 : Int) := of_decide_eq_true (by first | (with_reducible assumption) | assumption)
         have q9 : x11_1 < (a0.size : Int) := of_decide_eq_true (by first | (with_reducible assumption) | assumption)
         have hx9 := bt_at a0 x11_1
         replace p9 := eq_true p9
         replace q9 := eq_true q9
         go_upto_region 11 with (fail)
         go_cut [72] (fun v72 wc => ∃ (kq : Nat) (x72_11 : Bool), v72 = .bool x72_11 ∧ Aside0 (manystrandref01_quote.j1 kq a0 a1 a2 (bt a0 a1) x10_1 (wrap64 (x11_1 + 1)) x72_11 = some (r1, r2, r3)) ∧ Aside0 (kq ≤ k1) ∧ Drawn0 w wc)
         case first =>
          have H := HC12.out
          clear HC12
          by_cases c13 : (wrap64 (x11_1 + 1)) = (a0.size : Int)
          ·rw [if_pos c13] at H
           have c13b0 : ((wrap64 (x11_1 + 1)) == (a0.size : Int)) = true := beq_iff_eq.mpr c13
           have c13b1 : ((wrap64 (x11_1 + 1)) != (a0.size : Int)) = false := bne_eq_false_iff_eq.mpr c13
           clear c13
           (first | rw [c13b0] | (simp only [i64_w, i32_w]; rw [c13b0]) | skip)
           have H' := Aside0.mk H
           clear H
           go_wp2
           go_meet
           case rel => exact ⟨_, (true), (by first | rfl | (simp; done) | (simp [*]; done)), (by first | exact H' | exact hji14 ▸ H' | (rw [← hji14] at H' ⊢; exact H') | (have h_ := H'; simp only [← hji14] at h_ ⊢; exact h_)), ⟨by have := HK1.out; first | omega | exact Nat.le_refl _⟩, by repeat (first | exact Drawn0.refl _ | apply Drawn0.step)⟩
          ·rw [if_neg c13] at H
           have c13b0 : ((wrap64 (x11_1 + 1)) == (a0.size : Int)) = false := beq_eq_false_iff_ne.mpr c13
           have c13b1 : ((wrap64 (x11_1 + 1)) != (a0.size : Int)) = true := bne_iff_ne.mpr c13
           (first | rw [c13b0] | (simp only [i64_w, i32_w]; rw [c13b0]) | skip)
           obtain ⟨ji14, hji14⟩ : ∃ j_ : Int, (wrap64 (x11_1 + 1)) = j_ := ⟨_, rfl⟩
           replace H : (if 0 ≤ (ji14) then (if (ji14) < (a0.size : Int) then (if (bt a0 (ji14)) = (bt a0 a1) then (manystrandref01_quote.j1 k1 a0 a1 a2 (bt a0 a1) x10_1 ji14 false) else (if (bt a0 (ji14)) = 92 then (manystrandref01_quote.j1 k1 a0 a1 a2 (bt a0 a1) x10_1 ji14 false) else (manystrandref01_quote.j1 k1 a0 a1 a2 (bt a0 a1) x10_1 ji14 ((bt a0 (ji14)) != 110)))) else (none)) else (none)) = some (r1, r2, r3) := by first | (rw [hji14] at H; exact H) | (simp only [hji14] at H ⊢; exact H)
           (try rw [hji14] at c13b0)
           (try rw [hji14] at c13b1)
           have hji14w : (IntKind.i64.wrap (x11_1 + 1)) = ji14 := (i64_w _).trans hji14
           by_cases c15 : 0 ≤ (ji14)
           ·rw [if_pos c15] at H
            have c15b0 : decide (0 ≤ (ji14)) = true := decide_eq_true c15
            clear c15
            by_cases c16 : (ji14) < (a0.size : Int)
            ·rw [if_pos c16] at H
             have c16b0 : decide ((ji14) < (a0.size : Int)) = true := decide_eq_true c16
             clear c16
             by_cases c18 : (bt a0 (ji14)) = (bt a0 a1)
             ·rw [if_pos c18] at H
              have c18b0 : ((bt a0 (ji14)) == (bt a0 a1)) = true := beq_iff_eq.mpr c18
              have c18b1 : ((bt a0 (ji14)) != (bt a0 a1)) = false := bne_eq_false_iff_eq.mpr c18
              clear c18
              have H' := Aside0.mk H
              clear H
              have p17 : 0 ≤ ((ji14) : Int) := of_decide_eq_true (by first | (with_reducible assumption) | assumption)
              have q17 : (ji14) < (a0.size : Int) := of_decide_eq_true (by first | (with_reducible assumption) | assumption)
              have hx17 := bt_at a0 (ji14)
              replace p17 := eq_true p17
              replace q17 := eq_true q17
              go_wp2
              go_meet
              case rel => exact ⟨_, (false), (by first | rfl | (simp; done) | (simp [*]; done)), (by first | exact H' | exact hji14 ▸ H' | (rw [← hji14] at H' ⊢; exact H') | (have h_ := H'; simp only [← hji14] at h_ ⊢; exact h_)), ⟨by have := HK1.out; first | omega | exact Nat.le_refl _⟩, by repeat (first | exact Drawn0.refl _ | apply Drawn0.step)⟩
             ·rw [if_neg c18] at H
              have c18b0 : ((bt a0 (ji14)) == (bt a0 a1)) = false := beq_eq_false_iff_ne.mpr c18
              have c18b1 : ((bt a0 (ji14)) != (bt a0 a1)) = true := bne_iff_ne.mpr c18
              by_cases c20 : (bt a0 (ji14)) = 92
              ·rw [if_pos c20] at H
               have c20b0 : ((bt a0 (ji14)) == 92) = true := beq_iff_eq.mpr c20
               have c20b1 : ((bt a0 (ji14)) != 92) = false := bne_eq_false_iff_eq.mpr c20
               clear c20
               have H' := Aside0.mk H
               clear H
               have p17 : 0 ≤ ((ji14) : Int) := of_decide_eq_true (by first | (with_reducible assumption) | assumption)
               have q17 : (ji14) < (a0.size : Int) := of_decide_eq_true (by first | (with_reducible assumption) | assumption)
               have hx17 := bt_at a0 (ji14)
               replace p17 := eq_true p17
               replace q17 := eq_true q17
               have p19 : 0 ≤ ((ji14) : Int) := of_decide_eq_true (by first | (with_reducible assumption) | assumption)
               have q19 : (ji14) < (a0.size : Int) := of_decide_eq_true (by first | (with_reducible assumption) | assumption)
               have hx19 := bt_at a0 (ji14)
               replace p19 := eq_true p19
               replace q19 := eq_true q19
               go_wp2
               go_meet
               case rel => exact ⟨_, (false), (by first | rfl | (simp; done) | (simp [*]; done)), (by first | exact H' | exact hji14 ▸ H' | (rw [← hji14] at H' ⊢; exact H') | (have h_ := H'; simp only [← hji14] at h_ ⊢; exact h_)), ⟨by have := HK1.out; first | omega | exact Nat.le_refl _⟩, by repeat (first | exact Drawn0.refl _ | apply Drawn0.step)⟩
              ·rw [if_neg c20] at H
               have c20b0 : ((bt a0 (ji14)) == 92) = false := beq_eq_false_iff_ne.mpr c20
               have c20b1 : ((bt a0 (ji14)) != 92) = true := bne_iff_ne.mpr c20
               have H' := Aside0.mk H
               clear H
               have p17 : 0 ≤ ((ji14) : Int) := of_decide_eq_true (by first | (with_reducible assumption) | assumption)
               have q17 : (ji14) < (a0.size : Int) := of_decide_eq_true (by first | (with_reducible assumption) | assumption)
               have hx17 := bt_at a0 (ji14)
               replace p17 := eq_true p17
               replace q17 := eq_true q17
               have p19 : 0 ≤ ((ji14) : Int) := of_decide_eq_true (by first | (with_reducible assumption) | assumption)
               have q19 : (ji14) < (a0.size : Int) := of_decide_eq_true (by first | (with_reducible assumption) | assumption)
               have hx19 := bt_at a0 (ji14)
               replace p19 := eq_true p19
               replace q19 := eq_true q19
               have p21 : 0 ≤ ((ji14) : Int) := of_decide_eq_true (by first | (with_reducible assumption) | assumption)
               have q21 : (ji14) < (a0.size : Int) := of_decide_eq_true (by first | (with_reducible assumption) | assumption)
               have hx21 := bt_at a0 (ji14)
               replace p21 := eq_true p21
               replace q21 := eq_true q21
               go_wp2
               go_meet
               case rel => exact ⟨_, (((bt a0 (ji14)) != 110)), (by first | rfl | (simp; done) | (simp only [← hji14] <;> (first | rfl | simp); done) | (simp [*]; done)), (by first | exact H' | exact hji14 ▸ H' | (rw [← hji14] at H' ⊢; exact H') | (have h_ := H'; simp only [← hji14] at h_ ⊢; exact h_)), ⟨by have := HK1.out; first | omega | exact Nat.le_refl _⟩, by repeat (first | exact Drawn0.refl _ | apply Drawn0.step)⟩
            ·rw [if_neg c16] at H
             exact absurd H (by simp)
           ·rw [if_neg c15] at H
            exact absurd H (by simp)
         case rest =>
          clear HC12
          try clear c1
          try clear p1
          try clear q1
          try clear hx1
          try clear c2
          try clear p2
          try clear q2
          try clear hx2
          try clear c4
          try clear c4b0
          try clear c5
          try clear c5b0
          try clear c6
          try clear p6
          try clear q6
          try clear hx6
          try clear c7
          try clear c7b0
          try clear c8
          try clear c8b0
          try clear p9
          try clear q9
          try clear hx9
          try clear c10
          try clear c10b0
          try clear c10b1
          try clear c11
          try clear c11b0
          try clear c11b1
          try clear c13
          try clear c13b0
          try clear c13b1
          try clear c15
          try clear c15b0
          try clear c16
          try clear c16b0
          try clear p17
          try clear q17
          try clear hx17
          try clear c18
          try clear c18b0
          try clear c18b1
          try clear p19
          try clear q19
          try clear hx19
          try clear c20
          try clear c20b0
          try clear c20b1
          try clear p21
          try clear q21
          try clear hx21
          try clear p17
          try clear p19
          try clear p2
          try clear p21
          try clear p6
          try clear p9
          try clear q17
          try clear q19
          try clear q21
          try clear q6
          try clear q9
          obtain ⟨kq, x72_11, rfl, HA, HJ11, ⟨mc11, rfl⟩⟩ := hcut
          cases kq with
          | zero => exact absurd HA.out (by simp [manystrandref01_quote.j1])
          | succ kj11 =>
           have H := HA.out
           clear HA
           simp only [manystrandref01_quote.j1] at H
           by_cases c22 : x72_11 = true
           ·subst c22
            have H1 : (some ((⟨#[]⟩ : ByteArray), a1, false)) = some (r1, r2, r3) := by rw [if_pos rfl] at H; exact H
            clear H
            have H := H1
            clear H1
            simp only [Option.some.injEq, Prod.mk.injEq] at H
            obtain ⟨rfl, rfl, rfl⟩ := H
            go_wp2
            go_ret3
            exact ⟨by first | rfl | (simp; done) | (simp [*]; done), by repeat (first | exact Drawn0.refl _ | apply Drawn0.step)⟩
           ·replace c22 := Bool.eq_false_iff.mpr c22
            subst c22
            have H1 : (if 0 ≤ (wrap64 (x11_1 + 1)) then (if (wrap64 (x11_1 + 1)) < (a0.size : Int) then (if (bt a0 (wrap64 (x11_1 + 1))) = 110 then (if x10_1.size + 1 ≤ 9223372036854775807 then (manystrandref01_quote.l0 kj11 a0 a1 a2 (bt a0 a1) (x10_1 ++ (⟨#[10]⟩ : ByteArray)) (wrap64 ((wrap64 (x11_1 + 1)) + 1))) else (none)) else (if (wrap64 (x11_1 + 1)) ≤ (wrap64 ((wrap64 (x11_1 + 1)) + 1)) then (if (wrap64 ((wrap64 (x11_1 + 1)) + 1)) ≤ (a0.size : Int) then (if x10_1.size + (a0.extract ((wrap64 (x11_1 + 1)) : Int).toNat ((wrap64 ((wrap64 (x11_1 + 1)) + 1)) : Int).toNat).size ≤ 9223372036854775807 then (manystrandref01_quote.l0 kj11 a0 a1 a2 (bt a0 a1) (x10_1 ++ (a0.extract ((wrap64 (x11_1 + 1)) : Int).toNat ((wrap64 ((wrap64 (x11_1 + 1)) + 1)) : Int).toNat)) (wrap64 ((wrap64 (x11_1 + 1)) + 1))) else (none)) else (none)) else (none))) else (none)) else (none)) = some (r1, r2, r3) := by rw [if_neg (show ¬ (false = true) by decide)] at H; exact H
            clear H
            have H := H1
            clear H1
            obtain ⟨ji23, hji23⟩ : ∃ j_ : Int, (wrap64 (x11_1 + 1)) = j_ := ⟨_, rfl⟩
            replace H : (if 0 ≤ (ji23) then (if (ji23) < (a0.size : Int) then (if (bt a0 (ji23)) = 110 then (if x10_1.size + 1 ≤ 9223372036854775807 then (manystrandref01_quote.l0 kj11 a0 a1 a2 (bt a0 a1) (x10_1 ++ (⟨#[10]⟩ : ByteArray)) (wrap64 ((ji23) + 1))) else (none)) else (if (ji23) ≤ (wrap64 ((ji23) + 1)) then (if (wrap64 ((ji23) + 1)) ≤ (a0.size : Int) then (if x10_1.size + (a0.extract ((ji23) : Int).toNat ((wrap64 ((ji23) + 1)) : Int).toNat).size ≤ 9223372036854775807 then (manystrandref01_quote.l0 kj11 a0 a1 a2 (bt a0 a1) (x10_1 ++ (a0.extract ((ji23) : Int).toNat ((wrap64 ((ji23) + 1)) : Int).toNat)) (wrap64 ((ji23) + 1))) else (none)) else (none)) else (none))) else (none)) else (none)) = some (r1, r2, r3) := by first | (rw [hji23] at H; exact H) | (simp only [hji23] at H ⊢; exact H)
            have hji23w : (IntKind.i64.wrap (x11_1 + 1)) = ji23 := (i64_w _).trans hji23
            by_cases c24 : 0 ≤ (ji23)
            ·rw [if_pos c24] at H
             have c24b0 : decide (0 ≤ (ji23)) = true := decide_eq_true c24
             clear c24
             by_cases c25 : (ji23) < (a0.size : Int)
             ·rw [if_pos c25] at H
              have c25b0 : decide ((ji23) < (a0.size : Int)) = true := decide_eq_true c25
              clear c25
              by_cases c27 : (bt a0 (ji23)) = 110
              ·rw [if_pos c27] at H
               have c27b0 : ((bt a0 (ji23)) == 110) = true := beq_iff_eq.mpr c27
               have c27b1 : ((bt a0 (ji23)) != 110) = false := bne_eq_false_iff_eq.mpr c27
               clear c27
               by_cases c28 : x10_1.size + 1 ≤ 9223372036854775807
               ·rw [if_pos c28] at H
                have c28b0 := eq_true c28
                have c28b1 : decide (x10_1.size + 1 ≤ 9223372036854775807) = true := decide_eq_true c28
                try have c28b2 : (9223372036854775807 < x10_1.size + 1) = False := eq_false (Nat.not_lt.2 c28)
                try have c28z0 : (9223372036854775807 < x10_1.size + (⟨#[10]⟩ : ByteArray).size) = False := c28b2
                have H' := Aside0.mk H
                clear H
                have p26 : 0 ≤ ((ji23) : Int) := of_decide_eq_true (by first | (with_reducible assumption) | assumption)
                have q26 : (ji23) < (a0.size : Int) := of_decide_eq_true (by first | (with_reducible assumption) | assumption)
                have hx26 := bt_at a0 (ji23)
                replace p26 := eq_true p26
                replace q26 := eq_true q26
                go_wp2
                go_roundg kj11
                case measure => have := HK1.out; have := HJ11.out; omega
                case rel => exact ⟨(x10_1 ++ (⟨#[10]⟩ : ByteArray)), (wrap64 ((ji23) + 1)), (by first | rfl | (simp; done) | (simp [*]; done)), (by first | rfl | (simp; done) | (simp only [← hji23] <;> (first | rfl | simp); done) | (simp [*]; done)), (by first | exact H' | exact hji14 ▸ H' | (rw [← hji14] at H' ⊢; exact H') | (have h_ := H'; simp only [← hji14] at h_ ⊢; exact h_)), ⟨by have := HK1.out; have := HJ11.out; omega⟩, by repeat (first | exact Drawn0.refl _ | apply Drawn0.step)⟩
               ·rw [if_neg c28] at H
                exact absurd H (by simp)
              ·rw [if_neg c27] at H
               have c27b0 : ((bt a0 (ji23)) == 110) = false := beq_eq_false_iff_ne.mpr c27
               have c27b1 : ((bt a0 (ji23)) != 110) = true := bne_iff_ne.mpr c27
               have c29b0 := eq_true (of_decide_eq_true (by first | (with_reducible assumption) | assumption) : 0 ≤ (ji23))
               by_cases c30 : (ji23) ≤ (wrap64 ((ji23) + 1))
               ·rw [if_pos c30] at H
                have c30b0 := eq_true c30
                have c30b1 : decide ((ji23) ≤ (wrap64 ((ji23) + 1))) = true := decide_eq_true c30
                by_cases c31 : (wrap64 ((ji23) + 1)) ≤ (a0.size : Int)
                ·rw [if_pos c31] at H
                 have c31b0 := eq_true c31
                 have c31b1 : decide ((wrap64 ((ji23) + 1)) ≤ (a0.size : Int)) = true := decide_eq_true c31
                 by_cases c32 : x10_1.size + (a0.extract ((ji23) : Int).toNat ((wrap64 ((ji23) + 1)) : Int).toNat).size ≤ 9223372036854775807
                 ·rw [if_pos c32] at H
                  have c32b0 := eq_true c32
                  have c32b1 : decide (x10_1.size + (a0.extract ((ji23) : Int).toNat ((wrap64 ((ji23) + 1)) : Int).toNat).size ≤ 9223372036854775807) = true := decide_eq_true c32
                  try have c32b2 : (9223372036854775807 < x10_1.size + (a0.extract ((ji23) : Int).toNat ((wrap64 ((ji23) + 1)) : Int).toNat).size) = False := eq_false (Nat.not_lt.2 c32)
                  try have c32y : (9223372036854775807 < x10_1.size + (((wrap64 ((ji23) + 1)) : Int).toNat - ((ji23) : Int).toNat)) = False := eq_false (by have h_ := c32; (try simp only [ByteArray.size_append, ByteArray.size_extract] at h_); (have j0_ : ((wrap64 ((ji23) + 1)) : Int) ≤ (a0.size : Int) := of_decide_eq_true (by first | (with_reducible assumption) | assumption)); omega)
                  have H' := Aside0.mk H
                  clear H
                  have p26 : 0 ≤ ((ji23) : Int) := of_decide_eq_true (by first | (with_reducible assumption) | assumption)
                  have q26 : (ji23) < (a0.size : Int) := of_decide_eq_true (by first | (with_reducible assumption) | assumption)
                  have hx26 := bt_at a0 (ji23)
                  replace p26 := eq_true p26
                  replace q26 := eq_true q26
                  go_wp2
                  go_roundg kj11
                  case measure => have := HK1.out; have := HJ11.out; omega
                  case rel => exact ⟨(x10_1 ++ (a0.extract ((ji23) : Int).toNat ((wrap64 ((ji23) + 1)) : Int).toNat)), (wrap64 ((ji23) + 1)), (by first | rfl | (simp; done) | (simp only [← hji23] <;> (first | rfl | simp); done) | (simp [*]; done)), (by first | rfl | (simp; done) | (simp only [← hji23] <;> (first | rfl | simp); done) | (simp [*]; done)), (by first | exact H' | exact hji14 ▸ H' | (rw [← hji14] at H' ⊢; exact H') | (have h_ := H'; simp only [← hji14] at h_ ⊢; exact h_)), ⟨by have := HK1.out; have := HJ11.out; omega⟩, by repeat (first | exact Drawn0.refl _ | apply Drawn0.step)⟩
                 ·rw [if_neg c32] at H
                  exact absurd H (by simp)
                ·rw [if_neg c31] at H
                 exact absurd H (by simp)
               ·rw [if_neg c30] at H
                exact absurd H (by simp)
             ·rw [if_neg c25] at H
              exact absurd H (by simp)
            ·rw [if_neg c24] at H
             exact absurd H (by simp)
        ·rw [if_neg c11] at H
         have c11b0 : ((bt a0 x11_1) == 92) = false := beq_eq_false_iff_ne.mpr c11
         have c11b1 : ((bt a0 x11_1) != 92) = true := bne_iff_ne.mpr c11
         by_cases c33 : (bt a0 x11_1) < 32
         ·rw [if_pos c33] at H
          have c33b0 : decide ((bt a0 x11_1) < 32) = true := decide_eq_true c33
          clear c33
          simp only [Option.some.injEq, Prod.mk.injEq] at H
          obtain ⟨rfl, rfl, rfl⟩ := H
          have p9 : 0 ≤ (x11_1 : Int) := of_decide_eq_true (by first | (with_reducible assumption) | assumption)
          have q9 : x11_1 < (a0.size : Int) := of_decide_eq_true (by first | (with_reducible assumption) | assumption)
          have hx9 := bt_at a0 x11_1
          replace p9 := eq_true p9
          replace q9 := eq_true q9
          go_wp2
          go_ret3
          exact ⟨by first | rfl | (simp; done) | (simp [*]; done), by repeat (first | exact Drawn0.refl _ | apply Drawn0.step)⟩
         ·rw [if_neg c33] at H
          have c33b0 : decide ((bt a0 x11_1) < 32) = false := decide_eq_false c33
          clear c33
          by_cases c34 : (bt a0 x11_1) > 126
          ·rw [if_pos c34] at H
           have c34b0 : decide (126 < (bt a0 x11_1)) = true := decide_eq_true c34
           clear c34
           simp only [Option.some.injEq, Prod.mk.injEq] at H
           obtain ⟨rfl, rfl, rfl⟩ := H
           have p9 : 0 ≤ (x11_1 : Int) := of_decide_eq_true (by first | (with_reducible assumption) | assumption)
           have q9 : x11_1 < (a0.size : Int) := of_decide_eq_true (by first | (with_reducible assumption) | assumption)
           have hx9 := bt_at a0 x11_1
           replace p9 := eq_true p9
           replace q9 := eq_true q9
           go_wp2
           go_ret3
           exact ⟨by first | rfl | (simp; done) | (simp [*]; done), by repeat (first | exact Drawn0.refl _ | apply Drawn0.step)⟩
          ·rw [if_neg c34] at H
           have c34b0 : decide (126 < (bt a0 x11_1)) = false := decide_eq_false c34
           clear c34
           have c35b0 := eq_true (of_decide_eq_true (by first | (with_reducible assumption) | assumption) : 0 ≤ x11_1)
           by_cases c36 : x11_1 ≤ (wrap64 (x11_1 + 1))
           ·rw [if_pos c36] at H
            have c36b0 := eq_true c36
            have c36b1 : decide (x11_1 ≤ (wrap64 (x11_1 + 1))) = true := decide_eq_true c36
            by_cases c37 : (wrap64 (x11_1 + 1)) ≤ (a0.size : Int)
            ·rw [if_pos c37] at H
             have c37b0 := eq_true c37
             have c37b1 : decide ((wrap64 (x11_1 + 1)) ≤ (a0.size : Int)) = true := decide_eq_true c37
             by_cases c38 : x10_1.size + (a0.extract (x11_1 : Int).toNat ((wrap64 (x11_1 + 1)) : Int).toNat).size ≤ 9223372036854775807
             ·rw [if_pos c38] at H
              have c38b0 := eq_true c38
              have c38b1 : decide (x10_1.size + (a0.extract (x11_1 : Int).toNat ((wrap64 (x11_1 + 1)) : Int).toNat).size ≤ 9223372036854775807) = true := decide_eq_true c38
              try have c38b2 : (9223372036854775807 < x10_1.size + (a0.extract (x11_1 : Int).toNat ((wrap64 (x11_1 + 1)) : Int).toNat).size) = False := eq_false (Nat.not_lt.2 c38)
              try have c38y : (9223372036854775807 < x10_1.size + (((wrap64 (x11_1 + 1)) : Int).toNat - (x11_1 : Int).toNat)) = False := eq_false (by have h_ := c38; (try simp only [ByteArray.size_append, ByteArray.size_extract] at h_); (have j0_ : ((wrap64 (x11_1 + 1)) : Int) ≤ (a0.size : Int) := of_decide_eq_true (by first | (with_reducible assumption) | assumption)); omega)
              have H' := Aside0.mk H
              clear H
              have p9 : 0 ≤ (x11_1 : Int) := of_decide_eq_true (by first | (with_reducible assumption) | assumption)
              have q9 : x11_1 < (a0.size : Int) := of_decide_eq_true (by first | (with_reducible assumption) | assumption)
              have hx9 := bt_at a0 x11_1
              replace p9 := eq_true p9
              replace q9 := eq_true q9
              go_wp2
              go_roundg k1
              case measure => have := HK1.out; omega
              case rel => exact ⟨(x10_1 ++ (a0.extract (x11_1 : Int).toNat ((wrap64 (x11_1 + 1)) : Int).toNat)), (wrap64 (x11_1 + 1)), (by first | rfl | (simp; done) | (simp [*]; done)), (by first | rfl | (simp; done) | (simp [*]; done)), (by first | exact H' | exact hji14 ▸ H' | (rw [← hji14] at H' ⊢; exact H') | (have h_ := H'; simp only [← hji14] at h_ ⊢; exact h_)), ⟨by have := HK1.out; omega⟩, by repeat (first | exact Drawn0.refl _ | apply Drawn0.step)⟩
             ·rw [if_neg c38] at H
              exact absurd H (by simp)
            ·rw [if_neg c37] at H
             exact absurd H (by simp)
           ·rw [if_neg c36] at H
            exact absurd H (by simp)
      ·rw [if_neg c8] at H
       exact absurd H (by simp)
     ·rw [if_neg c7] at H
      have c7b0 : decide (x11_1 < (a0.size : Int)) = false := decide_eq_false c7
      clear c7
      simp only [Option.some.injEq, Prod.mk.injEq] at H
      obtain ⟨rfl, rfl, rfl⟩ := H
      go_wp2
      go_ret3
      exact ⟨by first | rfl | (simp; done) | (simp [*]; done), by repeat (first | exact Drawn0.refl _ | apply Drawn0.step)⟩
  ·rw [if_neg c5] at H
   exact absurd H (by simp)
 ·rw [if_neg c4] at H
  exact absurd H (by simp)

end Go.Proofs.Ytgbielhbjgipoaa.Q
