-- Walks of Go functions; written by own_print.py of this repo (see NOTES.md).
import Derived.Test.YtlabfjaddgakkaaGreatBTreeFeatsm0
import Derived.Test.YtlabfjaddgakkaaGreatRows
import Derived.WalkKit
import Derived.ProofKit
import Derived.OpenShut
import Derived.ShutString
import Derived.ChangeOld
import Derived.Below
import Derived.SizedLaws
import Derived.Deep.QuietTactic
import Derived.Orders
import Derived.Test.YtlabfjaddgakkaaGreatV
import Derived.Maps.AppendAt
import Derived.Laws.OwnMore
import Derived.BigQuiet
import Derived.BigRegion
section
namespace Go.Proofs.YtlabfjaddgakkaaGreat.Q
open Go.RowKit Go.Proofs.YtlabfjaddgakkaaGreatW.PrintWords Go.Proofs.YtlabfjaddgakkaaGreatW.PrintLast Go.Proofs.YtlabfjaddgakkaaGreatW.PrintMore
attribute [local go_sem] Go.Proofs.YtlabfjaddgakkaaGreatW.OwnWords.isSome_setCell max2_int min2_int max_two min_two max_three min_three max_four min_four
set_option linter.unusedVariables false
set_option linter.unusedSimpArgs false

/-! ### manystrandref01_inner: function 147 -/
def manystrandref01_inner.f (a0 : Int) : Option (Bool) := (manystrandref01_small.f a0).bind fun t278 => (if t278 = true then (some true) else ((manystrandref01_great.f a0).bind fun t279 => (if t279 = true then (some true) else ((manystrandref01_digit.f a0).bind fun t280 => (if t280 = true then (some true) else (some (a0 == 95)))))))
set_option maxHeartbeats 8000000 in
set_option maxRecDepth 100000 in
theorem manystrandref01_inner.calls (a0 : Int) (r : Bool) (w : World) (h : manystrandref01_inner.f a0 = some r) :
  Calls Tryz.prog 147 #[.int .u8 a0] w fun e w' => e = .returned (.bool r) ∧ Drawn0 w w' := by
 have H : ((manystrandref01_small.f a0).bind fun t278 => (if t278 = true then (some true) else ((manystrandref01_great.f a0).bind fun t279 => (if t279 = true then (some true) else ((manystrandref01_digit.f a0).bind fun t280 => (if t280 = true then (some true) else (some (a0 == 95)))))))) = some r := h
 clear h
 replace H := Option.bind_eq_some_iff.mp H
 obtain ⟨t278, A20, H⟩ := H
 replace H : (if t278 = true then (some true) else ((manystrandref01_great.f a0).bind fun t279 => (if t279 = true then (some true) else ((manystrandref01_digit.f a0).bind fun t280 => (if t280 = true then (some true) else (some (a0 == 95))))))) = some r := H
 have A2 := Aside0.mk A20
 clear A20
 by_cases c3 : t278 = true
 ·subst c3
  have H1 : (some true) = some r := by rw [if_pos rfl] at H; exact H
  clear H
  have H := H1
  clear H1
  obtain rfl := Option.some.inj H
  go_enter Tryz.func147, Tryz.ntmps147
  go_wp2_with (first | ((with_reducible refine gate_callee (f := 115) rfl ?_); refine goesL_ (some 4) rfl rfl Tryz.func115 (by kernel_rfl) rfl #[.int .u8 a0] rfl (by (try simp only [List.map_toArray, List.map_cons, List.map_nil]); first | done | rfl | (simp only [List.length_drop, List.length_take]; rfl)) ?_; (with_reducible refine (manystrandref01_small.calls a0 true _ A2.out).mono ?_); rintro e w' ⟨rfl, ⟨nd, rfl⟩⟩; refine ⟨_, rfl, ?_⟩))
  go_ret
  exact ⟨by first | rfl | (simp; done) | (simp [*]; done), by repeat (first | exact Drawn0.refl _ | apply Drawn0.step)⟩
 ·replace c3 := Bool.eq_false_iff.mpr c3
  subst c3
  have H1 : ((manystrandref01_great.f a0).bind fun t279 => (if t279 = true then (some true) else ((manystrandref01_digit.f a0).bind fun t280 => (if t280 = true then (some true) else (some (a0 == 95)))))) = some r := by rw [if_neg (show ¬ (false = true) by decide)] at H; exact H
  clear H
  have H := H1
  clear H1
  replace H := Option.bind_eq_some_iff.mp H
  obtain ⟨t279, A40, H⟩ := H
  replace H : (if t279 = true then (some true) else ((manystrandref01_digit.f a0).bind fun t280 => (if t280 = true then (some true) else (some (a0 == 95))))) = some r := H
  have A4 := Aside0.mk A40
  clear A40
  by_cases c5 : t279 = true
  ·subst c5
   have H1 : (some true) = some r := by rw [if_pos rfl] at H; exact H
   clear H
   have H := H1
   clear H1
   obtain rfl := Option.some.inj H
   go_enter Tryz.func147, Tryz.ntmps147
   go_wp2_with (first | ((with_reducible refine gate_callee (f := 115) rfl ?_); refine goesL_ (some 4) rfl rfl Tryz.func115 (by kernel_rfl) rfl #[.int .u8 a0] rfl (by (try simp only [List.map_toArray, List.map_cons, List.map_nil]); first | done | rfl | (simp only [List.length_drop, List.length_take]; rfl)) ?_; (with_reducible refine (manystrandref01_small.calls a0 false _ A2.out).mono ?_); rintro e w' ⟨rfl, ⟨nd, rfl⟩⟩; refine ⟨_, rfl, ?_⟩) | (go_at_call 114; (with_reducible refine (manystrandref01_great.calls a0 true _ A4.out).mono ?_); rintro e w' ⟨rfl, ⟨nd, rfl⟩⟩))
   go_ret
   exact ⟨by first | rfl | (simp; done) | (simp [*]; done), by repeat (first | exact Drawn0.refl _ | apply Drawn0.step)⟩
  ·replace c5 := Bool.eq_false_iff.mpr c5
   subst c5
   have H1 : ((manystrandref01_digit.f a0).bind fun t280 => (if t280 = true then (some true) else (some (a0 == 95)))) = some r := by rw [if_neg (show ¬ (false = true) by decide)] at H; exact H
   clear H
   have H := H1
   clear H1
   replace H := Option.bind_eq_some_iff.mp H
   obtain ⟨t280, A60, H⟩ := H
   replace H : (if t280 = true then (some true) else (some (a0 == 95))) = some r := H
   have A6 := Aside0.mk A60
   clear A60
   by_cases c7 : t280 = true
   ·subst c7
    have H1 : (some true) = some r := by rw [if_pos rfl] at H; exact H
    clear H
    have H := H1
    clear H1
    obtain rfl := Option.some.inj H
    go_enter Tryz.func147, Tryz.ntmps147
    go_wp2_with (first | ((with_reducible refine gate_callee (f := 115) rfl ?_); refine goesL_ (some 4) rfl rfl Tryz.func115 (by kernel_rfl) rfl #[.int .u8 a0] rfl (by (try simp only [List.map_toArray, List.map_cons, List.map_nil]); first | done | rfl | (simp only [List.length_drop, List.length_take]; rfl)) ?_; (with_reducible refine (manystrandref01_small.calls a0 false _ A2.out).mono ?_); rintro e w' ⟨rfl, ⟨nd, rfl⟩⟩; refine ⟨_, rfl, ?_⟩) | (go_at_call 114; (with_reducible refine (manystrandref01_great.calls a0 false _ A4.out).mono ?_); rintro e w' ⟨rfl, ⟨nd, rfl⟩⟩) | (go_at_call 118; (with_reducible refine (manystrandref01_digit.calls a0 true _ A6.out).mono ?_); rintro e w' ⟨rfl, ⟨nd, rfl⟩⟩))
    go_ret
    exact ⟨by first | rfl | (simp; done) | (simp [*]; done), by repeat (first | exact Drawn0.refl _ | apply Drawn0.step)⟩
   ·replace c7 := Bool.eq_false_iff.mpr c7
    subst c7
    have H1 : (some (a0 == 95)) = some r := by rw [if_neg (show ¬ (false = true) by decide)] at H; exact H
    clear H
    have H := H1
    clear H1
    obtain rfl := Option.some.inj H
    go_enter Tryz.func147, Tryz.ntmps147
    go_wp2_with (first | ((with_reducible refine gate_callee (f := 115) rfl ?_); refine goesL_ (some 4) rfl rfl Tryz.func115 (by kernel_rfl) rfl #[.int .u8 a0] rfl (by (try simp only [List.map_toArray, List.map_cons, List.map_nil]); first | done | rfl | (simp only [List.length_drop, List.length_take]; rfl)) ?_; (with_reducible refine (manystrandref01_small.calls a0 false _ A2.out).mono ?_); rintro e w' ⟨rfl, ⟨nd, rfl⟩⟩; refine ⟨_, rfl, ?_⟩) | (go_at_call 114; (with_reducible refine (manystrandref01_great.calls a0 false _ A4.out).mono ?_); rintro e w' ⟨rfl, ⟨nd, rfl⟩⟩) | (go_at_call 118; (with_reducible refine (manystrandref01_digit.calls a0 false _ A6.out).mono ?_); rintro e w' ⟨rfl, ⟨nd, rfl⟩⟩))
    go_ret
    exact ⟨by first | rfl | (simp; done) | (simp [*]; done), by repeat (first | exact Drawn0.refl _ | apply Drawn0.step)⟩

end Go.Proofs.YtlabfjaddgakkaaGreat.Q
end
section
namespace Go.Proofs.YtlabfjaddgakkaaGreat.Q
open Go.RowKit Go.Proofs.YtlabfjaddgakkaaGreatW.PrintWords Go.Proofs.YtlabfjaddgakkaaGreatW.PrintLast Go.Proofs.YtlabfjaddgakkaaGreatW.PrintMore
attribute [local go_sem] Go.Proofs.YtlabfjaddgakkaaGreatW.OwnWords.isSome_setCell max2_int min2_int max_two min_two max_three min_three max_four min_four
set_option linter.unusedVariables false
set_option linter.unusedSimpArgs false

/-! ### manystrandref01_word: function 131 -/
def manystrandref01_word.l0 : Nat → ByteArray → Int → Option (Bool)
 | 0, _, _ => none
 | k + 1, x0, x3 => if x3 < (x0.size : Int) then (if 0 ≤ x3 then ((manystrandref01_inner.f (bt x0 x3)).bind fun t281 => (if t281 = true then (manystrandref01_word.l0 k x0 (wrap64 (x3 + 1))) else (some false))) else (none)) else (if x0.toList = ([] : List UInt8) then (some false) else (some (decide ((x0.size : Int) ≤ 60))))
def manystrandref01_word.f (k : Nat) (a0 : ByteArray) : Option (Bool) := manystrandref01_word.l0 k a0 0
theorem manystrandref01_word.mono_l : ∀ k, (∀ y0 y1, LeO (manystrandref01_word.l0 k y0 y1) (manystrandref01_word.l0 (k + 1) y0 y1))
 | 0 => fun _ _ r h => by simp [manystrandref01_word.l0] at h
 | k + 1 => by
  have ih0 := manystrandref01_word.mono_l k
  ·intro y0 y1
   unfold manystrandref01_word.l0
   repeat' first
   | (with_reducible exact ih0 _ _)
   | (with_reducible exact LeO.refl _)
   | (with_reducible exact LeO.none _)
   | (with_reducible refine LeO.ite ?_ ?_)
   | (with_reducible refine LeO.bind ?_ (fun _ => ?_))
   | exact ih0 _ _
   | exact LeO.none _
   | refine LeO.ite ?_ ?_
   | refine LeO.bind ?_ (fun _ => ?_)
theorem manystrandref01_word.mono : ∀ a0 k, LeO (manystrandref01_word.f k a0) (manystrandref01_word.f (k + 1) a0) := by
 intro a0 k
 have ih0 := manystrandref01_word.mono_l k
 unfold manystrandref01_word.f
 repeat' first
   | (with_reducible exact ih0 _ _)
   | (with_reducible exact LeO.refl _)
   | (with_reducible exact LeO.none _)
   | (with_reducible refine LeO.ite ?_ ?_)
   | (with_reducible refine LeO.bind ?_ (fun _ => ?_))
   | exact ih0 _ _
   | exact LeO.none _
   | refine LeO.ite ?_ ?_
   | refine LeO.bind ?_ (fun _ => ?_)
set_option maxHeartbeats 8000000 in
set_option maxRecDepth 100000 in
theorem manystrandref01_word.calls (k : Nat) (a0 : ByteArray) (r : Bool) (w : World) (h : manystrandref01_word.f k a0 = some r) :
  Calls Tryz.prog 131 #[.string a0] w fun e w' => e = .returned (.bool r) ∧ Drawn0 w w' := by
 have H : (manystrandref01_word.l0 k a0 0) = some r := h
 clear h
 have H' := Aside0.mk H
 clear H
 go_enter Tryz.func131, Tryz.ntmps131
 go_wp2
 go_loopg [3] k (fun kq v3 w' => ∃ (x3_1 : Int), v3 = .int .i64 x3_1 ∧ Aside0 (manystrandref01_word.l0 kq a0 x3_1 = some r) ∧ Aside0 (kq ≤ k) ∧ Drawn0 w w')
 case atStart => exact ⟨(0), (by first | rfl | (simp; done) | (simp [*]; done)), H', ⟨Nat.le_refl _⟩, by repeat (first | exact Drawn0.refl _ | apply Drawn0.step)⟩
 case round =>
  clear H'
  try clear c1
  obtain ⟨x3_1, rfl, HA, HK1, ⟨m1, rfl⟩⟩ := hrel
  cases gk with
  | zero => exact absurd HA.out (by simp [manystrandref01_word.l0])
  | succ k1 =>
   have H := HA.out
   clear HA
   simp only [manystrandref01_word.l0] at H
   by_cases c2 : x3_1 < (a0.size : Int)
   ·rw [if_pos c2] at H
    have c2b0 : decide (x3_1 < (a0.size : Int)) = true := decide_eq_true c2
    clear c2
    by_cases c3 : 0 ≤ x3_1
    ·rw [if_pos c3] at H
     have c3b0 : decide (0 ≤ x3_1) = true := decide_eq_true c3
     clear c3
     replace H := Option.bind_eq_some_iff.mp H
     obtain ⟨t281, A50, H⟩ := H
     replace H : (if t281 = true then (manystrandref01_word.l0 k1 a0 (wrap64 (x3_1 + 1))) else (some false)) = some r := H
     have A5 := Aside0.mk A50
     clear A50
     by_cases c6 : t281 = true
     ·subst c6
      have H1 : (manystrandref01_word.l0 k1 a0 (wrap64 (x3_1 + 1))) = some r := by rw [if_pos rfl] at H; exact H
      clear H
      have H := H1
      clear H1
      have H' := Aside0.mk H
      clear H
      have p4 : 0 ≤ (x3_1 : Int) := of_decide_eq_true (by first | (with_reducible assumption) | assumption)
      have q4 : x3_1 < (a0.size : Int) := of_decide_eq_true (by first | (with_reducible assumption) | assumption)
      have hx4 := bt_at a0 x3_1
      replace p4 := eq_true p4
      replace q4 := eq_true q4
      go_wp2_with (first | ((with_reducible refine gate_callee (f := 147) rfl ?_); refine goesL_ (some 13) rfl rfl Tryz.func147 (by kernel_rfl) rfl #[.int .u8 (bt a0 x3_1)] rfl (by (try simp only [List.map_toArray, List.map_cons, List.map_nil]); first | done | rfl | (simp only [List.length_drop, List.length_take]; rfl)) ?_; (with_reducible refine (manystrandref01_inner.calls (bt a0 x3_1) true _ A5.out).mono ?_); rintro e w' ⟨rfl, ⟨nd, rfl⟩⟩; refine ⟨_, rfl, ?_⟩))
      go_roundg k1
      case measure => have := HK1.out; omega
      case rel => exact ⟨(wrap64 (x3_1 + 1)), (by first | rfl | (simp; done) | (simp [*]; done)), H', ⟨by have := HK1.out; omega⟩, by repeat (first | exact Drawn0.refl _ | apply Drawn0.step)⟩
     ·replace c6 := Bool.eq_false_iff.mpr c6
      subst c6
      have H1 : (some false) = some r := by rw [if_neg (show ¬ (false = true) by decide)] at H; exact H
      clear H
      have H := H1
      clear H1
      obtain rfl := Option.some.inj H
      have p4 : 0 ≤ (x3_1 : Int) := of_decide_eq_true (by first | (with_reducible assumption) | assumption)
      have q4 : x3_1 < (a0.size : Int) := of_decide_eq_true (by first | (with_reducible assumption) | assumption)
      have hx4 := bt_at a0 x3_1
      replace p4 := eq_true p4
      replace q4 := eq_true q4
      go_wp2_with (first | ((with_reducible refine gate_callee (f := 147) rfl ?_); refine goesL_ (some 13) rfl rfl Tryz.func147 (by kernel_rfl) rfl #[.int .u8 (bt a0 x3_1)] rfl (by (try simp only [List.map_toArray, List.map_cons, List.map_nil]); first | done | rfl | (simp only [List.length_drop, List.length_take]; rfl)) ?_; (with_reducible refine (manystrandref01_inner.calls (bt a0 x3_1) false _ A5.out).mono ?_); rintro e w' ⟨rfl, ⟨nd, rfl⟩⟩; refine ⟨_, rfl, ?_⟩))
      go_ret
      exact ⟨by first | rfl | (simp; done) | (simp [*]; done), by repeat (first | exact Drawn0.refl _ | apply Drawn0.step)⟩
    ·rw [if_neg c3] at H
     exact absurd H (by simp)
   ·rw [if_neg c2] at H
    have c2b0 : decide (x3_1 < (a0.size : Int)) = false := decide_eq_false c2
    clear c2
    by_cases c7 : a0.toList = ([] : List UInt8)
    ·rw [if_pos c7] at H
     have c7b0 : (a0.toList == ([] : List UInt8)) = true := beq_iff_eq.mpr c7
     have c7b1 : (a0.toList != ([] : List UInt8)) = false := bne_eq_false_iff_eq.mpr c7
     clear c7
     obtain rfl := Option.some.inj H
     go_wp2
     go_ret
     exact ⟨by first | rfl | (simp; done) | (simp [*]; done), by repeat (first | exact Drawn0.refl _ | apply Drawn0.step)⟩
    ·rw [if_neg c7] at H
     have c7b0 : (a0.toList == ([] : List UInt8)) = false := beq_eq_false_iff_ne.mpr c7
     have c7b1 : (a0.toList != ([] : List UInt8)) = true := bne_iff_ne.mpr c7
     obtain rfl := Option.some.inj H
     go_wp2
     go_ret
     exact ⟨by first | rfl | (simp; done) | (simp [*]; done), by repeat (first | exact Drawn0.refl _ | apply Drawn0.step)⟩

end Go.Proofs.YtlabfjaddgakkaaGreat.Q
end
section
namespace Go.Proofs.YtlabfjaddgakkaaGreat.Q
open Go.RowKit Go.Proofs.YtlabfjaddgakkaaGreatW.PrintWords Go.Proofs.YtlabfjaddgakkaaGreatW.PrintLast Go.Proofs.YtlabfjaddgakkaaGreatW.PrintMore
attribute [local go_sem] Go.Proofs.YtlabfjaddgakkaaGreatW.OwnWords.isSome_setCell max2_int min2_int max_two min_two max_three min_three max_four min_four
set_option linter.unusedVariables false
set_option linter.unusedSimpArgs false

/-! ### manystrandref01_IsVar: function 93 -/
def manystrandref01_IsVar.f (k : Nat) (a0 : ByteArray) : Option (Bool) := (manystrandref01_word.f k a0).bind fun t282 => (if t282 = true then (if 0 < (a0.size : Int) then ((manystrandref01_great.f (bt a0 0)).bind fun t283 => (some t283)) else (none)) else (some false))
theorem manystrandref01_IsVar.mono : ∀ a0 k, LeO (manystrandref01_IsVar.f k a0) (manystrandref01_IsVar.f (k + 1) a0) := by
 intro a0 k
 unfold manystrandref01_IsVar.f
 repeat' first
   | (with_reducible exact manystrandref01_word.mono _ _)
   | (with_reducible exact LeO.refl _)
   | (with_reducible exact LeO.none _)
   | (with_reducible refine LeO.ite ?_ ?_)
   | (with_reducible refine LeO.bind ?_ (fun _ => ?_))
   | exact manystrandref01_word.mono _ _
   | exact LeO.none _
   | refine LeO.ite ?_ ?_
   | refine LeO.bind ?_ (fun _ => ?_)
set_option maxHeartbeats 8000000 in
set_option maxRecDepth 100000 in
theorem manystrandref01_IsVar.calls (k : Nat) (a0 : ByteArray) (r : Bool) (w : World) (h : manystrandref01_IsVar.f k a0 = some r) :
  Calls Tryz.prog 93 #[.string a0] w fun e w' => e = .returned (.bool r) ∧ Drawn0 w w' := by
 have H : ((manystrandref01_word.f k a0).bind fun t282 => (if t282 = true then (if 0 < (a0.size : Int) then ((manystrandref01_great.f (bt a0 0)).bind fun t283 => (some t283)) else (none)) else (some false))) = some r := h
 clear h
 replace H := Option.bind_eq_some_iff.mp H
 obtain ⟨t282, A20, H⟩ := H
 replace H : (if t282 = true then (if 0 < (a0.size : Int) then ((manystrandref01_great.f (bt a0 0)).bind fun t283 => (some t283)) else (none)) else (some false)) = some r := H
 have A2 := Aside0.mk A20
 clear A20
 by_cases c3 : t282 = true
 ·subst c3
  have H1 : (if 0 < (a0.size : Int) then ((manystrandref01_great.f (bt a0 0)).bind fun t283 => (some t283)) else (none)) = some r := by rw [if_pos rfl] at H; exact H
  clear H
  have H := H1
  clear H1
  by_cases c4 : 0 < (a0.size : Int)
  ·rw [if_pos c4] at H
   have c4b0 : decide (0 < (a0.size : Int)) = true := decide_eq_true c4
   have c4b1 : decide (0 < a0.size) = true := decide_eq_true (by omega)
   clear c4
   replace H := Option.bind_eq_some_iff.mp H
   obtain ⟨t283, A60, H⟩ := H
   replace H : (some t283) = some r := H
   have A6 := Aside0.mk A60
   clear A60
   obtain rfl := Option.some.inj H
   go_enter Tryz.func93, Tryz.ntmps93
   go_wp2_with (first | ((with_reducible refine gate_callee (f := 131) rfl ?_); refine goesL_ (some 4) rfl rfl Tryz.func131 (by kernel_rfl) rfl #[.string a0] rfl (by (try simp only [List.map_toArray, List.map_cons, List.map_nil]); first | done | rfl | (simp only [List.length_drop, List.length_take]; rfl)) ?_; (with_reducible refine (manystrandref01_word.calls k a0 true _ A2.out).mono ?_); rintro e w' ⟨rfl, ⟨nd, rfl⟩⟩; refine ⟨_, rfl, ?_⟩; have p5 : 0 ≤ (0 : Int) := (by omega); have q5 : 0 < a0.size := (by have : (0 : Int) < (a0.size : Int) := of_decide_eq_true (by first | (with_reducible assumption) | assumption); omega); have hx5 : ∀ h : 0 < a0.size, ((a0[0]'h).toNat : Int) = bt a0 0 := bt_at a0 0; clear p5; have qi5 : (0 < (a0.size : Int)) = True := eq_true (of_decide_eq_true (by first | (with_reducible assumption) | assumption)); replace q5 := eq_true q5) | (go_at_call 114; (with_reducible refine (manystrandref01_great.calls (bt a0 0) t283 _ A6.out).mono ?_); rintro e w' ⟨rfl, ⟨nd, rfl⟩⟩))
   go_ret
   exact ⟨by first | rfl | (simp; done) | (simp [*]; done), by repeat (first | exact Drawn0.refl _ | apply Drawn0.step)⟩
  ·rw [if_neg c4] at H
   exact absurd H (by simp)
 ·replace c3 := Bool.eq_false_iff.mpr c3
  subst c3
  have H1 : (some false) = some r := by rw [if_neg (show ¬ (false = true) by decide)] at H; exact H
  clear H
  have H := H1
  clear H1
  obtain rfl := Option.some.inj H
  go_enter Tryz.func93, Tryz.ntmps93
  go_wp2_with (first | ((with_reducible refine gate_callee (f := 131) rfl ?_); refine goesL_ (some 4) rfl rfl Tryz.func131 (by kernel_rfl) rfl #[.string a0] rfl (by (try simp only [List.map_toArray, List.map_cons, List.map_nil]); first | done | rfl | (simp only [List.length_drop, List.length_take]; rfl)) ?_; (with_reducible refine (manystrandref01_word.calls k a0 false _ A2.out).mono ?_); rintro e w' ⟨rfl, ⟨nd, rfl⟩⟩; refine ⟨_, rfl, ?_⟩))
  go_ret
  exact ⟨by first | rfl | (simp; done) | (simp [*]; done), by repeat (first | exact Drawn0.refl _ | apply Drawn0.step)⟩

end Go.Proofs.YtlabfjaddgakkaaGreat.Q
end
section
namespace Go.Proofs.YtlabfjaddgakkaaGreat.Q
open Go.RowKit Go.Proofs.YtlabfjaddgakkaaGreatW.PrintWords Go.Proofs.YtlabfjaddgakkaaGreatW.PrintLast Go.Proofs.YtlabfjaddgakkaaGreatW.PrintMore
attribute [local go_sem] Go.Proofs.YtlabfjaddgakkaaGreatW.OwnWords.isSome_setCell max2_int min2_int max_two min_two max_three min_three max_four min_four
set_option linter.unusedVariables false
set_option linter.unusedSimpArgs false

/-! ### manystrandref01_IsNumber: function 119 -/
def manystrandref01_IsNumber.l0 : Nat → ByteArray → Int → Option (Bool)
 | 0, _, _ => none
 | k + 1, x0, x3 => if x3 < (x0.size : Int) then (if 0 ≤ x3 then ((manystrandref01_digit.f (bt x0 x3)).bind fun t284 => (if t284 = true then (manystrandref01_IsNumber.l0 k x0 (wrap64 (x3 + 1))) else (some false))) else (none)) else (if x0.toList = ([] : List UInt8) then (some false) else (if (x0.size : Int) ≤ 18 then (if 0 < (x0.size : Int) then (if (bt x0 0) = 48 then (some ((x0.size : Int) == 1)) else (some true)) else (none)) else (some false)))
def manystrandref01_IsNumber.f (k : Nat) (a0 : ByteArray) : Option (Bool) := manystrandref01_IsNumber.l0 k a0 0
theorem manystrandref01_IsNumber.mono_l : ∀ k, (∀ y0 y1, LeO (manystrandref01_IsNumber.l0 k y0 y1) (manystrandref01_IsNumber.l0 (k + 1) y0 y1))
 | 0 => fun _ _ r h => by simp [manystrandref01_IsNumber.l0] at h
 | k + 1 => by
  have ih0 := manystrandref01_IsNumber.mono_l k
  ·intro y0 y1
   unfold manystrandref01_IsNumber.l0
   repeat' first
   | (with_reducible exact ih0 _ _)
   | (with_reducible exact LeO.refl _)
   | (with_reducible exact LeO.none _)
   | (with_reducible refine LeO.ite ?_ ?_)
   | (with_reducible refine LeO.bind ?_ (fun _ => ?_))
   | exact ih0 _ _
   | exact LeO.none _
   | refine LeO.ite ?_ ?_
   | refine LeO.bind ?_ (fun _ => ?_)
theorem manystrandref01_IsNumber.mono : ∀ a0 k, LeO (manystrandref01_IsNumber.f k a0) (manystrandref01_IsNumber.f (k + 1) a0) := by
 intro a0 k
 have ih0 := manystrandref01_IsNumber.mono_l k
 unfold manystrandref01_IsNumber.f
 repeat' first
   | (with_reducible exact ih0 _ _)
   | (with_reducible exact LeO.refl _)
   | (with_reducible exact LeO.none _)
   | (with_reducible refine LeO.ite ?_ ?_)
   | (with_reducible refine LeO.bind ?_ (fun _ => ?_))
   | exact ih0 _ _
   | exact LeO.none _
   | refine LeO.ite ?_ ?_
   | refine LeO.bind ?_ (fun _ => ?_)
set_option maxHeartbeats 8000000 in
set_option maxRecDepth 100000 in
theorem manystrandref01_IsNumber.calls (k : Nat) (a0 : ByteArray) (r : Bool) (w : World) (h : manystrandref01_IsNumber.f k a0 = some r) :
  Calls Tryz.prog 119 #[.string a0] w fun e w' => e = .returned (.bool r) ∧ Drawn0 w w' := by
 have H : (manystrandref01_IsNumber.l0 k a0 0) = some r := h
 clear h
 have H' := Aside0.mk H
 clear H
 go_enter Tryz.func119, Tryz.ntmps119
 go_wp2
 go_loopg [3] k (fun kq v3 w' => ∃ (x3_1 : Int), v3 = .int .i64 x3_1 ∧ Aside0 (manystrandref01_IsNumber.l0 kq a0 x3_1 = some r) ∧ Aside0 (kq ≤ k) ∧ Drawn0 w w')
 case atStart => exact ⟨(0), (by first | rfl | (simp; done) | (simp [*]; done)), H', ⟨Nat.le_refl _⟩, by repeat (first | exact Drawn0.refl _ | apply Drawn0.step)⟩
 case round =>
  clear H'
  try clear c1
  obtain ⟨x3_1, rfl, HA, HK1, ⟨m1, rfl⟩⟩ := hrel
  cases gk with
  | zero => exact absurd HA.out (by simp [manystrandref01_IsNumber.l0])
  | succ k1 =>
   have H := HA.out
   clear HA
   simp only [manystrandref01_IsNumber.l0] at H
   by_cases c2 : x3_1 < (a0.size : Int)
   ·rw [if_pos c2] at H
    have c2b0 : decide (x3_1 < (a0.size : Int)) = true := decide_eq_true c2
    clear c2
    by_cases c3 : 0 ≤ x3_1
    ·rw [if_pos c3] at H
     have c3b0 : decide (0 ≤ x3_1) = true := decide_eq_true c3
     clear c3
     replace H := Option.bind_eq_some_iff.mp H
     obtain ⟨t284, A50, H⟩ := H
     replace H : (if t284 = true then (manystrandref01_IsNumber.l0 k1 a0 (wrap64 (x3_1 + 1))) else (some false)) = some r := H
     have A5 := Aside0.mk A50
     clear A50
     by_cases c6 : t284 = true
     ·subst c6
      have H1 : (manystrandref01_IsNumber.l0 k1 a0 (wrap64 (x3_1 + 1))) = some r := by rw [if_pos rfl] at H; exact H
      clear H
      have H := H1
      clear H1
      have H' := Aside0.mk H
      clear H
      have p4 : 0 ≤ (x3_1 : Int) := of_decide_eq_true (by first | (with_reducible assumption) | assumption)
      have q4 : x3_1 < (a0.size : Int) := of_decide_eq_true (by first | (with_reducible assumption) | assumption)
      have hx4 := bt_at a0 x3_1
      replace p4 := eq_true p4
      replace q4 := eq_true q4
      go_wp2_with (first | ((with_reducible refine gate_callee (f := 118) rfl ?_); refine goesL_ (some 13) rfl rfl Tryz.func118 (by kernel_rfl) rfl #[.int .u8 (bt a0 x3_1)] rfl (by (try simp only [List.map_toArray, List.map_cons, List.map_nil]); first | done | rfl | (simp only [List.length_drop, List.length_take]; rfl)) ?_; (with_reducible refine (manystrandref01_digit.calls (bt a0 x3_1) true _ A5.out).mono ?_); rintro e w' ⟨rfl, ⟨nd, rfl⟩⟩; refine ⟨_, rfl, ?_⟩))
      go_roundg k1
      case measure => have := HK1.out; omega
      case rel => exact ⟨(wrap64 (x3_1 + 1)), (by first | rfl | (simp; done) | (simp [*]; done)), H', ⟨by have := HK1.out; omega⟩, by repeat (first | exact Drawn0.refl _ | apply Drawn0.step)⟩
     ·replace c6 := Bool.eq_false_iff.mpr c6
      subst c6
      have H1 : (some false) = some r := by rw [if_neg (show ¬ (false = true) by decide)] at H; exact H
      clear H
      have H := H1
      clear H1
      obtain rfl := Option.some.inj H
      have p4 : 0 ≤ (x3_1 : Int) := of_decide_eq_true (by first | (with_reducible assumption) | assumption)
      have q4 : x3_1 < (a0.size : Int) := of_decide_eq_true (by first | (with_reducible assumption) | assumption)
      have hx4 := bt_at a0 x3_1
      replace p4 := eq_true p4
      replace q4 := eq_true q4
      go_wp2_with (first | ((with_reducible refine gate_callee (f := 118) rfl ?_); refine goesL_ (some 13) rfl rfl Tryz.func118 (by kernel_rfl) rfl #[.int .u8 (bt a0 x3_1)] rfl (by (try simp only [List.map_toArray, List.map_cons, List.map_nil]); first | done | rfl | (simp only [List.length_drop, List.length_take]; rfl)) ?_; (with_reducible refine (manystrandref01_digit.calls (bt a0 x3_1) false _ A5.out).mono ?_); rintro e w' ⟨rfl, ⟨nd, rfl⟩⟩; refine ⟨_, rfl, ?_⟩))
      go_ret
      exact ⟨by first | rfl | (simp; done) | (simp [*]; done), by repeat (first | exact Drawn0.refl _ | apply Drawn0.step)⟩
    ·rw [if_neg c3] at H
     exact absurd H (by simp)
   ·rw [if_neg c2] at H
    have c2b0 : decide (x3_1 < (a0.size : Int)) = false := decide_eq_false c2
    clear c2
    by_cases c7 : a0.toList = ([] : List UInt8)
    ·rw [if_pos c7] at H
     have c7b0 : (a0.toList == ([] : List UInt8)) = true := beq_iff_eq.mpr c7
     have c7b1 : (a0.toList != ([] : List UInt8)) = false := bne_eq_false_iff_eq.mpr c7
     clear c7
     obtain rfl := Option.some.inj H
     go_wp2
     go_ret
     exact ⟨by first | rfl | (simp; done) | (simp [*]; done), by repeat (first | exact Drawn0.refl _ | apply Drawn0.step)⟩
    ·rw [if_neg c7] at H
     have c7b0 : (a0.toList == ([] : List UInt8)) = false := beq_eq_false_iff_ne.mpr c7
     have c7b1 : (a0.toList != ([] : List UInt8)) = true := bne_iff_ne.mpr c7
     by_cases c8 : (a0.size : Int) ≤ 18
     ·rw [if_pos c8] at H
      have c8b0 : decide ((a0.size : Int) ≤ 18) = true := decide_eq_true c8
      have c8b1 : decide (a0.size ≤ 18) = true := decide_eq_true (by omega)
      clear c8
      by_cases c9 : 0 < (a0.size : Int)
      ·rw [if_pos c9] at H
       have c9b0 : decide (0 < (a0.size : Int)) = true := decide_eq_true c9
       have c9b1 : decide (0 < a0.size) = true := decide_eq_true (by omega)
       clear c9
       by_cases c11 : (bt a0 0) = 48
       ·rw [if_pos c11] at H
        have c11b0 : ((bt a0 0) == 48) = true := beq_iff_eq.mpr c11
        have c11b1 : ((bt a0 0) != 48) = false := bne_eq_false_iff_eq.mpr c11
        clear c11
        obtain rfl := Option.some.inj H
        have p10 : 0 ≤ (0 : Int) := (by omega)
        have q10 : 0 < a0.size := (by have : (0 : Int) < (a0.size : Int) := of_decide_eq_true (by first | (with_reducible assumption) | assumption); omega)
        have hx10 : ∀ h : 0 < a0.size, ((a0[0]'h).toNat : Int) = bt a0 0 := bt_at a0 0
        clear p10
        have qi10 : (0 < (a0.size : Int)) = True := eq_true (of_decide_eq_true (by first | (with_reducible assumption) | assumption))
        replace q10 := eq_true q10
        go_wp2
        go_ret
        exact ⟨by first | rfl | (simp; done) | (simp [*]; done), by repeat (first | exact Drawn0.refl _ | apply Drawn0.step)⟩
       ·rw [if_neg c11] at H
        have c11b0 : ((bt a0 0) == 48) = false := beq_eq_false_iff_ne.mpr c11
        have c11b1 : ((bt a0 0) != 48) = true := bne_iff_ne.mpr c11
        obtain rfl := Option.some.inj H
        have p10 : 0 ≤ (0 : Int) := (by omega)
        have q10 : 0 < a0.size := (by have : (0 : Int) < (a0.size : Int) := of_decide_eq_true (by first | (with_reducible assumption) | assumption); omega)
        have hx10 : ∀ h : 0 < a0.size, ((a0[0]'h).toNat : Int) = bt a0 0 := bt_at a0 0
        clear p10
        have qi10 : (0 < (a0.size : Int)) = True := eq_true (of_decide_eq_true (by first | (with_reducible assumption) | assumption))
        replace q10 := eq_true q10
        go_wp2
        go_ret
        exact ⟨by first | rfl | (simp; done) | (simp [*]; done), by repeat (first | exact Drawn0.refl _ | apply Drawn0.step)⟩
      ·rw [if_neg c9] at H
       exact absurd H (by simp)
     ·rw [if_neg c8] at H
      have c8b0 : decide ((a0.size : Int) ≤ 18) = false := decide_eq_false c8
      have c8b1 : decide (a0.size ≤ 18) = false := decide_eq_false (by omega)
      clear c8
      obtain rfl := Option.some.inj H
      go_wp2
      go_ret
      exact ⟨by first | rfl | (simp; done) | (simp [*]; done), by repeat (first | exact Drawn0.refl _ | apply Drawn0.step)⟩

end Go.Proofs.YtlabfjaddgakkaaGreat.Q
end
section
namespace Go.Proofs.YtlabfjaddgakkaaGreat.Q
open Go.RowKit Go.Proofs.YtlabfjaddgakkaaGreatW.PrintWords Go.Proofs.YtlabfjaddgakkaaGreatW.PrintLast Go.Proofs.YtlabfjaddgakkaaGreatW.PrintMore
attribute [local go_sem] Go.Proofs.YtlabfjaddgakkaaGreatW.OwnWords.isSome_setCell max2_int min2_int max_two min_two max_three min_three max_four min_four
set_option linter.unusedVariables false
set_option linter.unusedSimpArgs false

/-! ### manystrandref01_IsInt: function 94 -/
def manystrandref01_IsInt.j0 : Nat → ByteArray → Bool → Option (Bool)
 | 0, _, _ => none
 | k + 1, x0, x9 => if x9 = true then (if x0.toList = ([126, 48] : List UInt8) then (some false) else (if 1 ≤ (x0.size : Int) then ((manystrandref01_IsNumber.f k (x0.extract 1 x0.size)).bind fun t285 => (some t285)) else (none))) else ((manystrandref01_IsNumber.f k x0).bind fun t286 => (some t286))
def manystrandref01_IsInt.f (k : Nat) (a0 : ByteArray) : Option (Bool) := if a0.toList = ([] : List UInt8) then (manystrandref01_IsInt.j0 k a0 false) else (if 0 < (a0.size : Int) then (manystrandref01_IsInt.j0 k a0 ((bt a0 0) == 126)) else (none))
theorem manystrandref01_IsInt.mono_l : ∀ k, (∀ y0 y1, LeO (manystrandref01_IsInt.j0 k y0 y1) (manystrandref01_IsInt.j0 (k + 1) y0 y1))
 | 0 => fun _ _ r h => by simp [manystrandref01_IsInt.j0] at h
 | k + 1 => by
  have ih0 := manystrandref01_IsInt.mono_l k
  ·intro y0 y1
   unfold manystrandref01_IsInt.j0
   repeat' first
   | (with_reducible exact ih0 _ _)
   | (with_reducible exact manystrandref01_IsNumber.mono _ _)
   | (with_reducible exact LeO.refl _)
   | (with_reducible exact LeO.none _)
   | (with_reducible refine LeO.ite ?_ ?_)
   | (with_reducible refine LeO.bind ?_ (fun _ => ?_))
   | exact ih0 _ _
   | exact manystrandref01_IsNumber.mono _ _
   | exact LeO.none _
   | refine LeO.ite ?_ ?_
   | refine LeO.bind ?_ (fun _ => ?_)
theorem manystrandref01_IsInt.mono : ∀ a0 k, LeO (manystrandref01_IsInt.f k a0) (manystrandref01_IsInt.f (k + 1) a0) := by
 intro a0 k
 have ih0 := manystrandref01_IsInt.mono_l k
 unfold manystrandref01_IsInt.f
 repeat' first
   | (with_reducible exact ih0 _ _)
   | (with_reducible exact manystrandref01_IsNumber.mono _ _)
   | (with_reducible exact LeO.refl _)
   | (with_reducible exact LeO.none _)
   | (with_reducible refine LeO.ite ?_ ?_)
   | (with_reducible refine LeO.bind ?_ (fun _ => ?_))
   | exact ih0 _ _
   | exact manystrandref01_IsNumber.mono _ _
   | exact LeO.none _
   | refine LeO.ite ?_ ?_
   | refine LeO.bind ?_ (fun _ => ?_)
set_option maxHeartbeats 8000000 in
set_option maxRecDepth 100000 in
theorem manystrandref01_IsInt.calls (k : Nat) (a0 : ByteArray) (r : Bool) (w : World) (h : manystrandref01_IsInt.f k a0 = some r) :
  Calls Tryz.prog 94 #[.string a0] w fun e w' => e = .returned (.bool r) ∧ Drawn0 w w' := by
 have H : (if a0.toList = ([] : List UInt8) then (manystrandref01_IsInt.j0 k a0 false) else (if 0 < (a0.size : Int) then (manystrandref01_IsInt.j0 k a0 ((bt a0 0) == 126)) else (none))) = some r := h
 clear h
 have HC2 := Aside0.mk H
 clear H
 go_enter Tryz.func94, Tryz.ntmps94
 go_upto_region 1 with (fail)
 go_cut [9] (fun v9 wc => ∃ (kq : Nat) (x9_1 : Bool), v9 = .bool x9_1 ∧ Aside0 (manystrandref01_IsInt.j0 kq a0 x9_1 = some r) ∧ Aside0 (kq ≤ k) ∧ Drawn0 w wc)
 case first =>
  have H := HC2.out
  clear HC2
  by_cases c3 : a0.toList = ([] : List UInt8)
  ·rw [if_pos c3] at H
   have c3b0 : (a0.toList == ([] : List UInt8)) = true := beq_iff_eq.mpr c3
   have c3b1 : (a0.toList != ([] : List UInt8)) = false := bne_eq_false_iff_eq.mpr c3
   clear c3
   (first | rw [c3b0] | (simp only [i64_w, i32_w]; rw [c3b0]) | skip)
   have H' := Aside0.mk H
   clear H
   go_wp2
   go_meet
   case rel => exact ⟨_, (false), (by first | rfl | (simp; done) | (simp [*]; done)), H', ⟨by first | omega | exact Nat.le_refl _⟩, by repeat (first | exact Drawn0.refl _ | apply Drawn0.step)⟩
  ·rw [if_neg c3] at H
   have c3b0 : (a0.toList == ([] : List UInt8)) = false := beq_eq_false_iff_ne.mpr c3
   have c3b1 : (a0.toList != ([] : List UInt8)) = true := bne_iff_ne.mpr c3
   (first | rw [c3b0] | (simp only [i64_w, i32_w]; rw [c3b0]) | skip)
   by_cases c4 : 0 < (a0.size : Int)
   ·rw [if_pos c4] at H
    have c4b0 : decide (0 < (a0.size : Int)) = true := decide_eq_true c4
    have c4b1 : decide (0 < a0.size) = true := decide_eq_true (by omega)
    clear c4
    have H' := Aside0.mk H
    clear H
    have p5 : 0 ≤ (0 : Int) := (by omega)
    have q5 : 0 < a0.size := (by have : (0 : Int) < (a0.size : Int) := of_decide_eq_true (by first | (with_reducible assumption) | assumption); omega)
    have hx5 : ∀ h : 0 < a0.size, ((a0[0]'h).toNat : Int) = bt a0 0 := bt_at a0 0
    clear p5
    have qi5 : (0 < (a0.size : Int)) = True := eq_true (of_decide_eq_true (by first | (with_reducible assumption) | assumption))
    replace q5 := eq_true q5
    go_wp2
    go_meet
    case rel => exact ⟨_, (((bt a0 0) == 126)), (by first | rfl | (simp; done) | (simp [*]; done)), H', ⟨by first | omega | exact Nat.le_refl _⟩, by repeat (first | exact Drawn0.refl _ | apply Drawn0.step)⟩
   ·rw [if_neg c4] at H
    exact absurd H (by simp)
 case rest =>
  clear HC2
  try clear p2
  try clear c3
  try clear c3b0
  try clear c3b1
  try clear c4
  try clear c4b0
  try clear c4b1
  try clear p5
  try clear q5
  try clear hx5
  try clear qi5
  try clear p5
  try clear q5
  obtain ⟨kq, x9_1, rfl, HA, HJ1, ⟨mc1, rfl⟩⟩ := hcut
  cases kq with
  | zero => exact absurd HA.out (by simp [manystrandref01_IsInt.j0])
  | succ kj1 =>
   have H := HA.out
   clear HA
   simp only [manystrandref01_IsInt.j0] at H
   by_cases c6 : x9_1 = true
   ·subst c6
    have H1 : (if a0.toList = ([126, 48] : List UInt8) then (some false) else (if 1 ≤ (a0.size : Int) then ((manystrandref01_IsNumber.f kj1 (a0.extract 1 a0.size)).bind fun t285 => (some t285)) else (none))) = some r := by rw [if_pos rfl] at H; exact H
    clear H
    have H := H1
    clear H1
    by_cases c7 : a0.toList = ([126, 48] : List UInt8)
    ·rw [if_pos c7] at H
     have c7b0 : (a0.toList == ([126, 48] : List UInt8)) = true := beq_iff_eq.mpr c7
     have c7b1 : (a0.toList != ([126, 48] : List UInt8)) = false := bne_eq_false_iff_eq.mpr c7
     clear c7
     obtain rfl := Option.some.inj H
     go_wp2
     go_ret
     exact ⟨by first | rfl | (simp; done) | (simp [*]; done), by repeat (first | exact Drawn0.refl _ | apply Drawn0.step)⟩
    ·rw [if_neg c7] at H
     have c7b0 : (a0.toList == ([126, 48] : List UInt8)) = false := beq_eq_false_iff_ne.mpr c7
     have c7b1 : (a0.toList != ([126, 48] : List UInt8)) = true := bne_iff_ne.mpr c7
     by_cases c8 : 1 ≤ (a0.size : Int)
     ·rw [if_pos c8] at H
      have c8b0 := eq_true c8
      have c8b1 : decide (1 ≤ (a0.size : Int)) = true := decide_eq_true c8
      clear c8
      replace H := Option.bind_eq_some_iff.mp H
      obtain ⟨t285, A90, H⟩ := H
      replace H : (some t285) = some r := H
      have A9 := Aside0.mk A90
      clear A90
      obtain rfl := Option.some.inj H
      go_wp2_with (first | (go_at_call 119; (with_reducible refine (manystrandref01_IsNumber.calls kj1 (a0.extract 1 a0.size) t285 _ A9.out).mono ?_); rintro e w' ⟨rfl, ⟨nd, rfl⟩⟩))
      go_ret
      exact ⟨by first | rfl | (simp; done) | (simp [*]; done), by repeat (first | exact Drawn0.refl _ | apply Drawn0.step)⟩
     ·rw [if_neg c8] at H
      exact absurd H (by simp)
   ·replace c6 := Bool.eq_false_iff.mpr c6
    subst c6
    have H1 : ((manystrandref01_IsNumber.f kj1 a0).bind fun t286 => (some t286)) = some r := by rw [if_neg (show ¬ (false = true) by decide)] at H; exact H
    clear H
    have H := H1
    clear H1
    replace H := Option.bind_eq_some_iff.mp H
    obtain ⟨t286, A100, H⟩ := H
    replace H : (some t286) = some r := H
    have A10 := Aside0.mk A100
    clear A100
    obtain rfl := Option.some.inj H
    go_wp2_with (first | ((with_reducible refine gate_callee (f := 119) rfl ?_); refine goesL_ (some 18) rfl rfl Tryz.func119 (by kernel_rfl) rfl #[.string a0] rfl (by (try simp only [List.map_toArray, List.map_cons, List.map_nil]); first | done | rfl | (simp only [List.length_drop, List.length_take]; rfl)) ?_; (with_reducible refine (manystrandref01_IsNumber.calls kj1 a0 t286 _ A10.out).mono ?_); rintro e w' ⟨rfl, ⟨nd, rfl⟩⟩; refine ⟨_, rfl, ?_⟩))
    go_ret
    exact ⟨by first | rfl | (simp; done) | (simp [*]; done), by repeat (first | exact Drawn0.refl _ | apply Drawn0.step)⟩

end Go.Proofs.YtlabfjaddgakkaaGreat.Q
end
section
namespace Go.Proofs.YtlabfjaddgakkaaGreat.Q
open Go.RowKit Go.Proofs.YtlabfjaddgakkaaGreatW.PrintWords Go.Proofs.YtlabfjaddgakkaaGreatW.PrintLast Go.Proofs.YtlabfjaddgakkaaGreatW.PrintMore
attribute [local go_sem] Go.Proofs.YtlabfjaddgakkaaGreatW.OwnWords.isSome_setCell max2_int min2_int max_two min_two max_three min_three max_four min_four
set_option linter.unusedVariables false
set_option linter.unusedSimpArgs false

/-! ### manystrandref01_inside: function 104 -/
def manystrandref01_inside.l0 : Nat → ByteArray → Int → Int → Option (Bool)
 | 0, _, _, _ => none
 | k + 1, x0, x1, x5 => if x5 < (x0.size : Int) then (if 0 ≤ x5 then (if (bt x0 x5) = 10 then (manystrandref01_inside.l0 k x0 x1 (wrap64 (x5 + 1))) else (if (bt x0 x5) < 32 then (some false) else (if (bt x0 x5) > 126 then (some false) else (manystrandref01_inside.l0 k x0 x1 (wrap64 (x5 + 1)))))) else (none)) else (some (decide ((x0.size : Int) ≤ x1)))
def manystrandref01_inside.f (k : Nat) (a0 : ByteArray) (a1 : Int) : Option (Bool) := manystrandref01_inside.l0 k a0 a1 0
theorem manystrandref01_inside.mono_l : ∀ k, (∀ y0 y1 y2, LeO (manystrandref01_inside.l0 k y0 y1 y2) (manystrandref01_inside.l0 (k + 1) y0 y1 y2))
 | 0 => fun _ _ _ r h => by simp [manystrandref01_inside.l0] at h
 | k + 1 => by
  have ih0 := manystrandref01_inside.mono_l k
  ·intro y0 y1 y2
   unfold manystrandref01_inside.l0
   repeat' first
   | (with_reducible exact ih0 _ _ _)
   | (with_reducible exact LeO.refl _)
   | (with_reducible exact LeO.none _)
   | (with_reducible refine LeO.ite ?_ ?_)
   | (with_reducible refine LeO.bind ?_ (fun _ => ?_))
   | exact ih0 _ _ _
   | exact LeO.none _
   | refine LeO.ite ?_ ?_
   | refine LeO.bind ?_ (fun _ => ?_)
theorem manystrandref01_inside.mono : ∀ a0 a1 k, LeO (manystrandref01_inside.f k a0 a1) (manystrandref01_inside.f (k + 1) a0 a1) := by
 intro a0 a1 k
 have ih0 := manystrandref01_inside.mono_l k
 unfold manystrandref01_inside.f
 repeat' first
   | (with_reducible exact ih0 _ _ _)
   | (with_reducible exact LeO.refl _)
   | (with_reducible exact LeO.none _)
   | (with_reducible refine LeO.ite ?_ ?_)
   | (with_reducible refine LeO.bind ?_ (fun _ => ?_))
   | exact ih0 _ _ _
   | exact LeO.none _
   | refine LeO.ite ?_ ?_
   | refine LeO.bind ?_ (fun _ => ?_)
set_option maxHeartbeats 8000000 in
set_option maxRecDepth 100000 in
theorem manystrandref01_inside.calls (k : Nat) (a0 : ByteArray) (a1 : Int) (r : Bool) (w : World) (h : manystrandref01_inside.f k a0 a1 = some r) :
  Calls Tryz.prog 104 #[.string a0, .int .i64 a1] w fun e w' => e = .returned (.bool r) ∧ Drawn0 w w' := by
 have H : (manystrandref01_inside.l0 k a0 a1 0) = some r := h
 clear h
 have H' := Aside0.mk H
 clear H
 go_enter Tryz.func104, Tryz.ntmps104
 go_wp2
 go_loopg [5] k (fun kq v5 w' => ∃ (x5_1 : Int), v5 = .int .i64 x5_1 ∧ Aside0 (manystrandref01_inside.l0 kq a0 a1 x5_1 = some r) ∧ Aside0 (kq ≤ k) ∧ Drawn0 w w')
 case atStart => exact ⟨(0), (by first | rfl | (simp; done) | (simp [*]; done)), H', ⟨Nat.le_refl _⟩, by repeat (first | exact Drawn0.refl _ | apply Drawn0.step)⟩
 case round =>
  clear H'
  try clear c1
  try clear p2
  obtain ⟨x5_1, rfl, HA, HK1, ⟨m1, rfl⟩⟩ := hrel
  cases gk with
  | zero => exact absurd HA.out (by simp [manystrandref01_inside.l0])
  | succ k1 =>
   have H := HA.out
   clear HA
   simp only [manystrandref01_inside.l0] at H
   by_cases c3 : x5_1 < (a0.size : Int)
   ·rw [if_pos c3] at H
    have c3b0 : decide (x5_1 < (a0.size : Int)) = true := decide_eq_true c3
    clear c3
    by_cases c4 : 0 ≤ x5_1
    ·rw [if_pos c4] at H
     have c4b0 : decide (0 ≤ x5_1) = true := decide_eq_true c4
     clear c4
     by_cases c6 : (bt a0 x5_1) = 10
     ·rw [if_pos c6] at H
      have c6b0 : ((bt a0 x5_1) == 10) = true := beq_iff_eq.mpr c6
      have c6b1 : ((bt a0 x5_1) != 10) = false := bne_eq_false_iff_eq.mpr c6
      clear c6
      have H' := Aside0.mk H
      clear H
      have p5 : 0 ≤ (x5_1 : Int) := of_decide_eq_true (by first | (with_reducible assumption) | assumption)
      have q5 : x5_1 < (a0.size : Int) := of_decide_eq_true (by first | (with_reducible assumption) | assumption)
      have hx5 := bt_at a0 x5_1
      replace p5 := eq_true p5
      replace q5 := eq_true q5
      go_wp2
      go_roundg k1
      case measure => have := HK1.out; omega
      case rel => exact ⟨(wrap64 (x5_1 + 1)), (by first | rfl | (simp; done) | (simp [*]; done)), H', ⟨by have := HK1.out; omega⟩, by repeat (first | exact Drawn0.refl _ | apply Drawn0.step)⟩
     ·rw [if_neg c6] at H
      have c6b0 : ((bt a0 x5_1) == 10) = false := beq_eq_false_iff_ne.mpr c6
      have c6b1 : ((bt a0 x5_1) != 10) = true := bne_iff_ne.mpr c6
      by_cases c8 : (bt a0 x5_1) < 32
      ·rw [if_pos c8] at H
       have c8b0 : decide ((bt a0 x5_1) < 32) = true := decide_eq_true c8
       clear c8
       obtain rfl := Option.some.inj H
       have p5 : 0 ≤ (x5_1 : Int) := of_decide_eq_true (by first | (with_reducible assumption) | assumption)
       have q5 : x5_1 < (a0.size : Int) := of_decide_eq_true (by first | (with_reducible assumption) | assumption)
       have hx5 := bt_at a0 x5_1
       replace p5 := eq_true p5
       replace q5 := eq_true q5
       have p7 : 0 ≤ (x5_1 : Int) := of_decide_eq_true (by first | (with_reducible assumption) | assumption)
       have q7 : x5_1 < (a0.size : Int) := of_decide_eq_true (by first | (with_reducible assumption) | assumption)
       have hx7 := bt_at a0 x5_1
       replace p7 := eq_true p7
       replace q7 := eq_true q7
       go_wp2
       go_ret
       exact ⟨by first | rfl | (simp; done) | (simp [*]; done), by repeat (first | exact Drawn0.refl _ | apply Drawn0.step)⟩
      ·rw [if_neg c8] at H
       have c8b0 : decide ((bt a0 x5_1) < 32) = false := decide_eq_false c8
       clear c8
       by_cases c10 : (bt a0 x5_1) > 126
       ·rw [if_pos c10] at H
        have c10b0 : decide (126 < (bt a0 x5_1)) = true := decide_eq_true c10
        clear c10
        obtain rfl := Option.some.inj H
        have p5 : 0 ≤ (x5_1 : Int) := of_decide_eq_true (by first | (with_reducible assumption) | assumption)
        have q5 : x5_1 < (a0.size : Int) := of_decide_eq_true (by first | (with_reducible assumption) | assumption)
        have hx5 := bt_at a0 x5_1
        replace p5 := eq_true p5
        replace q5 := eq_true q5
        have p7 : 0 ≤ (x5_1 : Int) := of_decide_eq_true (by first | (with_reducible assumption) | assumption)
        have q7 : x5_1 < (a0.size : Int) := of_decide_eq_true (by first | (with_reducible assumption) | assumption)
        have hx7 := bt_at a0 x5_1
        replace p7 := eq_true p7
        replace q7 := eq_true q7
        have p9 : 0 ≤ (x5_1 : Int) := of_decide_eq_true (by first | (with_reducible assumption) | assumption)
        have q9 : x5_1 < (a0.size : Int) := of_decide_eq_true (by first | (with_reducible assumption) | assumption)
        have hx9 := bt_at a0 x5_1
        replace p9 := eq_true p9
        replace q9 := eq_true q9
        go_wp2
        go_ret
        exact ⟨by first | rfl | (simp; done) | (simp [*]; done), by repeat (first | exact Drawn0.refl _ | apply Drawn0.step)⟩
       ·rw [if_neg c10] at H
        have c10b0 : decide (126 < (bt a0 x5_1)) = false := decide_eq_false c10
        clear c10
        have H' := Aside0.mk H
        clear H
        have p5 : 0 ≤ (x5_1 : Int) := of_decide_eq_true (by first | (with_reducible assumption) | assumption)
        have q5 : x5_1 < (a0.size : Int) := of_decide_eq_true (by first | (with_reducible assumption) | assumption)
        have hx5 := bt_at a0 x5_1
        replace p5 := eq_true p5
        replace q5 := eq_true q5
        have p7 : 0 ≤ (x5_1 : Int) := of_decide_eq_true (by first | (with_reducible assumption) | assumption)
        have q7 : x5_1 < (a0.size : Int) := of_decide_eq_true (by first | (with_reducible assumption) | assumption)
        have hx7 := bt_at a0 x5_1
        replace p7 := eq_true p7
        replace q7 := eq_true q7
        have p9 : 0 ≤ (x5_1 : Int) := of_decide_eq_true (by first | (with_reducible assumption) | assumption)
        have q9 : x5_1 < (a0.size : Int) := of_decide_eq_true (by first | (with_reducible assumption) | assumption)
        have hx9 := bt_at a0 x5_1
        replace p9 := eq_true p9
        replace q9 := eq_true q9
        go_wp2
        go_roundg k1
        case measure => have := HK1.out; omega
        case rel => exact ⟨(wrap64 (x5_1 + 1)), (by first | rfl | (simp; done) | (simp [*]; done)), H', ⟨by have := HK1.out; omega⟩, by repeat (first | exact Drawn0.refl _ | apply Drawn0.step)⟩
    ·rw [if_neg c4] at H
     exact absurd H (by simp)
   ·rw [if_neg c3] at H
    have c3b0 : decide (x5_1 < (a0.size : Int)) = false := decide_eq_false c3
    clear c3
    obtain rfl := Option.some.inj H
    go_wp2
    go_ret
    exact ⟨by first | rfl | (simp; done) | (simp [*]; done), by repeat (first | exact Drawn0.refl _ | apply Drawn0.step)⟩

end Go.Proofs.YtlabfjaddgakkaaGreat.Q
end
section
namespace Go.Proofs.YtlabfjaddgakkaaGreat.Q
open Go.RowKit Go.Proofs.YtlabfjaddgakkaaGreatW.PrintWords Go.Proofs.YtlabfjaddgakkaaGreatW.PrintLast Go.Proofs.YtlabfjaddgakkaaGreatW.PrintMore
attribute [local go_sem] Go.Proofs.YtlabfjaddgakkaaGreatW.OwnWords.isSome_setCell max2_int min2_int max_two min_two max_three min_three max_four min_four
set_option linter.unusedVariables false
set_option linter.unusedSimpArgs false

/-! ### manystrandref01_Among: function 96 -/
mutual
def manystrandref01_Among.l0 : Nat → ByteArray → ByteArray → Int → Option (Bool)
 | 0, _, _, _ => none
 | k + 1, x0, x1, x5 => if x5 < (x0.size : Int) then (if 0 ≤ x5 then (if (bt x0 x5) = 32 then (some false) else (manystrandref01_Among.l0 k x0 x1 (wrap64 (x5 + 1)))) else (none)) else (manystrandref01_Among.l1 k x0 x1 0)
def manystrandref01_Among.l1 : Nat → ByteArray → ByteArray → Int → Option (Bool)
 | 0, _, _, _ => none
 | k + 1, x0, x1, x6 => if (wrap64 ((wrap64 (x6 + (x0.size : Int))) + 2)) ≤ (x1.size : Int) then (if x0.toList = ([] : List UInt8) then (manystrandref01_Among.l1 k x0 x1 (wrap64 (x6 + 1))) else (if 0 ≤ x6 then (if x6 ≤ (wrap64 ((wrap64 (x6 + (x0.size : Int))) + 2)) then (if 1 + x0.size ≤ 9223372036854775807 then (if ((⟨#[32]⟩ : ByteArray) ++ x0).size + 1 ≤ 9223372036854775807 then (if (x1.extract (x6 : Int).toNat ((wrap64 ((wrap64 (x6 + (x0.size : Int))) + 2)) : Int).toNat).toList = (((⟨#[32]⟩ : ByteArray) ++ x0) ++ (⟨#[32]⟩ : ByteArray)).toList then (some true) else (manystrandref01_Among.l1 k x0 x1 (wrap64 (x6 + 1)))) else (none)) else (none)) else (none)) else (none))) else (some false)
end
def manystrandref01_Among.f (k : Nat) (a0 : ByteArray) (a1 : ByteArray) : Option (Bool) := manystrandref01_Among.l0 k a0 a1 0
theorem manystrandref01_Among.mono_l : ∀ k, (∀ y0 y1 y2, LeO (manystrandref01_Among.l0 k y0 y1 y2) (manystrandref01_Among.l0 (k + 1) y0 y1 y2)) ∧ (∀ y0 y1 y2, LeO (manystrandref01_Among.l1 k y0 y1 y2) (manystrandref01_Among.l1 (k + 1) y0 y1 y2))
 | 0 => ⟨fun _ _ _ r h => by simp [manystrandref01_Among.l0] at h, fun _ _ _ r h => by simp [manystrandref01_Among.l1] at h⟩
 | k + 1 => by
  obtain ⟨ih0, ih1⟩ := manystrandref01_Among.mono_l k
  refine ⟨?_, ?_⟩
  ·intro y0 y1 y2
   unfold manystrandref01_Among.l0
   repeat' first
   | (with_reducible exact ih0 _ _ _)
   | (with_reducible exact ih1 _ _ _)
   | (with_reducible exact LeO.refl _)
   | (with_reducible exact LeO.none _)
   | (with_reducible refine LeO.ite ?_ ?_)
   | (with_reducible refine LeO.bind ?_ (fun _ => ?_))
   | exact ih0 _ _ _
   | exact ih1 _ _ _
   | exact LeO.none _
   | refine LeO.ite ?_ ?_
   | refine LeO.bind ?_ (fun _ => ?_)
  ·intro y0 y1 y2
   unfold manystrandref01_Among.l1
   repeat' first
   | (with_reducible exact ih0 _ _ _)
   | (with_reducible exact ih1 _ _ _)
   | (with_reducible exact LeO.refl _)
   | (with_reducible exact LeO.none _)
   | (with_reducible refine LeO.ite ?_ ?_)
   | (with_reducible refine LeO.bind ?_ (fun _ => ?_))
   | exact ih0 _ _ _
   | exact ih1 _ _ _
   | exact LeO.none _
   | refine LeO.ite ?_ ?_
   | refine LeO.bind ?_ (fun _ => ?_)
theorem manystrandref01_Among.mono : ∀ a0 a1 k, LeO (manystrandref01_Among.f k a0 a1) (manystrandref01_Among.f (k + 1) a0 a1) := by
 intro a0 a1 k
 obtain ⟨ih0, ih1⟩ := manystrandref01_Among.mono_l k
 unfold manystrandref01_Among.f
 repeat' first
   | (with_reducible exact ih0 _ _ _)
   | (with_reducible exact ih1 _ _ _)
   | (with_reducible exact LeO.refl _)
   | (with_reducible exact LeO.none _)
   | (with_reducible refine LeO.ite ?_ ?_)
   | (with_reducible refine LeO.bind ?_ (fun _ => ?_))
   | exact ih0 _ _ _
   | exact ih1 _ _ _
   | exact LeO.none _
   | refine LeO.ite ?_ ?_
   | refine LeO.bind ?_ (fun _ => ?_)
set_option maxHeartbeats 8000000 in
set_option maxRecDepth 100000 in
theorem manystrandref01_Among.calls (k : Nat) (a0 : ByteArray) (a1 : ByteArray) (r : Bool) (w : World) (h : manystrandref01_Among.f k a0 a1 = some r) :
  Calls Tryz.prog 96 #[.string a0, .string a1] w fun e w' => e = .returned (.bool r) ∧ Drawn0 w w' := by
 have H : (manystrandref01_Among.l0 k a0 a1 0) = some r := h
 clear h
 have H' := Aside0.mk H
 clear H
 go_enter Tryz.func96, Tryz.ntmps96
 go_wp2
 go_loopg [5] k (fun kq v5 w' => ∃ (x5_1 : Int), v5 = .int .i64 x5_1 ∧ Aside0 (manystrandref01_Among.l0 kq a0 a1 x5_1 = some r) ∧ Aside0 (kq ≤ k) ∧ Drawn0 w w')
 case atStart => exact ⟨(0), (by first | rfl | (simp; done) | (simp [*]; done)), H', ⟨Nat.le_refl _⟩, by repeat (first | exact Drawn0.refl _ | apply Drawn0.step)⟩
 case round =>
  clear H'
  try clear p2
  obtain ⟨x5_1, rfl, HA, HK1, ⟨m1, rfl⟩⟩ := hrel
  cases gk with
  | zero => exact absurd HA.out (by simp [manystrandref01_Among.l0])
  | succ k1 =>
   have H := HA.out
   clear HA
   simp only [manystrandref01_Among.l0] at H
   by_cases c3 : x5_1 < (a0.size : Int)
   ·rw [if_pos c3] at H
    have c3b0 : decide (x5_1 < (a0.size : Int)) = true := decide_eq_true c3
    clear c3
    by_cases c4 : 0 ≤ x5_1
    ·rw [if_pos c4] at H
     have c4b0 : decide (0 ≤ x5_1) = true := decide_eq_true c4
     clear c4
     by_cases c6 : (bt a0 x5_1) = 32
     ·rw [if_pos c6] at H
      have c6b0 : ((bt a0 x5_1) == 32) = true := beq_iff_eq.mpr c6
      have c6b1 : ((bt a0 x5_1) != 32) = false := bne_eq_false_iff_eq.mpr c6
      clear c6
      obtain rfl := Option.some.inj H
      have p5 : 0 ≤ (x5_1 : Int) := of_decide_eq_true (by first | (with_reducible assumption) | assumption)
      have q5 : x5_1 < (a0.size : Int) := of_decide_eq_true (by first | (with_reducible assumption) | assumption)
      have hx5 := bt_at a0 x5_1
      replace p5 := eq_true p5
      replace q5 := eq_true q5
      go_wp2
      go_ret
      exact ⟨by first | rfl | (simp; done) | (simp [*]; done), by repeat (first | exact Drawn0.refl _ | apply Drawn0.step)⟩
     ·rw [if_neg c6] at H
      have c6b0 : ((bt a0 x5_1) == 32) = false := beq_eq_false_iff_ne.mpr c6
      have c6b1 : ((bt a0 x5_1) != 32) = true := bne_iff_ne.mpr c6
      have H' := Aside0.mk H
      clear H
      have p5 : 0 ≤ (x5_1 : Int) := of_decide_eq_true (by first | (with_reducible assumption) | assumption)
      have q5 : x5_1 < (a0.size : Int) := of_decide_eq_true (by first | (with_reducible assumption) | assumption)
      have hx5 := bt_at a0 x5_1
      replace p5 := eq_true p5
      replace q5 := eq_true q5
      go_wp2
      go_roundg k1
      case measure => have := HK1.out; omega
      case rel => exact ⟨(wrap64 (x5_1 + 1)), (by first | rfl | (simp; done) | (simp [*]; done)), H', ⟨by have := HK1.out; omega⟩, by repeat (first | exact Drawn0.refl _ | apply Drawn0.step)⟩
    ·rw [if_neg c4] at H
     exact absurd H (by simp)
   ·rw [if_neg c3] at H
    have c3b0 : decide (x5_1 < (a0.size : Int)) = false := decide_eq_false c3
    clear c3
    have H' := Aside0.mk H
    clear H
    go_wp2
    go_loopg [6] k1 (fun kq v6 w' => ∃ (x6_2 : Int), v6 = .int .i64 x6_2 ∧ Aside0 (manystrandref01_Among.l1 kq a0 a1 x6_2 = some r) ∧ Aside0 (kq ≤ k1) ∧ Drawn0 w w')
    case atStart => exact ⟨(0), (by first | rfl | (simp; done) | (simp [*]; done)), H', ⟨Nat.le_refl _⟩, by repeat (first | exact Drawn0.refl _ | apply Drawn0.step)⟩
    case round =>
     clear H'
     try clear p2
     try clear c3
     try clear c3b0
     try clear c4
     try clear c4b0
     try clear p5
     try clear q5
     try clear hx5
     try clear c6
     try clear c6b0
     try clear c6b1
     try clear p6
     try clear p2
     try clear p5
     try clear q5
     obtain ⟨x6_2, rfl, HA, HK2, ⟨m2, rfl⟩⟩ := hrel
     cases gk with
     | zero => exact absurd HA.out (by simp [manystrandref01_Among.l1])
     | succ k2 =>
      have H := HA.out
      clear HA
      simp only [manystrandref01_Among.l1] at H
      by_cases c7 : (wrap64 ((wrap64 (x6_2 + (a0.size : Int))) + 2)) ≤ (a1.size : Int)
      ·rw [if_pos c7] at H
       have c7b0 : decide ((wrap64 ((wrap64 (x6_2 + (a0.size : Int))) + 2)) ≤ (a1.size : Int)) = true := decide_eq_true c7
       clear c7
       by_cases c8 : a0.toList = ([] : List UInt8)
       ·rw [if_pos c8] at H
        have c8b0 : (a0.toList == ([] : List UInt8)) = true := beq_iff_eq.mpr c8
        have c8b1 : (a0.toList != ([] : List UInt8)) = false := bne_eq_false_iff_eq.mpr c8
        clear c8
        have H' := Aside0.mk H
        clear H
        go_wp2
        go_roundg k2
        case measure => have := HK1.out; have := HK2.out; omega
        case rel => exact ⟨(wrap64 (x6_2 + 1)), (by first | rfl | (simp; done) | (simp [*]; done)), H', ⟨by have := HK1.out; have := HK2.out; omega⟩, by repeat (first | exact Drawn0.refl _ | apply Drawn0.step)⟩
       ·rw [if_neg c8] at H
        have c8b0 : (a0.toList == ([] : List UInt8)) = false := beq_eq_false_iff_ne.mpr c8
        have c8b1 : (a0.toList != ([] : List UInt8)) = true := bne_iff_ne.mpr c8
        by_cases c9 : 0 ≤ x6_2
        ·rw [if_pos c9] at H
         have c9b0 := eq_true c9
         have c9b1 : decide (0 ≤ x6_2) = true := decide_eq_true c9
         clear c9
         by_cases c10 : x6_2 ≤ (wrap64 ((wrap64 (x6_2 + (a0.size : Int))) + 2))
         ·rw [if_pos c10] at H
          have c10b0 := eq_true c10
          have c10b1 : decide (x6_2 ≤ (wrap64 ((wrap64 (x6_2 + (a0.size : Int))) + 2))) = true := decide_eq_true c10
          have c11b0 := eq_true (of_decide_eq_true (by first | (with_reducible assumption) | assumption) : (wrap64 ((wrap64 (x6_2 + (a0.size : Int))) + 2)) ≤ (a1.size : Int))
          by_cases c12 : 1 + a0.size ≤ 9223372036854775807
          ·rw [if_pos c12] at H
           have c12b0 := eq_true c12
           have c12b1 : decide (1 + a0.size ≤ 9223372036854775807) = true := decide_eq_true c12
           try have c12b2 : (9223372036854775807 < 1 + a0.size) = False := eq_false (Nat.not_lt.2 c12)
           try have c12z0 : (9223372036854775807 < (⟨#[32]⟩ : ByteArray).size + a0.size) = False := c12b2
           by_cases c13 : ((⟨#[32]⟩ : ByteArray) ++ a0).size + 1 ≤ 9223372036854775807
           ·rw [if_pos c13] at H
            have c13b0 := eq_true c13
            have c13b1 : decide (((⟨#[32]⟩ : ByteArray) ++ a0).size + 1 ≤ 9223372036854775807) = true := decide_eq_true c13
            try have c13b2 : (9223372036854775807 < ((⟨#[32]⟩ : ByteArray) ++ a0).size + 1) = False := eq_false (Nat.not_lt.2 c13)
            try have c13z0 : (9223372036854775807 < ((⟨#[32]⟩ : ByteArray) ++ a0).size + (⟨#[32]⟩ : ByteArray).size) = False := c13b2
            try have c13y : (9223372036854775807 < 1 + a0.size + 1) = False := eq_false (by have h_ := c13; (try simp only [ByteArray.size_append, ByteArray.size_extract, show (⟨#[32]⟩ : ByteArray).size = 1 from rfl] at h_); omega)
            by_cases c14 : (a1.extract (x6_2 : Int).toNat ((wrap64 ((wrap64 (x6_2 + (a0.size : Int))) + 2)) : Int).toNat).toList = (((⟨#[32]⟩ : ByteArray) ++ a0) ++ (⟨#[32]⟩ : ByteArray)).toList
            ·rw [if_pos c14] at H
             have c14b0 : ((a1.extract (x6_2 : Int).toNat ((wrap64 ((wrap64 (x6_2 + (a0.size : Int))) + 2)) : Int).toNat).toList == (((⟨#[32]⟩ : ByteArray) ++ a0) ++ (⟨#[32]⟩ : ByteArray)).toList) = true := beq_iff_eq.mpr c14
             have c14b1 : ((a1.extract (x6_2 : Int).toNat ((wrap64 ((wrap64 (x6_2 + (a0.size : Int))) + 2)) : Int).toNat).toList != (((⟨#[32]⟩ : ByteArray) ++ a0) ++ (⟨#[32]⟩ : ByteArray)).toList) = false := bne_eq_false_iff_eq.mpr c14
             clear c14
             obtain rfl := Option.some.inj H
             go_wp2
             go_ret
             exact ⟨by first | rfl | (simp; done) | (simp [*]; done), by repeat (first | exact Drawn0.refl _ | apply Drawn0.step)⟩
            ·rw [if_neg c14] at H
             have c14b0 : ((a1.extract (x6_2 : Int).toNat ((wrap64 ((wrap64 (x6_2 + (a0.size : Int))) + 2)) : Int).toNat).toList == (((⟨#[32]⟩ : ByteArray) ++ a0) ++ (⟨#[32]⟩ : ByteArray)).toList) = false := beq_eq_false_iff_ne.mpr c14
             have c14b1 : ((a1.extract (x6_2 : Int).toNat ((wrap64 ((wrap64 (x6_2 + (a0.size : Int))) + 2)) : Int).toNat).toList != (((⟨#[32]⟩ : ByteArray) ++ a0) ++ (⟨#[32]⟩ : ByteArray)).toList) = true := bne_iff_ne.mpr c14
             have H' := Aside0.mk H
             clear H
             go_wp2
             go_roundg k2
             case measure => have := HK1.out; have := HK2.out; omega
             case rel => exact ⟨(wrap64 (x6_2 + 1)), (by first | rfl | (simp; done) | (simp [*]; done)), H', ⟨by have := HK1.out; have := HK2.out; omega⟩, by repeat (first | exact Drawn0.refl _ | apply Drawn0.step)⟩
           ·rw [if_neg c13] at H
            exact absurd H (by simp)
          ·rw [if_neg c12] at H
           exact absurd H (by simp)
         ·rw [if_neg c10] at H
          exact absurd H (by simp)
        ·rw [if_neg c9] at H
         exact absurd H (by simp)
      ·rw [if_neg c7] at H
       have c7b0 : decide ((wrap64 ((wrap64 (x6_2 + (a0.size : Int))) + 2)) ≤ (a1.size : Int)) = false := decide_eq_false c7
       clear c7
       obtain rfl := Option.some.inj H
       go_wp2
       go_ret
       exact ⟨by first | rfl | (simp; done) | (simp [*]; done), by repeat (first | exact Drawn0.refl _ | apply Drawn0.step)⟩

end Go.Proofs.YtlabfjaddgakkaaGreat.Q
end
section
namespace Go.Proofs.YtlabfjaddgakkaaGreat.Q
open Go.RowKit Go.Proofs.YtlabfjaddgakkaaGreatW.PrintWords Go.Proofs.YtlabfjaddgakkaaGreatW.PrintLast Go.Proofs.YtlabfjaddgakkaaGreatW.PrintMore
attribute [local go_sem] Go.Proofs.YtlabfjaddgakkaaGreatW.OwnWords.isSome_setCell max2_int min2_int max_two min_two max_three min_three max_four min_four
set_option linter.unusedVariables false
set_option linter.unusedSimpArgs false

/-! ### manystrandref01_IsKey: function 105 -/
def manystrandref01_IsKey.f (k : Nat) (a0 : ByteArray) : Option (Bool) := (manystrandref01_Among.f k a0 (⟨#[32, 97, 110, 100, 116, 104, 101, 110, 32, 97, 116, 32, 98, 121, 32, 99, 97, 115, 101, 32, 99, 97, 116, 99, 104, 32, 99, 104, 111, 105, 99, 101, 32, 100, 105, 118, 32, 100, 111, 32, 101, 97, 99, 104, 32, 101, 108, 115, 101, 32, 101, 110, 100, 32, 102, 111, 114, 32, 102, 117, 110, 32, 105, 102, 32, 105, 110, 32, 108, 97, 122, 121, 32, 108, 111, 99, 97, 108, 32, 108, 111, 99, 107, 32, 109, 111, 100, 32, 111, 114, 101, 108, 115, 101, 32, 112, 114, 111, 99, 32, 114, 97, 105, 115, 101, 32, 115, 107, 105, 112, 32, 116, 104, 101, 110, 32, 116, 104, 114, 101, 97, 100, 32, 116, 114, 121, 32, 111, 102, 32]⟩ : ByteArray)).bind fun t287 => (some t287)
theorem manystrandref01_IsKey.mono : ∀ a0 k, LeO (manystrandref01_IsKey.f k a0) (manystrandref01_IsKey.f (k + 1) a0) := by
 intro a0 k
 unfold manystrandref01_IsKey.f
 repeat' first
   | (with_reducible exact manystrandref01_Among.mono _ _ _)
   | (with_reducible exact LeO.refl _)
   | (with_reducible exact LeO.none _)
   | (with_reducible refine LeO.ite ?_ ?_)
   | (with_reducible refine LeO.bind ?_ (fun _ => ?_))
   | exact manystrandref01_Among.mono _ _ _
   | exact LeO.none _
   | refine LeO.ite ?_ ?_
   | refine LeO.bind ?_ (fun _ => ?_)
set_option maxHeartbeats 8000000 in
set_option maxRecDepth 100000 in
theorem manystrandref01_IsKey.calls (k : Nat) (a0 : ByteArray) (r : Bool) (w : World) (h : manystrandref01_IsKey.f k a0 = some r) :
  Calls Tryz.prog 105 #[.string a0] w fun e w' => e = .returned (.bool r) ∧ Drawn0 w w' := by
 have H : ((manystrandref01_Among.f k a0 (⟨#[32, 97, 110, 100, 116, 104, 101, 110, 32, 97, 116, 32, 98, 121, 32, 99, 97, 115, 101, 32, 99, 97, 116, 99, 104, 32, 99, 104, 111, 105, 99, 101, 32, 100, 105, 118, 32, 100, 111, 32, 101, 97, 99, 104, 32, 101, 108, 115, 101, 32, 101, 110, 100, 32, 102, 111, 114, 32, 102, 117, 110, 32, 105, 102, 32, 105, 110, 32, 108, 97, 122, 121, 32, 108, 111, 99, 97, 108, 32, 108, 111, 99, 107, 32, 109, 111, 100, 32, 111, 114, 101, 108, 115, 101, 32, 112, 114, 111, 99, 32, 114, 97, 105, 115, 101, 32, 115, 107, 105, 112, 32, 116, 104, 101, 110, 32, 116, 104, 114, 101, 97, 100, 32, 116, 114, 121, 32, 111, 102, 32]⟩ : ByteArray)).bind fun t287 => (some t287)) = some r := h
 clear h
 replace H := Option.bind_eq_some_iff.mp H
 obtain ⟨t287, A20, H⟩ := H
 replace H : (some t287) = some r := H
 have A2 := Aside0.mk A20
 clear A20
 obtain rfl := Option.some.inj H
 go_enter Tryz.func105, Tryz.ntmps105
 go_wp2_with (first | ((with_reducible refine gate_callee (f := 96) rfl ?_); refine goesL_ (some 4) rfl rfl Tryz.func96 (by kernel_rfl) rfl #[.string a0, .string (⟨#[32, 97, 110, 100, 116, 104, 101, 110, 32, 97, 116, 32, 98, 121, 32, 99, 97, 115, 101, 32, 99, 97, 116, 99, 104, 32, 99, 104, 111, 105, 99, 101, 32, 100, 105, 118, 32, 100, 111, 32, 101, 97, 99, 104, 32, 101, 108, 115, 101, 32, 101, 110, 100, 32, 102, 111, 114, 32, 102, 117, 110, 32, 105, 102, 32, 105, 110, 32, 108, 97, 122, 121, 32, 108, 111, 99, 97, 108, 32, 108, 111, 99, 107, 32, 109, 111, 100, 32, 111, 114, 101, 108, 115, 101, 32, 112, 114, 111, 99, 32, 114, 97, 105, 115, 101, 32, 115, 107, 105, 112, 32, 116, 104, 101, 110, 32, 116, 104, 114, 101, 97, 100, 32, 116, 114, 121, 32, 111, 102, 32]⟩ : ByteArray)] rfl (by (try simp only [List.map_toArray, List.map_cons, List.map_nil]); first | done | rfl | (simp only [List.length_drop, List.length_take]; rfl)) ?_; (with_reducible refine (manystrandref01_Among.calls k a0 (⟨#[32, 97, 110, 100, 116, 104, 101, 110, 32, 97, 116, 32, 98, 121, 32, 99, 97, 115, 101, 32, 99, 97, 116, 99, 104, 32, 99, 104, 111, 105, 99, 101, 32, 100, 105, 118, 32, 100, 111, 32, 101, 97, 99, 104, 32, 101, 108, 115, 101, 32, 101, 110, 100, 32, 102, 111, 114, 32, 102, 117, 110, 32, 105, 102, 32, 105, 110, 32, 108, 97, 122, 121, 32, 108, 111, 99, 97, 108, 32, 108, 111, 99, 107, 32, 109, 111, 100, 32, 111, 114, 101, 108, 115, 101, 32, 112, 114, 111, 99, 32, 114, 97, 105, 115, 101, 32, 115, 107, 105, 112, 32, 116, 104, 101, 110, 32, 116, 104, 114, 101, 97, 100, 32, 116, 114, 121, 32, 111, 102, 32]⟩ : ByteArray) t287 _ A2.out).mono ?_); rintro e w' ⟨rfl, ⟨nd, rfl⟩⟩; refine ⟨_, rfl, ?_⟩))
 go_ret
 exact ⟨by first | rfl | (simp; done) | (simp [*]; done), by repeat (first | exact Drawn0.refl _ | apply Drawn0.step)⟩

end Go.Proofs.YtlabfjaddgakkaaGreat.Q
end
section
namespace Go.Proofs.YtlabfjaddgakkaaGreat.Q
open Go.RowKit Go.Proofs.YtlabfjaddgakkaaGreatW.PrintWords Go.Proofs.YtlabfjaddgakkaaGreatW.PrintLast Go.Proofs.YtlabfjaddgakkaaGreatW.PrintMore
attribute [local go_sem] Go.Proofs.YtlabfjaddgakkaaGreatW.OwnWords.isSome_setCell max2_int min2_int max_two min_two max_three min_three max_four min_four
set_option linter.unusedVariables false
set_option linter.unusedSimpArgs false

/-! ### manystrandref01_IsSign: function 106 -/
def manystrandref01_IsSign.f (k : Nat) (a0 : ByteArray) : Option (Bool) := (manystrandref01_Among.f k a0 (⟨#[32, 40, 32, 41, 32, 123, 32, 125, 32, 91, 32, 93, 32, 91, 93, 32, 46, 32, 124, 32, 35, 32, 61, 32, 92, 61, 32, 61, 61, 32, 60, 32, 61, 60, 32, 62, 32, 62, 61, 32, 43, 32, 45, 32, 42, 32, 126, 32, 58, 61, 32, 64, 32, 33, 33, 32, 58, 32, 46, 46, 46, 32, 36, 32, 95, 32]⟩ : ByteArray)).bind fun t288 => (some t288)
theorem manystrandref01_IsSign.mono : ∀ a0 k, LeO (manystrandref01_IsSign.f k a0) (manystrandref01_IsSign.f (k + 1) a0) := by
 intro a0 k
 unfold manystrandref01_IsSign.f
 repeat' first
   | (with_reducible exact manystrandref01_Among.mono _ _ _)
   | (with_reducible exact LeO.refl _)
   | (with_reducible exact LeO.none _)
   | (with_reducible refine LeO.ite ?_ ?_)
   | (with_reducible refine LeO.bind ?_ (fun _ => ?_))
   | exact manystrandref01_Among.mono _ _ _
   | exact LeO.none _
   | refine LeO.ite ?_ ?_
   | refine LeO.bind ?_ (fun _ => ?_)
set_option maxHeartbeats 8000000 in
set_option maxRecDepth 100000 in
theorem manystrandref01_IsSign.calls (k : Nat) (a0 : ByteArray) (r : Bool) (w : World) (h : manystrandref01_IsSign.f k a0 = some r) :
  Calls Tryz.prog 106 #[.string a0] w fun e w' => e = .returned (.bool r) ∧ Drawn0 w w' := by
 have H : ((manystrandref01_Among.f k a0 (⟨#[32, 40, 32, 41, 32, 123, 32, 125, 32, 91, 32, 93, 32, 91, 93, 32, 46, 32, 124, 32, 35, 32, 61, 32, 92, 61, 32, 61, 61, 32, 60, 32, 61, 60, 32, 62, 32, 62, 61, 32, 43, 32, 45, 32, 42, 32, 126, 32, 58, 61, 32, 64, 32, 33, 33, 32, 58, 32, 46, 46, 46, 32, 36, 32, 95, 32]⟩ : ByteArray)).bind fun t288 => (some t288)) = some r := h
 clear h
 replace H := Option.bind_eq_some_iff.mp H
 obtain ⟨t288, A20, H⟩ := H
 replace H : (some t288) = some r := H
 have A2 := Aside0.mk A20
 clear A20
 obtain rfl := Option.some.inj H
 go_enter Tryz.func106, Tryz.ntmps106
 go_wp2_with (first | ((with_reducible refine gate_callee (f := 96) rfl ?_); refine goesL_ (some 4) rfl rfl Tryz.func96 (by kernel_rfl) rfl #[.string a0, .string (⟨#[32, 40, 32, 41, 32, 123, 32, 125, 32, 91, 32, 93, 32, 91, 93, 32, 46, 32, 124, 32, 35, 32, 61, 32, 92, 61, 32, 61, 61, 32, 60, 32, 61, 60, 32, 62, 32, 62, 61, 32, 43, 32, 45, 32, 42, 32, 126, 32, 58, 61, 32, 64, 32, 33, 33, 32, 58, 32, 46, 46, 46, 32, 36, 32, 95, 32]⟩ : ByteArray)] rfl (by (try simp only [List.map_toArray, List.map_cons, List.map_nil]); first | done | rfl | (simp only [List.length_drop, List.length_take]; rfl)) ?_; (with_reducible refine (manystrandref01_Among.calls k a0 (⟨#[32, 40, 32, 41, 32, 123, 32, 125, 32, 91, 32, 93, 32, 91, 93, 32, 46, 32, 124, 32, 35, 32, 61, 32, 92, 61, 32, 61, 61, 32, 60, 32, 61, 60, 32, 62, 32, 62, 61, 32, 43, 32, 45, 32, 42, 32, 126, 32, 58, 61, 32, 64, 32, 33, 33, 32, 58, 32, 46, 46, 46, 32, 36, 32, 95, 32]⟩ : ByteArray) t288 _ A2.out).mono ?_); rintro e w' ⟨rfl, ⟨nd, rfl⟩⟩; refine ⟨_, rfl, ?_⟩))
 go_ret
 exact ⟨by first | rfl | (simp; done) | (simp [*]; done), by repeat (first | exact Drawn0.refl _ | apply Drawn0.step)⟩

end Go.Proofs.YtlabfjaddgakkaaGreat.Q
end
section
namespace Go.Proofs.YtlabfjaddgakkaaGreat.Q
open Go.RowKit Go.Proofs.YtlabfjaddgakkaaGreatW.PrintWords Go.Proofs.YtlabfjaddgakkaaGreatW.PrintLast Go.Proofs.YtlabfjaddgakkaaGreatW.PrintMore Go.Proofs.YtlabfjaddgakkaaGreatW.OwnWords
attribute [local go_sem] Go.Proofs.YtlabfjaddgakkaaGreatW.OwnWords.isSome_setCell max2_int min2_int max_two min_two max_three min_three max_four min_four
set_option linter.unusedVariables false
set_option linter.unusedSimpArgs false

/-! ### manystrandref01_Valid: function 61 -/
def manystrandref01_Valid.f (k : Nat) (a0_0 : ByteArray) (a0_1 : ByteArray) (a0_2 : Int) : Option (Bool) := if a0_0.toList = ([118, 97, 114] : List UInt8) then ((manystrandref01_IsVar.f k a0_1).bind fun t290 => (some t290)) else (if a0_0.toList = ([97, 116, 111, 109] : List UInt8) then ((manystrandref01_inside.f k a0_1 60).bind fun t291 => (some t291)) else (if a0_0.toList = ([105, 110, 116] : List UInt8) then ((manystrandref01_IsInt.f k a0_1).bind fun t292 => (some t292)) else (if a0_0.toList = ([116, 101, 120, 116] : List UInt8) then ((manystrandref01_inside.f k a0_1 200).bind fun t293 => (some t293)) else (if a0_0.toList = ([99, 104, 97, 114] : List UInt8) then (if (a0_1.size : Int) = 1 then ((manystrandref01_inside.f k a0_1 1).bind fun t294 => (some t294)) else (some false)) else (if a0_0.toList = ([107, 101, 121] : List UInt8) then ((manystrandref01_IsKey.f k a0_1).bind fun t295 => (some t295)) else (if a0_0.toList = ([115, 105, 103, 110] : List UInt8) then ((manystrandref01_IsSign.f k a0_1).bind fun t296 => (some t296)) else (some false)))))))
theorem manystrandref01_Valid.mono : ∀ a0 a1 a2 k, LeO (manystrandref01_Valid.f k a0 a1 a2) (manystrandref01_Valid.f (k + 1) a0 a1 a2) := by
 intro a0 a1 a2 k
 unfold manystrandref01_Valid.f
 repeat' first
   | (with_reducible exact manystrandref01_IsInt.mono _ _)
   | (with_reducible exact manystrandref01_IsKey.mono _ _)
   | (with_reducible exact manystrandref01_IsSign.mono _ _)
   | (with_reducible exact manystrandref01_IsVar.mono _ _)
   | (with_reducible exact manystrandref01_inside.mono _ _ _)
   | (with_reducible exact LeO.refl _)
   | (with_reducible exact LeO.none _)
   | (with_reducible refine LeO.ite ?_ ?_)
   | (with_reducible refine LeO.bind ?_ (fun _ => ?_))
   | exact manystrandref01_IsInt.mono _ _
   | exact manystrandref01_IsKey.mono _ _
   | exact manystrandref01_IsSign.mono _ _
   | exact manystrandref01_IsVar.mono _ _
   | exact manystrandref01_inside.mono _ _ _
   | exact LeO.none _
   | refine LeO.ite ?_ ?_
   | refine LeO.bind ?_ (fun _ => ?_)
set_option maxHeartbeats 8000000 in
set_option maxRecDepth 100000 in
theorem manystrandref01_Valid.calls (k : Nat) (a0_0 : ByteArray) (a0_1 : ByteArray) (a0_2 : Int) (r : Bool) (w : World) (h : manystrandref01_Valid.f k a0_0 a0_1 a0_2 = some r) :
  Calls Tryz.prog 61 #[.agg #[.string a0_0, .string a0_1, .int .i64 a0_2]] w fun e w' => e = .returned (.bool r) ∧ Below w.heap.size w w' := by
 have hu59 := Tryz.underlying59
 have HB := Aside0.mk (Below.refl w.heap.size w)
 have H : (if a0_0.toList = ([118, 97, 114] : List UInt8) then ((manystrandref01_IsVar.f k a0_1).bind fun t290 => (some t290)) else (if a0_0.toList = ([97, 116, 111, 109] : List UInt8) then ((manystrandref01_inside.f k a0_1 60).bind fun t291 => (some t291)) else (if a0_0.toList = ([105, 110, 116] : List UInt8) then ((manystrandref01_IsInt.f k a0_1).bind fun t292 => (some t292)) else (if a0_0.toList = ([116, 101, 120, 116] : List UInt8) then ((manystrandref01_inside.f k a0_1 200).bind fun t293 => (some t293)) else (if a0_0.toList = ([99, 104, 97, 114] : List UInt8) then (if (a0_1.size : Int) = 1 then ((manystrandref01_inside.f k a0_1 1).bind fun t294 => (some t294)) else (some false)) else (if a0_0.toList = ([107, 101, 121] : List UInt8) then ((manystrandref01_IsKey.f k a0_1).bind fun t295 => (some t295)) else (if a0_0.toList = ([115, 105, 103, 110] : List UInt8) then ((manystrandref01_IsSign.f k a0_1).bind fun t296 => (some t296)) else (some false)))))))) = some r := h
 clear h
 by_cases c2 : a0_0.toList = ([118, 97, 114] : List UInt8)
 ·rw [if_pos c2] at H
  have c2b0 : (a0_0.toList == ([118, 97, 114] : List UInt8)) = true := beq_iff_eq.mpr c2
  have c2b1 : (a0_0.toList != ([118, 97, 114] : List UInt8)) = false := bne_eq_false_iff_eq.mpr c2
  clear c2
  replace H := Option.bind_eq_some_iff.mp H
  obtain ⟨t290, A30, H⟩ := H
  replace H : (some t290) = some r := H
  have A3 := Aside0.mk A30
  clear A30
  obtain rfl := Option.some.inj H
  go_enter Tryz.func61, Tryz.ntmps61
  go_wp2_with (first | ((with_reducible refine gate_dst (N := 1) rfl ?_); refine box_event ?hg (N := 1) ?hd (cs := #[.string a0_0, .string a0_1, .int .i64 a0_2]) (t := 59) ?hr ?_; (case hd => rfl); (case hg => rfl); (case hr => first | (go_simp; done) | (go_simp; rfl)); intro gb289 hg w4 hbox hb; have n0_ := Aside0.mk (below_step bSt_ hb); have n1_ := Aside0.mk (hbox); have n2_ := Aside0.mk ((by rw [hg]; exact (below_size bSt_) : w.heap.size ≤ gb289)); have n3_ := Aside0.mk ((by rw [hg]; exact (below_size bSt_) : w.heap.size ≤ gb289)); clear HB; have HB := n0_; have BK289 := n1_; have GW289 := n2_; have GE289 := n3_; clear n0_ n1_ n2_ n3_; clear hb hbox hg; have hcz5_0 : w4.cell? ⟨gb289, 0, none⟩ = some (.string a0_0) := (blk_cell BK289.out 0).trans rfl; have hcz5_1 : w4.cell? ⟨gb289, 1, none⟩ = some (.string a0_1) := (blk_cell BK289.out 1).trans rfl; have hcz5_2 : w4.cell? ⟨gb289, 2, none⟩ = some (.int .i64 a0_2) := (blk_cell BK289.out 2).trans rfl; have hfz5_0 := blk_frozen BK289.out 0; have hfz5_1 := blk_frozen BK289.out 1; have hfz5_2 := blk_frozen BK289.out 2) | ((with_reducible refine gate_callee (f := 93) rfl ?_); refine goesL_ (some 9) rfl rfl Tryz.func93 (by kernel_rfl) rfl #[.string a0_1] rfl (by (try simp only [List.map_toArray, List.map_cons, List.map_nil]); first | done | rfl | (simp only [List.length_drop, List.length_take]; rfl)) ?_; (with_reducible refine (manystrandref01_IsVar.calls k a0_1 t290 _ A3.out).mono ?_); rintro e w' ⟨rfl, ⟨nd, rfl⟩⟩; refine ⟨_, rfl, ?_⟩))
  go_ret
  exact ⟨by first | rfl | (simp [errW_none, errW_some] <;> rfl) | (simp [*, errW_none, errW_some] <;> rfl) | (simp [errW_none, errW_some]; exact Go.Proofs.YtlabfjaddgakkaaGreatW.OwnWords.isEmpty_bne _), bSt_⟩
 ·rw [if_neg c2] at H
  have c2b0 : (a0_0.toList == ([118, 97, 114] : List UInt8)) = false := beq_eq_false_iff_ne.mpr c2
  have c2b1 : (a0_0.toList != ([118, 97, 114] : List UInt8)) = true := bne_iff_ne.mpr c2
  by_cases c6 : a0_0.toList = ([97, 116, 111, 109] : List UInt8)
  ·rw [if_pos c6] at H
   have c6b0 : (a0_0.toList == ([97, 116, 111, 109] : List UInt8)) = true := beq_iff_eq.mpr c6
   have c6b1 : (a0_0.toList != ([97, 116, 111, 109] : List UInt8)) = false := bne_eq_false_iff_eq.mpr c6
   clear c6
   replace H := Option.bind_eq_some_iff.mp H
   obtain ⟨t291, A70, H⟩ := H
   replace H : (some t291) = some r := H
   have A7 := Aside0.mk A70
   clear A70
   obtain rfl := Option.some.inj H
   go_enter Tryz.func61, Tryz.ntmps61
   go_wp2_with (first | ((with_reducible refine gate_dst (N := 1) rfl ?_); refine box_event ?hg (N := 1) ?hd (cs := #[.string a0_0, .string a0_1, .int .i64 a0_2]) (t := 59) ?hr ?_; (case hd => rfl); (case hg => rfl); (case hr => first | (go_simp; done) | (go_simp; rfl)); intro gb289 hg w8 hbox hb; have n0_ := Aside0.mk (below_step bSt_ hb); have n1_ := Aside0.mk (hbox); have n2_ := Aside0.mk ((by rw [hg]; exact (below_size bSt_) : w.heap.size ≤ gb289)); have n3_ := Aside0.mk ((by rw [hg]; exact (below_size bSt_) : w.heap.size ≤ gb289)); clear HB; have HB := n0_; have BK289 := n1_; have GW289 := n2_; have GE289 := n3_; clear n0_ n1_ n2_ n3_; clear hb hbox hg; have hcz9_0 : w8.cell? ⟨gb289, 0, none⟩ = some (.string a0_0) := (blk_cell BK289.out 0).trans rfl; have hcz9_1 : w8.cell? ⟨gb289, 1, none⟩ = some (.string a0_1) := (blk_cell BK289.out 1).trans rfl; have hcz9_2 : w8.cell? ⟨gb289, 2, none⟩ = some (.int .i64 a0_2) := (blk_cell BK289.out 2).trans rfl; have hfz9_0 := blk_frozen BK289.out 0; have hfz9_1 := blk_frozen BK289.out 1; have hfz9_2 := blk_frozen BK289.out 2) | ((with_reducible refine gate_callee (f := 104) rfl ?_); refine goesL_ (some 14) rfl rfl Tryz.func104 (by kernel_rfl) rfl #[.string a0_1, .int .i64 60] rfl (by (try simp only [List.map_toArray, List.map_cons, List.map_nil]); first | done | rfl | (simp only [List.length_drop, List.length_take]; rfl)) ?_; (with_reducible refine (manystrandref01_inside.calls k a0_1 60 t291 _ A7.out).mono ?_); rintro e w' ⟨rfl, ⟨nd, rfl⟩⟩; refine ⟨_, rfl, ?_⟩))
   go_ret
   exact ⟨by first | rfl | (simp [errW_none, errW_some] <;> rfl) | (simp [*, errW_none, errW_some] <;> rfl) | (simp [errW_none, errW_some]; exact Go.Proofs.YtlabfjaddgakkaaGreatW.OwnWords.isEmpty_bne _), bSt_⟩
  ·rw [if_neg c6] at H
   have c6b0 : (a0_0.toList == ([97, 116, 111, 109] : List UInt8)) = false := beq_eq_false_iff_ne.mpr c6
   have c6b1 : (a0_0.toList != ([97, 116, 111, 109] : List UInt8)) = true := bne_iff_ne.mpr c6
   by_cases c10 : a0_0.toList = ([105, 110, 116] : List UInt8)
   ·rw [if_pos c10] at H
    have c10b0 : (a0_0.toList == ([105, 110, 116] : List UInt8)) = true := beq_iff_eq.mpr c10
    have c10b1 : (a0_0.toList != ([105, 110, 116] : List UInt8)) = false := bne_eq_false_iff_eq.mpr c10
    clear c10
    replace H := Option.bind_eq_some_iff.mp H
    obtain ⟨t292, A110, H⟩ := H
    replace H : (some t292) = some r := H
    have A11 := Aside0.mk A110
    clear A110
    obtain rfl := Option.some.inj H
    go_enter Tryz.func61, Tryz.ntmps61
    go_wp2_with (first | ((with_reducible refine gate_dst (N := 1) rfl ?_); refine box_event ?hg (N := 1) ?hd (cs := #[.string a0_0, .string a0_1, .int .i64 a0_2]) (t := 59) ?hr ?_; (case hd => rfl); (case hg => rfl); (case hr => first | (go_simp; done) | (go_simp; rfl)); intro gb289 hg w12 hbox hb; have n0_ := Aside0.mk (below_step bSt_ hb); have n1_ := Aside0.mk (hbox); have n2_ := Aside0.mk ((by rw [hg]; exact (below_size bSt_) : w.heap.size ≤ gb289)); have n3_ := Aside0.mk ((by rw [hg]; exact (below_size bSt_) : w.heap.size ≤ gb289)); clear HB; have HB := n0_; have BK289 := n1_; have GW289 := n2_; have GE289 := n3_; clear n0_ n1_ n2_ n3_; clear hb hbox hg; have hcz13_0 : w12.cell? ⟨gb289, 0, none⟩ = some (.string a0_0) := (blk_cell BK289.out 0).trans rfl; have hcz13_1 : w12.cell? ⟨gb289, 1, none⟩ = some (.string a0_1) := (blk_cell BK289.out 1).trans rfl; have hcz13_2 : w12.cell? ⟨gb289, 2, none⟩ = some (.int .i64 a0_2) := (blk_cell BK289.out 2).trans rfl; have hfz13_0 := blk_frozen BK289.out 0; have hfz13_1 := blk_frozen BK289.out 1; have hfz13_2 := blk_frozen BK289.out 2) | ((with_reducible refine gate_callee (f := 94) rfl ?_); refine goesL_ (some 19) rfl rfl Tryz.func94 (by kernel_rfl) rfl #[.string a0_1] rfl (by (try simp only [List.map_toArray, List.map_cons, List.map_nil]); first | done | rfl | (simp only [List.length_drop, List.length_take]; rfl)) ?_; (with_reducible refine (manystrandref01_IsInt.calls k a0_1 t292 _ A11.out).mono ?_); rintro e w' ⟨rfl, ⟨nd, rfl⟩⟩; refine ⟨_, rfl, ?_⟩))
    go_ret
    exact ⟨by first | rfl | (simp [errW_none, errW_some] <;> rfl) | (simp [*, errW_none, errW_some] <;> rfl) | (simp [errW_none, errW_some]; exact Go.Proofs.YtlabfjaddgakkaaGreatW.OwnWords.isEmpty_bne _), bSt_⟩
   ·rw [if_neg c10] at H
    have c10b0 : (a0_0.toList == ([105, 110, 116] : List UInt8)) = false := beq_eq_false_iff_ne.mpr c10
    have c10b1 : (a0_0.toList != ([105, 110, 116] : List UInt8)) = true := bne_iff_ne.mpr c10
    by_cases c14 : a0_0.toList = ([116, 101, 120, 116] : List UInt8)
    ·rw [if_pos c14] at H
     have c14b0 : (a0_0.toList == ([116, 101, 120, 116] : List UInt8)) = true := beq_iff_eq.mpr c14
     have c14b1 : (a0_0.toList != ([116, 101, 120, 116] : List UInt8)) = false := bne_eq_false_iff_eq.mpr c14
     clear c14
     replace H := Option.bind_eq_some_iff.mp H
     obtain ⟨t293, A150, H⟩ := H
     replace H : (some t293) = some r := H
     have A15 := Aside0.mk A150
     clear A150
     obtain rfl := Option.some.inj H
     go_enter Tryz.func61, Tryz.ntmps61
     go_wp2_with (first | ((with_reducible refine gate_dst (N := 1) rfl ?_); refine box_event ?hg (N := 1) ?hd (cs := #[.string a0_0, .string a0_1, .int .i64 a0_2]) (t := 59) ?hr ?_; (case hd => rfl); (case hg => rfl); (case hr => first | (go_simp; done) | (go_simp; rfl)); intro gb289 hg w16 hbox hb; have n0_ := Aside0.mk (below_step bSt_ hb); have n1_ := Aside0.mk (hbox); have n2_ := Aside0.mk ((by rw [hg]; exact (below_size bSt_) : w.heap.size ≤ gb289)); have n3_ := Aside0.mk ((by rw [hg]; exact (below_size bSt_) : w.heap.size ≤ gb289)); clear HB; have HB := n0_; have BK289 := n1_; have GW289 := n2_; have GE289 := n3_; clear n0_ n1_ n2_ n3_; clear hb hbox hg; have hcz17_0 : w16.cell? ⟨gb289, 0, none⟩ = some (.string a0_0) := (blk_cell BK289.out 0).trans rfl; have hcz17_1 : w16.cell? ⟨gb289, 1, none⟩ = some (.string a0_1) := (blk_cell BK289.out 1).trans rfl; have hcz17_2 : w16.cell? ⟨gb289, 2, none⟩ = some (.int .i64 a0_2) := (blk_cell BK289.out 2).trans rfl; have hfz17_0 := blk_frozen BK289.out 0; have hfz17_1 := blk_frozen BK289.out 1; have hfz17_2 := blk_frozen BK289.out 2) | ((with_reducible refine gate_callee (f := 104) rfl ?_); refine goesL_ (some 24) rfl rfl Tryz.func104 (by kernel_rfl) rfl #[.string a0_1, .int .i64 200] rfl (by (try simp only [List.map_toArray, List.map_cons, List.map_nil]); first | done | rfl | (simp only [List.length_drop, List.length_take]; rfl)) ?_; (with_reducible refine (manystrandref01_inside.calls k a0_1 200 t293 _ A15.out).mono ?_); rintro e w' ⟨rfl, ⟨nd, rfl⟩⟩; refine ⟨_, rfl, ?_⟩))
     go_ret
     exact ⟨by first | rfl | (simp [errW_none, errW_some] <;> rfl) | (simp [*, errW_none, errW_some] <;> rfl) | (simp [errW_none, errW_some]; exact Go.Proofs.YtlabfjaddgakkaaGreatW.OwnWords.isEmpty_bne _), bSt_⟩
    ·rw [if_neg c14] at H
     have c14b0 : (a0_0.toList == ([116, 101, 120, 116] : List UInt8)) = false := beq_eq_false_iff_ne.mpr c14
     have c14b1 : (a0_0.toList != ([116, 101, 120, 116] : List UInt8)) = true := bne_iff_ne.mpr c14
     by_cases c18 : a0_0.toList = ([99, 104, 97, 114] : List UInt8)
     ·rw [if_pos c18] at H
      have c18b0 : (a0_0.toList == ([99, 104, 97, 114] : List UInt8)) = true := beq_iff_eq.mpr c18
      have c18b1 : (a0_0.toList != ([99, 104, 97, 114] : List UInt8)) = false := bne_eq_false_iff_eq.mpr c18
      clear c18
      by_cases c19 : (a0_1.size : Int) = 1
      ·rw [if_pos c19] at H
       have c19b0 : ((a0_1.size : Int) == 1) = true := beq_iff_eq.mpr c19
       have c19b1 : ((a0_1.size : Int) != 1) = false := bne_eq_false_iff_eq.mpr c19
       clear c19
       replace H := Option.bind_eq_some_iff.mp H
       obtain ⟨t294, A200, H⟩ := H
       replace H : (some t294) = some r := H
       have A20 := Aside0.mk A200
       clear A200
       obtain rfl := Option.some.inj H
       go_enter Tryz.func61, Tryz.ntmps61
       go_wp2_with (first | ((with_reducible refine gate_dst (N := 1) rfl ?_); refine box_event ?hg (N := 1) ?hd (cs := #[.string a0_0, .string a0_1, .int .i64 a0_2]) (t := 59) ?hr ?_; (case hd => rfl); (case hg => rfl); (case hr => first | (go_simp; done) | (go_simp; rfl)); intro gb289 hg w21 hbox hb; have n0_ := Aside0.mk (below_step bSt_ hb); have n1_ := Aside0.mk (hbox); have n2_ := Aside0.mk ((by rw [hg]; exact (below_size bSt_) : w.heap.size ≤ gb289)); have n3_ := Aside0.mk ((by rw [hg]; exact (below_size bSt_) : w.heap.size ≤ gb289)); clear HB; have HB := n0_; have BK289 := n1_; have GW289 := n2_; have GE289 := n3_; clear n0_ n1_ n2_ n3_; clear hb hbox hg; have hcz22_0 : w21.cell? ⟨gb289, 0, none⟩ = some (.string a0_0) := (blk_cell BK289.out 0).trans rfl; have hcz22_1 : w21.cell? ⟨gb289, 1, none⟩ = some (.string a0_1) := (blk_cell BK289.out 1).trans rfl; have hcz22_2 : w21.cell? ⟨gb289, 2, none⟩ = some (.int .i64 a0_2) := (blk_cell BK289.out 2).trans rfl; have hfz22_0 := blk_frozen BK289.out 0; have hfz22_1 := blk_frozen BK289.out 1; have hfz22_2 := blk_frozen BK289.out 2) | (go_at_call 104; (with_reducible refine (manystrandref01_inside.calls k a0_1 1 t294 _ A20.out).mono ?_); rintro e w' ⟨rfl, ⟨nd, rfl⟩⟩))
       go_ret
       exact ⟨by first | rfl | (simp [errW_none, errW_some] <;> rfl) | (simp [*, errW_none, errW_some] <;> rfl) | (simp [errW_none, errW_some]; exact Go.Proofs.YtlabfjaddgakkaaGreatW.OwnWords.isEmpty_bne _), bSt_⟩
      ·rw [if_neg c19] at H
       have c19b0 : ((a0_1.size : Int) == 1) = false := beq_eq_false_iff_ne.mpr c19
       have c19b1 : ((a0_1.size : Int) != 1) = true := bne_iff_ne.mpr c19
       obtain rfl := Option.some.inj H
       go_enter Tryz.func61, Tryz.ntmps61
       go_wp2_with (first | ((with_reducible refine gate_dst (N := 1) rfl ?_); refine box_event ?hg (N := 1) ?hd (cs := #[.string a0_0, .string a0_1, .int .i64 a0_2]) (t := 59) ?hr ?_; (case hd => rfl); (case hg => rfl); (case hr => first | (go_simp; done) | (go_simp; rfl)); intro gb289 hg w23 hbox hb; have n0_ := Aside0.mk (below_step bSt_ hb); have n1_ := Aside0.mk (hbox); have n2_ := Aside0.mk ((by rw [hg]; exact (below_size bSt_) : w.heap.size ≤ gb289)); have n3_ := Aside0.mk ((by rw [hg]; exact (below_size bSt_) : w.heap.size ≤ gb289)); clear HB; have HB := n0_; have BK289 := n1_; have GW289 := n2_; have GE289 := n3_; clear n0_ n1_ n2_ n3_; clear hb hbox hg; have hcz24_0 : w23.cell? ⟨gb289, 0, none⟩ = some (.string a0_0) := (blk_cell BK289.out 0).trans rfl; have hcz24_1 : w23.cell? ⟨gb289, 1, none⟩ = some (.string a0_1) := (blk_cell BK289.out 1).trans rfl; have hcz24_2 : w23.cell? ⟨gb289, 2, none⟩ = some (.int .i64 a0_2) := (blk_cell BK289.out 2).trans rfl; have hfz24_0 := blk_frozen BK289.out 0; have hfz24_1 := blk_frozen BK289.out 1; have hfz24_2 := blk_frozen BK289.out 2))
       go_ret
       exact ⟨by first | rfl | (simp [errW_none, errW_some] <;> rfl) | (simp [*, errW_none, errW_some] <;> rfl) | (simp [errW_none, errW_some]; exact Go.Proofs.YtlabfjaddgakkaaGreatW.OwnWords.isEmpty_bne _), bSt_⟩
     ·rw [if_neg c18] at H
      have c18b0 : (a0_0.toList == ([99, 104, 97, 114] : List UInt8)) = false := beq_eq_false_iff_ne.mpr c18
      have c18b1 : (a0_0.toList != ([99, 104, 97, 114] : List UInt8)) = true := bne_iff_ne.mpr c18
      by_cases c25 : a0_0.toList = ([107, 101, 121] : List UInt8)
      ·rw [if_pos c25] at H
       have c25b0 : (a0_0.toList == ([107, 101, 121] : List UInt8)) = true := beq_iff_eq.mpr c25
       have c25b1 : (a0_0.toList != ([107, 101, 121] : List UInt8)) = false := bne_eq_false_iff_eq.mpr c25
       clear c25
       replace H := Option.bind_eq_some_iff.mp H
       obtain ⟨t295, A260, H⟩ := H
       replace H : (some t295) = some r := H
       have A26 := Aside0.mk A260
       clear A260
       obtain rfl := Option.some.inj H
       go_enter Tryz.func61, Tryz.ntmps61
       go_wp2_with (first | ((with_reducible refine gate_dst (N := 1) rfl ?_); refine box_event ?hg (N := 1) ?hd (cs := #[.string a0_0, .string a0_1, .int .i64 a0_2]) (t := 59) ?hr ?_; (case hd => rfl); (case hg => rfl); (case hr => first | (go_simp; done) | (go_simp; rfl)); intro gb289 hg w27 hbox hb; have n0_ := Aside0.mk (below_step bSt_ hb); have n1_ := Aside0.mk (hbox); have n2_ := Aside0.mk ((by rw [hg]; exact (below_size bSt_) : w.heap.size ≤ gb289)); have n3_ := Aside0.mk ((by rw [hg]; exact (below_size bSt_) : w.heap.size ≤ gb289)); clear HB; have HB := n0_; have BK289 := n1_; have GW289 := n2_; have GE289 := n3_; clear n0_ n1_ n2_ n3_; clear hb hbox hg; have hcz28_0 : w27.cell? ⟨gb289, 0, none⟩ = some (.string a0_0) := (blk_cell BK289.out 0).trans rfl; have hcz28_1 : w27.cell? ⟨gb289, 1, none⟩ = some (.string a0_1) := (blk_cell BK289.out 1).trans rfl; have hcz28_2 : w27.cell? ⟨gb289, 2, none⟩ = some (.int .i64 a0_2) := (blk_cell BK289.out 2).trans rfl; have hfz28_0 := blk_frozen BK289.out 0; have hfz28_1 := blk_frozen BK289.out 1; have hfz28_2 := blk_frozen BK289.out 2) | ((with_reducible refine gate_callee (f := 105) rfl ?_); refine goesL_ (some 40) rfl rfl Tryz.func105 (by kernel_rfl) rfl #[.string a0_1] rfl (by (try simp only [List.map_toArray, List.map_cons, List.map_nil]); first | done | rfl | (simp only [List.length_drop, List.length_take]; rfl)) ?_; (with_reducible refine (manystrandref01_IsKey.calls k a0_1 t295 _ A26.out).mono ?_); rintro e w' ⟨rfl, ⟨nd, rfl⟩⟩; refine ⟨_, rfl, ?_⟩))
       go_ret
       exact ⟨by first | rfl | (simp [errW_none, errW_some] <;> rfl) | (simp [*, errW_none, errW_some] <;> rfl) | (simp [errW_none, errW_some]; exact Go.Proofs.YtlabfjaddgakkaaGreatW.OwnWords.isEmpty_bne _), bSt_⟩
      ·rw [if_neg c25] at H
       have c25b0 : (a0_0.toList == ([107, 101, 121] : List UInt8)) = false := beq_eq_false_iff_ne.mpr c25
       have c25b1 : (a0_0.toList != ([107, 101, 121] : List UInt8)) = true := bne_iff_ne.mpr c25
       by_cases c29 : a0_0.toList = ([115, 105, 103, 110] : List UInt8)
       ·rw [if_pos c29] at H
        have c29b0 : (a0_0.toList == ([115, 105, 103, 110] : List UInt8)) = true := beq_iff_eq.mpr c29
        have c29b1 : (a0_0.toList != ([115, 105, 103, 110] : List UInt8)) = false := bne_eq_false_iff_eq.mpr c29
        clear c29
        replace H := Option.bind_eq_some_iff.mp H
        obtain ⟨t296, A300, H⟩ := H
        replace H : (some t296) = some r := H
        have A30 := Aside0.mk A300
        clear A300
        obtain rfl := Option.some.inj H
        go_enter Tryz.func61, Tryz.ntmps61
        go_wp2_with (first | ((with_reducible refine gate_dst (N := 1) rfl ?_); refine box_event ?hg (N := 1) ?hd (cs := #[.string a0_0, .string a0_1, .int .i64 a0_2]) (t := 59) ?hr ?_; (case hd => rfl); (case hg => rfl); (case hr => first | (go_simp; done) | (go_simp; rfl)); intro gb289 hg w31 hbox hb; have n0_ := Aside0.mk (below_step bSt_ hb); have n1_ := Aside0.mk (hbox); have n2_ := Aside0.mk ((by rw [hg]; exact (below_size bSt_) : w.heap.size ≤ gb289)); have n3_ := Aside0.mk ((by rw [hg]; exact (below_size bSt_) : w.heap.size ≤ gb289)); clear HB; have HB := n0_; have BK289 := n1_; have GW289 := n2_; have GE289 := n3_; clear n0_ n1_ n2_ n3_; clear hb hbox hg; have hcz32_0 : w31.cell? ⟨gb289, 0, none⟩ = some (.string a0_0) := (blk_cell BK289.out 0).trans rfl; have hcz32_1 : w31.cell? ⟨gb289, 1, none⟩ = some (.string a0_1) := (blk_cell BK289.out 1).trans rfl; have hcz32_2 : w31.cell? ⟨gb289, 2, none⟩ = some (.int .i64 a0_2) := (blk_cell BK289.out 2).trans rfl; have hfz32_0 := blk_frozen BK289.out 0; have hfz32_1 := blk_frozen BK289.out 1; have hfz32_2 := blk_frozen BK289.out 2) | ((with_reducible refine gate_callee (f := 106) rfl ?_); refine goesL_ (some 45) rfl rfl Tryz.func106 (by kernel_rfl) rfl #[.string a0_1] rfl (by (try simp only [List.map_toArray, List.map_cons, List.map_nil]); first | done | rfl | (simp only [List.length_drop, List.length_take]; rfl)) ?_; (with_reducible refine (manystrandref01_IsSign.calls k a0_1 t296 _ A30.out).mono ?_); rintro e w' ⟨rfl, ⟨nd, rfl⟩⟩; refine ⟨_, rfl, ?_⟩))
        go_ret
        exact ⟨by first | rfl | (simp [errW_none, errW_some] <;> rfl) | (simp [*, errW_none, errW_some] <;> rfl) | (simp [errW_none, errW_some]; exact Go.Proofs.YtlabfjaddgakkaaGreatW.OwnWords.isEmpty_bne _), bSt_⟩
       ·rw [if_neg c29] at H
        have c29b0 : (a0_0.toList == ([115, 105, 103, 110] : List UInt8)) = false := beq_eq_false_iff_ne.mpr c29
        have c29b1 : (a0_0.toList != ([115, 105, 103, 110] : List UInt8)) = true := bne_iff_ne.mpr c29
        obtain rfl := Option.some.inj H
        go_enter Tryz.func61, Tryz.ntmps61
        go_wp2_with (first | ((with_reducible refine gate_dst (N := 1) rfl ?_); refine box_event ?hg (N := 1) ?hd (cs := #[.string a0_0, .string a0_1, .int .i64 a0_2]) (t := 59) ?hr ?_; (case hd => rfl); (case hg => rfl); (case hr => first | (go_simp; done) | (go_simp; rfl)); intro gb289 hg w33 hbox hb; have n0_ := Aside0.mk (below_step bSt_ hb); have n1_ := Aside0.mk (hbox); have n2_ := Aside0.mk ((by rw [hg]; exact (below_size bSt_) : w.heap.size ≤ gb289)); have n3_ := Aside0.mk ((by rw [hg]; exact (below_size bSt_) : w.heap.size ≤ gb289)); clear HB; have HB := n0_; have BK289 := n1_; have GW289 := n2_; have GE289 := n3_; clear n0_ n1_ n2_ n3_; clear hb hbox hg; have hcz34_0 : w33.cell? ⟨gb289, 0, none⟩ = some (.string a0_0) := (blk_cell BK289.out 0).trans rfl; have hcz34_1 : w33.cell? ⟨gb289, 1, none⟩ = some (.string a0_1) := (blk_cell BK289.out 1).trans rfl; have hcz34_2 : w33.cell? ⟨gb289, 2, none⟩ = some (.int .i64 a0_2) := (blk_cell BK289.out 2).trans rfl; have hfz34_0 := blk_frozen BK289.out 0; have hfz34_1 := blk_frozen BK289.out 1; have hfz34_2 := blk_frozen BK289.out 2))
        go_ret
        exact ⟨by first | rfl | (simp [errW_none, errW_some] <;> rfl) | (simp [*, errW_none, errW_some] <;> rfl) | (simp [errW_none, errW_some]; exact Go.Proofs.YtlabfjaddgakkaaGreatW.OwnWords.isEmpty_bne _), bSt_⟩

end Go.Proofs.YtlabfjaddgakkaaGreat.Q
end
section
namespace Go.Proofs.YtlabfjaddgakkaaGreat.Q
open Go.RowKit Go.Proofs.YtlabfjaddgakkaaGreatW.PrintWords Go.Proofs.YtlabfjaddgakkaaGreatW.PrintLast Go.Proofs.YtlabfjaddgakkaaGreatW.PrintMore Go.Proofs.YtlabfjaddgakkaaGreatW.OwnWords
attribute [local go_sem] Go.Proofs.YtlabfjaddgakkaaGreatW.OwnWords.isSome_setCell max2_int min2_int max_two min_two max_three min_three max_four min_four
set_option linter.unusedVariables false
set_option linter.unusedSimpArgs false

/-! ### manystrandref02_IsAtom: function 36 -/
def manystrandref02_IsAtom.f (k : Nat) (a0 : ByteArray) : Option (Bool) := (manystrandref01_Valid.f k (⟨#[97, 116, 111, 109]⟩ : ByteArray) a0 0).bind fun t297 => (some t297)
theorem manystrandref02_IsAtom.mono : ∀ a0 k, LeO (manystrandref02_IsAtom.f k a0) (manystrandref02_IsAtom.f (k + 1) a0) := by
 intro a0 k
 unfold manystrandref02_IsAtom.f
 repeat' first
   | (with_reducible exact manystrandref01_Valid.mono _ _ _ _)
   | (with_reducible exact LeO.refl _)
   | (with_reducible exact LeO.none _)
   | (with_reducible refine LeO.ite ?_ ?_)
   | (with_reducible refine LeO.bind ?_ (fun _ => ?_))
   | exact manystrandref01_Valid.mono _ _ _ _
   | exact LeO.none _
   | refine LeO.ite ?_ ?_
   | refine LeO.bind ?_ (fun _ => ?_)
set_option maxHeartbeats 8000000 in
set_option maxRecDepth 100000 in
theorem manystrandref02_IsAtom.calls (k : Nat) (a0 : ByteArray) (r : Bool) (w : World) (h : manystrandref02_IsAtom.f k a0 = some r) :
  Calls Tryz.prog 36 #[.string a0] w fun e w' => e = .returned (.bool r) ∧ Below w.heap.size w w' := by
 have hu59 := Tryz.underlying59
 have HB := Aside0.mk (Below.refl w.heap.size w)
 have H : ((manystrandref01_Valid.f k (⟨#[97, 116, 111, 109]⟩ : ByteArray) a0 0).bind fun t297 => (some t297)) = some r := h
 clear h
 replace H := Option.bind_eq_some_iff.mp H
 obtain ⟨t297, A20, H⟩ := H
 replace H : (some t297) = some r := H
 have A2 := Aside0.mk A20
 clear A20
 obtain rfl := Option.some.inj H
 go_enter Tryz.func36, Tryz.ntmps36
 go_wp2_with (first | ((with_reducible refine gate_callee (f := 61) rfl ?_); refine goesL_ (some 5) rfl rfl Tryz.func61 (by kernel_rfl) rfl #[.agg #[.string (⟨#[97, 116, 111, 109]⟩ : ByteArray), .string a0, .int .i64 0]] rfl (by (try simp only [List.map_toArray, List.map_cons, List.map_nil]); first | done | rfl | (simp only [List.length_drop, List.length_take]; rfl)) ?_; (with_reducible refine (manystrandref01_Valid.calls k (⟨#[97, 116, 111, 109]⟩ : ByteArray) a0 0 t297 _ A2.out).mono ?_); rintro e w3 ⟨rfl, hb⟩; refine ⟨_, rfl, ?_⟩; have n0_ := Aside0.mk (below_step bSt_ hb); clear HB; have HB := n0_; clear n0_; (try clear hb); (try clear hb2); (try clear hk); (try clear hi)))
 go_ret
 exact ⟨by first | rfl | (simp [errW_none, errW_some] <;> rfl) | (simp [*, errW_none, errW_some] <;> rfl) | (simp [errW_none, errW_some]; exact Go.Proofs.YtlabfjaddgakkaaGreatW.OwnWords.isEmpty_bne _), bSt_⟩

end Go.Proofs.YtlabfjaddgakkaaGreat.Q
end
section
namespace Go.Proofs.YtlabfjaddgakkaaGreat.Q
open Go.RowKit Go.Proofs.YtlabfjaddgakkaaGreatW.PrintWords Go.Proofs.YtlabfjaddgakkaaGreatW.PrintLast Go.Proofs.YtlabfjaddgakkaaGreatW.PrintMore Go.Proofs.YtlabfjaddgakkaaGreatW.OwnWords
attribute [local go_sem] Go.Proofs.YtlabfjaddgakkaaGreatW.OwnWords.isSome_setCell max2_int min2_int max_two min_two max_three min_three max_four min_four
set_option linter.unusedVariables false
set_option linter.unusedSimpArgs false

/-! ### manystrandref02_IsFeat: function 9 -/
def manystrandref02_IsFeat.f (k : Nat) (a0_0 : Int) (a0_1 : ByteArray) : Option (Bool) := if a0_0 = 0 then ((manystrandref02_IsAtom.f k a0_1).bind fun t299 => (if t299 = true then (some true) else (if a0_0 ≥ 1 then (if a0_0 ≤ 1000 then (some (a0_1.toList == ([] : List UInt8))) else (some false)) else (some false)))) else (if a0_0 ≥ 1 then (if a0_0 ≤ 1000 then (some (a0_1.toList == ([] : List UInt8))) else (some false)) else (some false))
theorem manystrandref02_IsFeat.mono : ∀ a0 a1 k, LeO (manystrandref02_IsFeat.f k a0 a1) (manystrandref02_IsFeat.f (k + 1) a0 a1) := by
 intro a0 a1 k
 unfold manystrandref02_IsFeat.f
 repeat' first
   | (with_reducible exact manystrandref02_IsAtom.mono _ _)
   | (with_reducible exact LeO.refl _)
   | (with_reducible exact LeO.none _)
   | (with_reducible refine LeO.ite ?_ ?_)
   | (with_reducible refine LeO.bind ?_ (fun _ => ?_))
   | exact manystrandref02_IsAtom.mono _ _
   | exact LeO.none _
   | refine LeO.ite ?_ ?_
   | refine LeO.bind ?_ (fun _ => ?_)
set_option maxHeartbeats 8000000 in
set_option maxRecDepth 100000 in
theorem manystrandref02_IsFeat.calls (k : Nat) (a0_0 : Int) (a0_1 : ByteArray) (r : Bool) (w : World) (h : manystrandref02_IsFeat.f k a0_0 a0_1 = some r) :
  Calls Tryz.prog 9 #[.agg #[.int .i64 a0_0, .string a0_1]] w fun e w' => e = .returned (.bool r) ∧ Below w.heap.size w w' := by
 have hu23 := Tryz.underlying23
 have HB := Aside0.mk (Below.refl w.heap.size w)
 have H : (if a0_0 = 0 then ((manystrandref02_IsAtom.f k a0_1).bind fun t299 => (if t299 = true then (some true) else (if a0_0 ≥ 1 then (if a0_0 ≤ 1000 then (some (a0_1.toList == ([] : List UInt8))) else (some false)) else (some false)))) else (if a0_0 ≥ 1 then (if a0_0 ≤ 1000 then (some (a0_1.toList == ([] : List UInt8))) else (some false)) else (some false))) = some r := h
 clear h
 by_cases c2 : a0_0 = 0
 ·rw [if_pos c2] at H
  have c2b0 : (a0_0 == 0) = true := beq_iff_eq.mpr c2
  have c2b1 : (a0_0 != 0) = false := bne_eq_false_iff_eq.mpr c2
  clear c2
  replace H := Option.bind_eq_some_iff.mp H
  obtain ⟨t299, A30, H⟩ := H
  replace H : (if t299 = true then (some true) else (if a0_0 ≥ 1 then (if a0_0 ≤ 1000 then (some (a0_1.toList == ([] : List UInt8))) else (some false)) else (some false))) = some r := H
  have A3 := Aside0.mk A30
  clear A30
  by_cases c4 : t299 = true
  ·subst c4
   have H1 : (some true) = some r := by rw [if_pos rfl] at H; exact H
   clear H
   have H := H1
   clear H1
   obtain rfl := Option.some.inj H
   go_enter Tryz.func9, Tryz.ntmps9
   go_wp2_with (first | ((with_reducible refine gate_dst (N := 1) rfl ?_); refine box_event ?hg (N := 1) ?hd (cs := #[.int .i64 a0_0, .string a0_1]) (t := 23) ?hr ?_; (case hd => rfl); (case hg => rfl); (case hr => first | (go_simp; done) | (go_simp; rfl)); intro gb298 hg w5 hbox hb; have n0_ := Aside0.mk (below_step bSt_ hb); have n1_ := Aside0.mk (hbox); have n2_ := Aside0.mk ((by rw [hg]; exact (below_size bSt_) : w.heap.size ≤ gb298)); have n3_ := Aside0.mk ((by rw [hg]; exact (below_size bSt_) : w.heap.size ≤ gb298)); clear HB; have HB := n0_; have BK298 := n1_; have GW298 := n2_; have GE298 := n3_; clear n0_ n1_ n2_ n3_; clear hb hbox hg; have hcz6_0 : w5.cell? ⟨gb298, 0, none⟩ = some (.int .i64 a0_0) := (blk_cell BK298.out 0).trans rfl; have hcz6_1 : w5.cell? ⟨gb298, 1, none⟩ = some (.string a0_1) := (blk_cell BK298.out 1).trans rfl; have hfz6_0 := blk_frozen BK298.out 0; have hfz6_1 := blk_frozen BK298.out 1) | (go_at_call 36; (with_reducible refine (manystrandref02_IsAtom.calls k a0_1 true _ A3.out).mono ?_); rintro e w7 ⟨rfl, hb⟩; have n0_ := Aside0.mk (blk_below (bKq_ BK298.out) hb); have n1_ := Aside0.mk (below_step bSt_ hb); clear BK298; clear HB; have BK298 := n0_; have HB := n1_; clear n0_ n1_; (try clear hb); (try clear hb2); (try clear hk); (try clear hi)))
   go_ret
   exact ⟨by first | rfl | (simp [errW_none, errW_some] <;> rfl) | (simp [*, errW_none, errW_some] <;> rfl) | (simp [errW_none, errW_some]; exact Go.Proofs.YtlabfjaddgakkaaGreatW.OwnWords.isEmpty_bne _), bSt_⟩
  ·replace c4 := Bool.eq_false_iff.mpr c4
   subst c4
   have H1 : (if a0_0 ≥ 1 then (if a0_0 ≤ 1000 then (some (a0_1.toList == ([] : List UInt8))) else (some false)) else (some false)) = some r := by rw [if_neg (show ¬ (false = true) by decide)] at H; exact H
   clear H
   have H := H1
   clear H1
   by_cases c8 : a0_0 ≥ 1
   ·rw [if_pos c8] at H
    have c8b0 : decide (1 ≤ a0_0) = true := decide_eq_true c8
    clear c8
    by_cases c9 : a0_0 ≤ 1000
    ·rw [if_pos c9] at H
     have c9b0 : decide (a0_0 ≤ 1000) = true := decide_eq_true c9
     clear c9
     obtain rfl := Option.some.inj H
     go_enter Tryz.func9, Tryz.ntmps9
     go_wp2_with (first | ((with_reducible refine gate_dst (N := 1) rfl ?_); refine box_event ?hg (N := 1) ?hd (cs := #[.int .i64 a0_0, .string a0_1]) (t := 23) ?hr ?_; (case hd => rfl); (case hg => rfl); (case hr => first | (go_simp; done) | (go_simp; rfl)); intro gb298 hg w10 hbox hb; have n0_ := Aside0.mk (below_step bSt_ hb); have n1_ := Aside0.mk (hbox); have n2_ := Aside0.mk ((by rw [hg]; exact (below_size bSt_) : w.heap.size ≤ gb298)); have n3_ := Aside0.mk ((by rw [hg]; exact (below_size bSt_) : w.heap.size ≤ gb298)); clear HB; have HB := n0_; have BK298 := n1_; have GW298 := n2_; have GE298 := n3_; clear n0_ n1_ n2_ n3_; clear hb hbox hg; have hcz11_0 : w10.cell? ⟨gb298, 0, none⟩ = some (.int .i64 a0_0) := (blk_cell BK298.out 0).trans rfl; have hcz11_1 : w10.cell? ⟨gb298, 1, none⟩ = some (.string a0_1) := (blk_cell BK298.out 1).trans rfl; have hfz11_0 := blk_frozen BK298.out 0; have hfz11_1 := blk_frozen BK298.out 1) | (go_at_call 36; (with_reducible refine (manystrandref02_IsAtom.calls k a0_1 false _ A3.out).mono ?_); rintro e w12 ⟨rfl, hb⟩; have n0_ := Aside0.mk (blk_below (bKq_ BK298.out) hb); have n1_ := Aside0.mk (below_step bSt_ hb); clear BK298; clear HB; have BK298 := n0_; have HB := n1_; clear n0_ n1_; (try clear hb); (try clear hb2); (try clear hk); (try clear hi); have hcz13_0 : w12.cell? ⟨gb298, 0, none⟩ = some (.int .i64 a0_0) := (blk_cell BK298.out 0).trans rfl; have hcz13_1 : w12.cell? ⟨gb298, 1, none⟩ = some (.string a0_1) := (blk_cell BK298.out 1).trans rfl; have hfz13_0 := blk_frozen BK298.out 0; have hfz13_1 := blk_frozen BK298.out 1))
     go_ret
     exact ⟨by first | rfl | (simp [errW_none, errW_some] <;> rfl) | (simp [*, errW_none, errW_some] <;> rfl) | (simp [errW_none, errW_some]; exact Go.Proofs.YtlabfjaddgakkaaGreatW.OwnWords.isEmpty_bne _), bSt_⟩
    ·rw [if_neg c9] at H
     have c9b0 : decide (a0_0 ≤ 1000) = false := decide_eq_false c9
     clear c9
     obtain rfl := Option.some.inj H
     go_enter Tryz.func9, Tryz.ntmps9
     go_wp2_with (first | ((with_reducible refine gate_dst (N := 1) rfl ?_); refine box_event ?hg (N := 1) ?hd (cs := #[.int .i64 a0_0, .string a0_1]) (t := 23) ?hr ?_; (case hd => rfl); (case hg => rfl); (case hr => first | (go_simp; done) | (go_simp; rfl)); intro gb298 hg w14 hbox hb; have n0_ := Aside0.mk (below_step bSt_ hb); have n1_ := Aside0.mk (hbox); have n2_ := Aside0.mk ((by rw [hg]; exact (below_size bSt_) : w.heap.size ≤ gb298)); have n3_ := Aside0.mk ((by rw [hg]; exact (below_size bSt_) : w.heap.size ≤ gb298)); clear HB; have HB := n0_; have BK298 := n1_; have GW298 := n2_; have GE298 := n3_; clear n0_ n1_ n2_ n3_; clear hb hbox hg; have hcz15_0 : w14.cell? ⟨gb298, 0, none⟩ = some (.int .i64 a0_0) := (blk_cell BK298.out 0).trans rfl; have hcz15_1 : w14.cell? ⟨gb298, 1, none⟩ = some (.string a0_1) := (blk_cell BK298.out 1).trans rfl; have hfz15_0 := blk_frozen BK298.out 0; have hfz15_1 := blk_frozen BK298.out 1) | (go_at_call 36; (with_reducible refine (manystrandref02_IsAtom.calls k a0_1 false _ A3.out).mono ?_); rintro e w16 ⟨rfl, hb⟩; have n0_ := Aside0.mk (blk_below (bKq_ BK298.out) hb); have n1_ := Aside0.mk (below_step bSt_ hb); clear BK298; clear HB; have BK298 := n0_; have HB := n1_; clear n0_ n1_; (try clear hb); (try clear hb2); (try clear hk); (try clear hi); have hcz17_0 : w16.cell? ⟨gb298, 0, none⟩ = some (.int .i64 a0_0) := (blk_cell BK298.out 0).trans rfl; have hcz17_1 : w16.cell? ⟨gb298, 1, none⟩ = some (.string a0_1) := (blk_cell BK298.out 1).trans rfl; have hfz17_0 := blk_frozen BK298.out 0; have hfz17_1 := blk_frozen BK298.out 1))
     go_ret
     exact ⟨by first | rfl | (simp [errW_none, errW_some] <;> rfl) | (simp [*, errW_none, errW_some] <;> rfl) | (simp [errW_none, errW_some]; exact Go.Proofs.YtlabfjaddgakkaaGreatW.OwnWords.isEmpty_bne _), bSt_⟩
   ·rw [if_neg c8] at H
    have c8b0 : decide (1 ≤ a0_0) = false := decide_eq_false c8
    clear c8
    obtain rfl := Option.some.inj H
    go_enter Tryz.func9, Tryz.ntmps9
    go_wp2_with (first | ((with_reducible refine gate_dst (N := 1) rfl ?_); refine box_event ?hg (N := 1) ?hd (cs := #[.int .i64 a0_0, .string a0_1]) (t := 23) ?hr ?_; (case hd => rfl); (case hg => rfl); (case hr => first | (go_simp; done) | (go_simp; rfl)); intro gb298 hg w18 hbox hb; have n0_ := Aside0.mk (below_step bSt_ hb); have n1_ := Aside0.mk (hbox); have n2_ := Aside0.mk ((by rw [hg]; exact (below_size bSt_) : w.heap.size ≤ gb298)); have n3_ := Aside0.mk ((by rw [hg]; exact (below_size bSt_) : w.heap.size ≤ gb298)); clear HB; have HB := n0_; have BK298 := n1_; have GW298 := n2_; have GE298 := n3_; clear n0_ n1_ n2_ n3_; clear hb hbox hg; have hcz19_0 : w18.cell? ⟨gb298, 0, none⟩ = some (.int .i64 a0_0) := (blk_cell BK298.out 0).trans rfl; have hcz19_1 : w18.cell? ⟨gb298, 1, none⟩ = some (.string a0_1) := (blk_cell BK298.out 1).trans rfl; have hfz19_0 := blk_frozen BK298.out 0; have hfz19_1 := blk_frozen BK298.out 1) | (go_at_call 36; (with_reducible refine (manystrandref02_IsAtom.calls k a0_1 false _ A3.out).mono ?_); rintro e w20 ⟨rfl, hb⟩; have n0_ := Aside0.mk (blk_below (bKq_ BK298.out) hb); have n1_ := Aside0.mk (below_step bSt_ hb); clear BK298; clear HB; have BK298 := n0_; have HB := n1_; clear n0_ n1_; (try clear hb); (try clear hb2); (try clear hk); (try clear hi); have hcz21_0 : w20.cell? ⟨gb298, 0, none⟩ = some (.int .i64 a0_0) := (blk_cell BK298.out 0).trans rfl; have hcz21_1 : w20.cell? ⟨gb298, 1, none⟩ = some (.string a0_1) := (blk_cell BK298.out 1).trans rfl; have hfz21_0 := blk_frozen BK298.out 0; have hfz21_1 := blk_frozen BK298.out 1))
    go_ret
    exact ⟨by first | rfl | (simp [errW_none, errW_some] <;> rfl) | (simp [*, errW_none, errW_some] <;> rfl) | (simp [errW_none, errW_some]; exact Go.Proofs.YtlabfjaddgakkaaGreatW.OwnWords.isEmpty_bne _), bSt_⟩
 ·rw [if_neg c2] at H
  have c2b0 : (a0_0 == 0) = false := beq_eq_false_iff_ne.mpr c2
  have c2b1 : (a0_0 != 0) = true := bne_iff_ne.mpr c2
  by_cases c22 : a0_0 ≥ 1
  ·rw [if_pos c22] at H
   have c22b0 : decide (1 ≤ a0_0) = true := decide_eq_true c22
   clear c22
   by_cases c23 : a0_0 ≤ 1000
   ·rw [if_pos c23] at H
    have c23b0 : decide (a0_0 ≤ 1000) = true := decide_eq_true c23
    clear c23
    obtain rfl := Option.some.inj H
    go_enter Tryz.func9, Tryz.ntmps9
    go_wp2_with (first | ((with_reducible refine gate_dst (N := 1) rfl ?_); refine box_event ?hg (N := 1) ?hd (cs := #[.int .i64 a0_0, .string a0_1]) (t := 23) ?hr ?_; (case hd => rfl); (case hg => rfl); (case hr => first | (go_simp; done) | (go_simp; rfl)); intro gb298 hg w24 hbox hb; have n0_ := Aside0.mk (below_step bSt_ hb); have n1_ := Aside0.mk (hbox); have n2_ := Aside0.mk ((by rw [hg]; exact (below_size bSt_) : w.heap.size ≤ gb298)); have n3_ := Aside0.mk ((by rw [hg]; exact (below_size bSt_) : w.heap.size ≤ gb298)); clear HB; have HB := n0_; have BK298 := n1_; have GW298 := n2_; have GE298 := n3_; clear n0_ n1_ n2_ n3_; clear hb hbox hg; have hcz25_0 : w24.cell? ⟨gb298, 0, none⟩ = some (.int .i64 a0_0) := (blk_cell BK298.out 0).trans rfl; have hcz25_1 : w24.cell? ⟨gb298, 1, none⟩ = some (.string a0_1) := (blk_cell BK298.out 1).trans rfl; have hfz25_0 := blk_frozen BK298.out 0; have hfz25_1 := blk_frozen BK298.out 1))
    go_ret
    exact ⟨by first | rfl | (simp [errW_none, errW_some] <;> rfl) | (simp [*, errW_none, errW_some] <;> rfl) | (simp [errW_none, errW_some]; exact Go.Proofs.YtlabfjaddgakkaaGreatW.OwnWords.isEmpty_bne _), bSt_⟩
   ·rw [if_neg c23] at H
    have c23b0 : decide (a0_0 ≤ 1000) = false := decide_eq_false c23
    clear c23
    obtain rfl := Option.some.inj H
    go_enter Tryz.func9, Tryz.ntmps9
    go_wp2_with (first | ((with_reducible refine gate_dst (N := 1) rfl ?_); refine box_event ?hg (N := 1) ?hd (cs := #[.int .i64 a0_0, .string a0_1]) (t := 23) ?hr ?_; (case hd => rfl); (case hg => rfl); (case hr => first | (go_simp; done) | (go_simp; rfl)); intro gb298 hg w26 hbox hb; have n0_ := Aside0.mk (below_step bSt_ hb); have n1_ := Aside0.mk (hbox); have n2_ := Aside0.mk ((by rw [hg]; exact (below_size bSt_) : w.heap.size ≤ gb298)); have n3_ := Aside0.mk ((by rw [hg]; exact (below_size bSt_) : w.heap.size ≤ gb298)); clear HB; have HB := n0_; have BK298 := n1_; have GW298 := n2_; have GE298 := n3_; clear n0_ n1_ n2_ n3_; clear hb hbox hg; have hcz27_0 : w26.cell? ⟨gb298, 0, none⟩ = some (.int .i64 a0_0) := (blk_cell BK298.out 0).trans rfl; have hcz27_1 : w26.cell? ⟨gb298, 1, none⟩ = some (.string a0_1) := (blk_cell BK298.out 1).trans rfl; have hfz27_0 := blk_frozen BK298.out 0; have hfz27_1 := blk_frozen BK298.out 1))
    go_ret
    exact ⟨by first | rfl | (simp [errW_none, errW_some] <;> rfl) | (simp [*, errW_none, errW_some] <;> rfl) | (simp [errW_none, errW_some]; exact Go.Proofs.YtlabfjaddgakkaaGreatW.OwnWords.isEmpty_bne _), bSt_⟩
  ·rw [if_neg c22] at H
   have c22b0 : decide (1 ≤ a0_0) = false := decide_eq_false c22
   clear c22
   obtain rfl := Option.some.inj H
   go_enter Tryz.func9, Tryz.ntmps9
   go_wp2_with (first | ((with_reducible refine gate_dst (N := 1) rfl ?_); refine box_event ?hg (N := 1) ?hd (cs := #[.int .i64 a0_0, .string a0_1]) (t := 23) ?hr ?_; (case hd => rfl); (case hg => rfl); (case hr => first | (go_simp; done) | (go_simp; rfl)); intro gb298 hg w28 hbox hb; have n0_ := Aside0.mk (below_step bSt_ hb); have n1_ := Aside0.mk (hbox); have n2_ := Aside0.mk ((by rw [hg]; exact (below_size bSt_) : w.heap.size ≤ gb298)); have n3_ := Aside0.mk ((by rw [hg]; exact (below_size bSt_) : w.heap.size ≤ gb298)); clear HB; have HB := n0_; have BK298 := n1_; have GW298 := n2_; have GE298 := n3_; clear n0_ n1_ n2_ n3_; clear hb hbox hg; have hcz29_0 : w28.cell? ⟨gb298, 0, none⟩ = some (.int .i64 a0_0) := (blk_cell BK298.out 0).trans rfl; have hcz29_1 : w28.cell? ⟨gb298, 1, none⟩ = some (.string a0_1) := (blk_cell BK298.out 1).trans rfl; have hfz29_0 := blk_frozen BK298.out 0; have hfz29_1 := blk_frozen BK298.out 1))
   go_ret
   exact ⟨by first | rfl | (simp [errW_none, errW_some] <;> rfl) | (simp [*, errW_none, errW_some] <;> rfl) | (simp [errW_none, errW_some]; exact Go.Proofs.YtlabfjaddgakkaaGreatW.OwnWords.isEmpty_bne _), bSt_⟩

end Go.Proofs.YtlabfjaddgakkaaGreat.Q
end
section
/-! What the program and the reference say of an atom's text. -/
namespace Go.Proofs.YtlabfjaddgakkaaGreat.Pure
set_option linter.unusedVariables false
set_option linter.unusedSimpArgs false
open Go.RowKit Go.Proofs.YtlabfjaddgakkaaGreatW.PrintWords Go.Proofs.YtlabfjaddgakkaaGreatW.PrintLast Go.Proofs.YtlabfjaddgakkaaGreatW.PrintMore Go.Proofs.YtlabfjaddgakkaaGreat.Q
def isUp (x : Int) : Bool := decide (65 ≤ x) && decide (x ≤ 90)
def isLo (x : Int) : Bool := decide (97 ≤ x) && decide (x ≤ 122)
def isDi (x : Int) : Bool := decide (48 ≤ x) && decide (x ≤ 57)
def isWo (x : Int) : Bool := isUp x || isLo x || isDi x || (x == 95)
def lo (c : UInt8) : Bool := isLo c.toNat
def wo (c : UInt8) : Bool := isWo c.toNat
theorem upper_eq (x : Int) : token_upper.f x = some (isUp x) := by
  unfold token_upper.f isUp; by_cases h : 65 ≤ x <;> simp [h]
theorem lower_eq (x : Int) : token_lower.f x = some (isLo x) := by
  unfold token_lower.f isLo; by_cases h : 97 ≤ x <;> simp [h]
theorem digit_eq (x : Int) : token_digit.f x = some (isDi x) := by
  unfold token_digit.f isDi; by_cases h : 48 ≤ x <;> simp [h]
theorem word_eq (x : Int) : token_word.f x = some (isWo x) := by
  unfold token_word.f isWo
  rw [upper_eq, lower_eq, digit_eq]
  cases isUp x <;> cases isLo x <;> cases isDi x <;> simp
def pr (c : UInt8) : Bool := (c.toNat : Int) == 10 || (decide (32 ≤ (c.toNat : Int)) && decide ((c.toNat : Int) ≤ 126))
def printS (s : By) (most : Nat) : Bool := s.all pr && decide (s.length ≤ most)
def escS (q : UInt8) : By → By
  | [] => []
  | c :: t => if c = q ∨ (c.toNat : Int) = 92 then 92 :: c :: escS q t else if (c.toNat : Int) = 10 then 92 :: 110 :: escS q t else c :: escS q t
def inQ (q : UInt8) (s : By) : By := q :: (escS q s ++ [q])
theorem pr_c (c : UInt8) : pr c = ((c.toNat : Int) == 10 || (decide (32 ≤ (c.toNat : Int)) && decide ((c.toNat : Int) ≤ 126))) := rfl
theorem words_eq {b : ByteArray} (hb : Fits b) : ∀ t, t <:+ L b → Ev (fun k => token_words.l0 k b (b.size : Int) (at_ b t)) (t.all wo)
  | [], _ => by
    refine Ev.step (fun k => by rw [token_words.l0]) ?_
    exact ev_neg (by rw [at_nil]; omega) (ev_now rfl)
  | c :: t, h => by
    refine Ev.step (fun k => by rw [token_words.l0]) ?_
    refine ev_pos (at_lt b c t) (ev_pos (at_nonneg h) (ev_pos (at_lt b c t) ?_))
    rw [bt_of h, at_succ hb h]
    refine ev_bind0 (word_eq _) ?_
    rw [List.all_cons]
    cases hd : wo c with
    | true =>
      refine ev_pos hd ?_
      rw [Bool.true_and]
      exact words_eq hb t (suf_tail h)
    | false => exact ev_neg (by show ¬ wo c = true; rw [hd]; simp) (ev_now rfl)
theorem words_all {b : ByteArray} (hb : Fits b) : Ev (fun k => token_words.f k b) ((L b).all wo) := by
  have h := words_eq hb (L b) (List.suffix_refl _)
  rw [at_all] at h
  exact h
theorem hd_bt {b : ByteArray} {c : UInt8} {t : By} (hx : L b = c :: t) : bt b 0 = (c.toNat : Int) ∧ 0 < b.size := by
  have hl := L_length b
  rw [hx] at hl
  have := bt_of (a := b) (c := c) (t := t) (by rw [hx]; exact List.suffix_refl _)
  rw [← hx, at_all] at this
  exact ⟨this, by simp at hl; omega⟩
theorem printed0_ev {b : ByteArray} (hb : Fits b) (most : Int) : ∀ t, t <:+ L b → Ev (fun k => token_printed.l0 k b most (b.size : Int) (at_ b t)) (t.all pr && decide ((b.size : Int) ≤ most))
  | [], _ => by
    refine Ev.step (fun k => by rw [token_printed.l0]) ?_
    exact ev_neg (by rw [at_nil]; omega) (ev_now rfl)
  | c :: t, h => by
    have ih := printed0_ev hb most t (suf_tail h)
    refine Ev.step (fun k => by rw [token_printed.l0]) ?_
    refine ev_pos (at_lt b c t) (ev_pos (at_nonneg h) (ev_pos (at_lt b c t) ?_))
    rw [bt_of h, at_succ hb h, List.all_cons, pr_c]
    by_cases h10 : (c.toNat : Int) = 10
    · refine ev_pos h10 ?_
      simpa [h10] using ih
    · refine ev_neg h10 ?_
      rw [beq_eq_false_iff_ne.mpr h10, Bool.false_or]
      by_cases h32 : (c.toNat : Int) < 32
      · rw [decide_eq_false (by omega : ¬ 32 ≤ (c.toNat : Int))]
        exact ev_pos h32 (ev_now rfl)
      · rw [decide_eq_true (by omega : 32 ≤ (c.toNat : Int)), Bool.true_and]
        refine ev_neg h32 ?_
        by_cases h126 : (c.toNat : Int) > 126
        · rw [decide_eq_false (by omega : ¬ (c.toNat : Int) ≤ 126)]
          exact ev_pos h126 (ev_now rfl)
        · rw [decide_eq_true (by omega : (c.toNat : Int) ≤ 126), Bool.true_and]
          exact ev_neg h126 ih
theorem printed_ev {b : ByteArray} (hb : Fits b) (most : Nat) : Ev (fun k => token_printed.f k b most) (printS (L b) most) := by
  have h := printed0_ev hb most (L b) (List.suffix_refl _)
  rw [at_all] at h
  have e : decide ((b.size : Int) ≤ (most : Int)) = decide ((L b).length ≤ most) := by rw [L_length, decide_eq_decide]; omega
  rw [e] at h
  exact h
theorem some_ite {α : Type} {c : Prop} [Decidable c] {x : α} {B : Option α} (h : ∃ v, B = some v) : ∃ v, (if c then some x else B) = some v := by
  by_cases hc : c
  · exact ⟨x, if_pos hc⟩
  · rw [if_neg hc]; exact h
theorem isKey_some (b : ByteArray) : ∃ v, token_isKey.f b = some v := by
  unfold token_isKey.f
  repeat (first | exact ⟨_, rfl⟩ | refine some_ite ?_)
theorem isPlain_some {b : ByteArray} (hb : Fits b) : ∃ v, Ev (fun k => token_IsPlain.f k b) v := by
  unfold token_IsPlain.f
  rw [toList_L]
  by_cases hn : L b = []
  · exact ⟨_, ev_pos hn (ev_now rfl)⟩
  · cases hx : L b with
    | nil => exact absurd hx hn
    | cons c t =>
      rw [hx] at hn
      obtain ⟨h0, hp⟩ := hd_bt hx
      by_cases h60 : (b.size : Int) ≤ 60
      · obtain ⟨v, hv⟩ := isKey_some b
        cases hlo : lo c with
        | true =>
          cases hw : (L b).all wo with
          | true =>
            refine ⟨!v, ev_neg hn (ev_pos h60 (ev_pos (by omega) ?_))⟩
            rw [h0]
            refine ev_bind0 (lower_eq _) (ev_pos hlo (Ev.bind (words_all hb) ?_))
            rw [hw]
            exact ev_pos rfl (ev_bind0 hv (ev_now rfl))
          | false =>
            refine ⟨false, ev_neg hn (ev_pos h60 (ev_pos (by omega) ?_))⟩
            rw [h0]
            refine ev_bind0 (lower_eq _) (ev_pos hlo (Ev.bind (words_all hb) ?_))
            rw [hw]
            exact ev_neg (by simp) (ev_now rfl)
        | false =>
          refine ⟨false, ev_neg hn (ev_pos h60 (ev_pos (by omega) ?_))⟩
          rw [h0]
          exact ev_bind0 (lower_eq _) (ev_neg (by show ¬ lo c = true; rw [hlo]; simp) (ev_now rfl))
      · exact ⟨_, ev_neg hn (ev_neg h60 (ev_now rfl))⟩
theorem escS_len (q : UInt8) : ∀ s : By, (escS q s).length ≤ 2 * s.length
  | [] => by simp [escS]
  | c :: s => by
    have := escS_len q s
    rw [escS]
    split
    · simp; omega
    · split
      · simp; omega
      · simp; omega
def nu (l : By) : List Int := l.map fun c => (c.toNat : Int)
theorem nu_app (l m : By) : nu (l ++ m) = nu l ++ nu m := List.map_append
theorem inQuotes0_ev {b : ByteArray} (hb : b.size ≤ 1000000) (q : UInt8) : ∀ (t acc : By), t <:+ L b → acc.length + 2 * t.length ≤ 4000000 → Ev (fun k => token_inQuotes.l0 k b q.toNat (nu acc) (b.size : Int) (at_ b t)) (ofL (acc ++ (escS q t ++ [q])))
  | [], acc, _, hl => by
    refine Ev.step (fun k => by rw [token_inQuotes.l0]) ?_
    refine ev_neg (by rw [at_nil]; omega) (ev_pos (by unfold nu; simp at hl ⊢; omega) (ev_now ?_))
    have := strOf (acc ++ [q])
    rw [List.map_append] at this
    exact this
  | c :: t, acc, h, hl => by
    have hf : Fits b := by unfold Fits; omega
    simp only [List.length_cons] at hl
    have hnl : (nu acc).length = acc.length := List.length_map _
    refine Ev.step (fun k => by rw [token_inQuotes.l0]) ?_
    refine ev_pos (at_lt b c t) (ev_pos (at_nonneg h) (ev_pos (at_lt b c t) ?_))
    rw [bt_of h]
    have hq : ((c.toNat : Int) = (q.toNat : Int)) ↔ c = q := by rw [Int.ofNat_inj, UInt8.toNat_inj]
    have j : Ev (fun k => token_inQuotes.j1 k b q.toNat (nu acc) c.toNat (b.size : Int) (at_ b (c :: t)) c.toNat (decide (c = q ∨ (c.toNat : Int) = 92))) (ofL (acc ++ (escS q (c :: t) ++ [q]))) := by
      refine Ev.step (fun k => by rw [token_inQuotes.j1]) ?_
      rw [at_succ hf h, escS]
      by_cases hc : c = q ∨ (c.toNat : Int) = 92
      · rw [if_pos hc]
        have ih := inQuotes0_ev hb q t (acc ++ [92, c]) (suf_tail h) (by simp; omega)
        have e : nu [92, c] = [92, (c.toNat : Int)] := rfl
        rw [nu_app, e] at ih
        refine ev_pos (decide_eq_true hc) ?_
        simp only [Option.bind_some]
        refine ev_pos (by rw [hnl]; show acc.length + 2 < _; omega) ?_
        simpa using ih
      · rw [if_neg hc]
        refine ev_neg (by simpa using hc) ?_
        by_cases h10 : (c.toNat : Int) = 10
        · rw [if_pos h10]
          have ih := inQuotes0_ev hb q t (acc ++ [92, 110]) (suf_tail h) (by simp; omega)
          have e : nu [92, 110] = [92, 110] := rfl
          rw [nu_app, e] at ih
          refine ev_pos h10 ?_
          simp only [Option.bind_some]
          refine ev_pos (by rw [hnl]; show acc.length + 2 < _; omega) ?_
          simpa using ih
        · rw [if_neg h10]
          have ih := inQuotes0_ev hb q t (acc ++ [c]) (suf_tail h) (by simp; omega)
          have e : nu [c] = [(c.toNat : Int)] := rfl
          rw [nu_app, e] at ih
          refine ev_neg h10 (ev_pos (by rw [hnl]; omega) ?_)
          simpa using ih
    by_cases hc : c = q
    · refine ev_pos (hq.2 hc) ?_
      have : ((c.toNat : Int) == (q.toNat : Int)) = decide (c = q ∨ (c.toNat : Int) = 92) := by simp [hc]
      rw [this]; exact j
    · refine ev_neg (fun e => hc (hq.1 e)) ?_
      have : ((c.toNat : Int) == 92) = decide (c = q ∨ (c.toNat : Int) = 92) := by
        simp only [hc, false_or]
        rfl
      rw [this]; exact j
theorem inQuotes_ev {b : ByteArray} (hb : b.size ≤ 1000000) (q : UInt8) : Ev (fun k => token_inQuotes.f k b q.toNat) (ofL (inQ q (L b))) := by
  have h := inQuotes0_ev hb q (L b) [q] (List.suffix_refl _) (by rw [L_length]; simp; omega)
  rw [at_all] at h
  exact h
abbrev kA : ByteArray := ⟨#[97, 116, 111, 109]⟩
theorem validA_ev {b : ByteArray} (hb : Fits b) : Ev (fun k => token_Valid.f k kA b 0) (printS (L b) 60) := by
  unfold token_Valid.f
  have e : kA.toList = [97, 116, 111, 109] := by rw [toList_L]; rfl
  rw [e]
  refine ev_neg (by decide) (ev_pos rfl ?_)
  refine Ev.step (fun k => by rw [token_Valid.j0]) ?_
  rw [e]
  exact ev_pos rfl (ev_neg (by decide) (Ev.bind (printed_ev hb 60) (ev_now rfl)))
theorem quoteA_ev {b : ByteArray} (hb : b.size ≤ 1000000) : ∃ s, Ev (fun k => token_Quote.f k b) (s, if printS (L b) 60 = true then 0 else 10) := by
  have hf : Fits b := by unfold Fits; omega
  obtain ⟨v, hv⟩ := isPlain_some hf
  have e : kA.toList = [97, 116, 111, 109] := by rw [toList_L]; rfl
  unfold token_Quote.f token_Text.f
  rw [e]
  by_cases hp : printS (L b) 60 = true
  · cases v with
    | true => exact ⟨b, Ev.bind (Ev.bind (validA_ev hf) (ev_pos hp (ev_pos rfl (Ev.bind hv (ev_pos rfl (ev_now rfl)))))) (ev_now (by rw [if_pos hp]))⟩
    | false => exact ⟨_, Ev.bind (Ev.bind (validA_ev hf) (ev_pos hp (ev_pos rfl (Ev.bind hv (ev_neg (by simp) (Ev.bind (inQuotes_ev hb 39) (ev_now rfl))))))) (ev_now (by rw [if_pos hp]))⟩
  · exact ⟨_, Ev.bind (Ev.bind (validA_ev hf) (ev_neg hp (ev_now rfl))) (ev_now (by rw [if_neg hp]))⟩
theorem isAtom_ev {b : ByteArray} (hb : b.size ≤ 1000000) : Ev (fun k => tree_isAtom.f k b) (printS (L b) 60) := by
  obtain ⟨s, hs⟩ := quoteA_ev hb
  unfold tree_isAtom.f
  refine Ev.bind hs (ev_now ?_)
  cases printS (L b) 60 <;> rfl
theorem inside0_ev {b : ByteArray} (hb : Fits b) (most : Int) : ∀ t, t <:+ L b → Ev (fun k => manystrandref01_inside.l0 k b most (at_ b t)) (t.all pr && decide ((b.size : Int) ≤ most))
  | [], _ => by
    refine Ev.step (fun k => by rw [manystrandref01_inside.l0]) ?_
    exact ev_neg (by rw [at_nil]; omega) (ev_now rfl)
  | c :: t, h => by
    have ih := inside0_ev hb most t (suf_tail h)
    refine Ev.step (fun k => by rw [manystrandref01_inside.l0]) ?_
    refine ev_pos (at_lt b c t) (ev_pos (at_nonneg h) ?_)
    rw [bt_of h, at_succ hb h, List.all_cons, pr_c]
    by_cases h10 : (c.toNat : Int) = 10
    · refine ev_pos h10 ?_
      simpa [h10] using ih
    · refine ev_neg h10 ?_
      rw [beq_eq_false_iff_ne.mpr h10, Bool.false_or]
      by_cases h32 : (c.toNat : Int) < 32
      · rw [decide_eq_false (by omega : ¬ 32 ≤ (c.toNat : Int))]
        exact ev_pos h32 (ev_now rfl)
      · rw [decide_eq_true (by omega : 32 ≤ (c.toNat : Int)), Bool.true_and]
        refine ev_neg h32 ?_
        by_cases h126 : (c.toNat : Int) > 126
        · rw [decide_eq_false (by omega : ¬ (c.toNat : Int) ≤ 126)]
          exact ev_pos h126 (ev_now rfl)
        · rw [decide_eq_true (by omega : (c.toNat : Int) ≤ 126), Bool.true_and]
          exact ev_neg h126 ih
theorem inside_ev {b : ByteArray} (hb : Fits b) (most : Nat) : Ev (fun k => manystrandref01_inside.f k b most) (printS (L b) most) := by
  have h := inside0_ev hb most (L b) (List.suffix_refl _)
  rw [at_all] at h
  have e : decide ((b.size : Int) ≤ (most : Int)) = decide ((L b).length ≤ most) := by rw [L_length, decide_eq_decide]; omega
  rw [e] at h
  exact h
theorem refAtom_ev {b : ByteArray} (hb : b.size ≤ 1000000) : Ev (fun k => manystrandref02_IsAtom.f k b) (printS (L b) 60) := by
  have hf : Fits b := by unfold Fits; omega
  have e : kA.toList = [97, 116, 111, 109] := by rw [toList_L]; rfl
  unfold manystrandref02_IsAtom.f manystrandref01_Valid.f
  rw [e]
  exact Ev.bind (ev_neg (by decide) (ev_pos rfl (Ev.bind (inside_ev hf 60) (ev_now rfl)))) (ev_now rfl)
/-- Is it a feature? -/
def featB (n : Int) (b : ByteArray) : Bool := if n = 0 then printS (L b) 60 else (decide (1 ≤ n) && decide (n ≤ 1000) && (b.toList == ([] : List UInt8)))
theorem isFeat_ev {b : ByteArray} (hb : b.size ≤ 1000000) (n : Int) : Ev (fun k => tree_IsFeat.f k n b) (featB n b) := by
  unfold tree_IsFeat.f featB
  by_cases h : n = 0
  · rw [if_pos h]; exact ev_pos h (Ev.bind (isAtom_ev hb) (ev_now rfl))
  · rw [if_neg h]
    refine ev_neg h ?_
    by_cases h1 : n ≥ 1
    · refine ev_pos h1 ?_
      by_cases h2 : n ≤ 1000
      · exact ev_pos h2 (ev_now (by simp [h1, h2]))
      · exact ev_neg h2 (ev_now (by simp [h2]))
    · exact ev_neg h1 (ev_now (by simp [h1]))
theorem refFeat_ev {b : ByteArray} (hb : b.size ≤ 1000000) (n : Int) : Ev (fun k => manystrandref02_IsFeat.f k n b) (featB n b) := by
  unfold manystrandref02_IsFeat.f featB
  by_cases h : n = 0
  · rw [if_pos h]
    refine ev_pos h (Ev.bind (refAtom_ev hb) ?_)
    by_cases hp : printS (L b) 60 = true
    · exact ev_pos hp (ev_now hp.symm)
    · exact ev_neg hp (ev_neg (by omega) (ev_now (by simpa using hp)))
  · rw [if_neg h]
    refine ev_neg h ?_
    by_cases h1 : n ≥ 1
    · refine ev_pos h1 ?_
      by_cases h2 : n ≤ 1000
      · exact ev_pos h2 (ev_now (by simp [h1, h2]))
      · exact ev_neg h2 (ev_now (by simp [h2]))
    · exact ev_neg h1 (ev_now (by simp [h1]))
end Go.Proofs.YtlabfjaddgakkaaGreat.Pure
end
section
/-! A feature that came in. -/
namespace Go.Proofs.YtlabfjaddgakkaaGreat.Feats
set_option linter.unusedVariables false
set_option linter.unusedSimpArgs false
open Go.ChangeShapes Go.WideShapes Go.ChangeAt Go.RowKit Go.Proofs.YtlabfjaddgakkaaGreatW.PrintWords Go.Proofs.YtlabfjaddgakkaaGreatW.PrintLast Go.Proofs.YtlabfjaddgakkaaGreatW.PrintMore Go.Proofs.YtlabfjaddgakkaaGreat.Q
set_option maxRecDepth 100000
theorem c23 : Tryz.prog.cellsOf 23 = 2 := by kernel_rfl
theorem c3 : Tryz.prog.cellsOf 3 = 1 := by kernel_rfl
theorem c9 : Tryz.prog.cellsOf 9 = 1 := by kernel_rfl
theorem feat_size {H : Type} {enc : TypeId × Value → H} {W : World} {sp : Nat → Bool} {held : Bool} {n : Int} {s : ByteArray} {d : DataW H} {p : List MemPlace}
    (h : DataW.Trod enc Tryz.prog W 0 sp held 23 (.agg #[.int .i64 n, .string s]) d p) : s.size ∈ d.weights Tryz.prog 23 := by
  obtain ⟨fuel, h⟩ := h
  cases fuel with
  | zero => cases h
  | succ fuel =>
    cases fuel with
    | zero => simp [DataW.trod, Tryz.underlying23, Value.cells, c23, c3, c9] at h
    | succ fuel =>
      simp [DataW.trod, Tryz.underlying23, Tryz.underlying3, Tryz.underlying9, Value.cells, c23, c3, c9] at h
      by_cases w : (Lit.int IntKind.i64 n).wf = true
      · by_cases z : s.size ≤ maxLen
        · simp [w, z] at h
          obtain ⟨rfl, -⟩ := h
          have e : s.data.toList.length = s.size := by simp
          simp [DataW.weights, Tryz.underlying23, DataW.weightsEach]
        · simp [w, z] at h
      · simp [w] at h
theorem cell_int {W : World} {r : Reach} {b : Nat} {t : TypeId} {k : IntKind} {v : Value} (ht : Tryz.prog.underlying t = some (.int k)) (h : Cell.okWide Tryz.prog W r b t v) : ∃ n, v = .int k n := by
  simp only [Cell.okWide, ht] at h
  cases v <;> simp_all [Cell.ok]
theorem cell_string {W : World} {r : Reach} {b : Nat} {t : TypeId} {v : Value} (ht : Tryz.prog.underlying t = some .string) (h : Cell.okWide Tryz.prog W r b t v) : ∃ s, v = .string s := by
  simp only [Cell.okWide, ht] at h
  cases v <;> simp_all [Cell.ok]
theorem types23 : Tryz.prog.cellTypes Tryz.prog.depth 23 = some [3, 9] := by kernel_rfl
/-- A feature that came in, written out. -/
theorem open23 {W : World} {r : Reach} {b : Nat} {v : Value} (h : Value.okWide Tryz.prog W r b 23 v) : ∃ (n : Int) (s : ByteArray), v = .agg #[.int .i64 n, .string s] := by
  simp only [Value.okWide, Tryz.underlying23] at h
  obtain ⟨cs, rfl, hs, ts, ht, _, hc⟩ := h
  rw [types23] at ht
  cases ht
  rw [c23] at hs
  obtain ⟨l⟩ := cs
  match l, hs with
  | [c0, c1], _ =>
    obtain ⟨u0, e0, k0⟩ := hc 0 c0 rfl
    obtain ⟨u1, e1, k1⟩ := hc 1 c1 rfl
    cases e0; cases e1
    obtain ⟨n, rfl⟩ := cell_int Tryz.underlying3 k0
    obtain ⟨s, rfl⟩ := cell_string Tryz.underlying9 k1
    exact ⟨n, s, rfl⟩
theorem sized_feat {H : Type} {ts : List TypeId} {ds : List (DataW H)} (h : (DataW.weightsEach Tryz.prog ts ds).all (· ≤ reachBytes) = true) {j : Nat} {d : DataW H} {s : ByteArray} (ht : ts[j]? = some 23) (hd : ds[j]? = some d) (hm : s.size ∈ d.weights Tryz.prog 23) : s.size ≤ 140737488351232 := by
  have := List.all_eq_true.1 h _ (DataW.weights_mem_each ht hd s.size hm)
  have := of_decide_eq_true this
  exact this
end Go.Proofs.YtlabfjaddgakkaaGreat.Feats
end
section
namespace Go.Proofs.YtlabfjaddgakkaaGreat.Q
open Go.RowKit Go.Proofs.YtlabfjaddgakkaaGreatW.PrintWords Go.Proofs.YtlabfjaddgakkaaGreatW.PrintLast Go.Proofs.YtlabfjaddgakkaaGreatW.PrintMore
attribute [local go_sem] Go.Proofs.YtlabfjaddgakkaaGreatW.OwnWords.isSome_setCell max2_int min2_int max_two min_two max_three min_three max_four min_four
set_option linter.unusedVariables false
set_option linter.unusedSimpArgs false

theorem eqA23 (d : Nat) (w : World) (x0 y0 : Int) (x1 y1 : ByteArray) :
  (Op.equalIn (d + 2) 23 (.agg #[.int .i64 x0, .string x1]) (.agg #[.int .i64 y0, .string y1])).run Tryz.prog w = .ok (x0 == y0 && (x1.toList == y1.toList)) w := by
 refine eqA_of Tryz.underlying23 (by kernel_rfl) ?_
 refine eqf_cons (by rfl) (by go_simp; rfl) (by go_simp; rfl) (by go_simp) ?_
 exact eqf_last (by rfl) (by go_simp; rfl) (by go_simp; rfl) (by go_simp)
end Go.Proofs.YtlabfjaddgakkaaGreat.Q
end
section
namespace Go.Proofs.YtlabfjaddgakkaaGreat.Q
open Go.RowKit Go.Proofs.YtlabfjaddgakkaaGreatW.PrintWords Go.Proofs.YtlabfjaddgakkaaGreatW.PrintLast Go.Proofs.YtlabfjaddgakkaaGreatW.PrintMore Go.Proofs.YtlabfjaddgakkaaGreatW.OwnWords
attribute [local go_sem] Go.Proofs.YtlabfjaddgakkaaGreatW.OwnWords.isSome_setCell max2_int min2_int max_two min_two max_three min_three max_four min_four
set_option linter.unusedVariables false
set_option linter.unusedSimpArgs false

/-! ### tree_Less: function 10 -/
def tree_Less.j0 : Nat → Bool → Int → ByteArray → Int → ByteArray → Option (Bool)
 | 0, _, _, _, _, _ => none
 | k + 1, x5, x169000, x169001, x170000, x170001 => if x5 = true then (some (decide (x169000 < x170000))) else (if x169000 > 0 then (some (decide (x169000 > 0))) else (if x170000 > 0 then (some (decide (x169000 > 0))) else (some (Op.bytesLess x169001.toList x170001.toList))))
def tree_Less.f (k : Nat) (a0_0 : Int) (a0_1 : ByteArray) (a1_0 : Int) (a1_1 : ByteArray) : Option (Bool) := if a0_0 > 0 then (tree_Less.j0 k (decide (a1_0 > 0)) a0_0 a0_1 a1_0 a1_1) else (tree_Less.j0 k false a0_0 a0_1 a1_0 a1_1)
theorem tree_Less.mono_l : ∀ k, (∀ y0 y1 y2 y3 y4, LeO (tree_Less.j0 k y0 y1 y2 y3 y4) (tree_Less.j0 (k + 1) y0 y1 y2 y3 y4))
 | 0 => fun _ _ _ _ _ r h => by simp [tree_Less.j0] at h
 | k + 1 => by
  have ih0 := tree_Less.mono_l k
  ·intro y0 y1 y2 y3 y4
   unfold tree_Less.j0
   repeat' first
   | (with_reducible exact ih0 _ _ _ _ _)
   | (with_reducible exact LeO.refl _)
   | (with_reducible exact LeO.none _)
   | (with_reducible refine LeO.ite ?_ ?_)
   | (with_reducible refine LeO.bind ?_ (fun _ => ?_))
   | exact ih0 _ _ _ _ _
   | exact LeO.none _
   | refine LeO.ite ?_ ?_
   | refine LeO.bind ?_ (fun _ => ?_)
theorem tree_Less.mono : ∀ a0 a1 a2 a3 k, LeO (tree_Less.f k a0 a1 a2 a3) (tree_Less.f (k + 1) a0 a1 a2 a3) := by
 intro a0 a1 a2 a3 k
 have ih0 := tree_Less.mono_l k
 unfold tree_Less.f
 repeat' first
   | (with_reducible exact ih0 _ _ _ _ _)
   | (with_reducible exact LeO.refl _)
   | (with_reducible exact LeO.none _)
   | (with_reducible refine LeO.ite ?_ ?_)
   | (with_reducible refine LeO.bind ?_ (fun _ => ?_))
   | exact ih0 _ _ _ _ _
   | exact LeO.none _
   | refine LeO.ite ?_ ?_
   | refine LeO.bind ?_ (fun _ => ?_)
set_option maxHeartbeats 8000000 in
set_option maxRecDepth 100000 in
theorem tree_Less.calls (k : Nat) (a0_0 : Int) (a0_1 : ByteArray) (a1_0 : Int) (a1_1 : ByteArray) (r : Bool) (w : World) (h : tree_Less.f k a0_0 a0_1 a1_0 a1_1 = some r) :
  Calls Tryz.prog 10 #[.agg #[.int .i64 a0_0, .string a0_1], .agg #[.int .i64 a1_0, .string a1_1]] w fun e w' => e = .returned (.bool r) ∧ Below w.heap.size w w' := by
 have hu23 := Tryz.underlying23
 have HB := Aside0.mk (Below.refl w.heap.size w)
 have H : (if a0_0 > 0 then (tree_Less.j0 k (decide (a1_0 > 0)) a0_0 a0_1 a1_0 a1_1) else (tree_Less.j0 k false a0_0 a0_1 a1_0 a1_1)) = some r := h
 clear h
 have HC3 := Aside0.mk H
 clear H
 go_enter Tryz.func10, Tryz.ntmps10
 go_upto_region 1 with (first | ((with_reducible refine gate_dst (N := 2) rfl ?_); refine box_event ?hg (N := 2) ?hd (cs := #[.int .i64 a0_0, .string a0_1]) (t := 23) ?hr ?_; (case hd => rfl); (case hg => rfl); (case hr => first | (go_simp; done) | (go_simp; rfl)); intro gb168 hg w4 hbox hb; have n0_ := Aside0.mk (below_step bSt_ hb); have n1_ := Aside0.mk (hbox); have n2_ := Aside0.mk ((by rw [hg]; exact (below_size bSt_) : w.heap.size ≤ gb168)); have n3_ := Aside0.mk ((by rw [hg]; exact (below_size bSt_) : w.heap.size ≤ gb168)); clear HB; have HB := n0_; have BK168 := n1_; have GW168 := n2_; have GE168 := n3_; clear n0_ n1_ n2_ n3_; clear hb hbox hg) | ((with_reducible refine gate_dst (N := 3) rfl ?_); refine box_event ?hg (N := 3) ?hd (cs := #[.int .i64 a1_0, .string a1_1]) (t := 23) ?hr ?_; (case hd => rfl); (case hg => rfl); (case hr => first | (go_simp; done) | (go_simp; rfl)); intro gb169 hg w5 hbox hb; have n0_ := Aside0.mk (blk_below (bKq_ BK168.out) hb); have n1_ := Aside0.mk (below_step bSt_ hb); have n2_ := Aside0.mk (hbox); have n3_ := Aside0.mk ((by rw [hg]; exact (below_size bSt_) : w.heap.size ≤ gb169)); have n4_ := Aside0.mk ((by rw [hg]; exact (below_size bSt_) : w.heap.size ≤ gb169)); have n5_ := Aside0.mk ((by rw [hg]; exact Nat.ne_of_lt (blk_lt (bKq_ BK168.out)) : gb168 ≠ gb169)); have n6_ := Aside0.mk ((by rw [hg]; exact Nat.ne_of_gt (blk_lt (bKq_ BK168.out)) : gb169 ≠ gb168)); clear BK168; clear HB; have BK168 := n0_; have HB := n1_; have BK169 := n2_; have GW169 := n3_; have GE169 := n4_; have NB168_169 := n5_; have NB169_168 := n6_; clear n0_ n1_ n2_ n3_ n4_ n5_ n6_; clear hb hbox hg))
 (try simp only [Act.put, List.setIfInBounds_toArray, List.set_cons_zero, List.set_cons_succ])
 go_cut [5] (fun v5 wc => ∃ (kq : Nat) (x5_2 : Bool), v5 = .bool x5_2 ∧ Aside0 (tree_Less.j0 kq x5_2 a0_0 a0_1 a1_0 a1_1 = some r) ∧ Aside0 (kq ≤ k) ∧ Aside0 (wc.heap[gb168]? = some (.cells #[.int .i64 a0_0, .string a0_1] 23 (0, 0))) ∧ Aside0 (wc.heap[gb169]? = some (.cells #[.int .i64 a1_0, .string a1_1] 23 (0, 0))) ∧ Aside0 (Below w.heap.size w wc))
 case first =>
  have H := HC3.out
  clear HC3
  by_cases c6 : a0_0 > 0
  ·rw [if_pos c6] at H
   have c6b0 : decide (0 < a0_0) = true := decide_eq_true c6
   clear c6
   (first | rw [c6b0] | (simp only [i64_w, i32_w]; rw [c6b0]) | skip)
   have H' := Aside0.mk H
   clear H
   have hnb7 := NB168_169.out
   have hnc7 := NB169_168.out
   have hcz8_0 : w5.cell? ⟨gb168, 0, none⟩ = some (.int .i64 a0_0) := (blk_cell BK168.out 0).trans rfl
   have hcz8_1 : w5.cell? ⟨gb168, 1, none⟩ = some (.string a0_1) := (blk_cell BK168.out 1).trans rfl
   have hfz8_0 := blk_frozen BK168.out 0
   have hfz8_1 := blk_frozen BK168.out 1
   have hcz9_0 : w5.cell? ⟨gb169, 0, none⟩ = some (.int .i64 a1_0) := (blk_cell BK169.out 0).trans rfl
   have hcz9_1 : w5.cell? ⟨gb169, 1, none⟩ = some (.string a1_1) := (blk_cell BK169.out 1).trans rfl
   have hfz9_0 := blk_frozen BK169.out 0
   have hfz9_1 := blk_frozen BK169.out 1
   go_wp2
   go_meet
   case rel => exact ⟨_, (decide (a1_0 > 0)), (by first | rfl | (simp; done) | (simp [*]; done)), H', ⟨by first | omega | exact Nat.le_refl _⟩, ⟨bKq_ BK168.out⟩, ⟨bKq_ BK169.out⟩, ⟨bSt_⟩⟩
  ·rw [if_neg c6] at H
   have c6b0 : decide (0 < a0_0) = false := decide_eq_false c6
   clear c6
   (first | rw [c6b0] | (simp only [i64_w, i32_w]; rw [c6b0]) | skip)
   have H' := Aside0.mk H
   clear H
   have hnb10 := NB168_169.out
   have hnc10 := NB169_168.out
   have hcz11_0 : w5.cell? ⟨gb168, 0, none⟩ = some (.int .i64 a0_0) := (blk_cell BK168.out 0).trans rfl
   have hcz11_1 : w5.cell? ⟨gb168, 1, none⟩ = some (.string a0_1) := (blk_cell BK168.out 1).trans rfl
   have hfz11_0 := blk_frozen BK168.out 0
   have hfz11_1 := blk_frozen BK168.out 1
   go_wp2
   go_meet
   case rel => exact ⟨_, (false), (by first | rfl | (simp; done) | (simp [*]; done)), H', ⟨by first | omega | exact Nat.le_refl _⟩, ⟨bKq_ BK168.out⟩, ⟨bKq_ BK169.out⟩, ⟨bSt_⟩⟩
 case rest =>
  clear HC3
  try clear c1
  try clear p2
  try clear c6
  try clear c6b0
  try clear c7
  try clear c10
  try clear hcz11_0
  try clear hcz11_1
  try clear hcz8_0
  try clear hcz8_1
  try clear hcz9_0
  try clear hcz9_1
  try clear hfz11_0
  try clear hfz11_1
  try clear hfz8_0
  try clear hfz8_1
  try clear hfz9_0
  try clear hfz9_1
  obtain ⟨kq, x5_2, rfl, HA, HJ2, BK168, BK169, HB⟩ := hcut
  cases kq with
  | zero => exact absurd HA.out (by simp [tree_Less.j0])
  | succ kj2 =>
   have H := HA.out
   clear HA
   simp only [tree_Less.j0] at H
   by_cases c12 : x5_2 = true
   ·subst c12
    have H1 : (some (decide (a0_0 < a1_0))) = some r := by rw [if_pos rfl] at H; exact H
    clear H
    have H := H1
    clear H1
    obtain rfl := Option.some.inj H
    have hnb13 := NB168_169.out
    have hnc13 := NB169_168.out
    have hcz14_0 : wc.cell? ⟨gb168, 0, none⟩ = some (.int .i64 a0_0) := (blk_cell BK168.out 0).trans rfl
    have hcz14_1 : wc.cell? ⟨gb168, 1, none⟩ = some (.string a0_1) := (blk_cell BK168.out 1).trans rfl
    have hfz14_0 := blk_frozen BK168.out 0
    have hfz14_1 := blk_frozen BK168.out 1
    have hcz15_0 : wc.cell? ⟨gb169, 0, none⟩ = some (.int .i64 a1_0) := (blk_cell BK169.out 0).trans rfl
    have hcz15_1 : wc.cell? ⟨gb169, 1, none⟩ = some (.string a1_1) := (blk_cell BK169.out 1).trans rfl
    have hfz15_0 := blk_frozen BK169.out 0
    have hfz15_1 := blk_frozen BK169.out 1
    go_wp2
    go_ret
    exact ⟨by first | rfl | (simp [errW_none, errW_some] <;> rfl) | (simp [*, errW_none, errW_some] <;> rfl) | (simp [errW_none, errW_some]; exact Go.Proofs.YtlabfjaddgakkaaGreatW.OwnWords.isEmpty_bne _), bSt_⟩
   ·replace c12 := Bool.eq_false_iff.mpr c12
    subst c12
    have H1 : (if a0_0 > 0 then (some (decide (a0_0 > 0))) else (if a1_0 > 0 then (some (decide (a0_0 > 0))) else (some (Op.bytesLess a0_1.toList a1_1.toList)))) = some r := by rw [if_neg (show ¬ (false = true) by decide)] at H; exact H
    clear H
    have H := H1
    clear H1
    by_cases c16 : a0_0 > 0
    ·rw [if_pos c16] at H
     have c16b0 : decide (0 < a0_0) = true := decide_eq_true c16
     clear c16
     obtain rfl := Option.some.inj H
     have hnb17 := NB168_169.out
     have hnc17 := NB169_168.out
     have hcz18_0 : wc.cell? ⟨gb168, 0, none⟩ = some (.int .i64 a0_0) := (blk_cell BK168.out 0).trans rfl
     have hcz18_1 : wc.cell? ⟨gb168, 1, none⟩ = some (.string a0_1) := (blk_cell BK168.out 1).trans rfl
     have hfz18_0 := blk_frozen BK168.out 0
     have hfz18_1 := blk_frozen BK168.out 1
     go_wp2
     go_ret
     exact ⟨by first | rfl | (simp [errW_none, errW_some] <;> rfl) | (simp [*, errW_none, errW_some] <;> rfl) | (simp [errW_none, errW_some]; exact Go.Proofs.YtlabfjaddgakkaaGreatW.OwnWords.isEmpty_bne _), bSt_⟩
    ·rw [if_neg c16] at H
     have c16b0 : decide (0 < a0_0) = false := decide_eq_false c16
     clear c16
     by_cases c19 : a1_0 > 0
     ·rw [if_pos c19] at H
      have c19b0 : decide (0 < a1_0) = true := decide_eq_true c19
      clear c19
      obtain rfl := Option.some.inj H
      have hnb20 := NB168_169.out
      have hnc20 := NB169_168.out
      have hcz21_0 : wc.cell? ⟨gb168, 0, none⟩ = some (.int .i64 a0_0) := (blk_cell BK168.out 0).trans rfl
      have hcz21_1 : wc.cell? ⟨gb168, 1, none⟩ = some (.string a0_1) := (blk_cell BK168.out 1).trans rfl
      have hfz21_0 := blk_frozen BK168.out 0
      have hfz21_1 := blk_frozen BK168.out 1
      have hcz22_0 : wc.cell? ⟨gb169, 0, none⟩ = some (.int .i64 a1_0) := (blk_cell BK169.out 0).trans rfl
      have hcz22_1 : wc.cell? ⟨gb169, 1, none⟩ = some (.string a1_1) := (blk_cell BK169.out 1).trans rfl
      have hfz22_0 := blk_frozen BK169.out 0
      have hfz22_1 := blk_frozen BK169.out 1
      go_wp2
      go_ret
      exact ⟨by first | rfl | (simp [errW_none, errW_some] <;> rfl) | (simp [*, errW_none, errW_some] <;> rfl) | (simp [errW_none, errW_some]; exact Go.Proofs.YtlabfjaddgakkaaGreatW.OwnWords.isEmpty_bne _), bSt_⟩
     ·rw [if_neg c19] at H
      have c19b0 : decide (0 < a1_0) = false := decide_eq_false c19
      clear c19
      obtain rfl := Option.some.inj H
      have hnb23 := NB168_169.out
      have hnc23 := NB169_168.out
      have hcz24_0 : wc.cell? ⟨gb168, 0, none⟩ = some (.int .i64 a0_0) := (blk_cell BK168.out 0).trans rfl
      have hcz24_1 : wc.cell? ⟨gb168, 1, none⟩ = some (.string a0_1) := (blk_cell BK168.out 1).trans rfl
      have hfz24_0 := blk_frozen BK168.out 0
      have hfz24_1 := blk_frozen BK168.out 1
      have hcz25_0 : wc.cell? ⟨gb169, 0, none⟩ = some (.int .i64 a1_0) := (blk_cell BK169.out 0).trans rfl
      have hcz25_1 : wc.cell? ⟨gb169, 1, none⟩ = some (.string a1_1) := (blk_cell BK169.out 1).trans rfl
      have hfz25_0 := blk_frozen BK169.out 0
      have hfz25_1 := blk_frozen BK169.out 1
      go_wp2
      go_ret
      exact ⟨by first | rfl | (simp [errW_none, errW_some] <;> rfl) | (simp [*, errW_none, errW_some] <;> rfl) | (simp [errW_none, errW_some]; exact Go.Proofs.YtlabfjaddgakkaaGreatW.OwnWords.isEmpty_bne _), bSt_⟩

end Go.Proofs.YtlabfjaddgakkaaGreat.Q
end
section
/-! A region that draws its order, by an invariant over which of its operations are done: each operation that may be next is walked once, alone. -/
namespace Go.Proofs.YtlabfjaddgakkaaGreat.RegInv
set_option linter.unusedVariables false
set_option linter.unusedSimpArgs false
open Go
section
variable {P : Program} {ops : Array Oper} {md : Region.Mode} {Q : Exit → Act → World → Prop}
/-- Q at every way out but the plain one, where K stands. -/
def Then (Q : Exit → Act → World → Prop) (K : Act → World → Prop) : Exit → Act → World → Prop
  | .normal, a, w => K a w
  | e, a, w => Q e a w
theorem wp_then {o : Oper} {a : Act} {w : World} {K : Act → World → Prop} (h : o.wp P a w K (Then Q K)) : o.wp P a w K Q := by
  unfold Oper.wp at *
  generalize (execOp a.eval o).run P w = r at *
  cases r with
  | ok n w' =>
    cases n <;> simp only [Oper.upon] at h ⊢ <;>
      first
        | exact h
        | exact Calls.mono h (fun e w'' he => by cases e <;> first | exact he | (simp only at he ⊢; obtain ⟨a, w, hq⟩ := he; exact ⟨a, w, hq⟩))
  | halt x w' => cases x <;> simp only [Oper.upon] at h ⊢ <;> exact h
theorem op_of_list {i : Nat} {o : Oper} {K : Act → World → Prop} {a : Act} {w : World} (ho : ops[i]? = some o) (h : wpList P ops (Then Q K) [o] a w) : wpOp P ops Q i K a w := by
  unfold wpOp
  simp only [ho]
  simp only [wpList] at h
  split
  · rename_i hw
    rw [if_pos hw] at h
    rcases h with h | ⟨h1, a', w', h2⟩
    · exact .inl (wp_then h)
    · exact .inr ⟨h1, a', w', h2⟩
  · rename_i hw
    rw [if_neg hw] at h
    exact h
theorem count_set {l : Array Bool} {i : Nat} {n : Nat} (hn : l.toList.count false ≤ n + 1) (hi : l.getD i true = false) : (l.setIfInBounds i true).toList.count false ≤ n := by
  have hlt : i < l.size := by
    rcases Nat.lt_or_ge i l.size with h | h
    · exact h
    · simp [Array.getElem?_eq_none h] at hi
  have hv : l.toList[i]'(by simpa using hlt) = false := by simpa [hlt] using hi
  rw [Array.toList_setIfInBounds, List.count_set (by simpa using hlt), hv]
  simp only [Array.count_toList] at hn ⊢
  simp
  omega
theorem wpAny_inv (I : Array Bool → Act → World → Prop)
    (hs : ∀ listed a w i o, ops[i]? = some o → listed.size = ops.size → listed.getD i true = false → (∀ e ∈ o.after, Region.binds md e = true → listed.getD e.on false = true) → I listed a w → wpList P ops (Then Q (I (listed.setIfInBounds i true))) [o] a w)
    (he : ∀ listed a w, listed.size = ops.size → Region.ready md ops listed = [] → I listed a w → Q .normal a w) :
    ∀ fuel listed a w, listed.size = ops.size → listed.toList.count false ≤ fuel → I listed a w → wpAny P md ops Q fuel listed a w := by
  intro fuel
  induction fuel with
  | zero =>
    intro listed a w hz hc h
    have hr : Region.ready md ops listed = [] := by
      rw [List.eq_nil_iff_forall_not_mem]
      intro j hj
      obtain ⟨h1, _⟩ := mem_ready.1 hj
      have := count_set (n := 0) (by omega) h1
      have hm : false ∈ listed.toList := by
        rcases Nat.lt_or_ge j listed.size with g | g
        · have hv : listed.toList[j]'(by simpa using g) = false := by simpa [g] using h1
          rw [← hv]
          exact List.getElem_mem _
        · simp [Array.getElem?_eq_none g] at h1
      have := List.count_pos_iff.2 hm
      omega
    exact ⟨hr, he listed a w hz hr h⟩
  | succ n ih =>
    intro listed a w hz hc h
    refine ⟨fun hr => he listed a w hz hr h, fun i hi => ?_⟩
    obtain ⟨h1, o, ho, h2⟩ := mem_ready.1 hi
    exact wpOp_mono (fun a' w' hI => ih _ a' w' (by simpa using hz) (count_set hc h1) hI) (op_of_list ho (hs listed a w i o ho hz h1 h2 h))
def early (ops : Array Oper) : Bool := (List.range ops.size).all fun i => match ops[i]? with
  | some o => o.after.all fun e => !Region.binds .any e || decide (e.on < i)
  | none => true
theorem all_listed (hm : md = .any) (hB : early ops = true) {listed : Array Bool} (hz : listed.size = ops.size) (hr : Region.ready md ops listed = []) : ∀ i, i < ops.size → listed.getD i false = true := by
  intro i
  induction i using Nat.strongRecOn with
  | ind i ih =>
    intro hi
    have hi' : i < listed.size := by omega
    cases hb : listed[i] with
    | true => simp [hi', hb]
    | false =>
      exfalso
      have hm : i ∈ Region.ready md ops listed := by
        refine mem_ready.2 ⟨by simp [hi', hb], ops[i], Array.getElem?_eq_getElem hi, fun e he hbn => ?_⟩
        simp only [early, List.all_eq_true, List.mem_range] at hB
        have h1 := hB i hi
        rw [Array.getElem?_eq_getElem hi] at h1
        simp only [Array.all_eq_true'] at h1
        subst hm
        have h2 := h1 e he
        rw [hbn] at h2
        have h2 := of_decide_eq_true h2
        exact ih e.on h2 (by omega)
      rw [hr] at hm
      cases hm
/-- The rule. -/
theorem wp_region_inv {id : Nat} {a : Act} {w : World} (hm : P.follows .mixedOrders = true) (hB : early ops = true) (I : Array Bool → Act → World → Prop)
    (h0 : I (Array.replicate ops.size false) a { w with drawn := w.drawn + 1 })
    (hs : ∀ listed a w i o, ops[i]? = some o → listed.size = ops.size → listed.getD i true = false → (∀ e ∈ o.after, Region.binds .any e = true → listed.getD e.on false = true) → I listed a w → wpList P ops (Then Q (I (listed.setIfInBounds i true))) [o] a w)
    (he : ∀ listed a w, (∀ i, i < ops.size → listed.getD i false = true) → I listed a w → Q .normal a w) : (Code.region id ops true).wp P Q a w := by
  refine wp_region_any hm (wpAny_inv I hs (fun listed a w hz hr hI => he listed a w (all_listed rfl hB hz hr) hI) _ _ _ _ (by simp) ?_ h0)
  simp
/-- The same, where the invariant speaks of the frame ahead of the region. -/
theorem wp_region_inv' {id : Nat} {a : Act} {w : World} (hm : P.follows .mixedOrders = true) (hB : early ops = true) (J : Act → Array Bool → Act → World → Prop)
    (h0 : J a (Array.replicate ops.size false) a { w with drawn := w.drawn + 1 })
    (hs : ∀ listed a' w i o, ops[i]? = some o → listed.size = ops.size → listed.getD i true = false → (∀ e ∈ o.after, Region.binds .any e = true → listed.getD e.on false = true) → J a listed a' w → wpList P ops (Then Q (J a (listed.setIfInBounds i true))) [o] a' w)
    (he : ∀ listed a' w, (∀ i, i < ops.size → listed.getD i false = true) → J a listed a' w → Q .normal a' w) : (Code.region id ops true).wp P Q a w :=
  wp_region_inv hm hB (J a) h0 hs he
end
end Go.Proofs.YtlabfjaddgakkaaGreat.RegInv
namespace Go.Proofs.YtlabfjaddgakkaaGreat.Need
open Go
theorem set_self (t : Array Value) (i : Nat) : t.setIfInBounds i (t.getD i undef) = t := by
  apply Array.ext
  · simp
  · intro j h1 h2
    rw [Array.getElem_setIfInBounds (by simpa using h1)]
    split
    · rename_i e
      subst e
      simp [h2]
    · rfl
end Go.Proofs.YtlabfjaddgakkaaGreat.Need
end
section
-- The words of the walks: those of print.sh's words that this seat's texts use, taken out by own_print.py of this repo (see NOTES.md), and two of our own.

set_option linter.unusedVariables false
set_option linter.unusedSimpArgs false
namespace Go.Proofs.YtlabfjaddgakkaaGreatW.PrintWords
open Go.RowKit
theorem add_plain (g j : Nat) : (⟨g, 0, none⟩ : Addr).add j = ⟨g, j, none⟩ := by unfold Addr.add; split <;> simp_all
theorem own_other {w w1 : World} {base : Nat} {e : TypeId} {size n : Nat} {v : Value} {xs : List Value} (h : w.ownsRow base e size v n xs) {row : Option Nat} (hg : w.grownBy w1 row) (hne : v.ownBlock = none ∨ v.ownBlock ≠ row) : w1.ownsRow base e size v n xs := h.kept hg hne
theorem own_slice {w : World} {base n : Nat} {e : TypeId} {size : Nat} {v : Value} {xs : List Value} (h : w.ownsRow base e size v n xs) : ∃ A c, v = .slice A n c := by
  rcases h.2 with ⟨rfl, rfl⟩ | ⟨g, cap, cur, rfl, _⟩
  · exact ⟨none, 0, rfl⟩
  · exact ⟨_, cap, rfl⟩
theorem own_store {W : World} {base g n cap : Nat} {e : TypeId} {k : IntKind} {xs : List Int} (h : W.ownsRow base e 1 (.slice (some ⟨g, 0, none⟩) n cap) n (nums k xs)) (i x : Int) :
    (W.setCell ⟨g, i.toNat, none⟩ (.int k x)).ownsRow base e 1 (.slice (some ⟨g, 0, none⟩) n cap) n (nums k (xs.set i.toNat x)) ∧ W.grownBy (W.setCell ⟨g, i.toNat, none⟩ (.int k x)) (some g) := by
  have hs := h.stored i.toNat (.int k x)
  have he : (nums k xs).set i.toNat (.int k x) = nums k (xs.set i.toNat x) := by simp [nums, List.map_set]
  rwa [he] at hs
theorem own_setCell {w : World} {base : Nat} {e : TypeId} {size n : Nat} {v : Value} {xs : List Value} (h : w.ownsRow base e size v n xs) {p : Addr} (hne : some p.block ≠ v.ownBlock) (u : Value) : (w.setCell p u).ownsRow base e size v n xs := by
  obtain ⟨h1, h2⟩ := h
  refine ⟨h1, ?_⟩
  rcases h2 with h2 | ⟨g, cap, cur, rfl, hg, hh, r⟩
  · exact .inl h2
  · exact .inr ⟨g, cap, cur, rfl, hg, by rw [Below.heap_setCell _ _ _ _ (fun e => hne (by rw [e]; rfl))]; exact hh, r⟩
theorem KeepBut.set_ {w w1 : World} {g : Nat} {row : Option Nat} (h : KeepBut w w1 g row) (j : Nat) (u : Value) : KeepBut w (w1.setCell ⟨g, j, none⟩ u) g row :=
  ⟨by simpa [World.setCell] using h.1, fun i hi hg hr => (Below.heap_setCell w1 ⟨g, j, none⟩ u i hg).trans (h.2 i hi hg hr)⟩
section
variable {P : Program}
theorem results_ct {fn : Func} {p u : Tmp} {ty : TypeId} (h : fn.results = #[.cell p ty, .tmp u]) (tmps : Array Value) (w : World) (g : Nat) (t : TypeId) (cs : Array Value) (fr : Nat × Nat) (d : TypeDesc)
    (hp : tmps.getD p undef = .pointer (some ⟨g, 0, none⟩)) (hg : w.heap[g]? = some (.cells cs t fr))
    (hu : P.underlying ty = some d) (hd : (match d with | .struct _ | .array _ _ => true | _ => false) = true) (hi : (P.info? ty).map (·.size) = some cs.size) :
    (results fn tmps).run P w = .ok (.tuple #[.agg cs, tmps.getD u undef]) w := by
  have hp' : tmps[p]?.getD undef = .pointer (some ⟨g, 0, none⟩) := by simpa using hp
  simp [results, h, hp', asAddr, run_loadVar_row w g t ty cs fr d hg hu hd hi]
end
section
variable {α : Type} {R R' : α → List Value → Prop} {e : TypeId} {size : Nat} {w w1 : World} {base : Nat} {v : Value} {ps : List α}
theorem OwnRow.other (h : OwnRow R e size w base v ps) {row : Option Nat} (hg : w.grownBy w1 row) (hne : v.ownBlock = none ∨ v.ownBlock ≠ row) : OwnRow R e size w1 base v ps := by
  obtain ⟨inner, ho, hr⟩ := h
  exact ⟨inner, own_other ho hg hne, hr⟩
theorem OwnRow.set_ (h : OwnRow R e size w base v ps) {g : Nat} {t : TypeId} {cells : Array Value} (hb : w.heap[g]? = some (.cells cells t (0, 0))) (ht : e ≠ t) (j : Nat) (u : Value) : OwnRow R e size (w.setCell ⟨g, j, none⟩ u) base v ps := by
  obtain ⟨inner, ho, hr⟩ := h
  exact ⟨inner, own_setCell ho (own_ne ho hb ht) u, hr⟩
theorem OwnRow.keep (h : OwnRow R e size w base v ps) {g : Nat} {t : TypeId} {cells : Array Value} (hb : w.heap[g]? = some (.cells cells t (0, 0))) (ht : e ≠ t) (hk : KeepBut w w1 g none) : OwnRow R e size w1 base v ps := by
  obtain ⟨inner, ho, hr⟩ := h
  exact ⟨inner, hk.own ho (Ne.symm (own_ne ho hb ht)) (by cases v.ownBlock <;> simp), hr⟩
end
namespace Kd
section
variable {α : Type} {d : Kd α} {e : Nat} {w w1 : World} {base : Nat} {ok ok' : Nat → Prop} {v : Value} {xs : List α}
theorem R_keep (h : d.R e w base ok v xs) {g : Nat} (hk : KeepBut w w1 g none) (hok : ∀ k, ok k → k ≠ g) : d.R e w1 base ok v xs := R_step h (fun k ho hlt => hk.2 k hlt (hok k ho) (by simp))
end
theorem reads_of_C {α : Type} {enc : α → Value} {d : α} {h1 : ∀ x, (enc x).oneCell' = true} {w : World} {A : Option Addr} {n : Nat} {xs : List α} (h : (scalar enc h1).C w A n xs) : ReadsOf enc d w A n xs := by
  refine ⟨h.1, h.2.1, fun hn => ?_⟩
  obtain ⟨ad, e, hc⟩ := h.2.2 hn
  refine ⟨ad, e, fun j hj => ?_⟩
  have hl : j < xs.length := by have := h.1; omega
  obtain ⟨c, _, hK, hcell⟩ := hc j _ (List.getElem?_eq_getElem hl)
  have hK' : c = [enc xs[j]] := hK
  subst hK'
  have := hcell 0 _ rfl
  simpa [scalar, List.getD_eq_getElem?_getD, List.getElem?_eq_getElem hl] using this
end Kd
namespace Kd
end Kd
namespace Kd
end Kd
namespace Kd
section
variable {α β : Type} {d : Kd α} {d' : Kd β} {e e' : Nat} {w w1 W : World} {base b b' : Nat} {ok ok' okv oku : Nat → Prop} {v u : Value} {xs : List α} {ys : List β}
theorem C_len {A : Option Addr} {n : Nat} (h : d.C w A n xs) : xs.length = n := h.1
theorem R_form (h : d.R e w base ok v xs) (hp : 0 < xs.length) : ∃ g cap, v = .slice (some ⟨g, 0, none⟩) xs.length cap ∧ base ≤ g ∧ g < w.heap.size ∧ ∃ cells, w.heap[g]? = some (.cells cells e (0, 0)) := by
  obtain ⟨inner, ho⟩ := R_own h
  obtain ⟨g, cap, he, hb, hl⟩ := ho.form hp
  obtain ⟨cells, hc⟩ := own_typed ho g (by rw [he]; simp [Value.ownBlock])
  exact ⟨g, cap, he, hb, hl, cells, hc⟩
end
section
variable {w W : World} {A : Option Addr} {n : Nat}
theorem at_int {k : IntKind} {xs : List Int} (h : (Kd.int k).C w A n xs) (i : Int) (h0 : 0 ≤ i) (h1 : i < n) : ∃ ad, A = some ad ∧ w.cell? (ad.add i.toNat) = some (.int k (rd xs i)) :=
  ReadsOf.at_ (reads_of_C (enc := Value.int k) (d := (0 : Int)) (h1 := fun _ => rfl) h) i h0 h1
theorem at_string {xs : List ByteArray} (h : Kd.string.C w A n xs) (i : Int) (h0 : 0 ≤ i) (h1 : i < n) : ∃ ad, A = some ad ∧ w.cell? (ad.add i.toNat) = some (.string (rdOf ByteArray.empty xs i)) :=
  ReadsOf.at_ (reads_of_C (enc := Value.string) (d := ByteArray.empty) (h1 := fun _ => rfl) h) i h0 h1
variable {α : Type} {enc : α → Value} {h1 : ∀ x, (enc x).oneCell' = true} {e base g cap : Nat} {ok : Nat → Prop} {xs : List α}
end
section
variable {P : Program} {ops : Array Oper} {rest : List Oper} {o : Oper} {a : Act} {Q : Exit → Act → World → Prop}
variable {α : Type}
theorem reps_made {α : Type} {R : α → List Value → Prop} {z : Value} {size : Nat} {z0 : α} (hz : z.cells.size = size) (hs : 0 < size) (h0 : R z0 z.cells.toList) (m : Nat) : Reps R size (List.replicate m z0) (madeCells z.cells (m * size)).toList := by
  refine ⟨by simp [size_madeCells], fun j p hj => ?_⟩
  obtain ⟨hjl, hp⟩ := List.getElem?_eq_some_iff.1 hj
  have hjm : j < m := by simpa using hjl
  have hp' : z0 = p := by simpa using hp
  subst hp'
  have hle : j * size + size ≤ m * size := by rw [← Nat.succ_mul]; exact Nat.mul_le_mul_right _ hjm
  have : ((madeCells z.cells (m * size)).toList.drop (j * size)).take size = z.cells.toList := by
    apply List.ext_getElem
    · simp [size_madeCells, hz]
      omega
    · intro i h1 h2
      have hi : i < size := by rw [Array.length_toList, hz] at h2; exact h2
      have hmod : (j * size + i) % size = i := by
        rw [Nat.mul_comm, Nat.mul_add_mod]
        exact Nat.mod_eq_of_lt hi
      simp [madeCells, hz, hmod]
      rw [getElem!_pos z.cells i (by omega)]
  rw [this]
  exact h0
theorem R_make (d : Kd α) {w0 W : World} (base e : Nat) (hgd : o.guard = none) {N : Tmp} (hd : o.dst = some N) (t : TypeId) (x y : Operand) (ho : o.op = .makeSlice t x y) (n : Int) (hx : a.eval x = .int .i64 n) (hy : a.eval y = .int .i64 n)
    (ht : P.underlying t = some (.slice e)) (z : Value) (bytes : Nat) (hinfo : (P.info? e).map (fun i => (i.zero, i.size, i.bytes)) = some (some z, d.sz, bytes)) (hz : z.cells.size = d.sz) (hs0 : 0 < d.sz) (hb0 : 0 < bytes)
    (z0 : α) {ok okp : Nat → Prop} (hzero : d.M W base okp z0 z.cells.toList) (hok : ∀ k, okp k → ok k) (hfresh : ok W.heap.size) (h0 : 0 ≤ n) (hl : n.toNat * bytes ≤ 281474976710656) (HB : Below base w0 W) (hbase : base ≤ W.heap.size)
    (h : ∀ v1 w1, d.R e w1 base ok v1 (List.replicate n.toNat z0) → Below base w0 w1 → W.grownBy w1 none → (∃ b, v1.ownBlock = some b ∧ W.heap.size ≤ b) → wpList P ops Q rest (a.put o.dst v1) w1) : wpList P ops Q (o :: rest) a W := by
  obtain ⟨m, rfl⟩ := Int.eq_ofNat_of_zero_le h0
  simp only [Int.toNat_natCast] at hl h
  obtain ⟨i0, hi, hzz⟩ := Option.map_eq_some_iff.1 hinfo
  simp only [Prod.mk.injEq] at hzz
  obtain ⟨hz0, hz1, hz2⟩ := hzz
  have hm : m ≤ 281474976710656 := Nat.le_trans (Nat.le_mul_of_pos_right _ hb0) hl
  have hr := run_make (P := P) W t e i0 z ht hi hz0 .i64 .i64 (m : Int) (m : Int) (by omega) (by omega)
    (by
      have h3 : ((i0.bytes * m : Nat) : Int) ≤ 281474976710656 := by rw [hz2, Nat.mul_comm]; omega
      rwa [Int.natCast_mul] at h3) (by omega)
  simp only [Int.toNat_natCast] at hr
  rw [hz1] at hr
  refine R_lit d base e hgd hd (xs := List.replicate m z0) (inner := (madeCells z.cells (m * d.sz)).toList) (okp := okp) (ok := ok) ?_ (reps_made hz hs0 hzero m) hok hfresh HB hbase (by simp; omega) h
  simp [execOp, ho, hx, hy, hr]
end
end Kd
section
variable {w w1 : World} {base n size : Nat} {e : TypeId} {v : Value} {xs : List Value}
theorem setCells_far {g : Nat} : ∀ (vs : List Value) (o : Nat) {w : World} (k : Nat), k ≠ g → (w.setCells g o vs).heap[k]? = w.heap[k]?
  | [], _, _, _, _ => rfl
  | v :: r, o, w, k, hk => by
    rw [World.setCells, setCells_far r (o + 1) k hk]
    exact Below.heap_setCell w ⟨g, o, none⟩ v k hk
theorem setCells_same (g : Nat) : ∀ (vs : List Value) (o : Nat) (w : World), (w.setCells g o vs).os = w.os ∧ (w.setCells g o vs).tape = w.tape ∧ (w.setCells g o vs).output = w.output ∧ (w.setCells g o vs).heap.size = w.heap.size
  | [], _, _ => ⟨rfl, rfl, rfl, rfl⟩
  | v :: r, o, w => by
    obtain ⟨h1, h2, h3, h4⟩ := setCells_same g r (o + 1) (w.setCell ⟨g, o, none⟩ v)
    rw [World.setCells]
    exact ⟨h1, h2, h3, by rw [h4]; simp [World.setCell]⟩
theorem setCells_row {g : Nat} {e : TypeId} : ∀ (vs : List Value) (o : Nat) (w : World) (cur : Array Value), w.heap[g]? = some (.cells cur e (0, 0)) → o + vs.length ≤ cur.size →
    ∃ cur', (w.setCells g o vs).heap[g]? = some (.cells cur' e (0, 0)) ∧ cur'.size = cur.size ∧ cur'.toList = cur.toList.take o ++ vs ++ cur.toList.drop (o + vs.length)
  | [], o, w, cur, h, _ => ⟨cur, h, rfl, by simp⟩
  | v :: r, o, w, cur, h, hl => by
    have h2 := blk_set h o v
    simp only [List.length_cons] at hl
    obtain ⟨cur', h3, h4, h5⟩ := setCells_row r (o + 1) (w.setCell ⟨g, o, none⟩ v) _ h2 (by simp; omega)
    refine ⟨cur', h3, by rw [h4]; simp, ?_⟩
    rw [h5, Array.toList_setIfInBounds]
    have ho : o < cur.toList.length := by rw [Array.length_toList]; omega
    rw [List.take_set, List.drop_set_of_lt (by omega)]
    simp only [List.length_cons]
    rw [show o + 1 + r.length = o + (r.length + 1) by omega]
    congr 1
    rw [List.take_succ_eq_append_getElem ho, List.set_append_right _ _ (by rw [List.length_take]; omega)]
    have ho' : o < cur.size := by omega
    simp [Nat.min_eq_left (Nat.le_of_lt ho')]
end
namespace Kd
end Kd
namespace Kd
end Kd
theorem seg_get {α : Type} (a seg : List α) (o : Nat) (h : o + seg.length ≤ a.length) (q : Nat) :
    (a.take o ++ seg ++ a.drop (o + seg.length))[q]? = if q < o then a[q]? else if q < o + seg.length then seg[q - o]? else a[q]? := by
  have hl : (a.take o).length = o := by rw [List.length_take]; omega
  rw [List.append_assoc]
  by_cases h1 : q < o
  · rw [if_pos h1, List.getElem?_append_left (by omega), List.getElem?_take, if_pos h1]
  · rw [if_neg h1, List.getElem?_append_right (by omega), hl]
    by_cases h2 : q < o + seg.length
    · rw [if_pos h2, List.getElem?_append_left (by omega)]
    · rw [if_neg h2, List.getElem?_append_right (by omega), List.getElem?_drop]
      congr 1
      omega
namespace Kd
section
variable {α : Type} {d : Kd α} {e base g n cap : Nat} {ok okp : Nat → Prop} {W : World} {xs : List α}
theorem R_elem (h : d.R e W base ok (.slice (some ⟨g, 0, none⟩) n cap) xs) (z : α) (i : Int) (h0 : 0 ≤ i) (h1 : i < n) :
    ∃ c, c.length = d.sz ∧ d.M W base (fun k => ok k ∧ k ≠ g) (xs.getD i.toNat z) c ∧ (∀ j u, c[j]? = some u → W.cell? ⟨g, i.toNat * d.sz + j, none⟩ = some u) ∧ ∀ j, W.frozen? ⟨g, i.toNat * d.sz + j, none⟩ = false := by
  obtain ⟨hn, hnc, hC⟩ := R_reads' h
  obtain ⟨_, inner, ho, hr⟩ := h
  have hil : i.toNat < xs.length := by omega
  have hseg : i.toNat * d.sz + d.sz ≤ inner.length := by rw [hr.1, ← Nat.succ_mul]; exact Nat.mul_le_mul_right _ hil
  have hM := hr.2 i.toNat _ (List.getElem?_eq_getElem hil)
  refine ⟨(inner.drop (i.toNat * d.sz)).take d.sz, by rw [List.length_take, List.length_drop]; omega, ?_, fun j u hu => ?_, fun j => ?_⟩
  · rw [List.getD_eq_getElem?_getD, List.getElem?_eq_getElem hil]
    exact d.M_mono (fun k hk => ⟨hk.1, fun he => hk.2 (by rw [he]; simp [Value.ownBlock])⟩) hM
  · rw [List.getElem?_take] at hu
    split at hu
    · rw [List.getElem?_drop] at hu
      have := ho.cells (g := g) (by simp [Value.ownBlock]) _ u hu
      rwa [add_plain] at this
    · cases hu
  · obtain ⟨cells, hc⟩ := own_typed ho g (by simp [Value.ownBlock])
    exact blk_frozen hc _
theorem R_seg (h : d.R e W base ok (.slice (some ⟨g, 0, none⟩) n cap) xs) (i : Int) (h0 : 0 ≤ i) (h1 : i < n) {c seg : List Value} {j : Nat} (hcl : c.length = d.sz) (hcc : ∀ j u, c[j]? = some u → W.cell? ⟨g, i.toNat * d.sz + j, none⟩ = some u)
    (hj : j + seg.length ≤ d.sz) {x' : α} (hM : d.M W base okp x' (c.take j ++ seg ++ c.drop (j + seg.length))) (hokp : ∀ k, okp k → ok k ∧ k ≠ g) :
    d.R e (W.setCells g (i.toNat * d.sz + j) seg) base ok (.slice (some ⟨g, 0, none⟩) n cap) (xs.set i.toNat x') ∧ W.grownBy (W.setCells g (i.toNat * d.sz + j) seg) (some g) := by
  obtain ⟨hn, hnc, _⟩ := R_reads' h
  obtain ⟨hok, inner, ho, hr⟩ := h
  have hil : i.toNat < xs.length := by omega
  have hseg : i.toNat * d.sz + d.sz ≤ inner.length := by rw [hr.1, ← Nat.succ_mul]; exact Nat.mul_le_mul_right _ hil
  have hin : inner.length = n * d.sz := by rw [hr.1, hn]
  obtain ⟨ho1, ho2⟩ := ho
  rcases ho2 with ⟨hv, _⟩ | ⟨g', cap', cur, hv, hb, hh, hnc', hcm, hcs, ht⟩
  · cases hv
  injection hv with ha _ hc
  injection ha with ha
  injection ha with hg
  subst hg; subst hc
  have hfit : i.toNat * d.sz + j + seg.length ≤ cur.size := by
    have : n * d.sz ≤ cap * d.sz := Nat.mul_le_mul_right _ hnc
    omega
  obtain ⟨cur', h3, h4, h5⟩ := setCells_row seg (i.toNat * d.sz + j) W cur hh hfit
  obtain ⟨s1, s2, s3, s4⟩ := setCells_same g seg (i.toNat * d.sz + j) W
  have hfar : ∀ k, k ≠ g → (W.setCells g (i.toNat * d.sz + j) seg).heap[k]? = W.heap[k]? := fun k hk => setCells_far seg _ k hk
  have hcin : ∀ q, q < d.sz → c[q]? = inner[i.toNat * d.sz + q]? := by
    intro q hq
    have hq' : q < c.length := by omega
    have h6 := hcc q _ (List.getElem?_eq_getElem hq')
    rw [cell_of_row W g _ cur e (0, 0) hh] at h6
    rw [List.getElem?_eq_getElem hq', ← h6, ← ht, List.getElem?_take, if_pos (by rw [← hn]; omega), Array.getElem?_toList]
  refine ⟨⟨hok, inner.take (i.toNat * d.sz + j) ++ seg ++ inner.drop (i.toNat * d.sz + j + seg.length), ⟨?_, .inr ⟨g, cap, cur', by rw [List.length_set, hn], hb, h3, by rw [List.length_set, ← hn]; exact hnc, hcm, by rw [h4, hcs], ?_⟩⟩, ?_⟩,
    ⟨s1, s2, s3, by rw [s4]; exact Nat.le_refl _, fun k _ hk => hfar k (fun he => hk (by rw [he]))⟩⟩
  · rw [List.length_set]
    simp only [List.length_append, List.length_take, List.length_drop]
    rw [hr.1] at hseg ⊢
    omega
  · rw [List.length_set, ← hn]
    apply List.ext_getElem?
    intro q
    rw [List.getElem?_take, h5]
    rw [seg_get cur.toList seg (i.toNat * d.sz + j) (by rw [Array.length_toList]; omega) q, seg_get inner seg (i.toNat * d.sz + j) (by omega) q]
    have hcur : ∀ q, q < n * d.sz → cur.toList[q]? = inner[q]? := by
      intro q hq
      rw [← ht, List.getElem?_take, if_pos (by rw [← hn]; exact hq)]
    by_cases hq : q < n * d.sz
    · rw [if_pos hq, hcur q hq]
    · rw [if_neg hq, if_neg (by omega), if_neg (by omega), List.getElem?_eq_none (by omega)]
  · refine ⟨?_, fun m p hm => ?_⟩
    · rw [List.length_set]
      simp only [List.length_append, List.length_take, List.length_drop]
      rw [hr.1] at hseg ⊢
      omega
    · have hml : m < xs.length := by
        have := (List.getElem?_eq_some_iff.1 hm).1
        rwa [List.length_set] at this
      have hmfit : m * d.sz + d.sz ≤ inner.length := by rw [hr.1, ← Nat.succ_mul]; exact Nat.mul_le_mul_right _ hml
      have hgo : some g = (Value.slice (some ⟨g, 0, none⟩) n cap).ownBlock := by simp [Value.ownBlock]
      by_cases hmi : m = i.toNat
      · subst hmi
        rw [List.getElem?_set_self (by omega)] at hm
        injection hm with hm
        subst hm
        have hcells : ((inner.take (i.toNat * d.sz + j) ++ seg ++ inner.drop (i.toNat * d.sz + j + seg.length)).drop (i.toNat * d.sz)).take d.sz = c.take j ++ seg ++ c.drop (j + seg.length) := by
          apply List.ext_getElem?
          intro q
          rw [List.getElem?_take, List.getElem?_drop, seg_get inner seg _ (by omega), seg_get c seg j (by omega) q]
          by_cases hq : q < d.sz
          · rw [if_pos hq, hcin q hq]
            by_cases hq1 : q < j
            · rw [if_pos (by omega), if_pos hq1]
            · rw [if_neg (by omega), if_neg hq1]
              by_cases hq2 : q < j + seg.length
              · rw [if_pos (by omega), if_pos hq2]
                congr 1
                omega
              · rw [if_neg (by omega), if_neg hq2]
          · rw [if_neg hq, if_neg (by omega), if_neg (by omega), List.getElem?_eq_none (by omega)]
        rw [hcells]
        refine d.M_mono (fun k hk => ?_) (d.M_move (w1 := W.setCells g (i.toNat * d.sz + j) seg) (fun k hk => hfar k (hokp k hk).2) hM)
        exact ⟨(hokp k hk).1, fun he => (hokp k hk).2 (by rw [← hgo] at he; injection he)⟩
      · rw [List.getElem?_set_ne (by omega)] at hm
        have hold := hr.2 m p hm
        have hcells : ((inner.take (i.toNat * d.sz + j) ++ seg ++ inner.drop (i.toNat * d.sz + j + seg.length)).drop (m * d.sz)).take d.sz = (inner.drop (m * d.sz)).take d.sz := by
          apply List.ext_getElem?
          intro q
          rw [List.getElem?_take, List.getElem?_take, List.getElem?_drop, List.getElem?_drop, seg_get inner seg _ (by omega)]
          by_cases hq : q < d.sz
          · rw [if_pos hq, if_pos hq]
            rcases Nat.lt_or_gt_of_ne hmi with hlt | hgt
            · have : m * d.sz + d.sz ≤ i.toNat * d.sz := by rw [← Nat.succ_mul]; exact Nat.mul_le_mul_right _ hlt
              rw [if_pos (by omega)]
            · have : i.toNat * d.sz + d.sz ≤ m * d.sz := by rw [← Nat.succ_mul]; exact Nat.mul_le_mul_right _ hgt
              rw [if_neg (by omega), if_neg (by omega)]
          · rw [if_neg hq, if_neg hq]
        rw [hcells]
        refine d.M_move (fun k hk => hfar k (fun he => hk.2 (by rw [he]; exact hgo))) hold
end
end Kd
namespace Kd
def or_ {α : Type} (a b : Kd α) (h : b.sz = a.sz) : Kd α where
  sz := a.sz
  E := a.E ++ b.E
  K := fun w x cs => a.K w x cs ∨ b.K w x cs
  M := fun w base ok x cs => a.M w base ok x cs ∨ b.M w base ok x cs
  K_len := fun hk => hk.elim a.K_len (fun hk => (b.K_len hk).trans h)
  K_one := fun hk => hk.elim a.K_one b.K_one
  K_below := fun hb hk => hk.imp (a.K_below hb) (b.K_below hb)
  K_of_M := fun hk => hk.imp a.K_of_M b.K_of_M
  M_mono := fun hok hk => hk.imp (a.M_mono hok) (b.M_mono hok)
  M_bound := fun hk => hk.imp
    (fun hk => a.M_mono (fun _ ⟨h1, h2, h3, q, hq, hc⟩ => ⟨h1, h2, h3, q, List.mem_append_left _ hq, hc⟩) (a.M_bound hk))
    (fun hk => b.M_mono (fun _ ⟨h1, h2, h3, q, hq, hc⟩ => ⟨h1, h2, h3, q, List.mem_append_right _ hq, hc⟩) (b.M_bound hk))
  M_move := fun hm hk => hk.imp (a.M_move hm) (b.M_move hm)
  M_lower := fun hb hk => hk.imp (a.M_lower hb) (b.M_lower hb)
theorem sub_or {α β : Type} {E : List Nat} {G H : Kd α → Kd β} (h : ∀ d, (H d).sz = (G d).sz) (hG : Sub G E) (hH : Sub H E) : Sub (fun d => or_ (G d) (H d) (h d)) E := fun d hd q hq => by
  rcases List.mem_append.1 hq with hq | hq
  · exact hG d hd q hq
  · exact hH d hd q hq
end Kd
namespace Kd
end Kd
namespace Kd
end Kd
theorem add_add (a : Addr) (i j : Nat) : (a.add i).add j = a.add (i + j) := by
  unfold Addr.add
  by_cases h1 : i = 0 <;> by_cases h2 : j = 0 <;> simp [h1, h2, Nat.add_assoc]
namespace Kd
end Kd
theorem keep_cell {w W : World} {g : Nat} (h : KeepBut w W g none) {a : Addr} {v : Value} (hc : w.cell? a = some v) (hne : a.block ≠ g) : W.cell? a = some v := by
  have := h.2 a.block (World.block_lt_of_cell? w a hc) hne (by simp)
  simpa [World.cell?, this] using hc
theorem add_block (a : Addr) (i : Nat) : (a.add i).block = a.block := by unfold Addr.add; split <;> rfl
theorem keep_size {w W : World} {g : Nat} {row : Option Nat} (h : KeepBut w W g row) : w.heap.size ≤ W.heap.size := h.1
theorem ReadsInt.keep {w W : World} {k : IntKind} {A : Option Addr} {n g : Nat} {xs : List Int} (h : ReadsInt w k A n xs) (hk : KeepBut w W g none) (hf : ∀ ad, A = some ad → 0 < n → ad.block ≠ g) : ReadsInt W k A n xs :=
  ⟨h.1, h.2.1, fun hn => by
    obtain ⟨ad, e, hc⟩ := h.2.2 hn
    exact ⟨ad, e, fun j hj => keep_cell hk (hc j hj) (by rw [add_block]; exact hf ad e hn)⟩⟩
theorem ReadsOf.keep {α : Type} {enc : α → Value} {d : α} {w W : World} {A : Option Addr} {n g : Nat} {xs : List α} (h : ReadsOf enc d w A n xs) (hk : KeepBut w W g none) (hf : ∀ ad, A = some ad → 0 < n → ad.block ≠ g) : ReadsOf enc d W A n xs :=
  ⟨h.1, h.2.1, fun hn => by
    obtain ⟨ad, e, hc⟩ := h.2.2 hn
    exact ⟨ad, e, fun j hj => keep_cell hk (hc j hj) (by rw [add_block]; exact hf ad e hn)⟩⟩
theorem blk_put {w : World} {g : Nat} {t : TypeId} {cs cs' : Array Value} (h : w.heap[g]? = some (.cells cs t (0, 0))) (i : Nat) (u : Value) (e : cs.setIfInBounds i u = cs') : (w.setCell ⟨g, i, none⟩ u).heap[g]? = some (.cells cs' t (0, 0)) := e ▸ blk_set h i u
theorem keep_far {w W : World} {g : Nat} {row : Option Nat} (h : KeepBut w W g row) {p : Addr} (hp : w.heap.size ≤ p.block) (u : Value) : KeepBut w (W.setCell p u) g row :=
  ⟨by simpa [World.setCell] using h.1, fun i hi hg hr => (Below.heap_setCell W p u i (by omega)).trans (h.2 i hi hg hr)⟩
theorem own_put {W : World} {base g cap : Nat} {e : TypeId} {k : IntKind} {xs : List Int} (h : W.ownsRow base e 1 (.slice (some ⟨g, 0, none⟩) xs.length cap) xs.length (nums k xs)) (i x : Int) :
    (W.setCell ⟨g, i.toNat, none⟩ (.int k x)).ownsRow base e 1 (.slice (some ⟨g, 0, none⟩) xs.length cap) (xs.set i.toNat x).length (nums k (xs.set i.toNat x)) := by
  have := (own_store h i x).1
  rwa [show (xs.set i.toNat x).length = xs.length by simp]
namespace Kd
end Kd
namespace Kd
end Kd
namespace Kd
end Kd
namespace Kd
end Kd
section
variable {P : Program} {ops : Array Oper} {o : Oper} {a : Act} {Q : Exit → Act → World → Prop} {Kc : Act → World → Prop}
namespace Kd
variable {α : Type}
end Kd
end
namespace Kd
end Kd
end Go.Proofs.YtlabfjaddgakkaaGreatW.PrintWords
namespace Go.Proofs.YtlabfjaddgakkaaGreatW.PrintLast
end Go.Proofs.YtlabfjaddgakkaaGreatW.PrintLast
namespace Go.Proofs.YtlabfjaddgakkaaGreatW.PrintLast
open Go.Proofs.YtlabfjaddgakkaaGreatW.PrintWords (Aside0)
end Go.Proofs.YtlabfjaddgakkaaGreatW.PrintLast
namespace Go.Proofs.YtlabfjaddgakkaaGreatW.PrintLast
end Go.Proofs.YtlabfjaddgakkaaGreatW.PrintLast
namespace Go.Proofs.YtlabfjaddgakkaaGreatW.PrintWords
open Go.RowKit
namespace Kd
end Kd
end Go.Proofs.YtlabfjaddgakkaaGreatW.PrintWords
namespace Go.Proofs.YtlabfjaddgakkaaGreatW.PrintWords
open Go.RowKit
namespace Kd
end Kd
end Go.Proofs.YtlabfjaddgakkaaGreatW.PrintWords
namespace Go.Proofs.YtlabfjaddgakkaaGreatW.PrintWords
open Go.RowKit
namespace Kd
end Kd
end Go.Proofs.YtlabfjaddgakkaaGreatW.PrintWords
namespace Go.Proofs.YtlabfjaddgakkaaGreatW.PrintWords
open Go.RowKit
namespace Kd
end Kd
end Go.Proofs.YtlabfjaddgakkaaGreatW.PrintWords
namespace Go.Proofs.YtlabfjaddgakkaaGreatW.PrintWords
open Go.RowKit
namespace Kd
end Kd
end Go.Proofs.YtlabfjaddgakkaaGreatW.PrintWords
namespace Go.Proofs.YtlabfjaddgakkaaGreatW.PrintWords
open Go.RowKit
section
variable {w W W2 : World} {S S2 S' : Nat → Prop}
theorem Kept.keep {g : Nat} (h : KeepBut w W g none) (k : Kept W W2 S2) (hs : ∀ k, S2 k → w.heap.size ≤ k) : KeepBut w W2 g none :=
  ⟨Nat.le_trans h.1 k.1, fun i hi hg hr => (k.2 i (Nat.lt_of_lt_of_le hi h.1) (fun h2 => by have := hs i h2; omega)).trans (h.2 i hi hg hr)⟩
end
namespace Kd
end Kd
end Go.Proofs.YtlabfjaddgakkaaGreatW.PrintWords
namespace Go.Proofs.YtlabfjaddgakkaaGreatW.PrintWords
open Go.RowKit
namespace Foot
variable {P Q : World → Prop} {W W1 : World} {ok ok' : Nat → Prop}
theorem imp (h : Foot P W ok) (hi : ∀ W', P W' → Q W') : Foot Q W ok := fun W' hW => hi W' (h W' hW)
end Foot
namespace Kd
end Kd
end Go.Proofs.YtlabfjaddgakkaaGreatW.PrintWords
namespace Go.Proofs.YtlabfjaddgakkaaGreatW.PrintWords
open Go.RowKit
namespace Kd
end Kd
end Go.Proofs.YtlabfjaddgakkaaGreatW.PrintWords
namespace Go.Proofs.YtlabfjaddgakkaaGreatW.PrintWords
open Go.RowKit
namespace Kd
end Kd
end Go.Proofs.YtlabfjaddgakkaaGreatW.PrintWords
namespace Go.Proofs.YtlabfjaddgakkaaGreatW.PrintWords
open Go.RowKit
namespace Kd
end Kd
end Go.Proofs.YtlabfjaddgakkaaGreatW.PrintWords
namespace Go.Proofs.YtlabfjaddgakkaaGreatW.PrintWords
open Go.RowKit
end Go.Proofs.YtlabfjaddgakkaaGreatW.PrintWords
namespace Go.Proofs.YtlabfjaddgakkaaGreatW.PrintWords
end Go.Proofs.YtlabfjaddgakkaaGreatW.PrintWords
namespace Go.Proofs.YtlabfjaddgakkaaGreatW.PrintLast
def up (b : Nat → Bool) (i : Nat) : Nat → Bool := fun j => if j = i then true else b j
end Go.Proofs.YtlabfjaddgakkaaGreatW.PrintLast
namespace Go.Proofs.YtlabfjaddgakkaaGreatW.PrintWords
open Go.RowKit
theorem own_apart {v1 v2 : Value} {n : Nat} (hlt : ∀ k, v1.ownBlock = some k → k < n) (hge : ∀ k, v2.ownBlock = some k → n ≤ k) : v1.ownBlock = none ∨ v1.ownBlock ≠ v2.ownBlock := by
  cases h : v1.ownBlock with
  | none => exact .inl rfl
  | some k => exact .inr (fun e => by have := hlt k h; have := hge k e.symm; omega)
end Go.Proofs.YtlabfjaddgakkaaGreatW.PrintWords
namespace Go.Proofs.YtlabfjaddgakkaaGreatW.PrintLast
end Go.Proofs.YtlabfjaddgakkaaGreatW.PrintLast
namespace Go.Proofs.YtlabfjaddgakkaaGreatW.PrintWords
open Go.RowKit
end Go.Proofs.YtlabfjaddgakkaaGreatW.PrintWords
namespace Go.Proofs.YtlabfjaddgakkaaGreatW.PrintWords
open Go.RowKit
namespace Kd
end Kd
end Go.Proofs.YtlabfjaddgakkaaGreatW.PrintWords
namespace Go.Proofs.YtlabfjaddgakkaaGreatW.PrintMore
open Go.RowKit Go.Proofs.YtlabfjaddgakkaaGreatW.PrintWords
namespace Kd
open Go.Proofs.YtlabfjaddgakkaaGreatW.PrintWords.Kd
end Kd
namespace Kd
open Go.Proofs.YtlabfjaddgakkaaGreatW.PrintWords.Kd
end Kd
end Go.Proofs.YtlabfjaddgakkaaGreatW.PrintMore
namespace Go.Proofs.YtlabfjaddgakkaaGreatW.PrintWords
open Go.RowKit
def shl (k : IntKind) (x y : Int) : Int := k.wrap (x * 2 ^ min y.toNat k.bits)
def shr (k : IntKind) (x y : Int) : Int := x / 2 ^ min y.toNat k.bits
namespace Kd
end Kd
end Go.Proofs.YtlabfjaddgakkaaGreatW.PrintWords
namespace Go.Proofs.YtlabfjaddgakkaaGreatW.PrintWords
open Go.RowKit
namespace Kd
end Kd
end Go.Proofs.YtlabfjaddgakkaaGreatW.PrintWords
namespace Go.Proofs.YtlabfjaddgakkaaGreatW.PrintWords
open Go.ChangeShapes Go.WideShapes
end Go.Proofs.YtlabfjaddgakkaaGreatW.PrintWords
namespace Go.Proofs.YtlabfjaddgakkaaGreatW.OwnWords
open Go.RowKit Go.Proofs.YtlabfjaddgakkaaGreatW.PrintWords Go.Proofs.YtlabfjaddgakkaaGreatW.PrintLast Go.Proofs.YtlabfjaddgakkaaGreatW.PrintMore
end Go.Proofs.YtlabfjaddgakkaaGreatW.OwnWords
end
section
/-! Lists of the call's own. -/
namespace Go.Proofs.YtlabfjaddgakkaaGreat.Need
set_option linter.unusedVariables false
set_option linter.unusedSimpArgs false
open Go.RowKit Go.Proofs.YtlabfjaddgakkaaGreatW.PrintWords Go.Proofs.YtlabfjaddgakkaaGreatW.PrintLast Go.Proofs.YtlabfjaddgakkaaGreatW.PrintMore
/-- All but block g, and the row, stays; the outer world stays. -/
structure KB (w w' : World) (g : Nat) (row : Option Nat) : Prop where
  s : w.heap.size ≤ w'.heap.size
  k : ∀ i, i < w.heap.size → i ≠ g → some i ≠ row → w'.heap[i]? = w.heap[i]?
  io : w'.os = w.os ∧ w'.tape = w.tape ∧ w'.output = w.output
theorem KB.refl (w : World) (g : Nat) (row : Option Nat) : KB w w g row := ⟨Nat.le_refl _, fun _ _ _ _ => rfl, rfl, rfl, rfl⟩
theorem KB.start (w : World) (d g : Nat) (row : Option Nat) : KB w { w with drawn := d } g row := ⟨Nat.le_refl _, fun _ _ _ _ => rfl, rfl, rfl, rfl⟩
theorem KB.of_below {w w1 : World} (h : Below w.heap.size w w1) (g : Nat) (row : Option Nat) : KB w w1 g row := ⟨h.size, fun i hi _ _ => h.block i hi, h.os, h.tape, h.output⟩
theorem KB.trans {w w1 w2 : World} {g : Nat} {row row1 : Option Nat} (h : KB w w1 g row) (k : KB w1 w2 g row1) (hr : row1 = row ∨ ∃ b, row1 = some b ∧ w.heap.size ≤ b) : KB w w2 g row :=
  ⟨Nat.le_trans h.1 k.1, fun i hi hg hn => by
    refine (k.2 i (Nat.lt_of_lt_of_le hi h.1) hg ?_).trans (h.2 i hi hg hn)
    rcases hr with rfl | ⟨b, rfl, hb⟩
    · exact hn
    · intro e
      injection e with e
      omega, k.3.1.trans h.3.1, k.3.2.1.trans h.3.2.1, k.3.2.2.trans h.3.2.2⟩
theorem kb_set {w w1 : World} {g : Nat} (h : KB w w1 g none) (j : Nat) (u : Value) : KB w (w1.setCell ⟨g, j, none⟩ u) g none :=
  ⟨by simpa [World.setCell] using h.1, fun i hi hg hr => (Below.heap_setCell w1 ⟨g, j, none⟩ u i hg).trans (h.2 i hi hg hr), h.3⟩
theorem KB.below {w w1 w2 : World} {g l : Nat} (h : Below w.heap.size w w1) (k : KB w1 w2 g (some l)) (hg : w.heap.size ≤ g) (hl : w.heap.size ≤ l) : Below w.heap.size w w2 :=
  ⟨k.3.1.trans h.os, k.3.2.1.trans h.tape, k.3.2.2.trans h.output, Nat.le_trans h.size k.1, fun i hi => (k.2 i (Nat.lt_of_lt_of_le hi h.size) (by omega) (by intro e; injection e with e; omega)).trans (h.block i hi)⟩
theorem own_put {w : World} {B e size n : Nat} {v : Value} {xs : List Value} (h : w.ownsRow B e size v n xs) {p j : Nat} (hp : p < B) (u : Value) : (w.setCell ⟨p, j, none⟩ u).ownsRow B e size v n xs :=
  own_move h (fun k hk => Below.heap_setCell w ⟨p, j, none⟩ u k (by have := (h.lt k hk).1; show k ≠ p; omega))
theorem own_below {w w' : World} {B e size n : Nat} {v : Value} {xs : List Value} (h : w.ownsRow B e size v n xs) (hb : Below w.heap.size w w') : w'.ownsRow B e size v n xs :=
  own_move h (fun k hk => hb.block k (h.lt k hk).2)
theorem own_keep {w w' : World} {B e size n g : Nat} {v : Value} {xs : List Value} (h : w.ownsRow B e size v n xs) (hb : KB w w' g none) (hg : v.ownBlock ≠ some g) : w'.ownsRow B e size v n xs :=
  own_move h (fun k hk => hb.2 k (h.lt k hk).2 (fun e => hg (e ▸ hk)) (by simp))
theorem own_apart {w : World} {B e size n g t : Nat} {cs : Array Value} {v : Value} {xs : List Value} (h : w.ownsRow B e size v n xs) (hg : w.heap[g]? = some (.cells cs t (0, 0))) (ht : t ≠ e) : v.ownBlock ≠ some g := by
  intro hk
  obtain ⟨c, hc⟩ := own_typed h g hk
  rw [hg] at hc
  injection hc with hc
  injection hc with _ h2 _
  exact ht h2
theorem own_slice {w : World} {B e size n : Nat} {v : Value} {xs : List Value} (h : w.ownsRow B e size v (n + 1) xs) : ∃ g cap, v = .slice (some ⟨g, 0, none⟩) (n + 1) cap ∧ B ≤ g ∧ g < w.heap.size := by
  rcases h.2 with ⟨_, h0⟩ | ⟨g, cap, cur, rfl, hb, hh, _⟩
  · omega
  · exact ⟨g, cap, rfl, hb, blk_lt hh⟩
theorem own_weak {w : World} {B B' e size n : Nat} {v : Value} {xs : List Value} (h : w.ownsRow B e size v n xs) (hB : B' ≤ B) : w.ownsRow B' e size v n xs := by
  refine ⟨h.1, ?_⟩
  rcases h.2 with h0 | ⟨g, cap, cur, rfl, hb, hh⟩
  · exact .inl h0
  · exact .inr ⟨g, cap, cur, rfl, by omega, hh⟩
/-- append of one thing to a list that is none. -/
theorem app_nil {P : Program} {ops : Array Oper} {rest : List Oper} {o : Oper} {a : Act} {Q : Exit → Act → World → Prop} (W : World) (hgd : o.guard = none) (s x : Operand) (t e size bytes : Nat) (z : Value)
    (ho : o.op = .call { callee := .builtin .append, args := #[s, x], argTypes := #[t, t] }) (ht : P.underlying t = some (.slice e)) (hi : (P.info? e).map (fun i => (i.zero, i.size, i.bytes)) = some (some z, size, bytes)) (hzs : z.cells.size = size) (hsz : 0 < size)
    (hs : a.eval s = .slice none 0 0) (g : Nat) (news : List Value) (hx : a.eval x = .slice (some ⟨g, 0, none⟩) 1 1) (hl : news.length = size) (hg : W.heap[g]? = some (.cells news.toArray e (0, 0))) (h1 : ∀ u ∈ news, u.oneCell' = true) (hb : bytes ≤ 1000) (N : Nat) (hN : o.dst = some N)
    (h : ∀ v' w', w'.ownsRow W.heap.size e size v' 1 news → Below W.heap.size W w' → wpList P ops Q rest { a with tmps := a.tmps.setIfInBounds N v' } w') : wpList P ops Q (o :: rest) a W := by
  obtain ⟨i0, hi, hzz⟩ := Option.map_eq_some_iff.1 hi
  simp only [Prod.mk.injEq] at hzz
  obtain ⟨hz0, hz1, hz2⟩ := hzz
  refine wpList_append_own_at W hgd s x t ho W.heap.size e i0 z size bytes ht hi hz0 hz1 hz2 hzs hsz (.slice none 0 0) 0 [] hs (own_nil _ _ _ _) ⟨g, 0, none⟩ 1 1 news hx (by omega) (fun j u hu => ?_) h1 (by decide) (by omega) (Nat.le_refl _) ?_
  · have e : (⟨g, 0, none⟩ : Addr).add j = ⟨g, j, none⟩ := by cases j <;> simp [Addr.add]
    rw [e, blk_cell hg]
    simpa using hu
  · intro v' w' hr hgr _ _
    rw [hN]
    exact h v' w' (by simpa using hr) ⟨hgr.os, hgr.tape, hgr.output, hgr.size, fun k hk => hgr.block k hk (by intro e; cases e)⟩
end Go.Proofs.YtlabfjaddgakkaaGreat.Need
end
section
/-! A region that draws its order, whose operations only read, but for the last one (a call, say), which waits for all others: one walk of the order of the text, then the last operation. -/
namespace Go.Proofs.YtlabfjaddgakkaaGreat.QuietLast
set_option linter.unusedVariables false
set_option linter.unusedSimpArgs false
open Go
section
variable {P : Program} {ops : Array Oper} {md : Region.Mode} {C : World → Prop}
def closed (md : Region.Mode) (ops : Array Oper) (listed : Array Bool) : Prop :=
  ∀ k ok, ops[k]? = some ok → listed.getD k true = true → ∀ e ∈ ok.after, Region.binds md e = true → listed.getD e.on false = true
def coverB (md : Region.Mode) (ops : Array Oper) (c : Nat) : Bool :=
  (List.range ops.size).all fun i => i == c || (List.range ops.size).any fun k => match ops[k]? with
    | some ok => ok.after.any (fun e => Region.binds md e && e.on == i)
    | none => false
def endB (md : Region.Mode) (ops : Array Oper) (c : Nat) (listed : Array Bool) : Bool :=
  Region.ready md ops listed == [c] && (Region.ready md ops (listed.setIfInBounds c true)).isEmpty && (List.range ops.size).all fun j => j == c || listed.getD j true
def lexLB (md : Region.Mode) (ops : Array Oper) : Nat → Nat → Array Bool → Bool
  | 0, k, listed => endB md ops k listed
  | fuel + 1, k, listed => (Region.ready md ops listed).contains k && Region.free md ops listed k && lexLB md ops fuel (k + 1) (listed.setIfInBounds k true)
def wpAnyL (P : Program) (md : Region.Mode) (ops : Array Oper) (C : World → Prop) (c : Nat) (Q : Act → Prop) : Nat → Array Bool → Act → Prop
  | 0, listed, a => endB md ops c listed = true ∧ Q a
  | fuel + 1, listed, a => Region.ready md ops listed ≠ [] ∧ ∀ i ∈ Region.ready md ops listed, i ≠ c ∧ qOp P ops C i (wpAnyL P md ops C c Q fuel (listed.setIfInBounds i true)) a
theorem unlisted {listed : Array Bool} {i : Nat} (h0 : listed.getD i true = false) (h1 : listed.getD i false = true) : False := by
  rcases Nat.lt_or_ge i listed.size with h' | h'
  · simp [h'] at h0 h1
    rw [h0] at h1
    cases h1
  · simp [Array.getElem?_eq_none h'] at h1
theorem closed_set {listed : Array Bool} {j : Nat} (hc : closed md ops listed) (hj : j ∈ Region.ready md ops listed) : closed md ops (listed.setIfInBounds j true) := by
  intro k ok hk hl e he hb
  by_cases hjk : j = k
  · subst hjk
    obtain ⟨_, o, ho, hall⟩ := mem_ready.1 hj
    rw [ho] at hk
    cases hk
    exact getD_set_true (hall e he hb)
  · rw [getD_set_ne true hjk] at hl
    exact getD_set_true (hc k ok hk hl e he hb)
theorem wpAnyL_first {Q : Act → Prop} {c i : Nat} {oi : Oper} {v : Value} (hi : ops[i]? = some oi) (hic : i ≠ c) (hsel : ∀ (j : Nat) (o : Oper) cs b, ops[j]? = some o → o.op ≠ .select cs b) (hcov : coverB md ops c = true) :
    ∀ (fuel : Nat) (listed : Array Bool) (a : Act), closed md ops listed →
      (∀ j oj, ops[j]? = some oj → j ≠ i → listed.getD j true = false → (∀ e ∈ oj.after, Region.binds md e = true → e.on ≠ i) → oi.apart ops oj = true) →
      i ∈ Region.ready md ops listed → YieldsIn P ops C oi v a →
      wpAnyL P md ops C c Q fuel (listed.setIfInBounds i true) (a.put oi.dst v) → wpAnyL P md ops C c Q (fuel + 1) listed a := by
  intro fuel
  induction fuel with
  | zero =>
    intro listed a hcl _ hr hy H
    refine ⟨fun h => (by rw [h] at hr; cases hr), fun j hj => ?_⟩
    by_cases hji : j = i
    · subst hji; exact ⟨hic, hy.qOp hi H⟩
    · exfalso
      obtain ⟨hiun, oi', hoi', hiall⟩ := mem_ready.1 hr
      obtain ⟨hjun, oj, hoj, hall⟩ := mem_ready.1 hj
      have hE := H.1
      simp only [endB, Bool.and_eq_true, List.all_eq_true, List.mem_range, Bool.or_eq_true, beq_iff_eq] at hE
      obtain ⟨_, hE⟩ := hE
      have hlt : ∀ {k o}, ops[k]? = some o → k < ops.size := fun h => (Array.getElem?_eq_some_iff.1 h).1
      have hjc : j = c := by
        rcases hE j (hlt hoj) with h | h
        · exact h
        · rw [getD_set_ne true (Ne.symm hji), hjun] at h
          cases h
      subst hjc
      have hcv := hcov
      simp only [coverB, List.all_eq_true, List.mem_range, Bool.or_eq_true, beq_iff_eq] at hcv
      rcases hcv i (hlt hi) with h | h
      · exact hic h
      · obtain ⟨k, _, hk⟩ := List.any_eq_true.1 h
        cases hok : ops[k]? with
        | none => simp [hok] at hk
        | some ok =>
          simp only [hok] at hk
          obtain ⟨e, he, hbe⟩ := Array.any_eq_true'.1 hk
          simp only [Bool.and_eq_true, beq_iff_eq] at hbe
          obtain ⟨hb, hon⟩ := hbe
          by_cases hkj : k = j
          · subst hkj
            rw [hoj] at hok
            cases hok
            exact unlisted hiun (hon ▸ hall e he hb)
          · by_cases hki : k = i
            · subst hki
              rw [hoi'] at hok
              cases hok
              exact unlisted hiun (hon ▸ hiall e he hb)
            · rcases hE k (hlt hok) with h | h
              · exact hkj h
              · rw [getD_set_ne true (Ne.symm hki)] at h
                exact unlisted hiun (hon ▸ hcl k ok hok h e he hb)
  | succ fuel ih =>
    intro listed a hcl hfree hr hy H
    refine ⟨fun h => (by rw [h] at hr; cases hr), fun j hj => ?_⟩
    by_cases hji : j = i
    · subst hji; exact ⟨hic, hy.qOp hi H⟩
    · obtain ⟨hjc, h1⟩ := H.2 j (ready_mono hj hji)
      refine ⟨hjc, ?_⟩
      obtain ⟨hjun, oj, hoj, hall⟩ := mem_ready.1 hj
      have hnot : ∀ e ∈ oj.after, Region.binds md e = true → e.on ≠ i := fun e he hb heq => unlisted (mem_ready.1 hr).1 (heq ▸ hall e he hb)
      have h2 := qOp_put hoj (hfree j oj hoj hji hjun hnot) (fun cs b => hsel i oi cs b hi) (fun cs b => hsel j oj cs b hoj) hy h1
      have hfree' : ∀ k ok, ops[k]? = some ok → k ≠ i → (listed.setIfInBounds j true).getD k true = false →
          (∀ e ∈ ok.after, Region.binds md e = true → e.on ≠ i) → oi.apart ops ok = true := fun k ok hk hki hun hno => by
        refine hfree k ok hk hki ?_ hno
        by_cases hjk : j = k
        · subst hjk; exact hjun
        · rw [getD_set_ne true hjk] at hun; exact hun
      refine qOp_mono (fun a' h3 => ih (listed.setIfInBounds j true) a' (closed_set hcl hj) hfree' (ready_mono hr (Ne.symm hji)) h3.1 ?_) h2
      rw [Array.setIfInBounds_comm _ _ hji]
      exact h3.2
theorem wpAnyL_lex {Q : Act → Prop} {c : Nat} (hs : Region.noSelect ops = true) (hcov : coverB md ops c = true) : ∀ (l : List Oper) (k : Nat) (listed : Array Bool) (a : Act), k + l.length = c → (∀ j, j < l.length → l[j]? = ops[k + j]?) →
    closed md ops listed → lexLB md ops l.length k listed = true → wpQuiet P ops C Q l a → wpAnyL P md ops C c Q l.length listed a
  | [], k, _, _, hc, _, _, hB, h => by
    obtain rfl : k = c := by simpa using hc
    exact ⟨hB, h⟩
  | o :: l, k, listed, a, hc, hl, hcl, hB, h => by
    have h0 : ops[k]? = some o := by simpa using (hl 0 (by simp)).symm
    simp only [List.length_cons] at hc
    simp only [List.length_cons, lexLB, Bool.and_eq_true] at hB
    obtain ⟨⟨hr, hf⟩, hB'⟩ := hB
    have hst : qOp P ops C k (wpQuiet P ops C Q l) a := by unfold qOp; simp only [h0]; exact h
    obtain ⟨v, hy, hK⟩ := yieldsIn_of_qOp h0 hst
    exact wpAnyL_first h0 (by omega) (Region.noSelect_spec hs) hcov l.length listed a hcl (Region.free_spec h0 hf) (by simpa using hr) hy
      (wpAnyL_lex hs hcov l (k + 1) _ _ (by omega) (fun j hj => by have := hl (j + 1) (by simp; omega); simpa [Nat.add_assoc, Nat.add_comm 1 j] using this) (closed_set hcl (by simpa using hr)) hB' hK)
theorem wpAny_of_L {Q : Act → Prop} {c : Nat} {Q' : Exit → Act → World → Prop} (hQ : ∀ a w, C w → Q a → wpOp P ops Q' c (fun a w => Q' .normal a w) a w) : ∀ (fuel : Nat) (listed : Array Bool) (a : Act) (w : World), C w →
    wpAnyL P md ops C c Q fuel listed a → wpAny P md ops Q' (fuel + 1) listed a w
  | 0, listed, a, w, hw, h => by
    obtain ⟨hE, h⟩ := h
    simp only [endB, Bool.and_eq_true, beq_iff_eq, List.isEmpty_iff] at hE
    obtain ⟨⟨h1, h2⟩, _⟩ := hE
    refine ⟨fun h0 => (by rw [h1] at h0; cases h0), fun i hi => ?_⟩
    rw [h1, List.mem_singleton] at hi
    subst hi
    exact wpOp_mono (fun a w h => ⟨h2, h⟩) (hQ a w hw h)
  | fuel + 1, listed, a, w, hw, h => ⟨fun h0 => absurd h0 h.1, fun i hi => wpOp_of_qOp hw (fun a' w' hw' => wpAny_of_L hQ fuel _ a' w' hw') (h.2 i hi).2⟩
def initL : List Oper → List Oper
  | [] => []
  | [_] => []
  | o :: o' :: r => o :: initL (o' :: r)
def lastL : List Oper → List Oper
  | [] => []
  | [o] => [o]
  | _ :: o' :: r => lastL (o' :: r)
theorem init_last : ∀ (l : List Oper), initL l ++ lastL l = l
  | [] => rfl
  | [_] => rfl
  | o :: o' :: r => by simp only [initL, lastL, List.cons_append, init_last (o' :: r)]
theorem last_some : ∀ (l : List Oper), l ≠ [] → ∃ c, lastL l = [c]
  | [], h => absurd rfl h
  | [o], _ => ⟨o, rfl⟩
  | _ :: o' :: r, _ => by
    obtain ⟨c, h⟩ := last_some (o' :: r) (by simp)
    exact ⟨c, by simp only [lastL, h]⟩
def lastB (L : List Oper) : Bool := !L.isEmpty && Region.noSelect L.toArray && coverB .any L.toArray (initL L).length && lexLB .any L.toArray (initL L).length 0 (Array.replicate L.toArray.size false)
/-- One walk of the order of the text, then the last operation, in the world after some draws. -/
theorem wp_region_qlast {id : Nat} {Q : Exit → Act → World → Prop} {a : Act} {w : World} {L : List Oper} (hm : P.follows .mixedOrders = true) (hB : lastB L = true)
    (h : wpQuiet P L.toArray (fun w' => ∃ n, w' = w.drewN n) (fun a' => ∀ w', (∃ n, w' = w.drewN n) → wpList P L.toArray Q (lastL L) a' w') (initL L) a) : (Code.region id L.toArray true).wp P Q a w := by
  simp only [lastB, Bool.and_eq_true, Bool.not_eq_true', List.isEmpty_eq_false_iff] at hB
  obtain ⟨⟨⟨hne, hs⟩, hcov⟩, hlex⟩ := hB
  obtain ⟨c, hc⟩ := last_some L hne
  have hL : initL L ++ [c] = L := by rw [← hc]; exact init_last L
  have hsz : L.toArray.size = (initL L).length + 1 := by
    have := congrArg List.length hL
    simp only [List.length_append, List.length_singleton] at this
    simpa using this.symm
  have hget : L.toArray[(initL L).length]? = some c := by
    have : L[(initL L).length]? = some c := by
      have h5 : (initL L ++ [c])[(initL L).length]? = some c := List.getElem?_concat_length
      rw [hL] at h5
      exact h5
    simpa using this
  refine wp_region_any hm ?_
  have := wpAnyL_lex (P := P) (C := fun w' => ∃ n, w' = w.drewN n) (md := .any) (c := (initL L).length) hs hcov (initL L) 0 (Array.replicate L.toArray.size false) a (by simp) (fun j hj => by
      have h2 : L[j]? = (initL L)[j]? := by
        have h5 : (initL L ++ [c])[j]? = (initL L)[j]? := List.getElem?_append_left hj
        rw [hL] at h5
        exact h5
      simpa using h2.symm) (fun k ok hk hl => by
      have hlt := (Array.getElem?_eq_some_iff.1 hk).1
      exfalso
      have hlt' : k < L.length := by simpa using hlt
      simp [Array.getElem?_replicate, hlt'] at hl) hlex h
  have h3 := wpAny_of_L (Q' := Q) (fun a' w' hw' hq => (by
    have h4 := hq w' hw'
    rw [hc] at h4
    unfold wpOp
    simp only [hget]
    exact h4)) _ _ a { w with drawn := w.drawn + 1 } ⟨1, rfl⟩ this
  rw [← hsz] at h3
  exact h3
end
end Go.Proofs.YtlabfjaddgakkaaGreat.QuietLast
end
section
/-! A region that draws its order, whose operations only read and whose callees leave everything that was there: one walk of the order of the text, in every world that bears what was there. -/
namespace Go.Proofs.YtlabfjaddgakkaaGreat.RegCl
set_option linter.unusedVariables false
set_option linter.unusedSimpArgs false
open Go.RowKit Go.Proofs.YtlabfjaddgakkaaGreatW.PrintWords
/-- A world that bears all that w bears. -/
structure Cl (w : World) where
  v : World
  b : Below w.heap.size w v
instance (w : World) : Nonempty (Cl w) := ⟨⟨w, Below.refl _ _⟩⟩
theorem wp_region_cl {P : Program} {id : Nat} {Q : Exit → Act → World → Prop} {a : Act} {w : World} {l : List Oper} (hm : P.follows .mixedOrders = true) (hB : Region.lexB .any l.toArray = true)
    (h : wpQuiet P l.toArray (fun w' => ∃ x : Cl w, w' = x.v) (fun a' => ∀ x : Cl w, Q .normal a' x.v) l a) : (Code.region id l.toArray true).wp P Q a w :=
  wp_region_quiet (C := fun w' => ∃ x : Cl w, w' = x.v) hm hB ⟨⟨w.drew, below_drew (Below.refl _ _)⟩, rfl⟩ (by
    have h' : (fun a' => ∀ w', (∃ x : Cl w, w' = x.v) → Q .normal a' w') = (fun a' => ∀ x : Cl w, Q .normal a' x.v) := by
      funext a'
      exact propext ⟨fun h x => h _ ⟨x, rfl⟩, fun h w' ⟨x, hx⟩ => hx ▸ h x⟩
    rw [h']
    simpa using h)
end Go.Proofs.YtlabfjaddgakkaaGreat.RegCl
end
section
/-! A region that draws its order: all but the last operation leave what lay there. -/
namespace Go.Proofs.YtlabfjaddgakkaaGreat.QuietLast
set_option linter.unusedVariables false
set_option linter.unusedSimpArgs false
open Go Go.RowKit Go.Proofs.YtlabfjaddgakkaaGreatW.PrintWords
section
variable {P : Program} {ops : Array Oper} {md : Region.Mode}
/-- One walk of the order of the text, then the last operation, in the world after some draws. -/
theorem wp_region_qlastC {id : Nat} {Q : Exit → Act → World → Prop} {a : Act} {w : World} {L : List Oper} (hm : P.follows .mixedOrders = true) (hB : lastB L = true)
    (h : wpQuiet P L.toArray (fun w' => ∃ x : RegCl.Cl w, w' = x.v) (fun a' => ∀ x : RegCl.Cl w, wpList P L.toArray Q (lastL L) a' x.v) (initL L) a) : (Code.region id L.toArray true).wp P Q a w := by
  simp only [lastB, Bool.and_eq_true, Bool.not_eq_true', List.isEmpty_eq_false_iff] at hB
  obtain ⟨⟨⟨hne, hs⟩, hcov⟩, hlex⟩ := hB
  obtain ⟨c, hc⟩ := last_some L hne
  have hL : initL L ++ [c] = L := by rw [← hc]; exact init_last L
  have hsz : L.toArray.size = (initL L).length + 1 := by
    have := congrArg List.length hL
    simp only [List.length_append, List.length_singleton] at this
    simpa using this.symm
  have hget : L.toArray[(initL L).length]? = some c := by
    have : L[(initL L).length]? = some c := by
      have h5 : (initL L ++ [c])[(initL L).length]? = some c := List.getElem?_concat_length
      rw [hL] at h5
      exact h5
    simpa using this
  refine wp_region_any hm ?_
  have := wpAnyL_lex (P := P) (C := fun w' => ∃ x : RegCl.Cl w, w' = x.v) (md := .any) (c := (initL L).length) hs hcov (initL L) 0 (Array.replicate L.toArray.size false) a (by simp) (fun j hj => by
      have h2 : L[j]? = (initL L)[j]? := by
        have h5 : (initL L ++ [c])[j]? = (initL L)[j]? := List.getElem?_append_left hj
        rw [hL] at h5
        exact h5
      simpa using h2.symm) (fun k ok hk hl => by
      have hlt := (Array.getElem?_eq_some_iff.1 hk).1
      exfalso
      have hlt' : k < L.length := by simpa using hlt
      simp [Array.getElem?_replicate, hlt'] at hl) hlex h
  have h3 := wpAny_of_L (Q' := Q) (fun a' w' hw' hq => (by
    obtain ⟨x, rfl⟩ := hw'
    have h4 := hq x
    rw [hc] at h4
    unfold wpOp
    simp only [hget]
    exact h4)) _ _ a { w with drawn := w.drawn + 1 } ⟨⟨w.drew, below_drew (Below.refl _ _)⟩, rfl⟩ this
  rw [← hsz] at h3
  exact h3
end
end Go.Proofs.YtlabfjaddgakkaaGreat.QuietLast
end
section
/-! The parser of trees at awake's text: the tokens. -/
namespace Go.Proofs.YtlabfjaddgakkaaGreat.Need
set_option linter.unusedVariables false
set_option linter.unusedSimpArgs false
open Go.RowKit Go.Proofs.YtlabfjaddgakkaaGreatW.PrintWords Go.Proofs.YtlabfjaddgakkaaGreatW.PrintLast Go.Proofs.YtlabfjaddgakkaaGreatW.PrintMore Go.Proofs.YtlabfjaddgakkaaGreat.Q
theorem kb_set' {w w1 : World} {g : Nat} {row : Option Nat} (h : KB w w1 g row) (j : Nat) (u : Value) : KB w (w1.setCell ⟨g, j, none⟩ u) g row :=
  ⟨by simpa [World.setCell] using h.1, fun i hi hg hr => (Below.heap_setCell w1 ⟨g, j, none⟩ u i hg).trans (h.2 i hi hg hr), h.3⟩
theorem kb_new {w w1 : World} {p g : Nat} {row : Option Nat} (h : KB w w1 p row) (hg : w.heap.size ≤ g) (j : Nat) (u : Value) : KB w (w1.setCell ⟨g, j, none⟩ u) p row :=
  ⟨by simpa [World.setCell] using h.1, fun i hi hp hr => (Below.heap_setCell w1 ⟨g, j, none⟩ u i (by show i ≠ g; omega)).trans (h.2 i hi hp hr), h.3⟩
theorem blk_keep {w w' : World} {g p : Nat} {o : Obj} (h : w.heap[g]? = some o) (hk : KB w w' p none) (hne : g ≠ p) : w'.heap[g]? = some o := (hk.2 g (blk_lt h) hne (by simp)).trans h
theorem blk_apart {w : World} {g g' : Nat} {t t' : TypeId} {cs cs' : Array Value} (h : w.heap[g]? = some (.cells cs t (0, 0))) (h' : w.heap[g']? = some (.cells cs' t' (0, 0))) (hne : t ≠ t') : g ≠ g' := by
  rintro rfl
  rw [h] at h'
  injection h' with h'
  injection h' with _ h2 _
  exact hne h2
theorem two_keep {w w1 w2 : World} {g : Nat} (h : Below w.heap.size w w1) (k : KB w1 w2 g none) : KB w w2 g none := KB.trans (KB.of_below h g none) k (.inl rfl)
theorem then_keep {w w1 w2 : World} {g : Nat} (h : KB w w1 g none) (k : Below w1.heap.size w1 w2) : KB w w2 g none := KB.trans h (KB.of_below k g none) (.inl rfl)
abbrev src : ByteArray := ⟨#[49, 32, 43, 32, 50, 32, 42, 32, 51, 32, 61, 61, 32, 55]⟩
abbrev flat : List Value := [.string ⟨#[105, 110, 116]⟩, .string ⟨#[49]⟩, .int .i64 0, .string ⟨#[115, 105, 103, 110]⟩, .string ⟨#[43]⟩, .int .i64 2, .string ⟨#[105, 110, 116]⟩, .string ⟨#[50]⟩, .int .i64 4, .string ⟨#[115, 105, 103, 110]⟩, .string ⟨#[42]⟩, .int .i64 6, .string ⟨#[105, 110, 116]⟩, .string ⟨#[51]⟩, .int .i64 8, .string ⟨#[115, 105, 103, 110]⟩, .string ⟨#[61, 61]⟩, .int .i64 10, .string ⟨#[105, 110, 116]⟩, .string ⟨#[55]⟩, .int .i64 13]
/-- The parser lies in block pb, its tokens in block g; the next one is i. -/
structure Pr (w : World) (pb g c : Nat) (i : Int) : Prop where
  P : w.heap[pb]? = some (.cells #[.string src, .slice (some ⟨g, 0, none⟩) 7 c, .int .i64 i, .pointer none] 86 (0, 0))
  T : w.ownsRow 0 59 3 (.slice (some ⟨g, 0, none⟩) 7 c) 7 flat
theorem Pr.below {w w' : World} {pb g c : Nat} {i : Int} (h : Pr w pb g c i) (hb : Below w.heap.size w w') : Pr w' pb g c i := ⟨blk_below h.P hb, own_below h.T hb⟩
theorem Pr.ne {w : World} {pb g c : Nat} {i : Int} (h : Pr w pb g c i) : pb ≠ g := fun e => own_apart h.T h.P (by decide) (by rw [e]; rfl)
theorem Pr.at_ {w : World} {pb g c : Nat} {i : Int} (h : Pr w pb g c i) (j : Int) : Pr (w.setCell ⟨pb, 2, none⟩ (.int .i64 j)) pb g c j :=
  ⟨blk_put h.P 2 _ rfl, own_move h.T (fun k hk => Below.heap_setCell w ⟨pb, 2, none⟩ _ k (by have e : g = k := Option.some.inj hk; have := h.ne; show k ≠ pb; omega))⟩
set_option maxHeartbeats 2000000 in
set_option maxRecDepth 100000 in
theorem peek0 (w : World) (pb g c : Nat) (h : Pr w pb g c 0) :
    Calls Tryz.prog 146 #[.pointer (some ⟨pb, 0, none⟩), .int .i64 0] w (fun e w' => e = .returned (.agg #[.string ⟨#[105, 110, 116]⟩, .string ⟨#[49]⟩, .int .i64 0]) ∧ Below w.heap.size w w') := by
  have HP := Aside0.mk (h.below (below_alloc (Below.refl w.heap.size w) (.cells #[.string ⟨#[]⟩, .string ⟨#[]⟩, .int .i64 0] 59 (0, 0))))
  have HG := Aside0.mk (blk_new w (.cells #[.string ⟨#[]⟩, .string ⟨#[]⟩, .int .i64 0] 59 (0, 0)))
  have p1 := (blk_cell HP.out.P 1).trans rfl
  have p2 := (blk_cell HP.out.P 2).trans rfl
  have k0 := (HP.out.T.cellAt 0 (by decide)).trans rfl
  have k1 := (HP.out.T.cellAt 1 (by decide)).trans rfl
  have k2 := (HP.out.T.cellAt 2 (by decide)).trans rfl
  have z0 := blk_frozen HG.out 0
  have z1 := blk_frozen HG.out 1
  have z2 := blk_frozen HG.out 2
  have n0 := (blk_cell HG.out 0).trans rfl
  have n1 := (blk_cell HG.out 1).trans rfl
  have n2 := (blk_cell HG.out 2).trans rfl
  clear h
  go_enter Tryz.func146, Tryz.ntmps146
  go_upto_region 1 with fail
  (try simp only [Act.put, List.setIfInBounds_toArray, List.set_cons_zero, List.set_cons_succ])
  go_quiet (fail)
  go_upto_region 2 with fail
  (try simp only [Act.put, List.setIfInBounds_toArray, List.set_cons_zero, List.set_cons_succ])
  refine QuietLast.wp_region_qlast (by kernel_rfl) (by kernel_rfl) ?_
  dsimp only [QuietLast.initL, QuietLast.lastL]
  repeat (go_big_quiet_step (fail))
  refine wpQuiet_nil ?_
  intro _ hw'
  obtain ⟨nq, hw''⟩ := hw'
  subst hw''
  go_wp2_with fail
  refine bodyPost_ret (results_cell_row rfl _ _ w.heap.size 59 #[.string ⟨#[105, 110, 116]⟩, .string ⟨#[49]⟩, .int .i64 0] (0, 0) _ rfl (by (with_reducible repeat (first | refine blk_drewN ?_ _ | refine blk_drew ?_)); first | exact blk_put (blk_put (blk_put HG.out 0 _ rfl) 1 _ rfl) 2 _ rfl | exact blk_put (blk_put (blk_put (blk_drewN HG.out _) 0 _ rfl) 1 _ rfl) 2 _ rfl) Tryz.underlying59 rfl (by kernel_rfl)) rfl ?_
  refine ⟨rfl, ?_⟩
  repeat (first | (with_reducible first | exact below_alloc (Below.refl _ _) _ | apply pw_below_drewN | apply below_drew1) | (refine below_set ?_ (by omega)))
set_option maxHeartbeats 2000000 in
set_option maxRecDepth 100000 in
theorem peek1 (w : World) (pb g c : Nat) (h : Pr w pb g c 1) :
    Calls Tryz.prog 146 #[.pointer (some ⟨pb, 0, none⟩), .int .i64 0] w (fun e w' => e = .returned (.agg #[.string ⟨#[115, 105, 103, 110]⟩, .string ⟨#[43]⟩, .int .i64 2]) ∧ Below w.heap.size w w') := by
  have HP := Aside0.mk (h.below (below_alloc (Below.refl w.heap.size w) (.cells #[.string ⟨#[]⟩, .string ⟨#[]⟩, .int .i64 0] 59 (0, 0))))
  have HG := Aside0.mk (blk_new w (.cells #[.string ⟨#[]⟩, .string ⟨#[]⟩, .int .i64 0] 59 (0, 0)))
  have p1 := (blk_cell HP.out.P 1).trans rfl
  have p2 := (blk_cell HP.out.P 2).trans rfl
  have k0 := (HP.out.T.cellAt 3 (by decide)).trans rfl
  have k1 := (HP.out.T.cellAt 4 (by decide)).trans rfl
  have k2 := (HP.out.T.cellAt 5 (by decide)).trans rfl
  have z0 := blk_frozen HG.out 0
  have z1 := blk_frozen HG.out 1
  have z2 := blk_frozen HG.out 2
  have n0 := (blk_cell HG.out 0).trans rfl
  have n1 := (blk_cell HG.out 1).trans rfl
  have n2 := (blk_cell HG.out 2).trans rfl
  clear h
  go_enter Tryz.func146, Tryz.ntmps146
  go_upto_region 1 with fail
  (try simp only [Act.put, List.setIfInBounds_toArray, List.set_cons_zero, List.set_cons_succ])
  go_quiet (fail)
  go_upto_region 2 with fail
  (try simp only [Act.put, List.setIfInBounds_toArray, List.set_cons_zero, List.set_cons_succ])
  refine QuietLast.wp_region_qlast (by kernel_rfl) (by kernel_rfl) ?_
  dsimp only [QuietLast.initL, QuietLast.lastL]
  repeat (go_big_quiet_step (fail))
  refine wpQuiet_nil ?_
  intro _ hw'
  obtain ⟨nq, hw''⟩ := hw'
  subst hw''
  go_wp2_with fail
  refine bodyPost_ret (results_cell_row rfl _ _ w.heap.size 59 #[.string ⟨#[115, 105, 103, 110]⟩, .string ⟨#[43]⟩, .int .i64 2] (0, 0) _ rfl (by (with_reducible repeat (first | refine blk_drewN ?_ _ | refine blk_drew ?_)); first | exact blk_put (blk_put (blk_put HG.out 0 _ rfl) 1 _ rfl) 2 _ rfl | exact blk_put (blk_put (blk_put (blk_drewN HG.out _) 0 _ rfl) 1 _ rfl) 2 _ rfl) Tryz.underlying59 rfl (by kernel_rfl)) rfl ?_
  refine ⟨rfl, ?_⟩
  repeat (first | (with_reducible first | exact below_alloc (Below.refl _ _) _ | apply pw_below_drewN | apply below_drew1) | (refine below_set ?_ (by omega)))
set_option maxHeartbeats 2000000 in
set_option maxRecDepth 100000 in
theorem peek2 (w : World) (pb g c : Nat) (h : Pr w pb g c 2) :
    Calls Tryz.prog 146 #[.pointer (some ⟨pb, 0, none⟩), .int .i64 0] w (fun e w' => e = .returned (.agg #[.string ⟨#[105, 110, 116]⟩, .string ⟨#[50]⟩, .int .i64 4]) ∧ Below w.heap.size w w') := by
  have HP := Aside0.mk (h.below (below_alloc (Below.refl w.heap.size w) (.cells #[.string ⟨#[]⟩, .string ⟨#[]⟩, .int .i64 0] 59 (0, 0))))
  have HG := Aside0.mk (blk_new w (.cells #[.string ⟨#[]⟩, .string ⟨#[]⟩, .int .i64 0] 59 (0, 0)))
  have p1 := (blk_cell HP.out.P 1).trans rfl
  have p2 := (blk_cell HP.out.P 2).trans rfl
  have k0 := (HP.out.T.cellAt 6 (by decide)).trans rfl
  have k1 := (HP.out.T.cellAt 7 (by decide)).trans rfl
  have k2 := (HP.out.T.cellAt 8 (by decide)).trans rfl
  have z0 := blk_frozen HG.out 0
  have z1 := blk_frozen HG.out 1
  have z2 := blk_frozen HG.out 2
  have n0 := (blk_cell HG.out 0).trans rfl
  have n1 := (blk_cell HG.out 1).trans rfl
  have n2 := (blk_cell HG.out 2).trans rfl
  clear h
  go_enter Tryz.func146, Tryz.ntmps146
  go_upto_region 1 with fail
  (try simp only [Act.put, List.setIfInBounds_toArray, List.set_cons_zero, List.set_cons_succ])
  go_quiet (fail)
  go_upto_region 2 with fail
  (try simp only [Act.put, List.setIfInBounds_toArray, List.set_cons_zero, List.set_cons_succ])
  refine QuietLast.wp_region_qlast (by kernel_rfl) (by kernel_rfl) ?_
  dsimp only [QuietLast.initL, QuietLast.lastL]
  repeat (go_big_quiet_step (fail))
  refine wpQuiet_nil ?_
  intro _ hw'
  obtain ⟨nq, hw''⟩ := hw'
  subst hw''
  go_wp2_with fail
  refine bodyPost_ret (results_cell_row rfl _ _ w.heap.size 59 #[.string ⟨#[105, 110, 116]⟩, .string ⟨#[50]⟩, .int .i64 4] (0, 0) _ rfl (by (with_reducible repeat (first | refine blk_drewN ?_ _ | refine blk_drew ?_)); first | exact blk_put (blk_put (blk_put HG.out 0 _ rfl) 1 _ rfl) 2 _ rfl | exact blk_put (blk_put (blk_put (blk_drewN HG.out _) 0 _ rfl) 1 _ rfl) 2 _ rfl) Tryz.underlying59 rfl (by kernel_rfl)) rfl ?_
  refine ⟨rfl, ?_⟩
  repeat (first | (with_reducible first | exact below_alloc (Below.refl _ _) _ | apply pw_below_drewN | apply below_drew1) | (refine below_set ?_ (by omega)))
set_option maxHeartbeats 2000000 in
set_option maxRecDepth 100000 in
theorem peek3 (w : World) (pb g c : Nat) (h : Pr w pb g c 3) :
    Calls Tryz.prog 146 #[.pointer (some ⟨pb, 0, none⟩), .int .i64 0] w (fun e w' => e = .returned (.agg #[.string ⟨#[115, 105, 103, 110]⟩, .string ⟨#[42]⟩, .int .i64 6]) ∧ Below w.heap.size w w') := by
  have HP := Aside0.mk (h.below (below_alloc (Below.refl w.heap.size w) (.cells #[.string ⟨#[]⟩, .string ⟨#[]⟩, .int .i64 0] 59 (0, 0))))
  have HG := Aside0.mk (blk_new w (.cells #[.string ⟨#[]⟩, .string ⟨#[]⟩, .int .i64 0] 59 (0, 0)))
  have p1 := (blk_cell HP.out.P 1).trans rfl
  have p2 := (blk_cell HP.out.P 2).trans rfl
  have k0 := (HP.out.T.cellAt 9 (by decide)).trans rfl
  have k1 := (HP.out.T.cellAt 10 (by decide)).trans rfl
  have k2 := (HP.out.T.cellAt 11 (by decide)).trans rfl
  have z0 := blk_frozen HG.out 0
  have z1 := blk_frozen HG.out 1
  have z2 := blk_frozen HG.out 2
  have n0 := (blk_cell HG.out 0).trans rfl
  have n1 := (blk_cell HG.out 1).trans rfl
  have n2 := (blk_cell HG.out 2).trans rfl
  clear h
  go_enter Tryz.func146, Tryz.ntmps146
  go_upto_region 1 with fail
  (try simp only [Act.put, List.setIfInBounds_toArray, List.set_cons_zero, List.set_cons_succ])
  go_quiet (fail)
  go_upto_region 2 with fail
  (try simp only [Act.put, List.setIfInBounds_toArray, List.set_cons_zero, List.set_cons_succ])
  refine QuietLast.wp_region_qlast (by kernel_rfl) (by kernel_rfl) ?_
  dsimp only [QuietLast.initL, QuietLast.lastL]
  repeat (go_big_quiet_step (fail))
  refine wpQuiet_nil ?_
  intro _ hw'
  obtain ⟨nq, hw''⟩ := hw'
  subst hw''
  go_wp2_with fail
  refine bodyPost_ret (results_cell_row rfl _ _ w.heap.size 59 #[.string ⟨#[115, 105, 103, 110]⟩, .string ⟨#[42]⟩, .int .i64 6] (0, 0) _ rfl (by (with_reducible repeat (first | refine blk_drewN ?_ _ | refine blk_drew ?_)); first | exact blk_put (blk_put (blk_put HG.out 0 _ rfl) 1 _ rfl) 2 _ rfl | exact blk_put (blk_put (blk_put (blk_drewN HG.out _) 0 _ rfl) 1 _ rfl) 2 _ rfl) Tryz.underlying59 rfl (by kernel_rfl)) rfl ?_
  refine ⟨rfl, ?_⟩
  repeat (first | (with_reducible first | exact below_alloc (Below.refl _ _) _ | apply pw_below_drewN | apply below_drew1) | (refine below_set ?_ (by omega)))
set_option maxHeartbeats 2000000 in
set_option maxRecDepth 100000 in
theorem peek4 (w : World) (pb g c : Nat) (h : Pr w pb g c 4) :
    Calls Tryz.prog 146 #[.pointer (some ⟨pb, 0, none⟩), .int .i64 0] w (fun e w' => e = .returned (.agg #[.string ⟨#[105, 110, 116]⟩, .string ⟨#[51]⟩, .int .i64 8]) ∧ Below w.heap.size w w') := by
  have HP := Aside0.mk (h.below (below_alloc (Below.refl w.heap.size w) (.cells #[.string ⟨#[]⟩, .string ⟨#[]⟩, .int .i64 0] 59 (0, 0))))
  have HG := Aside0.mk (blk_new w (.cells #[.string ⟨#[]⟩, .string ⟨#[]⟩, .int .i64 0] 59 (0, 0)))
  have p1 := (blk_cell HP.out.P 1).trans rfl
  have p2 := (blk_cell HP.out.P 2).trans rfl
  have k0 := (HP.out.T.cellAt 12 (by decide)).trans rfl
  have k1 := (HP.out.T.cellAt 13 (by decide)).trans rfl
  have k2 := (HP.out.T.cellAt 14 (by decide)).trans rfl
  have z0 := blk_frozen HG.out 0
  have z1 := blk_frozen HG.out 1
  have z2 := blk_frozen HG.out 2
  have n0 := (blk_cell HG.out 0).trans rfl
  have n1 := (blk_cell HG.out 1).trans rfl
  have n2 := (blk_cell HG.out 2).trans rfl
  clear h
  go_enter Tryz.func146, Tryz.ntmps146
  go_upto_region 1 with fail
  (try simp only [Act.put, List.setIfInBounds_toArray, List.set_cons_zero, List.set_cons_succ])
  go_quiet (fail)
  go_upto_region 2 with fail
  (try simp only [Act.put, List.setIfInBounds_toArray, List.set_cons_zero, List.set_cons_succ])
  refine QuietLast.wp_region_qlast (by kernel_rfl) (by kernel_rfl) ?_
  dsimp only [QuietLast.initL, QuietLast.lastL]
  repeat (go_big_quiet_step (fail))
  refine wpQuiet_nil ?_
  intro _ hw'
  obtain ⟨nq, hw''⟩ := hw'
  subst hw''
  go_wp2_with fail
  refine bodyPost_ret (results_cell_row rfl _ _ w.heap.size 59 #[.string ⟨#[105, 110, 116]⟩, .string ⟨#[51]⟩, .int .i64 8] (0, 0) _ rfl (by (with_reducible repeat (first | refine blk_drewN ?_ _ | refine blk_drew ?_)); first | exact blk_put (blk_put (blk_put HG.out 0 _ rfl) 1 _ rfl) 2 _ rfl | exact blk_put (blk_put (blk_put (blk_drewN HG.out _) 0 _ rfl) 1 _ rfl) 2 _ rfl) Tryz.underlying59 rfl (by kernel_rfl)) rfl ?_
  refine ⟨rfl, ?_⟩
  repeat (first | (with_reducible first | exact below_alloc (Below.refl _ _) _ | apply pw_below_drewN | apply below_drew1) | (refine below_set ?_ (by omega)))
set_option maxHeartbeats 2000000 in
set_option maxRecDepth 100000 in
theorem peek5 (w : World) (pb g c : Nat) (h : Pr w pb g c 5) :
    Calls Tryz.prog 146 #[.pointer (some ⟨pb, 0, none⟩), .int .i64 0] w (fun e w' => e = .returned (.agg #[.string ⟨#[115, 105, 103, 110]⟩, .string ⟨#[61, 61]⟩, .int .i64 10]) ∧ Below w.heap.size w w') := by
  have HP := Aside0.mk (h.below (below_alloc (Below.refl w.heap.size w) (.cells #[.string ⟨#[]⟩, .string ⟨#[]⟩, .int .i64 0] 59 (0, 0))))
  have HG := Aside0.mk (blk_new w (.cells #[.string ⟨#[]⟩, .string ⟨#[]⟩, .int .i64 0] 59 (0, 0)))
  have p1 := (blk_cell HP.out.P 1).trans rfl
  have p2 := (blk_cell HP.out.P 2).trans rfl
  have k0 := (HP.out.T.cellAt 15 (by decide)).trans rfl
  have k1 := (HP.out.T.cellAt 16 (by decide)).trans rfl
  have k2 := (HP.out.T.cellAt 17 (by decide)).trans rfl
  have z0 := blk_frozen HG.out 0
  have z1 := blk_frozen HG.out 1
  have z2 := blk_frozen HG.out 2
  have n0 := (blk_cell HG.out 0).trans rfl
  have n1 := (blk_cell HG.out 1).trans rfl
  have n2 := (blk_cell HG.out 2).trans rfl
  clear h
  go_enter Tryz.func146, Tryz.ntmps146
  go_upto_region 1 with fail
  (try simp only [Act.put, List.setIfInBounds_toArray, List.set_cons_zero, List.set_cons_succ])
  go_quiet (fail)
  go_upto_region 2 with fail
  (try simp only [Act.put, List.setIfInBounds_toArray, List.set_cons_zero, List.set_cons_succ])
  refine QuietLast.wp_region_qlast (by kernel_rfl) (by kernel_rfl) ?_
  dsimp only [QuietLast.initL, QuietLast.lastL]
  repeat (go_big_quiet_step (fail))
  refine wpQuiet_nil ?_
  intro _ hw'
  obtain ⟨nq, hw''⟩ := hw'
  subst hw''
  go_wp2_with fail
  refine bodyPost_ret (results_cell_row rfl _ _ w.heap.size 59 #[.string ⟨#[115, 105, 103, 110]⟩, .string ⟨#[61, 61]⟩, .int .i64 10] (0, 0) _ rfl (by (with_reducible repeat (first | refine blk_drewN ?_ _ | refine blk_drew ?_)); first | exact blk_put (blk_put (blk_put HG.out 0 _ rfl) 1 _ rfl) 2 _ rfl | exact blk_put (blk_put (blk_put (blk_drewN HG.out _) 0 _ rfl) 1 _ rfl) 2 _ rfl) Tryz.underlying59 rfl (by kernel_rfl)) rfl ?_
  refine ⟨rfl, ?_⟩
  repeat (first | (with_reducible first | exact below_alloc (Below.refl _ _) _ | apply pw_below_drewN | apply below_drew1) | (refine below_set ?_ (by omega)))
set_option maxHeartbeats 2000000 in
set_option maxRecDepth 100000 in
theorem peek6 (w : World) (pb g c : Nat) (h : Pr w pb g c 6) :
    Calls Tryz.prog 146 #[.pointer (some ⟨pb, 0, none⟩), .int .i64 0] w (fun e w' => e = .returned (.agg #[.string ⟨#[105, 110, 116]⟩, .string ⟨#[55]⟩, .int .i64 13]) ∧ Below w.heap.size w w') := by
  have HP := Aside0.mk (h.below (below_alloc (Below.refl w.heap.size w) (.cells #[.string ⟨#[]⟩, .string ⟨#[]⟩, .int .i64 0] 59 (0, 0))))
  have HG := Aside0.mk (blk_new w (.cells #[.string ⟨#[]⟩, .string ⟨#[]⟩, .int .i64 0] 59 (0, 0)))
  have p1 := (blk_cell HP.out.P 1).trans rfl
  have p2 := (blk_cell HP.out.P 2).trans rfl
  have k0 := (HP.out.T.cellAt 18 (by decide)).trans rfl
  have k1 := (HP.out.T.cellAt 19 (by decide)).trans rfl
  have k2 := (HP.out.T.cellAt 20 (by decide)).trans rfl
  have z0 := blk_frozen HG.out 0
  have z1 := blk_frozen HG.out 1
  have z2 := blk_frozen HG.out 2
  have n0 := (blk_cell HG.out 0).trans rfl
  have n1 := (blk_cell HG.out 1).trans rfl
  have n2 := (blk_cell HG.out 2).trans rfl
  clear h
  go_enter Tryz.func146, Tryz.ntmps146
  go_upto_region 1 with fail
  (try simp only [Act.put, List.setIfInBounds_toArray, List.set_cons_zero, List.set_cons_succ])
  go_quiet (fail)
  go_upto_region 2 with fail
  (try simp only [Act.put, List.setIfInBounds_toArray, List.set_cons_zero, List.set_cons_succ])
  refine QuietLast.wp_region_qlast (by kernel_rfl) (by kernel_rfl) ?_
  dsimp only [QuietLast.initL, QuietLast.lastL]
  repeat (go_big_quiet_step (fail))
  refine wpQuiet_nil ?_
  intro _ hw'
  obtain ⟨nq, hw''⟩ := hw'
  subst hw''
  go_wp2_with fail
  refine bodyPost_ret (results_cell_row rfl _ _ w.heap.size 59 #[.string ⟨#[105, 110, 116]⟩, .string ⟨#[55]⟩, .int .i64 13] (0, 0) _ rfl (by (with_reducible repeat (first | refine blk_drewN ?_ _ | refine blk_drew ?_)); first | exact blk_put (blk_put (blk_put HG.out 0 _ rfl) 1 _ rfl) 2 _ rfl | exact blk_put (blk_put (blk_put (blk_drewN HG.out _) 0 _ rfl) 1 _ rfl) 2 _ rfl) Tryz.underlying59 rfl (by kernel_rfl)) rfl ?_
  refine ⟨rfl, ?_⟩
  repeat (first | (with_reducible first | exact below_alloc (Below.refl _ _) _ | apply pw_below_drewN | apply below_drew1) | (refine below_set ?_ (by omega)))
set_option maxHeartbeats 2000000 in
set_option maxRecDepth 100000 in
theorem peek7 (w : World) (pb g c : Nat) (h : Pr w pb g c 7) :
    Calls Tryz.prog 146 #[.pointer (some ⟨pb, 0, none⟩), .int .i64 0] w (fun e w' => e = .returned (.agg #[.string ⟨#[]⟩, .string ⟨#[]⟩, .int .i64 0]) ∧ Below w.heap.size w w') := by
  have HP := Aside0.mk (h.below (below_alloc (Below.refl w.heap.size w) (.cells #[.string ⟨#[]⟩, .string ⟨#[]⟩, .int .i64 0] 59 (0, 0))))
  have HG := Aside0.mk (blk_new w (.cells #[.string ⟨#[]⟩, .string ⟨#[]⟩, .int .i64 0] 59 (0, 0)))
  have p1 := (blk_cell HP.out.P 1).trans rfl
  have p2 := (blk_cell HP.out.P 2).trans rfl
  have z0 := blk_frozen HG.out 0
  have z1 := blk_frozen HG.out 1
  have z2 := blk_frozen HG.out 2
  have n0 := (blk_cell HG.out 0).trans rfl
  have n1 := (blk_cell HG.out 1).trans rfl
  have n2 := (blk_cell HG.out 2).trans rfl
  clear h
  go_enter Tryz.func146, Tryz.ntmps146
  go_upto_region 1 with fail
  (try simp only [Act.put, List.setIfInBounds_toArray, List.set_cons_zero, List.set_cons_succ])
  go_quiet (fail)
  go_wp2_with fail
  refine bodyPost_ret (results_cell_row rfl _ _ w.heap.size 59 #[.string ⟨#[]⟩, .string ⟨#[]⟩, .int .i64 0] (0, 0) _ rfl (by (with_reducible repeat (first | refine blk_drewN ?_ _ | refine blk_drew ?_)); first | exact blk_put (blk_put (blk_put HG.out 0 _ rfl) 1 _ rfl) 2 _ rfl | exact blk_put (blk_put (blk_put (blk_drewN HG.out _) 0 _ rfl) 1 _ rfl) 2 _ rfl) Tryz.underlying59 rfl (by kernel_rfl)) rfl ?_
  refine ⟨rfl, ?_⟩
  repeat (first | (with_reducible first | exact below_alloc (Below.refl _ _) _ | apply pw_below_drewN | apply below_drew1) | (refine below_set ?_ (by omega)))
end Go.Proofs.YtlabfjaddgakkaaGreat.Need
end
section
/-! The parser of trees at awake's text: is, take. -/
namespace Go.Proofs.YtlabfjaddgakkaaGreat.Need
set_option linter.unusedVariables false
set_option linter.unusedSimpArgs false
open Go.RowKit Go.Proofs.YtlabfjaddgakkaaGreatW.PrintWords Go.Proofs.YtlabfjaddgakkaaGreatW.PrintLast Go.Proofs.YtlabfjaddgakkaaGreatW.PrintMore Go.Proofs.YtlabfjaddgakkaaGreat.Q
set_option maxHeartbeats 2000000 in
set_option maxRecDepth 100000 in
theorem is0 (w : World) (pb g c : Nat) (s : ByteArray) (h : Pr w pb g c 0) :
    Calls Tryz.prog 153 #[.pointer (some ⟨pb, 0, none⟩), .int .i64 0, .string s] w (fun e w' => e = .returned (.bool false) ∧ Below w.heap.size w w') := by
  have HP := Aside0.mk h
  clear h
  go_enter Tryz.func153, Tryz.ntmps153
  go_wp2_with (go_at_call 146; go_loud ((refine (peek0 _ pb g c HP.out).mono ?_); rintro e w2 ⟨rfl, hb⟩; have HB := Aside0.mk hb; clear hb))
  go_ret
  exact ⟨rfl, below_alloc HB.out _⟩
set_option maxHeartbeats 2000000 in
set_option maxRecDepth 100000 in
theorem no0 (w : World) (pb g c : Nat) (s : ByteArray) (h : Pr w pb g c 0) :
    Calls Tryz.prog 145 #[.pointer (some ⟨pb, 0, none⟩), .string s] w (fun e w' => e = .returned (.bool false) ∧ Below w.heap.size w w') := by
  have HP := Aside0.mk h
  clear h
  go_enter Tryz.func145, Tryz.ntmps145
  go_wp2_with (go_at_call 153; go_loud ((refine (is0 _ pb g c s HP.out).mono ?_); rintro e w2 ⟨rfl, hb⟩; have HB := Aside0.mk hb; clear hb))
  go_ret
  exact ⟨rfl, HB.out⟩
set_option maxHeartbeats 2000000 in
set_option maxRecDepth 100000 in
theorem is1 (w : World) (pb g c : Nat) (s : ByteArray) (r : Bool) (hs : (([43] : List UInt8) == s.toList) = r) (h : Pr w pb g c 1) :
    Calls Tryz.prog 153 #[.pointer (some ⟨pb, 0, none⟩), .int .i64 0, .string s] w (fun e w' => e = .returned (.bool r) ∧ Below w.heap.size w w') := by
  have HP := Aside0.mk h
  clear h
  go_enter Tryz.func153, Tryz.ntmps153
  go_wp2_with (go_at_call 146; go_loud ((refine (peek1 _ pb g c HP.out).mono ?_); rintro e w2 ⟨rfl, hb⟩; have HB := Aside0.mk hb; clear hb))
  go_ret
  exact ⟨rfl, below_alloc HB.out _⟩
set_option maxHeartbeats 2000000 in
set_option maxRecDepth 100000 in
theorem no1 (w : World) (pb g c : Nat) (s : ByteArray) (hs : (([43] : List UInt8) == s.toList) = false) (h : Pr w pb g c 1) :
    Calls Tryz.prog 145 #[.pointer (some ⟨pb, 0, none⟩), .string s] w (fun e w' => e = .returned (.bool false) ∧ Below w.heap.size w w') := by
  have HP := Aside0.mk h
  clear h
  go_enter Tryz.func145, Tryz.ntmps145
  go_wp2_with (go_at_call 153; go_loud ((refine (is1 _ pb g c s false hs HP.out).mono ?_); rintro e w2 ⟨rfl, hb⟩; have HB := Aside0.mk hb; clear hb))
  go_ret
  exact ⟨rfl, HB.out⟩
set_option maxHeartbeats 2000000 in
set_option maxRecDepth 100000 in
theorem is2 (w : World) (pb g c : Nat) (s : ByteArray) (h : Pr w pb g c 2) :
    Calls Tryz.prog 153 #[.pointer (some ⟨pb, 0, none⟩), .int .i64 0, .string s] w (fun e w' => e = .returned (.bool false) ∧ Below w.heap.size w w') := by
  have HP := Aside0.mk h
  clear h
  go_enter Tryz.func153, Tryz.ntmps153
  go_wp2_with (go_at_call 146; go_loud ((refine (peek2 _ pb g c HP.out).mono ?_); rintro e w2 ⟨rfl, hb⟩; have HB := Aside0.mk hb; clear hb))
  go_ret
  exact ⟨rfl, below_alloc HB.out _⟩
set_option maxHeartbeats 2000000 in
set_option maxRecDepth 100000 in
theorem no2 (w : World) (pb g c : Nat) (s : ByteArray) (h : Pr w pb g c 2) :
    Calls Tryz.prog 145 #[.pointer (some ⟨pb, 0, none⟩), .string s] w (fun e w' => e = .returned (.bool false) ∧ Below w.heap.size w w') := by
  have HP := Aside0.mk h
  clear h
  go_enter Tryz.func145, Tryz.ntmps145
  go_wp2_with (go_at_call 153; go_loud ((refine (is2 _ pb g c s HP.out).mono ?_); rintro e w2 ⟨rfl, hb⟩; have HB := Aside0.mk hb; clear hb))
  go_ret
  exact ⟨rfl, HB.out⟩
set_option maxHeartbeats 2000000 in
set_option maxRecDepth 100000 in
theorem is3 (w : World) (pb g c : Nat) (s : ByteArray) (r : Bool) (hs : (([42] : List UInt8) == s.toList) = r) (h : Pr w pb g c 3) :
    Calls Tryz.prog 153 #[.pointer (some ⟨pb, 0, none⟩), .int .i64 0, .string s] w (fun e w' => e = .returned (.bool r) ∧ Below w.heap.size w w') := by
  have HP := Aside0.mk h
  clear h
  go_enter Tryz.func153, Tryz.ntmps153
  go_wp2_with (go_at_call 146; go_loud ((refine (peek3 _ pb g c HP.out).mono ?_); rintro e w2 ⟨rfl, hb⟩; have HB := Aside0.mk hb; clear hb))
  go_ret
  exact ⟨rfl, below_alloc HB.out _⟩
set_option maxHeartbeats 2000000 in
set_option maxRecDepth 100000 in
theorem no3 (w : World) (pb g c : Nat) (s : ByteArray) (hs : (([42] : List UInt8) == s.toList) = false) (h : Pr w pb g c 3) :
    Calls Tryz.prog 145 #[.pointer (some ⟨pb, 0, none⟩), .string s] w (fun e w' => e = .returned (.bool false) ∧ Below w.heap.size w w') := by
  have HP := Aside0.mk h
  clear h
  go_enter Tryz.func145, Tryz.ntmps145
  go_wp2_with (go_at_call 153; go_loud ((refine (is3 _ pb g c s false hs HP.out).mono ?_); rintro e w2 ⟨rfl, hb⟩; have HB := Aside0.mk hb; clear hb))
  go_ret
  exact ⟨rfl, HB.out⟩
set_option maxHeartbeats 2000000 in
set_option maxRecDepth 100000 in
theorem is4 (w : World) (pb g c : Nat) (s : ByteArray) (h : Pr w pb g c 4) :
    Calls Tryz.prog 153 #[.pointer (some ⟨pb, 0, none⟩), .int .i64 0, .string s] w (fun e w' => e = .returned (.bool false) ∧ Below w.heap.size w w') := by
  have HP := Aside0.mk h
  clear h
  go_enter Tryz.func153, Tryz.ntmps153
  go_wp2_with (go_at_call 146; go_loud ((refine (peek4 _ pb g c HP.out).mono ?_); rintro e w2 ⟨rfl, hb⟩; have HB := Aside0.mk hb; clear hb))
  go_ret
  exact ⟨rfl, below_alloc HB.out _⟩
set_option maxHeartbeats 2000000 in
set_option maxRecDepth 100000 in
theorem no4 (w : World) (pb g c : Nat) (s : ByteArray) (h : Pr w pb g c 4) :
    Calls Tryz.prog 145 #[.pointer (some ⟨pb, 0, none⟩), .string s] w (fun e w' => e = .returned (.bool false) ∧ Below w.heap.size w w') := by
  have HP := Aside0.mk h
  clear h
  go_enter Tryz.func145, Tryz.ntmps145
  go_wp2_with (go_at_call 153; go_loud ((refine (is4 _ pb g c s HP.out).mono ?_); rintro e w2 ⟨rfl, hb⟩; have HB := Aside0.mk hb; clear hb))
  go_ret
  exact ⟨rfl, HB.out⟩
set_option maxHeartbeats 2000000 in
set_option maxRecDepth 100000 in
theorem is5 (w : World) (pb g c : Nat) (s : ByteArray) (r : Bool) (hs : (([61, 61] : List UInt8) == s.toList) = r) (h : Pr w pb g c 5) :
    Calls Tryz.prog 153 #[.pointer (some ⟨pb, 0, none⟩), .int .i64 0, .string s] w (fun e w' => e = .returned (.bool r) ∧ Below w.heap.size w w') := by
  have HP := Aside0.mk h
  clear h
  go_enter Tryz.func153, Tryz.ntmps153
  go_wp2_with (go_at_call 146; go_loud ((refine (peek5 _ pb g c HP.out).mono ?_); rintro e w2 ⟨rfl, hb⟩; have HB := Aside0.mk hb; clear hb))
  go_ret
  exact ⟨rfl, below_alloc HB.out _⟩
set_option maxHeartbeats 2000000 in
set_option maxRecDepth 100000 in
theorem no5 (w : World) (pb g c : Nat) (s : ByteArray) (hs : (([61, 61] : List UInt8) == s.toList) = false) (h : Pr w pb g c 5) :
    Calls Tryz.prog 145 #[.pointer (some ⟨pb, 0, none⟩), .string s] w (fun e w' => e = .returned (.bool false) ∧ Below w.heap.size w w') := by
  have HP := Aside0.mk h
  clear h
  go_enter Tryz.func145, Tryz.ntmps145
  go_wp2_with (go_at_call 153; go_loud ((refine (is5 _ pb g c s false hs HP.out).mono ?_); rintro e w2 ⟨rfl, hb⟩; have HB := Aside0.mk hb; clear hb))
  go_ret
  exact ⟨rfl, HB.out⟩
set_option maxHeartbeats 2000000 in
set_option maxRecDepth 100000 in
theorem is6 (w : World) (pb g c : Nat) (s : ByteArray) (h : Pr w pb g c 6) :
    Calls Tryz.prog 153 #[.pointer (some ⟨pb, 0, none⟩), .int .i64 0, .string s] w (fun e w' => e = .returned (.bool false) ∧ Below w.heap.size w w') := by
  have HP := Aside0.mk h
  clear h
  go_enter Tryz.func153, Tryz.ntmps153
  go_wp2_with (go_at_call 146; go_loud ((refine (peek6 _ pb g c HP.out).mono ?_); rintro e w2 ⟨rfl, hb⟩; have HB := Aside0.mk hb; clear hb))
  go_ret
  exact ⟨rfl, below_alloc HB.out _⟩
set_option maxHeartbeats 2000000 in
set_option maxRecDepth 100000 in
theorem no6 (w : World) (pb g c : Nat) (s : ByteArray) (h : Pr w pb g c 6) :
    Calls Tryz.prog 145 #[.pointer (some ⟨pb, 0, none⟩), .string s] w (fun e w' => e = .returned (.bool false) ∧ Below w.heap.size w w') := by
  have HP := Aside0.mk h
  clear h
  go_enter Tryz.func145, Tryz.ntmps145
  go_wp2_with (go_at_call 153; go_loud ((refine (is6 _ pb g c s HP.out).mono ?_); rintro e w2 ⟨rfl, hb⟩; have HB := Aside0.mk hb; clear hb))
  go_ret
  exact ⟨rfl, HB.out⟩
set_option maxHeartbeats 2000000 in
set_option maxRecDepth 100000 in
theorem is7 (w : World) (pb g c : Nat) (s : ByteArray) (h : Pr w pb g c 7) :
    Calls Tryz.prog 153 #[.pointer (some ⟨pb, 0, none⟩), .int .i64 0, .string s] w (fun e w' => e = .returned (.bool false) ∧ Below w.heap.size w w') := by
  have HP := Aside0.mk h
  clear h
  go_enter Tryz.func153, Tryz.ntmps153
  go_wp2_with (go_at_call 146; go_loud ((refine (peek7 _ pb g c HP.out).mono ?_); rintro e w2 ⟨rfl, hb⟩; have HB := Aside0.mk hb; clear hb))
  go_ret
  exact ⟨rfl, below_alloc HB.out _⟩
set_option maxHeartbeats 2000000 in
set_option maxRecDepth 100000 in
theorem no7 (w : World) (pb g c : Nat) (s : ByteArray) (h : Pr w pb g c 7) :
    Calls Tryz.prog 145 #[.pointer (some ⟨pb, 0, none⟩), .string s] w (fun e w' => e = .returned (.bool false) ∧ Below w.heap.size w w') := by
  have HP := Aside0.mk h
  clear h
  go_enter Tryz.func145, Tryz.ntmps145
  go_wp2_with (go_at_call 153; go_loud ((refine (is7 _ pb g c s HP.out).mono ?_); rintro e w2 ⟨rfl, hb⟩; have HB := Aside0.mk hb; clear hb))
  go_ret
  exact ⟨rfl, HB.out⟩
set_option maxHeartbeats 2000000 in
set_option maxRecDepth 100000 in
theorem yes5 (w : World) (pb g c : Nat) (h : Pr w pb g c 5) :
    Calls Tryz.prog 145 #[.pointer (some ⟨pb, 0, none⟩), .string ⟨#[61, 61]⟩] w (fun e w' => e = .returned (.bool true) ∧ Pr w' pb g c 6 ∧ KB w w' pb none) := by
  have HP := Aside0.mk h
  clear h
  go_enter Tryz.func145, Tryz.ntmps145
  go_wp2_with (go_at_call 153; go_loud ((refine (is5 _ pb g c _ true (by decide +kernel) HP.out).mono ?_); rintro e w2 ⟨rfl, hb⟩; have HB := Aside0.mk hb; have y2 := (blk_cell (HP.out.below hb).P 2).trans rfl; have z2 := blk_frozen (HP.out.below hb).P 2; clear hb))
  go_ret
  exact ⟨rfl, (HP.out.below HB.out).at_ 6, kb_set' (KB.of_below HB.out pb none) 2 _⟩
end Go.Proofs.YtlabfjaddgakkaaGreat.Need
end
section
/-! The parser of trees at awake's text: a number. -/
namespace Go.Proofs.YtlabfjaddgakkaaGreat.Need
set_option linter.unusedVariables false
set_option linter.unusedSimpArgs false
open Go.RowKit Go.Proofs.YtlabfjaddgakkaaGreatW.PrintWords Go.Proofs.YtlabfjaddgakkaaGreatW.PrintLast Go.Proofs.YtlabfjaddgakkaaGreatW.PrintMore Go.Proofs.YtlabfjaddgakkaaGreat.Q
inductive TT where
  | leaf (s : ByteArray)
  | bin (s : ByteArray) (a b : TT)
def TT.d : TT → ByteArray
  | .leaf _ => ⟨#[105, 110, 116]⟩
  | .bin _ _ _ => ⟨#[111, 112]⟩
def TT.s : TT → ByteArray
  | .leaf s => s
  | .bin s _ _ => s
/-- A tree's last cells are these, and its parts lie in blocks of which ok holds. -/
def Tr (ok : Nat → Prop) (w : World) : TT → Option Addr → Nat → Nat → Prop
  | .leaf _, A, n, c => A = none ∧ n = 0 ∧ c = 0
  | .bin _ a b, A, n, c => n = 2 ∧ c = 2 ∧ ∃ q, A = some ⟨q, 0, none⟩ ∧ ok q ∧ ∃ A1 n1 c1 A2 n2 c2, w.heap[q]? = some (.cells #[.string a.d, .string a.s, .int .i64 0, .slice A1 n1 c1, .string b.d, .string b.s, .int .i64 0, .slice A2 n2 c2] 30 (0, 0)) ∧ Tr ok w a A1 n1 c1 ∧ Tr ok w b A2 n2 c2
theorem Tr.move {ok ok' : Nat → Prop} {w w' : World} : ∀ {T : TT} {A : Option Addr} {n c : Nat}, Tr ok w T A n c → (∀ k, ok k → k < w.heap.size → ok' k ∧ w'.heap[k]? = w.heap[k]?) → Tr ok' w' T A n c
  | .leaf _, _, _, _, h, _ => h
  | .bin _ a b, _, _, _, ⟨h1, h2, q, h3, h4, A1, n1, c1, A2, n2, c2, h5, h6, h7⟩, hm =>
    ⟨h1, h2, q, h3, (hm q h4 (blk_lt h5)).1, A1, n1, c1, A2, n2, c2, (hm q h4 (blk_lt h5)).2.trans h5, Tr.move h6 hm, Tr.move h7 hm⟩
theorem Tr.below {ok : Nat → Prop} {w w' : World} {T : TT} {A : Option Addr} {n c : Nat} (h : Tr ok w T A n c) (hb : Below w.heap.size w w') : Tr ok w' T A n c := h.move (fun k hk hl => ⟨hk, hb.block k hl⟩)
theorem Tr.mono {ok ok' : Nat → Prop} {w : World} {T : TT} {A : Option Addr} {n c : Nat} (h : Tr ok w T A n c) (hm : ∀ k, ok k → k < w.heap.size → ok' k) : Tr ok' w T A n c := h.move (fun k hk hl => ⟨hm k hk hl, rfl⟩)
theorem Tr.put {ok : Nat → Prop} {w : World} {T : TT} {A : Option Addr} {n c q j : Nat} {u : Value} (h : Tr ok w T A n c) (hq : ∀ k, ok k → k ≠ q) : Tr ok (w.setCell ⟨q, j, none⟩ u) T A n c := h.move (fun k hk hl => ⟨hk, Below.heap_setCell w ⟨q, j, none⟩ u k (hq k hk)⟩)
theorem Tr.keep {ok : Nat → Prop} {w w' : World} {T : TT} {A : Option Addr} {n c p : Nat} (h : Tr ok w T A n c) (hk : KB w w' p none) (hq : ∀ k, ok k → k ≠ p) : Tr ok w' T A n c := h.move (fun k ho hl => ⟨ho, hk.2 k hl (hq k ho) (by simp)⟩)
abbrev Cs (T : TT) (A : Option Addr) (n c : Nat) : Array Value := #[.string T.d, .string T.s, .int .i64 0, .slice A n c]
abbrev C0 : Array Value := #[.string ⟨#[]⟩, .string ⟨#[]⟩, .int .i64 0, .slice none 0 0]
def Post (T : TT) (w : World) (pb g c : Nat) (i : Int) (e : Ending) (w' : World) : Prop :=
  ∃ A n k, e = .returned (.agg (Cs T A n k)) ∧ Tr (fun q => w.heap.size ≤ q) w' T A n k ∧ Pr w' pb g c i ∧ KB w w' pb none
theorem Pr.lt {w : World} {pb g c : Nat} {i : Int} (h : Pr w pb g c i) : pb < w.heap.size ∧ g < w.heap.size := ⟨blk_lt h.P, (h.T.lt g rfl).2⟩
theorem Pr.far {w : World} {pb g c : Nat} {i : Int} (h : Pr w pb g c i) {q : Nat} (h1 : pb ≠ q) (h2 : g ≠ q) (j : Nat) (u : Value) : Pr (w.setCell ⟨q, j, none⟩ u) pb g c i :=
  ⟨blk_far h.P h1 _, own_move h.T (fun k hk => Below.heap_setCell w ⟨q, j, none⟩ u k (by have e : g = k := Option.some.inj hk; show k ≠ q; omega))⟩
abbrev put4 (W : World) (q : Nat) (a b : ByteArray) (n : Int) (v : Value) : World := (((W.setCell ⟨q, 0, none⟩ (.string a)).setCell ⟨q, 1, none⟩ (.string b)).setCell ⟨q, 2, none⟩ (.int .i64 n)).setCell ⟨q, 3, none⟩ v
theorem put4_blk {W : World} {q : Nat} {x0 x1 x2 x3 : Value} (h : W.heap[q]? = some (.cells #[x0, x1, x2, x3] 30 (0, 0))) (a b : ByteArray) (n : Int) (v : Value) : (put4 W q a b n v).heap[q]? = some (.cells #[.string a, .string b, .int .i64 n, v] 30 (0, 0)) :=
  blk_put (blk_put (blk_put (blk_put h 0 _ rfl) 1 _ rfl) 2 _ rfl) 3 _ rfl
theorem put4_pr {W : World} {q pb g c : Nat} {i : Int} (h : Pr W pb g c i) (h1 : pb ≠ q) (h2 : g ≠ q) (a b : ByteArray) (n : Int) (v : Value) : Pr (put4 W q a b n v) pb g c i := (((h.far h1 h2 _ _).far h1 h2 _ _).far h1 h2 _ _).far h1 h2 _ _
theorem put4_kb {w W : World} {q pb : Nat} (h : KB w W pb none) (hq : w.heap.size ≤ q) (a b : ByteArray) (n : Int) (v : Value) : KB w (put4 W q a b n v) pb none := kb_new (kb_new (kb_new (kb_new h hq _ _) hq _ _) hq _ _) hq _ _
theorem put4_tr {ok : Nat → Prop} {W : World} {q : Nat} {T : TT} {A : Option Addr} {m k : Nat} (h : Tr ok W T A m k) (hq : ∀ k, ok k → k ≠ q) (a b : ByteArray) (n : Int) (v : Value) : Tr ok (put4 W q a b n v) T A m k := (((h.put hq).put hq).put hq).put hq
set_option maxHeartbeats 2000000 in
set_option maxRecDepth 100000 in
theorem simple0 (w : World) (pb g c : Nat) (fv : Value) (h : Pr w pb g c 0) :
    Calls Tryz.prog 161 #[.pointer (some ⟨pb, 0, none⟩), fv] w (fun e w' => e = .returned (.tuple #[.agg (Cs (.leaf ⟨#[49]⟩) none 0 0), .bool true]) ∧ Pr w' pb g c 1 ∧ KB w w' pb none) := by
  have hl := h.lt
  have HP := Aside0.mk (h.below (below_alloc (Below.refl w.heap.size w) (.cells C0 30 (0, 0))))
  have HG := Aside0.mk (blk_new w (.cells C0 30 (0, 0)))
  have HL := Aside0.mk hl
  clear h hl
  go_enter Tryz.func161, Tryz.ntmps161
  go_wp2_with (go_at_call 146; go_loud ((refine (peek0 _ pb g c HP.out).mono ?_); rintro e w2 ⟨rfl, hb⟩; have HB := Aside0.mk hb; have HB2 := Aside0.mk (below_then (below_alloc (Below.refl w.heap.size w) (.cells C0 30 (0, 0))) (by simp) hb); have HPP := Aside0.mk ((HP.out.below hb).below (below_alloc (Below.refl w2.heap.size w2) (.cells #[.string ⟨#[105, 110, 116]⟩, .string ⟨#[49]⟩, .int .i64 0] 59 (0, 0)))); have y2 := (blk_cell HPP.out.P 2).trans rfl; have yf := blk_frozen HPP.out.P 2; have HQ := Aside0.mk (HPP.out.at_ 1); have HGG := Aside0.mk (blk_far (blk_alloc (blk_below HG.out hb) (.cells #[.string ⟨#[105, 110, 116]⟩, .string ⟨#[49]⟩, .int .i64 0] 59 (0, 0))) (p := ⟨pb, 2, none⟩) (by have := HL.out.1; show w.heap.size ≠ pb; omega) (.int .i64 1)); have HT := Aside0.mk (blk_far (blk_new w2 (.cells #[.string ⟨#[105, 110, 116]⟩, .string ⟨#[49]⟩, .int .i64 0] 59 (0, 0))) (p := ⟨pb, 2, none⟩) (by have := HL.out.1; have := HB2.out.size; show w2.heap.size ≠ pb; omega) (.int .i64 1)); have t0 := (blk_cell HT.out 0).trans rfl; have t1 := (blk_cell HT.out 1).trans rfl; have zf0 := blk_frozen HGG.out 0; have zc0 := (blk_cell HGG.out 0).trans rfl; have zf1 := blk_frozen HGG.out 1; have zc1 := (blk_cell HGG.out 1).trans rfl; have zf2 := blk_frozen HGG.out 2; have zc2 := (blk_cell HGG.out 2).trans rfl; have zf3 := blk_frozen HGG.out 3; have zc3 := (blk_cell HGG.out 3).trans rfl; clear hb))
  refine bodyPost_ret (results_ct rfl _ _ w.heap.size 30 (Cs (.leaf ⟨#[49]⟩) none 0 0) (0, 0) _ rfl (by (with_reducible repeat (first | refine blk_drewN ?_ _ | refine blk_drew ?_)); exact put4_blk HGG.out _ _ _ _) Tryz.underlying30 rfl (by kernel_rfl)) rfl ?_
  exact ⟨rfl, put4_pr HQ.out (by have := HL.out; omega) (by have := HL.out; omega) _ _ _ _, put4_kb (kb_set' (KB.of_below (below_alloc HB2.out _) pb none) 2 _) (Nat.le_refl _) _ _ _ _⟩
set_option maxHeartbeats 2000000 in
set_option maxRecDepth 100000 in
theorem simple2 (w : World) (pb g c : Nat) (fv : Value) (h : Pr w pb g c 2) :
    Calls Tryz.prog 161 #[.pointer (some ⟨pb, 0, none⟩), fv] w (fun e w' => e = .returned (.tuple #[.agg (Cs (.leaf ⟨#[50]⟩) none 0 0), .bool true]) ∧ Pr w' pb g c 3 ∧ KB w w' pb none) := by
  have hl := h.lt
  have HP := Aside0.mk (h.below (below_alloc (Below.refl w.heap.size w) (.cells C0 30 (0, 0))))
  have HG := Aside0.mk (blk_new w (.cells C0 30 (0, 0)))
  have HL := Aside0.mk hl
  clear h hl
  go_enter Tryz.func161, Tryz.ntmps161
  go_wp2_with (go_at_call 146; go_loud ((refine (peek2 _ pb g c HP.out).mono ?_); rintro e w2 ⟨rfl, hb⟩; have HB := Aside0.mk hb; have HB2 := Aside0.mk (below_then (below_alloc (Below.refl w.heap.size w) (.cells C0 30 (0, 0))) (by simp) hb); have HPP := Aside0.mk ((HP.out.below hb).below (below_alloc (Below.refl w2.heap.size w2) (.cells #[.string ⟨#[105, 110, 116]⟩, .string ⟨#[50]⟩, .int .i64 4] 59 (0, 0)))); have y2 := (blk_cell HPP.out.P 2).trans rfl; have yf := blk_frozen HPP.out.P 2; have HQ := Aside0.mk (HPP.out.at_ 3); have HGG := Aside0.mk (blk_far (blk_alloc (blk_below HG.out hb) (.cells #[.string ⟨#[105, 110, 116]⟩, .string ⟨#[50]⟩, .int .i64 4] 59 (0, 0))) (p := ⟨pb, 2, none⟩) (by have := HL.out.1; show w.heap.size ≠ pb; omega) (.int .i64 3)); have HT := Aside0.mk (blk_far (blk_new w2 (.cells #[.string ⟨#[105, 110, 116]⟩, .string ⟨#[50]⟩, .int .i64 4] 59 (0, 0))) (p := ⟨pb, 2, none⟩) (by have := HL.out.1; have := HB2.out.size; show w2.heap.size ≠ pb; omega) (.int .i64 3)); have t0 := (blk_cell HT.out 0).trans rfl; have t1 := (blk_cell HT.out 1).trans rfl; have zf0 := blk_frozen HGG.out 0; have zc0 := (blk_cell HGG.out 0).trans rfl; have zf1 := blk_frozen HGG.out 1; have zc1 := (blk_cell HGG.out 1).trans rfl; have zf2 := blk_frozen HGG.out 2; have zc2 := (blk_cell HGG.out 2).trans rfl; have zf3 := blk_frozen HGG.out 3; have zc3 := (blk_cell HGG.out 3).trans rfl; clear hb))
  refine bodyPost_ret (results_ct rfl _ _ w.heap.size 30 (Cs (.leaf ⟨#[50]⟩) none 0 0) (0, 0) _ rfl (by (with_reducible repeat (first | refine blk_drewN ?_ _ | refine blk_drew ?_)); exact put4_blk HGG.out _ _ _ _) Tryz.underlying30 rfl (by kernel_rfl)) rfl ?_
  exact ⟨rfl, put4_pr HQ.out (by have := HL.out; omega) (by have := HL.out; omega) _ _ _ _, put4_kb (kb_set' (KB.of_below (below_alloc HB2.out _) pb none) 2 _) (Nat.le_refl _) _ _ _ _⟩
set_option maxHeartbeats 2000000 in
set_option maxRecDepth 100000 in
theorem simple4 (w : World) (pb g c : Nat) (fv : Value) (h : Pr w pb g c 4) :
    Calls Tryz.prog 161 #[.pointer (some ⟨pb, 0, none⟩), fv] w (fun e w' => e = .returned (.tuple #[.agg (Cs (.leaf ⟨#[51]⟩) none 0 0), .bool true]) ∧ Pr w' pb g c 5 ∧ KB w w' pb none) := by
  have hl := h.lt
  have HP := Aside0.mk (h.below (below_alloc (Below.refl w.heap.size w) (.cells C0 30 (0, 0))))
  have HG := Aside0.mk (blk_new w (.cells C0 30 (0, 0)))
  have HL := Aside0.mk hl
  clear h hl
  go_enter Tryz.func161, Tryz.ntmps161
  go_wp2_with (go_at_call 146; go_loud ((refine (peek4 _ pb g c HP.out).mono ?_); rintro e w2 ⟨rfl, hb⟩; have HB := Aside0.mk hb; have HB2 := Aside0.mk (below_then (below_alloc (Below.refl w.heap.size w) (.cells C0 30 (0, 0))) (by simp) hb); have HPP := Aside0.mk ((HP.out.below hb).below (below_alloc (Below.refl w2.heap.size w2) (.cells #[.string ⟨#[105, 110, 116]⟩, .string ⟨#[51]⟩, .int .i64 8] 59 (0, 0)))); have y2 := (blk_cell HPP.out.P 2).trans rfl; have yf := blk_frozen HPP.out.P 2; have HQ := Aside0.mk (HPP.out.at_ 5); have HGG := Aside0.mk (blk_far (blk_alloc (blk_below HG.out hb) (.cells #[.string ⟨#[105, 110, 116]⟩, .string ⟨#[51]⟩, .int .i64 8] 59 (0, 0))) (p := ⟨pb, 2, none⟩) (by have := HL.out.1; show w.heap.size ≠ pb; omega) (.int .i64 5)); have HT := Aside0.mk (blk_far (blk_new w2 (.cells #[.string ⟨#[105, 110, 116]⟩, .string ⟨#[51]⟩, .int .i64 8] 59 (0, 0))) (p := ⟨pb, 2, none⟩) (by have := HL.out.1; have := HB2.out.size; show w2.heap.size ≠ pb; omega) (.int .i64 5)); have t0 := (blk_cell HT.out 0).trans rfl; have t1 := (blk_cell HT.out 1).trans rfl; have zf0 := blk_frozen HGG.out 0; have zc0 := (blk_cell HGG.out 0).trans rfl; have zf1 := blk_frozen HGG.out 1; have zc1 := (blk_cell HGG.out 1).trans rfl; have zf2 := blk_frozen HGG.out 2; have zc2 := (blk_cell HGG.out 2).trans rfl; have zf3 := blk_frozen HGG.out 3; have zc3 := (blk_cell HGG.out 3).trans rfl; clear hb))
  refine bodyPost_ret (results_ct rfl _ _ w.heap.size 30 (Cs (.leaf ⟨#[51]⟩) none 0 0) (0, 0) _ rfl (by (with_reducible repeat (first | refine blk_drewN ?_ _ | refine blk_drew ?_)); exact put4_blk HGG.out _ _ _ _) Tryz.underlying30 rfl (by kernel_rfl)) rfl ?_
  exact ⟨rfl, put4_pr HQ.out (by have := HL.out; omega) (by have := HL.out; omega) _ _ _ _, put4_kb (kb_set' (KB.of_below (below_alloc HB2.out _) pb none) 2 _) (Nat.le_refl _) _ _ _ _⟩
set_option maxHeartbeats 2000000 in
set_option maxRecDepth 100000 in
theorem simple6 (w : World) (pb g c : Nat) (fv : Value) (h : Pr w pb g c 6) :
    Calls Tryz.prog 161 #[.pointer (some ⟨pb, 0, none⟩), fv] w (fun e w' => e = .returned (.tuple #[.agg (Cs (.leaf ⟨#[55]⟩) none 0 0), .bool true]) ∧ Pr w' pb g c 7 ∧ KB w w' pb none) := by
  have hl := h.lt
  have HP := Aside0.mk (h.below (below_alloc (Below.refl w.heap.size w) (.cells C0 30 (0, 0))))
  have HG := Aside0.mk (blk_new w (.cells C0 30 (0, 0)))
  have HL := Aside0.mk hl
  clear h hl
  go_enter Tryz.func161, Tryz.ntmps161
  go_wp2_with (go_at_call 146; go_loud ((refine (peek6 _ pb g c HP.out).mono ?_); rintro e w2 ⟨rfl, hb⟩; have HB := Aside0.mk hb; have HB2 := Aside0.mk (below_then (below_alloc (Below.refl w.heap.size w) (.cells C0 30 (0, 0))) (by simp) hb); have HPP := Aside0.mk ((HP.out.below hb).below (below_alloc (Below.refl w2.heap.size w2) (.cells #[.string ⟨#[105, 110, 116]⟩, .string ⟨#[55]⟩, .int .i64 13] 59 (0, 0)))); have y2 := (blk_cell HPP.out.P 2).trans rfl; have yf := blk_frozen HPP.out.P 2; have HQ := Aside0.mk (HPP.out.at_ 7); have HGG := Aside0.mk (blk_far (blk_alloc (blk_below HG.out hb) (.cells #[.string ⟨#[105, 110, 116]⟩, .string ⟨#[55]⟩, .int .i64 13] 59 (0, 0))) (p := ⟨pb, 2, none⟩) (by have := HL.out.1; show w.heap.size ≠ pb; omega) (.int .i64 7)); have HT := Aside0.mk (blk_far (blk_new w2 (.cells #[.string ⟨#[105, 110, 116]⟩, .string ⟨#[55]⟩, .int .i64 13] 59 (0, 0))) (p := ⟨pb, 2, none⟩) (by have := HL.out.1; have := HB2.out.size; show w2.heap.size ≠ pb; omega) (.int .i64 7)); have t0 := (blk_cell HT.out 0).trans rfl; have t1 := (blk_cell HT.out 1).trans rfl; have zf0 := blk_frozen HGG.out 0; have zc0 := (blk_cell HGG.out 0).trans rfl; have zf1 := blk_frozen HGG.out 1; have zc1 := (blk_cell HGG.out 1).trans rfl; have zf2 := blk_frozen HGG.out 2; have zc2 := (blk_cell HGG.out 2).trans rfl; have zf3 := blk_frozen HGG.out 3; have zc3 := (blk_cell HGG.out 3).trans rfl; clear hb))
  refine bodyPost_ret (results_ct rfl _ _ w.heap.size 30 (Cs (.leaf ⟨#[55]⟩) none 0 0) (0, 0) _ rfl (by (with_reducible repeat (first | refine blk_drewN ?_ _ | refine blk_drew ?_)); exact put4_blk HGG.out _ _ _ _) Tryz.underlying30 rfl (by kernel_rfl)) rfl ?_
  exact ⟨rfl, put4_pr HQ.out (by have := HL.out; omega) (by have := HL.out; omega) _ _ _ _, put4_kb (kb_set' (KB.of_below (below_alloc HB2.out _) pb none) 2 _) (Nat.le_refl _) _ _ _ _⟩
end Go.Proofs.YtlabfjaddgakkaaGreat.Need
end
section
/-! The parser of trees at awake's text: primary, prefixed. -/
namespace Go.Proofs.YtlabfjaddgakkaaGreat.Need
set_option linter.unusedVariables false
set_option linter.unusedSimpArgs false
open Go.RowKit Go.Proofs.YtlabfjaddgakkaaGreatW.PrintWords Go.Proofs.YtlabfjaddgakkaaGreatW.PrintLast Go.Proofs.YtlabfjaddgakkaaGreatW.PrintMore Go.Proofs.YtlabfjaddgakkaaGreat.Q
set_option maxHeartbeats 2000000 in
set_option maxRecDepth 100000 in
theorem primary0 (w : World) (pb g c : Nat) (h : Pr w pb g c 0) :
    Calls Tryz.prog 160 #[.pointer (some ⟨pb, 0, none⟩)] w (Post (.leaf ⟨#[49]⟩) w pb g c 1) := by
  have hl := h.lt
  have HP := Aside0.mk (h.below (below_alloc (Below.refl w.heap.size w) (.cells C0 30 (0, 0))))
  have HG := Aside0.mk (blk_new w (.cells C0 30 (0, 0)))
  have HL := Aside0.mk hl
  have sz1 : (w.alloc (.cells C0 30 (0, 0))).heap.size = w.heap.size + 1 := by simp
  have HZ := Aside0.mk sz1
  clear h hl sz1
  have y3 := (blk_cell HP.out.P 3).trans rfl
  go_enter Tryz.func160, Tryz.ntmps160
  go_wp2_with (go_at_call 161; go_loud ((refine (simple0 _ pb g c _ HP.out).mono ?_); rintro e w3 ⟨rfl, hp, hk⟩; have HP4 := Aside0.mk (hp.below (below_alloc (Below.refl w3.heap.size w3) (.cells (Cs (.leaf ⟨#[49]⟩) none 0 0) 30 (0, 0)))); have HK4 := Aside0.mk (then_keep (two_keep (below_alloc (Below.refl w.heap.size w) (.cells C0 30 (0, 0))) hk) (below_alloc (Below.refl w3.heap.size w3) (.cells (Cs (.leaf ⟨#[49]⟩) none 0 0) 30 (0, 0)))); have HG4 := Aside0.mk (blk_alloc (blk_keep HG.out hk (by have := HL.out.1; omega)) (.cells (Cs (.leaf ⟨#[49]⟩) none 0 0) 30 (0, 0))); have zf0 := blk_frozen HG4.out 0; have zc0 := (blk_cell HG4.out 0).trans rfl; have zf1 := blk_frozen HG4.out 1; have zc1 := (blk_cell HG4.out 1).trans rfl; have zf2 := blk_frozen HG4.out 2; have zc2 := (blk_cell HG4.out 2).trans rfl; have zf3 := blk_frozen HG4.out 3; have zc3 := (blk_cell HG4.out 3).trans rfl; clear hp hk y3))
  refine bodyPost_ret (results_cell_row rfl _ _ w.heap.size 30 (Cs (.leaf ⟨#[49]⟩) none 0 0) (0, 0) _ rfl (by (with_reducible repeat (first | refine blk_drewN ?_ _ | refine blk_drew ?_)); exact put4_blk HG4.out _ _ _ _) Tryz.underlying30 rfl (by kernel_rfl)) rfl ?_
  exact ⟨none, 0, 0, rfl, ⟨rfl, rfl, rfl⟩, put4_pr HP4.out (by have := HL.out; omega) (by have := HL.out; omega) _ _ _ _, put4_kb HK4.out (Nat.le_refl _) _ _ _ _⟩
set_option maxHeartbeats 2000000 in
set_option maxRecDepth 100000 in
theorem primary2 (w : World) (pb g c : Nat) (h : Pr w pb g c 2) :
    Calls Tryz.prog 160 #[.pointer (some ⟨pb, 0, none⟩)] w (Post (.leaf ⟨#[50]⟩) w pb g c 3) := by
  have hl := h.lt
  have HP := Aside0.mk (h.below (below_alloc (Below.refl w.heap.size w) (.cells C0 30 (0, 0))))
  have HG := Aside0.mk (blk_new w (.cells C0 30 (0, 0)))
  have HL := Aside0.mk hl
  have sz1 : (w.alloc (.cells C0 30 (0, 0))).heap.size = w.heap.size + 1 := by simp
  have HZ := Aside0.mk sz1
  clear h hl sz1
  have y3 := (blk_cell HP.out.P 3).trans rfl
  go_enter Tryz.func160, Tryz.ntmps160
  go_wp2_with (go_at_call 161; go_loud ((refine (simple2 _ pb g c _ HP.out).mono ?_); rintro e w3 ⟨rfl, hp, hk⟩; have HP4 := Aside0.mk (hp.below (below_alloc (Below.refl w3.heap.size w3) (.cells (Cs (.leaf ⟨#[50]⟩) none 0 0) 30 (0, 0)))); have HK4 := Aside0.mk (then_keep (two_keep (below_alloc (Below.refl w.heap.size w) (.cells C0 30 (0, 0))) hk) (below_alloc (Below.refl w3.heap.size w3) (.cells (Cs (.leaf ⟨#[50]⟩) none 0 0) 30 (0, 0)))); have HG4 := Aside0.mk (blk_alloc (blk_keep HG.out hk (by have := HL.out.1; omega)) (.cells (Cs (.leaf ⟨#[50]⟩) none 0 0) 30 (0, 0))); have zf0 := blk_frozen HG4.out 0; have zc0 := (blk_cell HG4.out 0).trans rfl; have zf1 := blk_frozen HG4.out 1; have zc1 := (blk_cell HG4.out 1).trans rfl; have zf2 := blk_frozen HG4.out 2; have zc2 := (blk_cell HG4.out 2).trans rfl; have zf3 := blk_frozen HG4.out 3; have zc3 := (blk_cell HG4.out 3).trans rfl; clear hp hk y3))
  refine bodyPost_ret (results_cell_row rfl _ _ w.heap.size 30 (Cs (.leaf ⟨#[50]⟩) none 0 0) (0, 0) _ rfl (by (with_reducible repeat (first | refine blk_drewN ?_ _ | refine blk_drew ?_)); exact put4_blk HG4.out _ _ _ _) Tryz.underlying30 rfl (by kernel_rfl)) rfl ?_
  exact ⟨none, 0, 0, rfl, ⟨rfl, rfl, rfl⟩, put4_pr HP4.out (by have := HL.out; omega) (by have := HL.out; omega) _ _ _ _, put4_kb HK4.out (Nat.le_refl _) _ _ _ _⟩
set_option maxHeartbeats 2000000 in
set_option maxRecDepth 100000 in
theorem primary4 (w : World) (pb g c : Nat) (h : Pr w pb g c 4) :
    Calls Tryz.prog 160 #[.pointer (some ⟨pb, 0, none⟩)] w (Post (.leaf ⟨#[51]⟩) w pb g c 5) := by
  have hl := h.lt
  have HP := Aside0.mk (h.below (below_alloc (Below.refl w.heap.size w) (.cells C0 30 (0, 0))))
  have HG := Aside0.mk (blk_new w (.cells C0 30 (0, 0)))
  have HL := Aside0.mk hl
  have sz1 : (w.alloc (.cells C0 30 (0, 0))).heap.size = w.heap.size + 1 := by simp
  have HZ := Aside0.mk sz1
  clear h hl sz1
  have y3 := (blk_cell HP.out.P 3).trans rfl
  go_enter Tryz.func160, Tryz.ntmps160
  go_wp2_with (go_at_call 161; go_loud ((refine (simple4 _ pb g c _ HP.out).mono ?_); rintro e w3 ⟨rfl, hp, hk⟩; have HP4 := Aside0.mk (hp.below (below_alloc (Below.refl w3.heap.size w3) (.cells (Cs (.leaf ⟨#[51]⟩) none 0 0) 30 (0, 0)))); have HK4 := Aside0.mk (then_keep (two_keep (below_alloc (Below.refl w.heap.size w) (.cells C0 30 (0, 0))) hk) (below_alloc (Below.refl w3.heap.size w3) (.cells (Cs (.leaf ⟨#[51]⟩) none 0 0) 30 (0, 0)))); have HG4 := Aside0.mk (blk_alloc (blk_keep HG.out hk (by have := HL.out.1; omega)) (.cells (Cs (.leaf ⟨#[51]⟩) none 0 0) 30 (0, 0))); have zf0 := blk_frozen HG4.out 0; have zc0 := (blk_cell HG4.out 0).trans rfl; have zf1 := blk_frozen HG4.out 1; have zc1 := (blk_cell HG4.out 1).trans rfl; have zf2 := blk_frozen HG4.out 2; have zc2 := (blk_cell HG4.out 2).trans rfl; have zf3 := blk_frozen HG4.out 3; have zc3 := (blk_cell HG4.out 3).trans rfl; clear hp hk y3))
  refine bodyPost_ret (results_cell_row rfl _ _ w.heap.size 30 (Cs (.leaf ⟨#[51]⟩) none 0 0) (0, 0) _ rfl (by (with_reducible repeat (first | refine blk_drewN ?_ _ | refine blk_drew ?_)); exact put4_blk HG4.out _ _ _ _) Tryz.underlying30 rfl (by kernel_rfl)) rfl ?_
  exact ⟨none, 0, 0, rfl, ⟨rfl, rfl, rfl⟩, put4_pr HP4.out (by have := HL.out; omega) (by have := HL.out; omega) _ _ _ _, put4_kb HK4.out (Nat.le_refl _) _ _ _ _⟩
set_option maxHeartbeats 2000000 in
set_option maxRecDepth 100000 in
theorem primary6 (w : World) (pb g c : Nat) (h : Pr w pb g c 6) :
    Calls Tryz.prog 160 #[.pointer (some ⟨pb, 0, none⟩)] w (Post (.leaf ⟨#[55]⟩) w pb g c 7) := by
  have hl := h.lt
  have HP := Aside0.mk (h.below (below_alloc (Below.refl w.heap.size w) (.cells C0 30 (0, 0))))
  have HG := Aside0.mk (blk_new w (.cells C0 30 (0, 0)))
  have HL := Aside0.mk hl
  have sz1 : (w.alloc (.cells C0 30 (0, 0))).heap.size = w.heap.size + 1 := by simp
  have HZ := Aside0.mk sz1
  clear h hl sz1
  have y3 := (blk_cell HP.out.P 3).trans rfl
  go_enter Tryz.func160, Tryz.ntmps160
  go_wp2_with (go_at_call 161; go_loud ((refine (simple6 _ pb g c _ HP.out).mono ?_); rintro e w3 ⟨rfl, hp, hk⟩; have HP4 := Aside0.mk (hp.below (below_alloc (Below.refl w3.heap.size w3) (.cells (Cs (.leaf ⟨#[55]⟩) none 0 0) 30 (0, 0)))); have HK4 := Aside0.mk (then_keep (two_keep (below_alloc (Below.refl w.heap.size w) (.cells C0 30 (0, 0))) hk) (below_alloc (Below.refl w3.heap.size w3) (.cells (Cs (.leaf ⟨#[55]⟩) none 0 0) 30 (0, 0)))); have HG4 := Aside0.mk (blk_alloc (blk_keep HG.out hk (by have := HL.out.1; omega)) (.cells (Cs (.leaf ⟨#[55]⟩) none 0 0) 30 (0, 0))); have zf0 := blk_frozen HG4.out 0; have zc0 := (blk_cell HG4.out 0).trans rfl; have zf1 := blk_frozen HG4.out 1; have zc1 := (blk_cell HG4.out 1).trans rfl; have zf2 := blk_frozen HG4.out 2; have zc2 := (blk_cell HG4.out 2).trans rfl; have zf3 := blk_frozen HG4.out 3; have zc3 := (blk_cell HG4.out 3).trans rfl; clear hp hk y3))
  refine bodyPost_ret (results_cell_row rfl _ _ w.heap.size 30 (Cs (.leaf ⟨#[55]⟩) none 0 0) (0, 0) _ rfl (by (with_reducible repeat (first | refine blk_drewN ?_ _ | refine blk_drew ?_)); exact put4_blk HG4.out _ _ _ _) Tryz.underlying30 rfl (by kernel_rfl)) rfl ?_
  exact ⟨none, 0, 0, rfl, ⟨rfl, rfl, rfl⟩, put4_pr HP4.out (by have := HL.out; omega) (by have := HL.out; omega) _ _ _ _, put4_kb HK4.out (Nat.le_refl _) _ _ _ _⟩
set_option maxHeartbeats 2000000 in
set_option maxRecDepth 100000 in
theorem prefixed0 (T : TT) (w : World) (pb g c : Nat) (hi : ∀ w, Pr w pb g c 0 → Calls Tryz.prog 160 #[.pointer (some ⟨pb, 0, none⟩)] w (Post T w pb g c 1)) (h : Pr w pb g c 0) :
    Calls Tryz.prog 159 #[.pointer (some ⟨pb, 0, none⟩)] w (Post T w pb g c 1) := by
  have hl := h.lt
  have HP := Aside0.mk (h.below (below_alloc (Below.refl w.heap.size w) (.cells C0 30 (0, 0))))
  have HG := Aside0.mk (blk_new w (.cells C0 30 (0, 0)))
  have HL := Aside0.mk hl
  have sz1 : (w.alloc (.cells C0 30 (0, 0))).heap.size = w.heap.size + 1 := by simp
  have HZ := Aside0.mk sz1
  clear h hl sz1
  have HI := Aside0.mk hi
  have y3 := (blk_cell HP.out.P 3).trans rfl
  clear hi
  go_enter Tryz.func159, Tryz.ntmps159
  go_wp2_with (first
    | (go_at_call 145; have := y3; go_loud ((refine (no0 _ pb g c _ HP.out).mono ?_); rintro e w2 ⟨rfl, hb⟩; have HB0 := Aside0.mk hb; clear hb y3))
    | (go_at_call 145; have := HB0; go_loud ((refine (no0 _ pb g c _ (HP.out.below HB0.out)).mono ?_); rintro e w2 ⟨rfl, hb⟩; have HB1 := Aside0.mk (below_then HB0.out HB0.out.size hb); clear hb HB0))
    | (go_at_call 145; have := HB1; go_loud ((refine (no0 _ pb g c _ (HP.out.below HB1.out)).mono ?_); rintro e w2 ⟨rfl, hb⟩; have HB2 := Aside0.mk (below_then HB1.out HB1.out.size hb); clear hb HB1))
    | (go_at_call 160; go_loud ((refine (HI.out _ (HP.out.below HB2.out)).mono ?_); rintro e w3 ⟨A, n, k, rfl, ht, hp, hk⟩; have HT := Aside0.mk (ht.below (below_alloc (Below.refl w3.heap.size w3) (.cells (Cs T A n k) 30 (0, 0)))); have HP4 := Aside0.mk (hp.below (below_alloc (Below.refl w3.heap.size w3) (.cells (Cs T A n k) 30 (0, 0)))); have HK4 := Aside0.mk (then_keep (two_keep (below_then (below_alloc (Below.refl w.heap.size w) (.cells C0 30 (0, 0))) (by simp) HB2.out) hk) (below_alloc (Below.refl w3.heap.size w3) (.cells (Cs T A n k) 30 (0, 0)))); have HG4 := Aside0.mk (blk_alloc (blk_keep (blk_below HG.out HB2.out) hk (by have := HL.out.1; omega)) (.cells (Cs T A n k) 30 (0, 0))); have HX4 := Aside0.mk (blk_new w3 (.cells (Cs T A n k) 30 (0, 0))); clear ht hp hk)))
  have S2 := HB2.out.size
  go_loopg [] 1 (fun kq wx => Aside0 (Below (w3.alloc (.cells (Cs T A n k) 30 (0, 0))).heap.size (w3.alloc (.cells (Cs T A n k) 30 (0, 0))) wx))
  case atStart => exact ⟨Below.refl _ _⟩
  case round =>
    have HB5 := Aside0.mk hrel.out
    clear hrel
    go_wp2_with (go_at_call 145; go_loud ((refine (no1 _ pb g c _ (by decide +kernel) (HP4.out.below HB5.out)).mono ?_); rintro e w6 ⟨rfl, hb⟩; have HB := Aside0.mk (below_then HB5.out HB5.out.size hb); clear hb; have xc0 := (blk_cell (blk_below HX4.out HB.out) 0).trans rfl; have gc0 := (blk_cell (blk_below HG4.out HB.out) 0).trans rfl; have gf0 := blk_frozen (blk_below HG4.out HB.out) 0; have xc1 := (blk_cell (blk_below HX4.out HB.out) 1).trans rfl; have gc1 := (blk_cell (blk_below HG4.out HB.out) 1).trans rfl; have gf1 := blk_frozen (blk_below HG4.out HB.out) 1; have xc2 := (blk_cell (blk_below HX4.out HB.out) 2).trans rfl; have gc2 := (blk_cell (blk_below HG4.out HB.out) 2).trans rfl; have gf2 := blk_frozen (blk_below HG4.out HB.out) 2; have xc3 := (blk_cell (blk_below HX4.out HB.out) 3).trans rfl; have gc3 := (blk_cell (blk_below HG4.out HB.out) 3).trans rfl; have gf3 := blk_frozen (blk_below HG4.out HB.out) 3))
    refine bodyPost_ret (results_cell_row rfl _ _ w.heap.size 30 (Cs T A n k) (0, 0) _ rfl (by (with_reducible repeat (first | refine blk_drewN ?_ _ | refine blk_drew ?_)); exact put4_blk (blk_below HG4.out HB.out) _ _ _ _) Tryz.underlying30 rfl (by kernel_rfl)) rfl ?_
    exact ⟨A, n, k, rfl, (put4_tr (HT.out.below HB.out) (fun q hq => by have := HZ.out; omega) _ _ _ _).mono (fun q hq _ => by have := HZ.out; omega), put4_pr (HP4.out.below HB.out) (by have := HL.out; omega) (by have := HL.out; omega) _ _ _ _, put4_kb (then_keep HK4.out HB.out) (Nat.le_refl _) _ _ _ _⟩
set_option maxHeartbeats 2000000 in
set_option maxRecDepth 100000 in
theorem prefixed2 (T : TT) (w : World) (pb g c : Nat) (hi : ∀ w, Pr w pb g c 2 → Calls Tryz.prog 160 #[.pointer (some ⟨pb, 0, none⟩)] w (Post T w pb g c 3)) (h : Pr w pb g c 2) :
    Calls Tryz.prog 159 #[.pointer (some ⟨pb, 0, none⟩)] w (Post T w pb g c 3) := by
  have hl := h.lt
  have HP := Aside0.mk (h.below (below_alloc (Below.refl w.heap.size w) (.cells C0 30 (0, 0))))
  have HG := Aside0.mk (blk_new w (.cells C0 30 (0, 0)))
  have HL := Aside0.mk hl
  have sz1 : (w.alloc (.cells C0 30 (0, 0))).heap.size = w.heap.size + 1 := by simp
  have HZ := Aside0.mk sz1
  clear h hl sz1
  have HI := Aside0.mk hi
  have y3 := (blk_cell HP.out.P 3).trans rfl
  clear hi
  go_enter Tryz.func159, Tryz.ntmps159
  go_wp2_with (first
    | (go_at_call 145; have := y3; go_loud ((refine (no2 _ pb g c _ HP.out).mono ?_); rintro e w2 ⟨rfl, hb⟩; have HB0 := Aside0.mk hb; clear hb y3))
    | (go_at_call 145; have := HB0; go_loud ((refine (no2 _ pb g c _ (HP.out.below HB0.out)).mono ?_); rintro e w2 ⟨rfl, hb⟩; have HB1 := Aside0.mk (below_then HB0.out HB0.out.size hb); clear hb HB0))
    | (go_at_call 145; have := HB1; go_loud ((refine (no2 _ pb g c _ (HP.out.below HB1.out)).mono ?_); rintro e w2 ⟨rfl, hb⟩; have HB2 := Aside0.mk (below_then HB1.out HB1.out.size hb); clear hb HB1))
    | (go_at_call 160; go_loud ((refine (HI.out _ (HP.out.below HB2.out)).mono ?_); rintro e w3 ⟨A, n, k, rfl, ht, hp, hk⟩; have HT := Aside0.mk (ht.below (below_alloc (Below.refl w3.heap.size w3) (.cells (Cs T A n k) 30 (0, 0)))); have HP4 := Aside0.mk (hp.below (below_alloc (Below.refl w3.heap.size w3) (.cells (Cs T A n k) 30 (0, 0)))); have HK4 := Aside0.mk (then_keep (two_keep (below_then (below_alloc (Below.refl w.heap.size w) (.cells C0 30 (0, 0))) (by simp) HB2.out) hk) (below_alloc (Below.refl w3.heap.size w3) (.cells (Cs T A n k) 30 (0, 0)))); have HG4 := Aside0.mk (blk_alloc (blk_keep (blk_below HG.out HB2.out) hk (by have := HL.out.1; omega)) (.cells (Cs T A n k) 30 (0, 0))); have HX4 := Aside0.mk (blk_new w3 (.cells (Cs T A n k) 30 (0, 0))); clear ht hp hk)))
  have S2 := HB2.out.size
  go_loopg [] 1 (fun kq wx => Aside0 (Below (w3.alloc (.cells (Cs T A n k) 30 (0, 0))).heap.size (w3.alloc (.cells (Cs T A n k) 30 (0, 0))) wx))
  case atStart => exact ⟨Below.refl _ _⟩
  case round =>
    have HB5 := Aside0.mk hrel.out
    clear hrel
    go_wp2_with (go_at_call 145; go_loud ((refine (no3 _ pb g c _ (by decide +kernel) (HP4.out.below HB5.out)).mono ?_); rintro e w6 ⟨rfl, hb⟩; have HB := Aside0.mk (below_then HB5.out HB5.out.size hb); clear hb; have xc0 := (blk_cell (blk_below HX4.out HB.out) 0).trans rfl; have gc0 := (blk_cell (blk_below HG4.out HB.out) 0).trans rfl; have gf0 := blk_frozen (blk_below HG4.out HB.out) 0; have xc1 := (blk_cell (blk_below HX4.out HB.out) 1).trans rfl; have gc1 := (blk_cell (blk_below HG4.out HB.out) 1).trans rfl; have gf1 := blk_frozen (blk_below HG4.out HB.out) 1; have xc2 := (blk_cell (blk_below HX4.out HB.out) 2).trans rfl; have gc2 := (blk_cell (blk_below HG4.out HB.out) 2).trans rfl; have gf2 := blk_frozen (blk_below HG4.out HB.out) 2; have xc3 := (blk_cell (blk_below HX4.out HB.out) 3).trans rfl; have gc3 := (blk_cell (blk_below HG4.out HB.out) 3).trans rfl; have gf3 := blk_frozen (blk_below HG4.out HB.out) 3))
    refine bodyPost_ret (results_cell_row rfl _ _ w.heap.size 30 (Cs T A n k) (0, 0) _ rfl (by (with_reducible repeat (first | refine blk_drewN ?_ _ | refine blk_drew ?_)); exact put4_blk (blk_below HG4.out HB.out) _ _ _ _) Tryz.underlying30 rfl (by kernel_rfl)) rfl ?_
    exact ⟨A, n, k, rfl, (put4_tr (HT.out.below HB.out) (fun q hq => by have := HZ.out; omega) _ _ _ _).mono (fun q hq _ => by have := HZ.out; omega), put4_pr (HP4.out.below HB.out) (by have := HL.out; omega) (by have := HL.out; omega) _ _ _ _, put4_kb (then_keep HK4.out HB.out) (Nat.le_refl _) _ _ _ _⟩
set_option maxHeartbeats 2000000 in
set_option maxRecDepth 100000 in
theorem prefixed4 (T : TT) (w : World) (pb g c : Nat) (hi : ∀ w, Pr w pb g c 4 → Calls Tryz.prog 160 #[.pointer (some ⟨pb, 0, none⟩)] w (Post T w pb g c 5)) (h : Pr w pb g c 4) :
    Calls Tryz.prog 159 #[.pointer (some ⟨pb, 0, none⟩)] w (Post T w pb g c 5) := by
  have hl := h.lt
  have HP := Aside0.mk (h.below (below_alloc (Below.refl w.heap.size w) (.cells C0 30 (0, 0))))
  have HG := Aside0.mk (blk_new w (.cells C0 30 (0, 0)))
  have HL := Aside0.mk hl
  have sz1 : (w.alloc (.cells C0 30 (0, 0))).heap.size = w.heap.size + 1 := by simp
  have HZ := Aside0.mk sz1
  clear h hl sz1
  have HI := Aside0.mk hi
  have y3 := (blk_cell HP.out.P 3).trans rfl
  clear hi
  go_enter Tryz.func159, Tryz.ntmps159
  go_wp2_with (first
    | (go_at_call 145; have := y3; go_loud ((refine (no4 _ pb g c _ HP.out).mono ?_); rintro e w2 ⟨rfl, hb⟩; have HB0 := Aside0.mk hb; clear hb y3))
    | (go_at_call 145; have := HB0; go_loud ((refine (no4 _ pb g c _ (HP.out.below HB0.out)).mono ?_); rintro e w2 ⟨rfl, hb⟩; have HB1 := Aside0.mk (below_then HB0.out HB0.out.size hb); clear hb HB0))
    | (go_at_call 145; have := HB1; go_loud ((refine (no4 _ pb g c _ (HP.out.below HB1.out)).mono ?_); rintro e w2 ⟨rfl, hb⟩; have HB2 := Aside0.mk (below_then HB1.out HB1.out.size hb); clear hb HB1))
    | (go_at_call 160; go_loud ((refine (HI.out _ (HP.out.below HB2.out)).mono ?_); rintro e w3 ⟨A, n, k, rfl, ht, hp, hk⟩; have HT := Aside0.mk (ht.below (below_alloc (Below.refl w3.heap.size w3) (.cells (Cs T A n k) 30 (0, 0)))); have HP4 := Aside0.mk (hp.below (below_alloc (Below.refl w3.heap.size w3) (.cells (Cs T A n k) 30 (0, 0)))); have HK4 := Aside0.mk (then_keep (two_keep (below_then (below_alloc (Below.refl w.heap.size w) (.cells C0 30 (0, 0))) (by simp) HB2.out) hk) (below_alloc (Below.refl w3.heap.size w3) (.cells (Cs T A n k) 30 (0, 0)))); have HG4 := Aside0.mk (blk_alloc (blk_keep (blk_below HG.out HB2.out) hk (by have := HL.out.1; omega)) (.cells (Cs T A n k) 30 (0, 0))); have HX4 := Aside0.mk (blk_new w3 (.cells (Cs T A n k) 30 (0, 0))); clear ht hp hk)))
  have S2 := HB2.out.size
  go_loopg [] 1 (fun kq wx => Aside0 (Below (w3.alloc (.cells (Cs T A n k) 30 (0, 0))).heap.size (w3.alloc (.cells (Cs T A n k) 30 (0, 0))) wx))
  case atStart => exact ⟨Below.refl _ _⟩
  case round =>
    have HB5 := Aside0.mk hrel.out
    clear hrel
    go_wp2_with (go_at_call 145; go_loud ((refine (no5 _ pb g c _ (by decide +kernel) (HP4.out.below HB5.out)).mono ?_); rintro e w6 ⟨rfl, hb⟩; have HB := Aside0.mk (below_then HB5.out HB5.out.size hb); clear hb; have xc0 := (blk_cell (blk_below HX4.out HB.out) 0).trans rfl; have gc0 := (blk_cell (blk_below HG4.out HB.out) 0).trans rfl; have gf0 := blk_frozen (blk_below HG4.out HB.out) 0; have xc1 := (blk_cell (blk_below HX4.out HB.out) 1).trans rfl; have gc1 := (blk_cell (blk_below HG4.out HB.out) 1).trans rfl; have gf1 := blk_frozen (blk_below HG4.out HB.out) 1; have xc2 := (blk_cell (blk_below HX4.out HB.out) 2).trans rfl; have gc2 := (blk_cell (blk_below HG4.out HB.out) 2).trans rfl; have gf2 := blk_frozen (blk_below HG4.out HB.out) 2; have xc3 := (blk_cell (blk_below HX4.out HB.out) 3).trans rfl; have gc3 := (blk_cell (blk_below HG4.out HB.out) 3).trans rfl; have gf3 := blk_frozen (blk_below HG4.out HB.out) 3))
    refine bodyPost_ret (results_cell_row rfl _ _ w.heap.size 30 (Cs T A n k) (0, 0) _ rfl (by (with_reducible repeat (first | refine blk_drewN ?_ _ | refine blk_drew ?_)); exact put4_blk (blk_below HG4.out HB.out) _ _ _ _) Tryz.underlying30 rfl (by kernel_rfl)) rfl ?_
    exact ⟨A, n, k, rfl, (put4_tr (HT.out.below HB.out) (fun q hq => by have := HZ.out; omega) _ _ _ _).mono (fun q hq _ => by have := HZ.out; omega), put4_pr (HP4.out.below HB.out) (by have := HL.out; omega) (by have := HL.out; omega) _ _ _ _, put4_kb (then_keep HK4.out HB.out) (Nat.le_refl _) _ _ _ _⟩
set_option maxHeartbeats 2000000 in
set_option maxRecDepth 100000 in
theorem prefixed6 (T : TT) (w : World) (pb g c : Nat) (hi : ∀ w, Pr w pb g c 6 → Calls Tryz.prog 160 #[.pointer (some ⟨pb, 0, none⟩)] w (Post T w pb g c 7)) (h : Pr w pb g c 6) :
    Calls Tryz.prog 159 #[.pointer (some ⟨pb, 0, none⟩)] w (Post T w pb g c 7) := by
  have hl := h.lt
  have HP := Aside0.mk (h.below (below_alloc (Below.refl w.heap.size w) (.cells C0 30 (0, 0))))
  have HG := Aside0.mk (blk_new w (.cells C0 30 (0, 0)))
  have HL := Aside0.mk hl
  have sz1 : (w.alloc (.cells C0 30 (0, 0))).heap.size = w.heap.size + 1 := by simp
  have HZ := Aside0.mk sz1
  clear h hl sz1
  have HI := Aside0.mk hi
  have y3 := (blk_cell HP.out.P 3).trans rfl
  clear hi
  go_enter Tryz.func159, Tryz.ntmps159
  go_wp2_with (first
    | (go_at_call 145; have := y3; go_loud ((refine (no6 _ pb g c _ HP.out).mono ?_); rintro e w2 ⟨rfl, hb⟩; have HB0 := Aside0.mk hb; clear hb y3))
    | (go_at_call 145; have := HB0; go_loud ((refine (no6 _ pb g c _ (HP.out.below HB0.out)).mono ?_); rintro e w2 ⟨rfl, hb⟩; have HB1 := Aside0.mk (below_then HB0.out HB0.out.size hb); clear hb HB0))
    | (go_at_call 145; have := HB1; go_loud ((refine (no6 _ pb g c _ (HP.out.below HB1.out)).mono ?_); rintro e w2 ⟨rfl, hb⟩; have HB2 := Aside0.mk (below_then HB1.out HB1.out.size hb); clear hb HB1))
    | (go_at_call 160; go_loud ((refine (HI.out _ (HP.out.below HB2.out)).mono ?_); rintro e w3 ⟨A, n, k, rfl, ht, hp, hk⟩; have HT := Aside0.mk (ht.below (below_alloc (Below.refl w3.heap.size w3) (.cells (Cs T A n k) 30 (0, 0)))); have HP4 := Aside0.mk (hp.below (below_alloc (Below.refl w3.heap.size w3) (.cells (Cs T A n k) 30 (0, 0)))); have HK4 := Aside0.mk (then_keep (two_keep (below_then (below_alloc (Below.refl w.heap.size w) (.cells C0 30 (0, 0))) (by simp) HB2.out) hk) (below_alloc (Below.refl w3.heap.size w3) (.cells (Cs T A n k) 30 (0, 0)))); have HG4 := Aside0.mk (blk_alloc (blk_keep (blk_below HG.out HB2.out) hk (by have := HL.out.1; omega)) (.cells (Cs T A n k) 30 (0, 0))); have HX4 := Aside0.mk (blk_new w3 (.cells (Cs T A n k) 30 (0, 0))); clear ht hp hk)))
  have S2 := HB2.out.size
  go_loopg [] 1 (fun kq wx => Aside0 (Below (w3.alloc (.cells (Cs T A n k) 30 (0, 0))).heap.size (w3.alloc (.cells (Cs T A n k) 30 (0, 0))) wx))
  case atStart => exact ⟨Below.refl _ _⟩
  case round =>
    have HB5 := Aside0.mk hrel.out
    clear hrel
    go_wp2_with (go_at_call 145; go_loud ((refine (no7 _ pb g c _ (HP4.out.below HB5.out)).mono ?_); rintro e w6 ⟨rfl, hb⟩; have HB := Aside0.mk (below_then HB5.out HB5.out.size hb); clear hb; have xc0 := (blk_cell (blk_below HX4.out HB.out) 0).trans rfl; have gc0 := (blk_cell (blk_below HG4.out HB.out) 0).trans rfl; have gf0 := blk_frozen (blk_below HG4.out HB.out) 0; have xc1 := (blk_cell (blk_below HX4.out HB.out) 1).trans rfl; have gc1 := (blk_cell (blk_below HG4.out HB.out) 1).trans rfl; have gf1 := blk_frozen (blk_below HG4.out HB.out) 1; have xc2 := (blk_cell (blk_below HX4.out HB.out) 2).trans rfl; have gc2 := (blk_cell (blk_below HG4.out HB.out) 2).trans rfl; have gf2 := blk_frozen (blk_below HG4.out HB.out) 2; have xc3 := (blk_cell (blk_below HX4.out HB.out) 3).trans rfl; have gc3 := (blk_cell (blk_below HG4.out HB.out) 3).trans rfl; have gf3 := blk_frozen (blk_below HG4.out HB.out) 3))
    refine bodyPost_ret (results_cell_row rfl _ _ w.heap.size 30 (Cs T A n k) (0, 0) _ rfl (by (with_reducible repeat (first | refine blk_drewN ?_ _ | refine blk_drew ?_)); exact put4_blk (blk_below HG4.out HB.out) _ _ _ _) Tryz.underlying30 rfl (by kernel_rfl)) rfl ?_
    exact ⟨A, n, k, rfl, (put4_tr (HT.out.below HB.out) (fun q hq => by have := HZ.out; omega) _ _ _ _).mono (fun q hq _ => by have := HZ.out; omega), put4_pr (HP4.out.below HB.out) (by have := HL.out; omega) (by have := HL.out; omega) _ _ _ _, put4_kb (then_keep HK4.out HB.out) (Nat.le_refl _) _ _ _ _⟩
end Go.Proofs.YtlabfjaddgakkaaGreat.Need
end
section
/-! The parser of trees at awake's text: an operation. -/
namespace Go.Proofs.YtlabfjaddgakkaaGreat.Need
set_option linter.unusedVariables false
set_option linter.unusedSimpArgs false
open Go.RowKit Go.Proofs.YtlabfjaddgakkaaGreatW.PrintWords Go.Proofs.YtlabfjaddgakkaaGreatW.PrintLast Go.Proofs.YtlabfjaddgakkaaGreatW.PrintMore Go.Proofs.YtlabfjaddgakkaaGreat.Q
theorem three_new (w : World) (o o' o'' : Obj) : (((w.alloc o).alloc o').alloc o'').heap[w.heap.size]? = some o ∧ (((w.alloc o).alloc o').alloc o'').heap[w.heap.size + 1]? = some o' ∧ (((w.alloc o).alloc o').alloc o'').heap[w.heap.size + 1 + 1]? = some o'' ∧ Below w.heap.size w (((w.alloc o).alloc o').alloc o'') := by
  have s1 : (w.alloc o).heap.size = w.heap.size + 1 := by simp
  have s2 : ((w.alloc o).alloc o').heap.size = w.heap.size + 1 + 1 := by simp
  refine ⟨blk_alloc (blk_alloc (blk_new _ _) _) _, ?_, ?_, below_alloc (below_alloc (below_alloc (Below.refl _ _) _) _) _⟩
  · rw [← s1]; exact blk_alloc (blk_new _ _) _
  · rw [← s2]; exact blk_new _ _
set_option maxHeartbeats 2000000 in
set_option maxRecDepth 100000 in
theorem op_walk (w : World) (s : ByteArray) (a b : TT) (A1 A2 : Option Addr) (n1 c1 n2 c2 : Nat) :
    Calls Tryz.prog 152 #[.string s, .agg (Cs a A1 n1 c1), .agg (Cs b A2 n2 c2)] w (fun e w' => ∃ q, e = .returned (.agg (Cs (.bin s a b) (some ⟨q, 0, none⟩) 2 2)) ∧ w.heap.size ≤ q ∧ w'.heap[q]? = some (.cells #[.string a.d, .string a.s, .int .i64 0, .slice A1 n1 c1, .string b.d, .string b.s, .int .i64 0, .slice A2 n2 c2] 30 (0, 0)) ∧ Below w.heap.size w w') := by
  obtain ⟨g0, g1, g2, hS⟩ := three_new w (.cells (Cs a A1 n1 c1) 30 (0, 0)) (.cells (Cs b A2 n2 c2) 30 (0, 0)) (.cells C0 30 (0, 0))
  have hz : (((w.alloc (.cells (Cs a A1 n1 c1) 30 (0, 0))).alloc (.cells (Cs b A2 n2 c2) 30 (0, 0))).alloc (.cells C0 30 (0, 0))).heap.size = w.heap.size + 1 + 1 + 1 := by simp
  have hq := blk_new (((w.alloc (.cells (Cs a A1 n1 c1) 30 (0, 0))).alloc (.cells (Cs b A2 n2 c2) 30 (0, 0))).alloc (.cells C0 30 (0, 0))) (.cells #[.string a.d, .string a.s, .int .i64 0, .slice A1 n1 c1, .string b.d, .string b.s, .int .i64 0, .slice A2 n2 c2] 30 (0, 0))
  rw [hz] at hq
  have H2 := Aside0.mk (blk_alloc g2 (.cells #[.string a.d, .string a.s, .int .i64 0, .slice A1 n1 c1, .string b.d, .string b.s, .int .i64 0, .slice A2 n2 c2] 30 (0, 0)))
  have HQ := Aside0.mk hq
  have HS := Aside0.mk (below_alloc hS (.cells #[.string a.d, .string a.s, .int .i64 0, .slice A1 n1 c1, .string b.d, .string b.s, .int .i64 0, .slice A2 n2 c2] 30 (0, 0)))
  have a0 := (blk_cell g0 0).trans rfl
  have a1 := (blk_cell g0 1).trans rfl
  have a2 := (blk_cell g0 2).trans rfl
  have a3 := (blk_cell g0 3).trans rfl
  have b0 := (blk_cell g1 0).trans rfl
  have b1 := (blk_cell g1 1).trans rfl
  have b2 := (blk_cell g1 2).trans rfl
  have b3 := (blk_cell g1 3).trans rfl
  have c0 := (blk_cell H2.out 0).trans rfl
  have d0 := blk_frozen H2.out 0
  have d1 := blk_frozen H2.out 1
  have d2 := blk_frozen H2.out 2
  have d3 := blk_frozen H2.out 3
  have e0 := (blk_cell H2.out 0).trans rfl
  have e1 := (blk_cell H2.out 1).trans rfl
  have e2 := (blk_cell H2.out 2).trans rfl
  have e3 := (blk_cell H2.out 3).trans rfl
  clear g0 g1 g2 hS hz hq
  go_enter Tryz.func152, Tryz.ntmps152
  go_wp2_with fail
  obtain ⟨-, -, g2, hS⟩ := three_new w (.cells (Cs a A1 n1 c1) 30 (0, 0)) (.cells (Cs b A2 n2 c2) 30 (0, 0)) (.cells (Cs (.bin s a b) (some ⟨w.heap.size + 1 + 1 + 1, 0, none⟩) 2 2) 30 (0, 0))
  have hz : (((w.alloc (.cells (Cs a A1 n1 c1) 30 (0, 0))).alloc (.cells (Cs b A2 n2 c2) 30 (0, 0))).alloc (.cells (Cs (.bin s a b) (some ⟨w.heap.size + 1 + 1 + 1, 0, none⟩) 2 2) 30 (0, 0))).heap.size = w.heap.size + 1 + 1 + 1 := by simp
  have hq := blk_new (((w.alloc (.cells (Cs a A1 n1 c1) 30 (0, 0))).alloc (.cells (Cs b A2 n2 c2) 30 (0, 0))).alloc (.cells (Cs (.bin s a b) (some ⟨w.heap.size + 1 + 1 + 1, 0, none⟩) 2 2) 30 (0, 0))) (.cells #[.string a.d, .string a.s, .int .i64 0, .slice A1 n1 c1, .string b.d, .string b.s, .int .i64 0, .slice A2 n2 c2] 30 (0, 0))
  rw [hz] at hq
  refine bodyPost_ret (results_cell_row rfl _ _ (w.heap.size + 1 + 1) 30 (Cs (.bin s a b) (some ⟨w.heap.size + 1 + 1 + 1, 0, none⟩) 2 2) (0, 0) _ rfl (blk_alloc g2 _) Tryz.underlying30 rfl (by kernel_rfl)) rfl ?_
  exact ⟨_, rfl, by omega, hq, below_alloc hS _⟩
theorem blk_keepr {w w' : World} {g p l : Nat} {o : Obj} (h : w.heap[g]? = some o) (hk : KB w w' p (some l)) (hne : g ≠ p) (hnl : g ≠ l) : w'.heap[g]? = some o := (hk.2 g (blk_lt h) hne (by intro e; injection e with e; exact hnl e)).trans h
theorem kb_row {w w1 : World} {p l : Nat} (h : KB w w1 p (some l)) (j : Nat) (u : Value) : KB w (w1.setCell ⟨l, j, none⟩ u) p (some l) :=
  ⟨by simpa [World.setCell] using h.1, fun i hi hp hr => (Below.heap_setCell w1 ⟨l, j, none⟩ u i (by show i ≠ l; rintro rfl; exact hr rfl)).trans (h.2 i hi hp hr), h.3⟩
theorem kb_wide {w w' : World} {p : Nat} (h : KB w w' p none) (l : Nat) : KB w w' p (some l) := ⟨h.1, fun i hi hg _ => h.2 i hi hg (by simp), h.3⟩
theorem put4_kbr {w W : World} {q pb : Nat} (h : KB w W pb (some q)) (a b : ByteArray) (n : Int) (v : Value) : KB w (put4 W q a b n v) pb (some q) := kb_row (kb_row (kb_row (kb_row h _ _) _ _) _ _) _ _
/-- What stands while a operation's second part is read: the first one lies in block x, the whole goes to block y. -/
structure RF (pb g c : Nat) (i1 i2 : Int) (s : ByteArray) (T T2 : TT) (A : Option Addr) (n k x y B : Nat) (w w' : World) (b0 b1 b2 b3 b4 b5 : Bool) (vs vl vp vc vo : Value) : Prop where
  h0 : b0 = true → vs = .string s
  h1 : b1 = true → vl = .agg (Cs T A n k)
  h2 : b2 = true → vp = .pointer (some ⟨pb, 0, none⟩)
  h3 : b3 = true → ∃ A2 n2 k2, vc = .agg (Cs T2 A2 n2 k2) ∧ Tr (fun q => w.heap.size ≤ q) w' T2 A2 n2 k2
  h4 : b4 = true → ∃ q, vo = .agg (Cs (.bin s T T2) (some ⟨q, 0, none⟩) 2 2) ∧ Tr (fun q => (B ≤ q ∧ q < x) ∨ w.heap.size ≤ q) w' (.bin s T T2) (some ⟨q, 0, none⟩) 2 2
  h5 : b5 = true → ∃ q, w'.heap[y]? = some (.cells (Cs (.bin s T T2) (some ⟨q, 0, none⟩) 2 2) 30 (0, 0)) ∧ Tr (fun q => (B ≤ q ∧ q < x) ∨ w.heap.size ≤ q) w' (.bin s T T2) (some ⟨q, 0, none⟩) 2 2
  pr : Pr w' pb g c (if b3 = true then i2 else i1)
  K : KB w w' pb (some y)
  x3 : b5 = false → w'.heap[x]? = some (.cells (Cs T A n k) 30 (0, 0))
  y3 : b5 = false → ∃ z0 z1 z2 z3, w'.heap[y]? = some (.cells #[z0, z1, z2, z3] 30 (0, 0))
  tA : Tr (fun q => B ≤ q ∧ q < x) w' T A n k
  n4 : b4 = true → b3 = true
  n5 : b5 = true → b1 = true ∧ b4 = true
  l : pb < B ∧ g < B ∧ B ≤ x ∧ x < w.heap.size ∧ y < w.heap.size ∧ y ≠ pb ∧ y ≠ g ∧ (y = x ∨ y < B)
def RPJ (pb g c : Nat) (i1 i2 : Int) (s : ByteArray) (T T2 : TT) (A : Option Addr) (n k x y B : Nat) (w : World) (a0 : Act) (listed : Array Bool) (a' : Act) (w' : World) : Prop :=
  ∃ (b0 b1 b2 b3 b4 b5 : Bool) (v27 v28 v29 v30 v31 : Value), listed = #[b0, b1, b2, b3, b4, b5] ∧ a' = { a0 with tmps := ((((a0.tmps.setIfInBounds 27 v27).setIfInBounds 28 v28).setIfInBounds 29 v29).setIfInBounds 30 v30).setIfInBounds 31 v31 } ∧ RF pb g c i1 i2 s T T2 A n k x y B w w' b0 b1 b2 b3 b4 b5 v27 v28 v29 v30 v31
theorem RP_self (a : Act) : a = { a with tmps := ((((a.tmps.setIfInBounds 27 (a.tmps.getD 27 undef)).setIfInBounds 28 (a.tmps.getD 28 undef)).setIfInBounds 29 (a.tmps.getD 29 undef)).setIfInBounds 30 (a.tmps.getD 30 undef)).setIfInBounds 31 (a.tmps.getD 31 undef) } := by
  simp only [set_self]
def RSJ (pb g c : Nat) (i1 i2 : Int) (s : ByteArray) (T T2 : TT) (A : Option Addr) (n k x y B : Nat) (w : World) (a0 : Act) (listed : Array Bool) (a' : Act) (w' : World) : Prop :=
  ∃ (b0 b1 b2 b3 b4 b5 : Bool) (v23 v24 v25 v26 v27 : Value), listed = #[b0, b1, b2, b3, b4, b5] ∧ a' = { a0 with tmps := ((((a0.tmps.setIfInBounds 23 v23).setIfInBounds 24 v24).setIfInBounds 25 v25).setIfInBounds 26 v26).setIfInBounds 27 v27 } ∧ RF pb g c i1 i2 s T T2 A n k x y B w w' b0 b1 b2 b3 b4 b5 v23 v24 v25 v26 v27
theorem RS_self (a : Act) : a = { a with tmps := ((((a.tmps.setIfInBounds 23 (a.tmps.getD 23 undef)).setIfInBounds 24 (a.tmps.getD 24 undef)).setIfInBounds 25 (a.tmps.getD 25 undef)).setIfInBounds 26 (a.tmps.getD 26 undef)).setIfInBounds 27 (a.tmps.getD 27 undef) } := by
  simp only [set_self]
def RCJ (pb g c : Nat) (i1 i2 : Int) (s : ByteArray) (T T2 : TT) (A : Option Addr) (n k x y B : Nat) (w : World) (a0 : Act) (listed : Array Bool) (a' : Act) (w' : World) : Prop :=
  ∃ (b0 b1 b2 b3 b4 b5 : Bool) (v17 v18 v19 v20 v21 : Value), listed = #[b0, b1, b2, b3, b4, b5] ∧ a' = { a0 with tmps := ((((a0.tmps.setIfInBounds 17 v17).setIfInBounds 18 v18).setIfInBounds 19 v19).setIfInBounds 20 v20).setIfInBounds 21 v21 } ∧ RF pb g c i1 i2 s T T2 A n k x y B w w' b0 b1 b2 b3 b4 b5 v17 v18 v19 v20 v21
theorem RC_self (a : Act) : a = { a with tmps := ((((a.tmps.setIfInBounds 17 (a.tmps.getD 17 undef)).setIfInBounds 18 (a.tmps.getD 18 undef)).setIfInBounds 19 (a.tmps.getD 19 undef)).setIfInBounds 20 (a.tmps.getD 20 undef)).setIfInBounds 21 (a.tmps.getD 21 undef) } := by
  simp only [set_self]
end Go.Proofs.YtlabfjaddgakkaaGreat.Need
end
