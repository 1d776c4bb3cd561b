-- Walks of Go functions; written by own_print.py of this repo (see NOTES.md).
import Derived.Test.YtgbielhbjgipoaaQ0
import Derived.Test.YtgbielhbjgipoaaQ23
namespace Go.Proofs.Ytgbielhbjgipoaa.Q
open Go.RowKit Go.Proofs.YtgbielhbjgipoaaW.PrintWords Go.Proofs.YtgbielhbjgipoaaW.PrintLast Go.Proofs.YtgbielhbjgipoaaW.PrintMore
attribute [local go_sem] Go.Proofs.YtgbielhbjgipoaaW.OwnWords.isSome_setCell max2_int min2_int max_two min_two max_three min_three max_four min_four   -- for this text's walks alone
set_option linter.unusedVariables false
set_option linter.unusedSimpArgs false

/-! ### manystrandref01_IsSign: function 50 -/
def manystrandref01_IsSign.f (k : Nat) (a0 : ByteArray) : Option (Bool) := (manystrandref01_Among.f k a0 (⟨#[32, 40, 32, 41, 32, 123, 32, 125, 32, 91, 32, 93, 32, 91, 93, 32, 46, 32, 124, 32, 35, 32, 61, 32, 92, 61, 32, 61, 61, 32, 60, 32, 61, 60, 32, 62, 32, 62, 61, 32, 43, 32, 45, 32, 42, 32, 126, 32, 58, 61, 32, 64, 32, 33, 33, 32, 58, 32, 46, 46, 46, 32, 36, 32, 95, 32]⟩ : ByteArray)).bind fun t174 => (some t174)
theorem manystrandref01_IsSign.mono : ∀ a0 k, LeO (manystrandref01_IsSign.f k a0) (manystrandref01_IsSign.f (k + 1) a0) := by
 intro a0 k
 unfold manystrandref01_IsSign.f
 repeat' first
   | (with_reducible exact manystrandref01_Among.mono _ _ _)
   | (with_reducible exact LeO.refl _)
   | (with_reducible exact LeO.none _)
   | (with_reducible refine LeO.ite ?_ ?_)
   | (with_reducible refine LeO.bind ?_ (fun _ => ?_))
   | exact manystrandref01_Among.mono _ _ _
   | exact LeO.none _
   | refine LeO.ite ?_ ?_
   | refine LeO.bind ?_ (fun _ => ?_)
set_option maxHeartbeats 8000000 in
set_option maxRecDepth 100000 in
theorem manystrandref01_IsSign.calls (k : Nat) (a0 : ByteArray) (r : Bool) (w : World) (h : manystrandref01_IsSign.f k a0 = some r) :
  Calls Try.prog 50 #[.string a0] w fun e w' => e = .returned (.bool r) ∧ Drawn0 w w' := by
 have H : ((manystrandref01_Among.f k a0 (⟨#[32, 40, 32, 41, 32, 123, 32, 125, 32, 91, 32, 93, 32, 91, 93, 32, 46, 32, 124, 32, 35, 32, 61, 32, 92, 61, 32, 61, 61, 32, 60, 32, 61, 60, 32, 62, 32, 62, 61, 32, 43, 32, 45, 32, 42, 32, 126, 32, 58, 61, 32, 64, 32, 33, 33, 32, 58, 32, 46, 46, 46, 32, 36, 32, 95, 32]⟩ : ByteArray)).bind fun t174 => (some t174)) = some r := h
 clear h
 replace H := Option.bind_eq_some_iff.mp H
 obtain ⟨t174, A20, H⟩ := H
 replace H : (some t174) = some r := H
 have A2 := Aside0.mk A20
 clear A20
 obtain rfl := Option.some.inj H
 go_enter Try.func50, Try.ntmps50
 go_wp2_with (first | ((with_reducible refine gate_callee (f := 58) rfl ?_); refine goesL_ (some 4) rfl rfl Try.func58 (by kernel_rfl) rfl #[.string a0, .string (⟨#[32, 40, 32, 41, 32, 123, 32, 125, 32, 91, 32, 93, 32, 91, 93, 32, 46, 32, 124, 32, 35, 32, 61, 32, 92, 61, 32, 61, 61, 32, 60, 32, 61, 60, 32, 62, 32, 62, 61, 32, 43, 32, 45, 32, 42, 32, 126, 32, 58, 61, 32, 64, 32, 33, 33, 32, 58, 32, 46, 46, 46, 32, 36, 32, 95, 32]⟩ : ByteArray)] rfl (by (try simp only [List.map_toArray, List.map_cons, List.map_nil]); first | done | rfl | (simp only [List.length_drop, List.length_take]; rfl)) ?_; (with_reducible refine (manystrandref01_Among.calls k a0 (⟨#[32, 40, 32, 41, 32, 123, 32, 125, 32, 91, 32, 93, 32, 91, 93, 32, 46, 32, 124, 32, 35, 32, 61, 32, 92, 61, 32, 61, 61, 32, 60, 32, 61, 60, 32, 62, 32, 62, 61, 32, 43, 32, 45, 32, 42, 32, 126, 32, 58, 61, 32, 64, 32, 33, 33, 32, 58, 32, 46, 46, 46, 32, 36, 32, 95, 32]⟩ : ByteArray) t174 _ A2.out).mono ?_); rintro e w' ⟨rfl, ⟨nd, rfl⟩⟩; refine ⟨_, rfl, ?_⟩))
 go_ret
 exact ⟨by first | rfl | (simp; done) | (simp [*]; done), by repeat (first | exact Drawn0.refl _ | apply Drawn0.step)⟩

end Go.Proofs.Ytgbielhbjgipoaa.Q
