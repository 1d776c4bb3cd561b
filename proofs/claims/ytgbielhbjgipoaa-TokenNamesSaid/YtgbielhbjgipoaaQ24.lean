-- Walks of Go functions; written by own_print.py of this repo (see NOTES.md).
import Derived.Test.YtgbielhbjgipoaaQ0
import Derived.Test.YtgbielhbjgipoaaQ23
namespace Go.Proofs.Ytgbielhbjgipoaa.Q
open Go.RowKit Go.Proofs.YtgbielhbjgipoaaW.PrintWords Go.Proofs.YtgbielhbjgipoaaW.PrintLast Go.Proofs.YtgbielhbjgipoaaW.PrintMore
attribute [local go_sem] Go.Proofs.YtgbielhbjgipoaaW.OwnWords.isSome_setCell max2_int min2_int max_two min_two max_three min_three max_four min_four   -- for this text's walks alone
set_option linter.unusedVariables false
set_option linter.unusedSimpArgs false

/-! ### manystrandref01_IsKey: function 43 -/
def manystrandref01_IsKey.f (k : Nat) (a0 : ByteArray) : Option (Bool) := (manystrandref01_Among.f k a0 (⟨#[32, 97, 110, 100, 116, 104, 101, 110, 32, 97, 116, 32, 98, 121, 32, 99, 97, 115, 101, 32, 99, 97, 116, 99, 104, 32, 99, 104, 111, 105, 99, 101, 32, 100, 105, 118, 32, 100, 111, 32, 101, 97, 99, 104, 32, 101, 108, 115, 101, 32, 101, 110, 100, 32, 102, 111, 114, 32, 102, 117, 110, 32, 105, 102, 32, 105, 110, 32, 108, 97, 122, 121, 32, 108, 111, 99, 97, 108, 32, 108, 111, 99, 107, 32, 109, 111, 100, 32, 111, 114, 101, 108, 115, 101, 32, 112, 114, 111, 99, 32, 114, 97, 105, 115, 101, 32, 115, 107, 105, 112, 32, 116, 104, 101, 110, 32, 116, 104, 114, 101, 97, 100, 32, 116, 114, 121, 32, 111, 102, 32]⟩ : ByteArray)).bind fun t170 => (some t170)
theorem manystrandref01_IsKey.mono : ∀ a0 k, LeO (manystrandref01_IsKey.f k a0) (manystrandref01_IsKey.f (k + 1) a0) := by
 intro a0 k
 unfold manystrandref01_IsKey.f
 repeat' first
   | (with_reducible exact manystrandref01_Among.mono _ _ _)
   | (with_reducible exact LeO.refl _)
   | (with_reducible exact LeO.none _)
   | (with_reducible refine LeO.ite ?_ ?_)
   | (with_reducible refine LeO.bind ?_ (fun _ => ?_))
   | exact manystrandref01_Among.mono _ _ _
   | exact LeO.none _
   | refine LeO.ite ?_ ?_
   | refine LeO.bind ?_ (fun _ => ?_)
set_option maxHeartbeats 8000000 in
set_option maxRecDepth 100000 in
theorem manystrandref01_IsKey.calls (k : Nat) (a0 : ByteArray) (r : Bool) (w : World) (h : manystrandref01_IsKey.f k a0 = some r) :
  Calls Try.prog 43 #[.string a0] w fun e w' => e = .returned (.bool r) ∧ Drawn0 w w' := by
 have H : ((manystrandref01_Among.f k a0 (⟨#[32, 97, 110, 100, 116, 104, 101, 110, 32, 97, 116, 32, 98, 121, 32, 99, 97, 115, 101, 32, 99, 97, 116, 99, 104, 32, 99, 104, 111, 105, 99, 101, 32, 100, 105, 118, 32, 100, 111, 32, 101, 97, 99, 104, 32, 101, 108, 115, 101, 32, 101, 110, 100, 32, 102, 111, 114, 32, 102, 117, 110, 32, 105, 102, 32, 105, 110, 32, 108, 97, 122, 121, 32, 108, 111, 99, 97, 108, 32, 108, 111, 99, 107, 32, 109, 111, 100, 32, 111, 114, 101, 108, 115, 101, 32, 112, 114, 111, 99, 32, 114, 97, 105, 115, 101, 32, 115, 107, 105, 112, 32, 116, 104, 101, 110, 32, 116, 104, 114, 101, 97, 100, 32, 116, 114, 121, 32, 111, 102, 32]⟩ : ByteArray)).bind fun t170 => (some t170)) = some r := h
 clear h
 replace H := Option.bind_eq_some_iff.mp H
 obtain ⟨t170, A20, H⟩ := H
 replace H : (some t170) = some r := H
 have A2 := Aside0.mk A20
 clear A20
 obtain rfl := Option.some.inj H
 go_enter Try.func43, Try.ntmps43
 go_wp2_with (first | ((with_reducible refine gate_callee (f := 58) rfl ?_); refine goesL_ (some 4) rfl rfl Try.func58 (by kernel_rfl) rfl #[.string a0, .string (⟨#[32, 97, 110, 100, 116, 104, 101, 110, 32, 97, 116, 32, 98, 121, 32, 99, 97, 115, 101, 32, 99, 97, 116, 99, 104, 32, 99, 104, 111, 105, 99, 101, 32, 100, 105, 118, 32, 100, 111, 32, 101, 97, 99, 104, 32, 101, 108, 115, 101, 32, 101, 110, 100, 32, 102, 111, 114, 32, 102, 117, 110, 32, 105, 102, 32, 105, 110, 32, 108, 97, 122, 121, 32, 108, 111, 99, 97, 108, 32, 108, 111, 99, 107, 32, 109, 111, 100, 32, 111, 114, 101, 108, 115, 101, 32, 112, 114, 111, 99, 32, 114, 97, 105, 115, 101, 32, 115, 107, 105, 112, 32, 116, 104, 101, 110, 32, 116, 104, 114, 101, 97, 100, 32, 116, 114, 121, 32, 111, 102, 32]⟩ : ByteArray)] rfl (by (try simp only [List.map_toArray, List.map_cons, List.map_nil]); first | done | rfl | (simp only [List.length_drop, List.length_take]; rfl)) ?_; (with_reducible refine (manystrandref01_Among.calls k a0 (⟨#[32, 97, 110, 100, 116, 104, 101, 110, 32, 97, 116, 32, 98, 121, 32, 99, 97, 115, 101, 32, 99, 97, 116, 99, 104, 32, 99, 104, 111, 105, 99, 101, 32, 100, 105, 118, 32, 100, 111, 32, 101, 97, 99, 104, 32, 101, 108, 115, 101, 32, 101, 110, 100, 32, 102, 111, 114, 32, 102, 117, 110, 32, 105, 102, 32, 105, 110, 32, 108, 97, 122, 121, 32, 108, 111, 99, 97, 108, 32, 108, 111, 99, 107, 32, 109, 111, 100, 32, 111, 114, 101, 108, 115, 101, 32, 112, 114, 111, 99, 32, 114, 97, 105, 115, 101, 32, 115, 107, 105, 112, 32, 116, 104, 101, 110, 32, 116, 104, 114, 101, 97, 100, 32, 116, 114, 121, 32, 111, 102, 32]⟩ : ByteArray) t170 _ A2.out).mono ?_); rintro e w' ⟨rfl, ⟨nd, rfl⟩⟩; refine ⟨_, rfl, ?_⟩))
 go_ret
 exact ⟨by first | rfl | (simp; done) | (simp [*]; done), by repeat (first | exact Drawn0.refl _ | apply Drawn0.step)⟩

end Go.Proofs.Ytgbielhbjgipoaa.Q
