-- Walks of Go functions; written by own_print.py of this repo (see NOTES.md).
import Derived.Test.YtelmcnngocklfaaQ0
import Derived.Test.YtelmcnngocklfaaQ6
import Derived.Test.YtelmcnngocklfaaQ7
namespace Go.Proofs.Ytelmcnngocklfaa.Q
open Go.RowKit Go.Proofs.YtelmcnngocklfaaW.PrintWords Go.Proofs.YtelmcnngocklfaaW.PrintLast Go.Proofs.YtelmcnngocklfaaW.PrintMore
attribute [local go_sem] Go.Proofs.YtelmcnngocklfaaW.OwnWords.isSome_setCell max2_int min2_int max_two min_two max_three min_three max_four min_four
set_option linter.unusedVariables false
set_option linter.unusedSimpArgs false

/-! ### kernel_isName: function 73 -/
def kernel_isName.f (k : Nat) (a0 : ByteArray) : Option (Bool) := (token_IsVar.f k a0).bind fun t107 => (if t107 = true then (some true) else ((kernel_isNew.f k a0).bind fun t108 => (some t108)))
theorem kernel_isName.mono : ∀ a0 k, LeO (kernel_isName.f k a0) (kernel_isName.f (k + 1) a0) := by
 intro a0 k
 unfold kernel_isName.f
 repeat' first
   | (with_reducible exact kernel_isNew.mono _ _)
   | (with_reducible exact token_IsVar.mono _ _)
   | (with_reducible exact LeO.refl _)
   | (with_reducible exact LeO.none _)
   | (with_reducible refine LeO.ite ?_ ?_)
   | (with_reducible refine LeO.bind ?_ (fun _ => ?_))
   | exact kernel_isNew.mono _ _
   | exact token_IsVar.mono _ _
   | exact LeO.none _
   | refine LeO.ite ?_ ?_
   | refine LeO.bind ?_ (fun _ => ?_)
set_option maxHeartbeats 8000000 in
set_option maxRecDepth 100000 in
theorem kernel_isName.calls (k : Nat) (a0 : ByteArray) (r : Bool) (w : World) (h : kernel_isName.f k a0 = some r) :
  Calls Try.prog 73 #[.string a0] w fun e w' => e = .returned (.bool r) ∧ Drawn0 w w' := by
 have H : ((token_IsVar.f k a0).bind fun t107 => (if t107 = true then (some true) else ((kernel_isNew.f k a0).bind fun t108 => (some t108)))) = some r := h
 clear h
 replace H := Option.bind_eq_some_iff.mp H
 obtain ⟨t107, A20, H⟩ := H
 replace H : (if t107 = true then (some true) else ((kernel_isNew.f k a0).bind fun t108 => (some t108))) = some r := H
 have A2 := Aside0.mk A20
 clear A20
 by_cases c3 : t107 = true
 ·subst c3
  have H1 : (some true) = some r := by rw [if_pos rfl] at H; exact H
  clear H
  have H := H1
  clear H1
  obtain rfl := Option.some.inj H
  go_enter Try.func73, Try.ntmps73
  go_wp2_with (first | ((with_reducible refine gate_callee (f := 80) rfl ?_); refine goesL_ (some 4) rfl rfl Try.func80 (by kernel_rfl) rfl #[.string a0] rfl (by (try simp only [List.map_toArray, List.map_cons, List.map_nil]); first | done | rfl | (simp only [List.length_drop, List.length_take]; rfl)) ?_; (with_reducible refine (token_IsVar.calls k a0 true _ A2.out).mono ?_); rintro e w' ⟨rfl, ⟨nd, rfl⟩⟩; refine ⟨_, rfl, ?_⟩))
  go_ret
  exact ⟨by first | rfl | (simp; done) | (simp [*]; done), by repeat (first | exact Drawn0.refl _ | apply Drawn0.step)⟩
 ·replace c3 := Bool.eq_false_iff.mpr c3
  subst c3
  have H1 : ((kernel_isNew.f k a0).bind fun t108 => (some t108)) = some r := by rw [if_neg (show ¬ (false = true) by decide)] at H; exact H
  clear H
  have H := H1
  clear H1
  replace H := Option.bind_eq_some_iff.mp H
  obtain ⟨t108, A40, H⟩ := H
  replace H : (some t108) = some r := H
  have A4 := Aside0.mk A40
  clear A40
  obtain rfl := Option.some.inj H
  go_enter Try.func73, Try.ntmps73
  go_wp2_with (first | ((with_reducible refine gate_callee (f := 80) rfl ?_); refine goesL_ (some 4) rfl rfl Try.func80 (by kernel_rfl) rfl #[.string a0] rfl (by (try simp only [List.map_toArray, List.map_cons, List.map_nil]); first | done | rfl | (simp only [List.length_drop, List.length_take]; rfl)) ?_; (with_reducible refine (token_IsVar.calls k a0 false _ A2.out).mono ?_); rintro e w' ⟨rfl, ⟨nd, rfl⟩⟩; refine ⟨_, rfl, ?_⟩) | (go_at_call 81; (with_reducible refine (kernel_isNew.calls k a0 t108 _ A4.out).mono ?_); rintro e w' ⟨rfl, ⟨nd, rfl⟩⟩))
  go_ret
  exact ⟨by first | rfl | (simp; done) | (simp [*]; done), by repeat (first | exact Drawn0.refl _ | apply Drawn0.step)⟩

end Go.Proofs.Ytelmcnngocklfaa.Q
