-- Walks of Go functions; written by own_print.py of this repo (see NOTES.md).
import Derived.Test.YtgbielhbjgipoaaQ0
namespace Go.Proofs.Ytgbielhbjgipoaa.Q
open Go.RowKit Go.Proofs.YtgbielhbjgipoaaW.PrintWords Go.Proofs.YtgbielhbjgipoaaW.PrintLast Go.Proofs.YtgbielhbjgipoaaW.PrintMore
attribute [local go_sem] Go.Proofs.YtgbielhbjgipoaaW.OwnWords.isSome_setCell max2_int min2_int max_two min_two max_three min_three max_four min_four   -- for this text's walks alone
set_option linter.unusedVariables false
set_option linter.unusedSimpArgs false

/-! ### manystrandlaw01_gap: function 11 -/
def manystrandlaw01_gap.f (a0 : Int) : Option (ByteArray) := (some (([(⟨#[]⟩ : ByteArray), (⟨#[32]⟩ : ByteArray), (⟨#[10]⟩ : ByteArray), (⟨#[9, 13]⟩ : ByteArray), (⟨#[47, 42, 97, 47, 42, 39, 42, 47, 98, 42, 47]⟩ : ByteArray), (⟨#[37, 32, 39, 10]⟩ : ByteArray), (⟨#[47, 42, 42, 42, 47]⟩ : ByteArray), (⟨#[32, 47, 42, 32, 37, 32, 42, 47, 32]⟩ : ByteArray)] : List ByteArray) : List ByteArray)).bind fun y247 => (if 0 ≤ (Int.tmod a0 8) then (if (Int.tmod a0 8) < (y247.length : Int) then (some (rdOf ByteArray.empty y247 (Int.tmod a0 8))) else (none)) else (none))
set_option maxHeartbeats 8000000 in
set_option maxRecDepth 100000 in
theorem manystrandlaw01_gap.calls (a0 : Int) (r : ByteArray) (w : World) (h : manystrandlaw01_gap.f a0 = some r) :
    Calls Try.prog 11 #[.int .u8 a0] w fun e w' => e = .returned (.string r) ∧ Below w.heap.size w w' := by
  have HB := Aside0.mk (Below.refl w.heap.size w)
  have H : ((some (([(⟨#[]⟩ : ByteArray), (⟨#[32]⟩ : ByteArray), (⟨#[10]⟩ : ByteArray), (⟨#[9, 13]⟩ : ByteArray), (⟨#[47, 42, 97, 47, 42, 39, 42, 47, 98, 42, 47]⟩ : ByteArray), (⟨#[37, 32, 39, 10]⟩ : ByteArray), (⟨#[47, 42, 42, 42, 47]⟩ : ByteArray), (⟨#[32, 47, 42, 32, 37, 32, 42, 47, 32]⟩ : ByteArray)] : List ByteArray) : List ByteArray)).bind fun y247 => (if 0 ≤ (Int.tmod a0 8) then (if (Int.tmod a0 8) < (y247.length : Int) then (some (rdOf ByteArray.empty y247 (Int.tmod a0 8))) else (none)) else (none))) = some r := h
  clear h
  obtain ⟨y247, hy247⟩ : ∃ y_ : List ByteArray, y_ = (([(⟨#[]⟩ : ByteArray), (⟨#[32]⟩ : ByteArray), (⟨#[10]⟩ : ByteArray), (⟨#[9, 13]⟩ : ByteArray), (⟨#[47, 42, 97, 47, 42, 39, 42, 47, 98, 42, 47]⟩ : ByteArray), (⟨#[37, 32, 39, 10]⟩ : ByteArray), (⟨#[47, 42, 42, 42, 47]⟩ : ByteArray), (⟨#[32, 47, 42, 32, 37, 32, 42, 47, 32]⟩ : ByteArray)] : List ByteArray)) := ⟨_, rfl⟩
  replace H : (if 0 ≤ (Int.tmod a0 8) then (if (Int.tmod a0 8) < (y247.length : Int) then (some (rdOf ByteArray.empty y247 (Int.tmod a0 8))) else (none)) else (none)) = some r := by first | (rw [hy247]; with_reducible exact H) | (have H2_ := (Option.bind_some _ _).symm.trans H; rw [hy247]; with_reducible exact H2_) | (have H2_ := (Option.bind_some _ _).symm.trans H; with_reducible exact H2_) | with_reducible exact H | (rw [hy247]; exact H) | exact H
  have Ny247 := Aside0.mk hy247
  clear hy247
  obtain ⟨ji2, hji2⟩ : ∃ j_ : Int, (Int.tmod a0 8) = j_ := ⟨_, rfl⟩
  replace H : (if 0 ≤ (ji2) then (if (ji2) < (y247.length : Int) then (some (rdOf ByteArray.empty y247 (ji2))) else (none)) else (none)) = some r := by first | (rw [hji2] at H; exact H) | (simp only [hji2] at H ⊢; exact H)
  by_cases c3 : 0 ≤ (ji2)
  · rw [if_pos c3] at H
    have c3b0 : decide (0 ≤ (ji2)) = true := decide_eq_true c3
    clear c3
    by_cases c4 : (ji2) < (y247.length : Int)
    · rw [if_pos c4] at H
      have c4b0 : decide ((ji2) < (y247.length : Int)) = true := decide_eq_true c4
      clear c4
      obtain rfl := Option.some.inj H
      go_enter Try.func11, Try.ntmps11
      go_wp2_with (first | ((with_reducible refine gate_dst (N := 3) rfl ?_); refine Kd.R_lit Kd.string _ 9 ?hg (N := 3) ?hd (xs := ([(⟨#[]⟩ : ByteArray), (⟨#[32]⟩ : ByteArray), (⟨#[10]⟩ : ByteArray), (⟨#[9, 13]⟩ : ByteArray), (⟨#[47, 42, 97, 47, 42, 39, 42, 47, 98, 42, 47]⟩ : ByteArray), (⟨#[37, 32, 39, 10]⟩ : ByteArray), (⟨#[47, 42, 42, 42, 47]⟩ : ByteArray), (⟨#[32, 47, 42, 32, 37, 32, 42, 47, 32]⟩ : ByteArray)] : List ByteArray)) (inner := [.string (⟨#[]⟩ : ByteArray), .string (⟨#[32]⟩ : ByteArray), .string (⟨#[10]⟩ : ByteArray), .string (⟨#[9, 13]⟩ : ByteArray), .string (⟨#[47, 42, 97, 47, 42, 39, 42, 47, 98, 42, 47]⟩ : ByteArray), .string (⟨#[37, 32, 39, 10]⟩ : ByteArray), .string (⟨#[47, 42, 42, 42, 47]⟩ : ByteArray), .string (⟨#[32, 47, 42, 32, 37, 32, 42, 47, 32]⟩ : ByteArray)]) (ok := fun _ => True) (okp := fun _ => True) ?hr ?hp (fun _ hk => hk) trivial (Below.refl _ _) (Nat.le_refl _) (by simp) ?_; (case hd => rfl); (case hg => rfl); (case hr => first | (go_simp; done) | (go_simp; rfl)); (case hp => exact (Reps.one (show Kd.M Kd.string _ _ _ (⟨#[]⟩ : ByteArray) [.string (⟨#[]⟩ : ByteArray)] from rfl) (Reps.one (show Kd.M Kd.string _ _ _ (⟨#[32]⟩ : ByteArray) [.string (⟨#[32]⟩ : ByteArray)] from rfl) (Reps.one (show Kd.M Kd.string _ _ _ (⟨#[10]⟩ : ByteArray) [.string (⟨#[10]⟩ : ByteArray)] from rfl) (Reps.one (show Kd.M Kd.string _ _ _ (⟨#[9, 13]⟩ : ByteArray) [.string (⟨#[9, 13]⟩ : ByteArray)] from rfl) (Reps.one (show Kd.M Kd.string _ _ _ (⟨#[47, 42, 97, 47, 42, 39, 42, 47, 98, 42, 47]⟩ : ByteArray) [.string (⟨#[47, 42, 97, 47, 42, 39, 42, 47, 98, 42, 47]⟩ : ByteArray)] from rfl) (Reps.one (show Kd.M Kd.string _ _ _ (⟨#[37, 32, 39, 10]⟩ : ByteArray) [.string (⟨#[37, 32, 39, 10]⟩ : ByteArray)] from rfl) (Reps.one (show Kd.M Kd.string _ _ _ (⟨#[47, 42, 42, 42, 47]⟩ : ByteArray) [.string (⟨#[47, 42, 42, 42, 47]⟩ : ByteArray)] from rfl) (Reps.one (show Kd.M Kd.string _ _ _ (⟨#[32, 47, 42, 32, 37, 32, 42, 47, 32]⟩ : ByteArray) [.string (⟨#[32, 47, 42, 32, 37, 32, 42, 47, 32]⟩ : ByteArray)] from rfl) (Reps.none _ _)))))))))); intro v248 w5 ho6 hb hg_ hnew_; clear hg_ hnew_; (first | rw [← Ny247.out] at ho6 | (simp only [Int.reduceToNat] at ho6; rw [← Ny247.out] at ho6)); have n0_ := Aside0.mk (Kd.R_lower ho6 (below_size (by repeat (first | (with_reducible first | exact HB.out | apply below_alloc | apply pw_below_drewN | apply below_drew1) | exact HB.out)))); have n1_ := Aside0.mk (below_step (by repeat (first | (with_reducible first | exact HB.out | apply below_alloc | apply pw_below_drewN | apply below_drew1) | exact HB.out)) hb); clear HB; have HO249 := n0_; have HB := n1_; clear n0_ n1_; clear hb ho6; obtain ⟨Ao7, co7, eo7⟩ := Kd.R_slice HO249.out; subst eo7; have p250 : 0 ≤ ((ji2) : Int) := of_decide_eq_true (by first | (with_reducible assumption) | assumption); have q250 : (ji2) < (y247.length : Int) := of_decide_eq_true (by first | (with_reducible assumption) | assumption); obtain ⟨ad250, e250, hx250_0⟩ := Kd.at_string (Kd.R_reads' HO249.out).2.2 (ji2) p250 q250; cases e250; replace p250 := eq_true p250; replace q250 := eq_true q250))
      go_ret
      exact ⟨by first | rfl | (simp [errW_none, errW_some] <;> rfl) | (simp only [← hji2]; first | rfl | (simp [errW_none, errW_some] <;> rfl)) | (simp [*, errW_none, errW_some] <;> rfl) | (simp [errW_none, errW_some]; exact Go.Proofs.YtgbielhbjgipoaaW.OwnWords.isEmpty_bne _), by repeat (first | (with_reducible first | exact HB.out | apply below_alloc | apply pw_below_drewN | apply below_drew1) | exact HB.out)⟩
    · rw [if_neg c4] at H
      exact absurd H (by simp)
  · rw [if_neg c3] at H
    exact absurd H (by simp)

end Go.Proofs.Ytgbielhbjgipoaa.Q
