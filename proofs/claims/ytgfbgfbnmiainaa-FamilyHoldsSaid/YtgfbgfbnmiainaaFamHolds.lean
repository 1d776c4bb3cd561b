import Derived.Test.YtgfbgfbnmiainaaFamHoldsLaw
import Derived.Test.YtgfbgfbnmiainaaFamAwake2
/-! FamilyHolds, the walk. -/
namespace Go.Proofs.Ytgfbgfbnmiainaa.Fam
set_option linter.unusedVariables false
set_option linter.unusedSimpArgs false
open Go.RowKit Go.Proofs.YtgfbgfbnmiainaaW.PrintWords Go.Proofs.YtgfbgfbnmiainaaW.PrintLast Go.Proofs.YtgfbgfbnmiainaaW.PrintMore Go.Proofs.Ytgfbgfbnmiainaa.Q
attribute [local go_sem] Go.Proofs.YtgfbgfbnmiainaaW.OwnWords.isSome_setCell max2_int min2_int
theorem lst_out {L : List (List Int)} {i : Nat} (h : ¬ i < L.length) : lst L i = [] := by
  unfold lst
  rw [List.getD_eq_getElem?_getD, List.getElem?_eq_none (by omega)]
  rfl
/-- Both functions answer the same, wherever the lists lie. -/
theorem both (kind : ByteArray) (vars : List Int) (n : Int) (L : List (List Int)) (hv : vars.length ≤ 10) (hL : L.length ≤ 50) (hs : ∀ i : Nat, i < L.length → (lst L i).length ≤ 200) : ∃ r : Bool,
    (∀ (A : Option Addr) (c : Nat) (La : Option Addr) (lc : Nat) (w : World), Sl w A c vars → kII.C w La L.length L → L.length ≤ lc → Calls Try.prog 34 #[.agg #[.string kind, .slice A vars.length c, .int .i64 n], .slice La L.length lc] w (HoldsEnd w r)) ∧
    (∀ (A : Option Addr) (c : Nat) (La : Option Addr) (lc : Nat) (w : World), Sl w A c vars → kII.C w La L.length L → L.length ≤ lc → Calls Try.prog 35 #[.agg #[.string kind, .slice A vars.length c, .int .i64 n], .slice La L.length lc] w (HoldsEnd w r)) := by
  have hl : ∀ i : Nat, (lst L i).length ≤ 200 := by
    intro i
    by_cases h : i < L.length
    · exact hs i h
    · rw [lst_out h]; simp
  have hF := validF kind vars n L.length (by omega)
  have hR := validR kind vars n L.length (by omega)
  cases hb : validB kind vars L.length with
  | false =>
    rw [hb] at hF hR
    exact ⟨false, fun A c La lc w h1 _ _ => holdsF_not _ kind A c vars n La lc L w h1 hF, fun A c La lc w h1 _ _ => holdsR_not _ kind A c vars n La lc L w h1 hR⟩
  | true =>
    rw [hb] at hF hR
    obtain ⟨q, rfl, hq, hin⟩ := valid_kn hb
    obtain ⟨k1, hk1⟩ : ∃ k1, vars.length + 5 = k1 := ⟨_, rfl⟩
    have hmF : ∀ m, family_ValidRel.f (vars.length + 5 + m) q.text vars n L.length = some true := by
      intro m
      induction m with
      | zero => exact hF
      | succ m ih => exact family_ValidRel.mono _ _ _ _ _ _ ih
    have hmR : ∀ m, manystrandref07_ValidRel.f (vars.length + 5 + m) q.text vars n L.length = some true := by
      intro m
      induction m with
      | zero => exact hR
      | succ m ih => exact manystrandref07_ValidRel.mono _ _ _ _ _ _ ih
    have h300F : family_ValidRel.f 300 q.text vars n L.length = some true := by
      have := hmF (295 - vars.length)
      rwa [show vars.length + 5 + (295 - vars.length) = 300 by omega] at this
    have h300R : manystrandref07_ValidRel.f 300 q.text vars n L.length = some true := by
      have := hmR (295 - vars.length)
      rwa [show vars.length + 5 + (295 - vars.length) = 300 by omega] at this
    by_cases ha : ∀ i : Nat, i < L.length → ascB (lst L i) = true
    · have has : ∀ i : Nat, ascB (lst L i) = true := by
        intro i
        by_cases h : i < L.length
        · exact ha i h
        · rw [lst_out h]; rfl
      refine ⟨q.resR (lst L (rd vars 0).toNat) (lst L (rd vars 1).toNat) (lst L (rd vars 2).toNat) n, fun A c La lc w h1 h2 h3 => ?_, fun A c La lc w h1 h2 _ => ?_⟩
      · refine holdsF_calls 300 q A c vars n La lc L (fun i => ascB (lst L i)) w h1 h2 h3 h300F (fun i _ => family_ascending_f _ (by have := hl i; omega) (by have := hl i; omega)) hq hin (by omega) (fun i => by have := hl i; omega) _ (fun i hi hf => by rw [ha i hi] at hf; cases hf) (fun _ => ?_)
        rw [← holds_same q _ _ _ n (has _) (has _) (has _)]
        cases q <;> simp only [Kn.arity] at hq <;> simp only [Kn.resF, ent, hq, Int.ofNat_zero, Int.ofNat_one] <;> rfl
      · exact holdsR_calls 300 q A c vars n La lc L (fun i => ascB (lst L i)) w h1 h2 h300R (fun i _ => manystrandref07_ascending_f _ (by have := hl i; omega) (by have := hl i; omega)) hq hin (by omega) (fun i => by have := hl i; omega) _ (fun i hi hf => by rw [ha i hi] at hf; cases hf) (fun _ => rfl)
    · refine ⟨false, fun A c La lc w h1 h2 h3 => ?_, fun A c La lc w h1 h2 _ => ?_⟩
      · exact holdsF_calls 300 q A c vars n La lc L (fun i => ascB (lst L i)) w h1 h2 h3 h300F (fun i _ => family_ascending_f _ (by have := hl i; omega) (by have := hl i; omega)) hq hin (by omega) (fun i => by have := hl i; omega) false (fun _ _ _ => rfl) (fun h => absurd h ha)
      · exact holdsR_calls 300 q A c vars n La lc L (fun i => ascB (lst L i)) w h1 h2 h300R (fun i _ => manystrandref07_ascending_f _ (by have := hl i; omega) (by have := hl i; omega)) hq hin (by omega) (fun i => by have := hl i; omega) false (fun _ _ _ => rfl) (fun h => absurd h ha)
end Go.Proofs.Ytgfbgfbnmiainaa.Fam
