/- The tokens of every text of at most 40,000 bytes, with their places, or its bad place, are those of the reference, and the example holds; for every text. -/
import Derived.Test.YtgbielhbjgipoaaTokAwake
import Derived.Test.YtgbielhbjgipoaaTokEq
import Derived.Test.YtgbielhbjgipoaaTokSame
import Derived.Test.YtgbielhbjgipoaaTokRef3
import Derived.Test.YtgbielhbjgipoaaQ39
namespace Go.Proofs.Ytgbielhbjgipoaa.Pure
set_option linter.unusedVariables false
set_option linter.unusedSimpArgs false
open Go.RowKit Go.Proofs.YtgbielhbjgipoaaW.PrintWords Go.Proofs.YtgbielhbjgipoaaW.PrintLast Go.Proofs.YtgbielhbjgipoaaW.PrintMore Go.Proofs.Ytgbielhbjgipoaa.Q
theorem rtokens_ev (a : ByteArray) (ha : Fits a) : Ev (fun k => manystrandref01_Tokens.f k a) (if a.size > 20000 then ([], 4) else match lexS (L a) with | (none, ts) => (ts.map (mkT a), 0) | (some _, _) => ([], 10)) := by
  unfold manystrandref01_Tokens.f
  by_cases h : a.size > 20000
  · rw [if_pos h]
    exact ev_pos (by omega) (ev_now rfl)
  · rw [if_neg h]
    refine ev_neg (by omega) ?_
    obtain ⟨q, h1, h2⟩ := scan_ev ha (L a).length (L a) [] (Nat.le_refl _) (List.suffix_refl _) (by simp [L_length]; omega)
    rw [at_all] at h1
    refine Ev.bind (g := fun k => manystrandref01_scan.f k a) h1 ?_
    cases hl : lexS (L a) with
    | mk o ts =>
      rw [hl] at h2
      cases o with
      | none =>
        simp only [ScanR, List.nil_append] at h2
        subst h2
        exact ev_neg (by simp) (ev_now rfl)
      | some u =>
        have hu := lexS_bad_len (L a).length (L a) u (Nat.le_refl _) (by rw [hl])
        rw [L_length] at hu
        simp only [ScanR] at h2
        exact ev_pos (by rw [h2]; unfold at_; omega) (ev_now rfl)
theorem rbad_ev (a : ByteArray) (ha : Fits a) : Ev (fun k => manystrandref01_Bad.f k a) (if a.size > 20000 then (-1, 4) else match lexS (L a) with | (none, _) => (0, 0) | (some u, _) => (at_ a u, 10)) := by
  unfold manystrandref01_Bad.f
  by_cases h : a.size > 20000
  · rw [if_pos h]
    exact ev_pos (by omega) (ev_now rfl)
  · rw [if_neg h]
    refine ev_neg (by omega) ?_
    obtain ⟨q, h1, h2⟩ := scan_ev ha (L a).length (L a) [] (Nat.le_refl _) (List.suffix_refl _) (by simp [L_length]; omega)
    rw [at_all] at h1
    refine Ev.bind (g := fun k => manystrandref01_scan.f k a) h1 ?_
    cases hl : lexS (L a) with
    | mk o ts =>
      rw [hl] at h2
      cases o with
      | none =>
        simp only [ScanR, List.nil_append] at h2
        subst h2
        exact ev_neg (by simp) (ev_now rfl)
      | some u =>
        have hu := lexS_bad_len (L a).length (L a) u (Nat.le_refl _) (by rw [hl])
        rw [L_length] at hu
        simp only [ScanR] at h2
        exact ev_pos (by rw [h2]; unfold at_; omega) (ev_now (by rw [h2]))
theorem TokenReads : manystrandlaw01_TokenReads.Pure := by
  intro a ha
  refine Ev.rounds ?_
  unfold manystrandlaw01_TokenReads.f
  have awk : Ev (fun k => (manystrandlaw01_awake.f k).bind fun t => some t) true := Ev.bind awake_ev (ev_now rfl)
  by_cases h : (a.size : Int) > 40000
  · exact ev_pos h awk
  · have hf : Fits a := by unfold Fits; omega
    refine ev_neg h (Ev.bind (tokens_bad_ev a hf) (Ev.bind (rtokens_ev a hf) (Ev.bind (bad_ev' a hf) (Ev.bind (rbad_ev a hf) ?_))))
    refine ev_pos rfl ?_
    have hsame : ((if a.size > 20000 then ([], 4) else match lexS (L a) with | (none, ts) => (ts.map (mkT a), 0) | (some _, _) => ([], 10) : List S29 × Int)).1.length ≤ 1000000000 := by
      have hb := lexS_len (L a).length (L a) (Nat.le_refl _)
      rw [L_length] at hb
      split
      · simp
      · cases hl : lexS (L a) with
        | mk o ts =>
          rw [hl] at hb
          cases o with
          | none => simp only [List.length_map]; simp only at hb; omega
          | some u => simp
    exact Ev.bind (same_ev _ hsame) (ev_pos rfl (ev_pos rfl (ev_pos rfl awk)))
end Go.Proofs.Ytgbielhbjgipoaa.Pure
