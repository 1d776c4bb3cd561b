import Derived.Test.YtgbielhbjgipoaaTokRead
import Derived.Test.YtgbielhbjgipoaaQ36
/-! What else the statements ask of tokens: the bad place. -/
namespace Go.Proofs.Ytgbielhbjgipoaa.Pure
set_option linter.unusedVariables false
set_option linter.unusedSimpArgs false
open Go.RowKit Go.Proofs.YtgbielhbjgipoaaW.PrintWords Go.Proofs.YtgbielhbjgipoaaW.PrintLast Go.Proofs.YtgbielhbjgipoaaW.PrintMore Go.Proofs.Ytgbielhbjgipoaa.Q
theorem bad_ev (a : ByteArray) (ha : Fits a) (hz : a.size ≤ 3000000000000) : Ev (fun k => token_Bad.f k a) (if a.size > 20000 then (-1, 4) else match lexS (L a) with | (none, _) => (0, 0) | (some u, _) => (at_ a u, 10)) := by
  unfold token_Bad.f
  by_cases h : a.size > 20000
  · rw [if_pos h]
    exact ev_pos (by omega) (ev_now rfl)
  · rw [if_neg h]
    refine ev_neg (by omega) ?_
    have := read_ev ha (L a).length (L a) [] (Nat.le_refl _) (List.suffix_refl _) (by simp [L_length]; omega)
    rw [at_all] at this
    refine Ev.bind (g := fun k => token_read.f k a) this ?_
    cases lexS (L a) with
    | mk o ts =>
      cases o with
      | none => exact ev_pos rfl (ev_now rfl)
      | some u => exact ev_neg (by simp [readR]) (ev_now rfl)
theorem tokens_bad_ev (a : ByteArray) (ha : Fits a) : Ev (fun k => token_Tokens.f k a) (if a.size > 20000 then ([], 4) else match lexS (L a) with | (none, ts) => (ts.map (mkT a), 0) | (some _, _) => ([], 10)) := by
  by_cases h : a.size ≤ 3000000000000
  · exact tokens_ev a ha h
  · rw [if_pos (by omega)]
    unfold token_Tokens.f
    exact ev_pos (by omega) (ev_now rfl)
theorem bad_ev' (a : ByteArray) (ha : Fits a) : Ev (fun k => token_Bad.f k a) (if a.size > 20000 then (-1, 4) else match lexS (L a) with | (none, _) => (0, 0) | (some u, _) => (at_ a u, 10)) := by
  by_cases h : a.size ≤ 3000000000000
  · exact bad_ev a ha h
  · rw [if_pos (by omega)]
    unfold token_Bad.f
    exact ev_pos (by omega) (ev_now rfl)
theorem step1_bad_len {t u : By} (h : step1 t = .bad u) : u.length ≤ t.length := by
  unfold step1 at h
  have hs := (skipS_suf t.length t (Nat.le_refl _)).length_le
  split at h
  · split at h
    · cases h
    · split at h
      · injection h with h; rw [← h]; exact hs
      · cases h
  · injection h with h; rw [← h]; exact hs
theorem lexS_bad_len (n : Nat) : ∀ (t u : By), t.length ≤ n → (lexS t).1 = some u → u.length ≤ t.length := by
  induction n with
  | zero =>
    intro t u ht h
    cases hs : step1 t with
    | bad v => rw [lexS_bad hs] at h; simp only [Option.some.injEq] at h; rw [← h]; exact step1_bad_len hs
    | done => rw [lexS_done hs] at h; cases h
    | tok k x v r => have := step1_suf hs; omega
  | succ n ih =>
    intro t u ht h
    cases hs : step1 t with
    | bad v => rw [lexS_bad hs] at h; simp only [Option.some.injEq] at h; rw [← h]; exact step1_bad_len hs
    | done => rw [lexS_done hs] at h; cases h
    | tok k x v r =>
      have := step1_suf hs
      rw [lexS_tok hs] at h
      have := ih r u (by omega) h
      omega
theorem lexS_len (n : Nat) : ∀ (t : By), t.length ≤ n → (lexS t).2.length ≤ t.length ∧ ∀ x ∈ (lexS t).2, x.2.2 ≤ t.length := by
  induction n with
  | zero =>
    intro t ht
    cases hs : step1 t with
    | bad v => rw [lexS_bad hs]; simp
    | done => rw [lexS_done hs]; simp
    | tok k x v r => have := step1_suf hs; omega
  | succ n ih =>
    intro t ht
    cases hs : step1 t with
    | bad v => rw [lexS_bad hs]; simp
    | done => rw [lexS_done hs]; simp
    | tok k x v r =>
      have h1 := step1_suf hs
      have h2 := ih r (by omega)
      have h3 := h1.1.length_le
      rw [lexS_tok hs]
      refine ⟨by simp; omega, fun y hy => ?_⟩
      rcases List.mem_cons.1 hy with rfl | hy
      · exact h3
      · have := h2.2 y hy; omega
end Go.Proofs.Ytgbielhbjgipoaa.Pure
