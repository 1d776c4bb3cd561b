/- The line and the column of every place of a text of at most 40,000 bytes are those of the reference, and the example holds; for every text and every place. -/
import Derived.Test.YtgbielhbjgipoaaTokAwake
import Derived.Test.YtgbielhbjgipoaaQ46
namespace Go.Proofs.Ytgbielhbjgipoaa.Pure
open Go.RowKit Go.Proofs.YtgbielhbjgipoaaW.PrintWords Go.Proofs.YtgbielhbjgipoaaW.PrintLast Go.Proofs.YtgbielhbjgipoaaW.PrintMore Go.Proofs.Ytgbielhbjgipoaa.Q
/-- The line and the column behind n bytes more, from a place on. -/
def whereS (a : ByteArray) : Nat → Int → Int → Int → Int × Int × Int
  | 0, l, c, _ => (l, c, 0)
  | n + 1, l, c, i => if bt a i = 10 then whereS a n (l + 1) 1 (i + 1) else whereS a n l (c + 1) (i + 1)
theorem where_loops {a : ByteArray} (ha : a.size ≤ 40000) {x : Int} (hx : x ≤ a.size) : ∀ (n : Nat) (l c i : Int), 0 ≤ i → i + n = x → 0 ≤ l → l ≤ i + 1 → 0 ≤ c → c ≤ i + 1 →
    Ev (fun k => token_Where.l0 k a l c x i) (whereS a n l c i) ∧ Ev (fun k => manystrandref01_Where.l0 k a x l c i) (whereS a n l c i)
  | 0, l, c, i, _, _, _, _, _, _ => by
    refine ⟨Ev.step (fun k => by rw [token_Where.l0]) ?_, Ev.step (fun k => by rw [manystrandref01_Where.l0]) ?_⟩
    · exact ev_neg (by omega) (ev_now rfl)
    · exact ev_neg (by omega) (ev_now rfl)
  | n + 1, l, c, i, h0, hn, hl0, hl, hc0, hc => by
    have e1 : wrap64 (l + 1) = l + 1 := by unfold wrap64; omega
    have e2 : wrap64 (c + 1) = c + 1 := by unfold wrap64; omega
    have e3 : wrap64 (i + 1) = i + 1 := by unfold wrap64; omega
    by_cases h : bt a i = 10
    · obtain ⟨h1, h2⟩ := where_loops ha hx n (l + 1) 1 (i + 1) (by omega) (by omega) (by omega) (by omega) (by omega) (by omega)
      refine ⟨Ev.step (fun k => by rw [token_Where.l0]) ?_, Ev.step (fun k => by rw [manystrandref01_Where.l0]) ?_⟩
      · rw [whereS, if_pos h, e1, e3]
        exact ev_pos (by omega) (ev_pos h0 (ev_pos (by omega) (ev_pos h h1)))
      · rw [whereS, if_pos h, e1, e3]
        exact ev_pos (by omega) (ev_pos h0 (ev_pos (by omega) (ev_pos h h2)))
    · obtain ⟨h1, h2⟩ := where_loops ha hx n l (c + 1) (i + 1) (by omega) (by omega) (by omega) (by omega) (by omega) (by omega)
      refine ⟨Ev.step (fun k => by rw [token_Where.l0]) ?_, Ev.step (fun k => by rw [manystrandref01_Where.l0]) ?_⟩
      · rw [whereS, if_neg h, e2, e3]
        exact ev_pos (by omega) (ev_pos h0 (ev_pos (by omega) (ev_neg h h1)))
      · rw [whereS, if_neg h, e2, e3]
        exact ev_pos (by omega) (ev_pos h0 (ev_pos (by omega) (ev_neg h h2)))
theorem where_both {a : ByteArray} (ha : a.size ≤ 40000) (x : Int) : ∃ r : Int × Int × Int, Ev (fun k => token_Where.f k a x) r ∧ Ev (fun k => manystrandref01_Where.f k a x) r := by
  unfold token_Where.f manystrandref01_Where.f
  have j1 : Ev (fun k => token_Where.j0 k a x true) (0, 0, 2) := by
    refine Ev.step (fun k => by rw [token_Where.j0]) ?_
    exact ev_pos rfl (ev_now rfl)
  have j2 : Ev (fun k => manystrandref01_Where.j0 k a x true) (0, 0, 2) := by
    refine Ev.step (fun k => by rw [manystrandref01_Where.j0]) ?_
    exact ev_pos rfl (ev_now rfl)
  by_cases h0 : x < 0
  · exact ⟨_, ev_pos h0 j1, ev_pos h0 j2⟩
  · by_cases h1 : x > (a.size : Int)
    · rw [decide_eq_true h1]
      exact ⟨_, ev_neg h0 j1, ev_neg h0 j2⟩
    · rw [decide_eq_false h1]
      obtain ⟨h2, h3⟩ := where_loops ha (x := x) (by omega) x.toNat 1 1 0 (by omega) (by omega) (by omega) (by omega) (by omega) (by omega)
      refine ⟨whereS a x.toNat 1 1 0, ev_neg h0 (Ev.step (fun k => by rw [token_Where.j0]) ?_), ev_neg h0 (Ev.step (fun k => by rw [manystrandref01_Where.j0]) ?_)⟩
      · exact ev_neg (by simp) h2
      · exact ev_neg (by simp) h3
theorem TokenWhere : manystrandlaw01_TokenWhere.Pure := by
  intro a x _ _
  refine Ev.rounds ?_
  unfold manystrandlaw01_TokenWhere.f
  by_cases h : (a.size : Int) > 40000
  · exact ev_pos h (Ev.bind awake_ev (ev_now rfl))
  · obtain ⟨r, h1, h2⟩ := where_both (a := a) (by omega) x
    exact ev_neg h (Ev.bind h1 (Ev.bind h2 (ev_pos rfl (ev_pos rfl (ev_pos rfl (Ev.bind awake_ev (ev_now rfl)))))))
end Go.Proofs.Ytgbielhbjgipoaa.Pure
