/- Two texts, one behind the other with a line's end between them, have the tokens of both, the second ones further on, or the second one's bad place further on; for every two texts. -/
import Derived.Test.YtgbielhbjgipoaaTokAwake
import Derived.Test.YtgbielhbjgipoaaTokEq
import Derived.Test.YtgbielhbjgipoaaTokLaws
import Derived.Test.YtgbielhbjgipoaaQ43
namespace Go.Proofs.Ytgbielhbjgipoaa.Pure
set_option linter.unusedVariables false
set_option linter.unusedSimpArgs false
open Go.RowKit Go.Proofs.YtgbielhbjgipoaaW.PrintWords Go.Proofs.YtgbielhbjgipoaaW.PrintLast Go.Proofs.YtgbielhbjgipoaaW.PrintMore Go.Proofs.Ytgbielhbjgipoaa.Q
theorem same_ev (l : List S29) (hl : l.length ≤ 1000000000) : Ev (fun k => manystrandref01_Same.f k l l) true := by
  unfold manystrandref01_Same.f
  refine ev_pos rfl ?_
  have key : ∀ (n : Nat) (i : Int), 0 ≤ i → i + n = l.length → Ev (fun k => manystrandref01_Same.l0 k l l i) true := by
    intro n
    induction n with
    | zero =>
      intro i _ h
      refine Ev.step (fun k => by rw [manystrandref01_Same.l0]) ?_
      exact ev_neg (by omega) (ev_now rfl)
    | succ n ih =>
      intro i h0 h
      refine Ev.step (fun k => by rw [manystrandref01_Same.l0]) ?_
      refine ev_pos (by omega) (ev_pos h0 (ev_pos (by omega) (ev_neg (by simp) ?_)))
      have e : wrap64 (i + 1) = i + 1 := by unfold wrap64; omega
      rw [e]
      exact ih (i + 1) (by omega) (by omega)
  exact key l.length 0 (by omega) (by omega)
/-- A token further on. -/
def movT (d : Int) (x : S29) : S29 := ⟨x.f0, x.f1, x.f2 + d⟩
theorem move_ev {a : ByteArray} (ha : a.size ≤ 20000) (ta : List S29) (l : List S29) (e : Int) (r : Bool) (b : List S29) (hb : b.length ≤ 1000000) (hx : ∀ x ∈ b, 0 ≤ x.f2 ∧ x.f2 ≤ 100000)
    (fin : Ev (fun k => if e = 0 then (if ta.length + (b.map (movT (a.size + 1))).length < 3518437208883 then ((manystrandref01_Same.f k l (ta ++ b.map (movT (a.size + 1)))).bind fun t => (if t = true then ((manystrandlaw01_awake.f k).bind fun t => (some t)) else (some false))) else none) else some false) r) :
    ∀ (n : Nat) (i : Nat), i + n = b.length → Ev (fun k => manystrandlaw01_TokenJoins.l0 k a ta ((b.take i).map (movT (a.size + 1)) ++ b.drop i) l e (b.length : Int) (i : Int)) r := by
  intro n
  induction n with
  | zero =>
    intro i hi
    refine Ev.step (fun k => by rw [manystrandlaw01_TokenJoins.l0]) ?_
    refine ev_neg (by omega) ?_
    have hi' : i = b.length := by omega
    subst hi'
    simpa using fin
  | succ n ih =>
    intro i hi
    have hlt : i < b.length := by omega
    refine Ev.step (fun k => by rw [manystrandlaw01_TokenJoins.l0]) ?_
    have hlen : ((b.take i).map (movT (a.size + 1)) ++ b.drop i).length = b.length := by simp; omega
    have hd : b.drop i = b[i] :: b.drop (i + 1) := List.drop_eq_getElem_cons hlt
    have hl2 : ((b.take i).map (movT (a.size + 1))).length = i := by simp; omega
    have hrd : rd_T29 ((b.take i).map (movT (a.size + 1)) ++ b.drop i) (i : Int) = b[i] := by
      unfold rd_T29
      rw [hd, Int.toNat_natCast, List.getD_eq_getElem?_getD, List.getElem?_append_right (by omega), hl2]
      simp [List.getElem?_eq_getElem hlt]
    refine ev_pos (by omega) (ev_pos (by omega) (ev_pos (by rw [hlen]; omega) ?_))
    rw [hrd]
    have hm := hx b[i] (List.getElem_mem hlt)
    have e1 : wrap64 ((a.size : Int) + 1) = (a.size : Int) + 1 := by unfold wrap64; omega
    have e2 : wrap64 (b[i].f2 + ((a.size : Int) + 1)) = b[i].f2 + ((a.size : Int) + 1) := by unfold wrap64; omega
    have e3 : wrap64 ((i : Int) + 1) = ((i + 1 : Nat) : Int) := by unfold wrap64; omega
    rw [e1, e2, e3]
    have e4 : ((b.take i).map (movT (a.size + 1)) ++ b.drop i).set (i : Int).toNat (⟨b[i].f0, b[i].f1, b[i].f2 + ((a.size : Int) + 1)⟩ : S29) = (b.take (i + 1)).map (movT (a.size + 1)) ++ b.drop (i + 1) := by
      rw [Int.toNat_natCast, List.set_append, if_neg (by omega), hl2, hd]
      rw [List.take_succ_eq_append_getElem hlt, Nat.sub_self, List.set_cons_zero, List.map_append, List.append_assoc]
      rfl
    rw [e4]
    exact ih (i + 1) (by omega)
theorem TokenJoins : manystrandlaw01_TokenJoins.Pure := by
  intro a b ha hb
  refine Ev.rounds ?_
  unfold manystrandlaw01_TokenJoins.f
  have awk : Ev (fun k => (manystrandlaw01_awake.f k).bind fun t => some t) true := Ev.bind awake_ev (ev_now rfl)
  have es : wrap64 ((a.size : Int) + (b.size : Int)) = (a.size : Int) + (b.size : Int) := by unfold wrap64; omega
  rw [es]
  by_cases h : (a.size : Int) + (b.size : Int) ≥ 20000
  · exact ev_pos h awk
  · refine ev_neg h ?_
    have hab : a.size + b.size < 20000 := by omega
    have hc : ((a ++ (⟨#[10]⟩ : ByteArray)) ++ b).size = a.size + 1 + b.size := by
      rw [ByteArray.size_append, ByteArray.size_append]; rfl
    have hL : L ((a ++ (⟨#[10]⟩ : ByteArray)) ++ b) = L a ++ 10 :: L b := by
      rw [L_append, L_append]
      simp only [List.append_assoc]
      rfl
    have fit : Fits ((a ++ (⟨#[10]⟩ : ByteArray)) ++ b) := by unfold Fits; omega
    refine Ev.bind (tokens_bad_ev a (by unfold Fits; omega)) (Ev.bind (tokens_bad_ev b (by unfold Fits; omega)) ?_)
    refine ev_pos (by omega) (ev_pos (by rw [ByteArray.size_append]; show a.size + 1 + _ ≤ _; omega) ?_)
    refine Ev.bind (tokens_bad_ev _ fit) (Ev.bind (bad_ev' _ fit) ?_)
    rw [if_neg (by omega), if_neg (by omega), if_neg (by omega), if_neg (by omega), hL]
    cases hla : lexS (L a) with
    | mk oa ta =>
      cases oa with
      | some u => exact ev_neg (by simp) awk
      | none =>
        refine ev_pos rfl ?_
        rw [lex_join (L b) (L a).length (L a) ta (Nat.le_refl _) hla]
        have hall := lexS_len (L a).length (L a) (Nat.le_refl _)
        have hbll := lexS_len (L b).length (L b) (Nat.le_refl _)
        cases hlb : lexS (L b) with
        | mk ob tb =>
          rw [hla] at hall
          rw [hlb] at hbll
          simp only [L_length] at hall hbll
          cases ob with
          | some u =>
            have hu := lexS_bad_len (L b).length (L b) u (Nat.le_refl _) (by rw [hlb])
            rw [L_length] at hu
            refine ev_neg (by simp) (Ev.bind (bad_ev' b (by unfold Fits; omega)) ?_)
            rw [if_neg (by omega), hlb]
            refine ev_pos rfl (ev_pos rfl (ev_pos ?_ awk))
            simp only [at_]
            rw [hc]
            unfold wrap64
            omega
          | none =>
            refine ev_pos rfl ?_
            simp only [L_length]
            have hmap : ta.map (mkT a) ++ (tb.map (mkT b)).map (movT (a.size + 1)) = ((ta.map (shift (b.size + 1)) ++ tb)).map (mkT ((a ++ (⟨#[10]⟩ : ByteArray)) ++ b)) := by
              rw [List.map_append, List.map_map, List.map_map]
              congr 1
              · apply List.map_congr_left
                intro x _
                simp only [Function.comp, mkT, shift, hc, S29.mk.injEq, true_and]
                omega
              · apply List.map_congr_left
                intro x _
                simp only [Function.comp, mkT, movT, hc, S29.mk.injEq, true_and]
                omega
            have := move_ev (a := a) (by omega) (ta.map (mkT a)) ((ta.map (shift (b.size + 1)) ++ tb).map (mkT ((a ++ (⟨#[10]⟩ : ByteArray)) ++ b))) 0 true (tb.map (mkT b)) (by simp; omega) (by
              intro x hx
              obtain ⟨y, hy, rfl⟩ := List.mem_map.1 hx
              have := hbll.2 y hy
              simp only [mkT]
              omega) (by
              refine ev_pos rfl (ev_pos (by simp; omega) ?_)
              rw [hmap]
              exact Ev.bind (same_ev _ (by simp; omega)) (ev_pos rfl awk)) (tb.map (mkT b)).length 0 (by omega)
            simpa using this
end Go.Proofs.Ytgbielhbjgipoaa.Pure
