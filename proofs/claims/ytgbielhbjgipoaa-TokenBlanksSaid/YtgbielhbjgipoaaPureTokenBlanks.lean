/- Blanks and remarks put in front of tokens and at the ends change nothing of a text's tokens but their places; for every text and all gaps. -/
import Derived.Test.YtgbielhbjgipoaaTokAwake
import Derived.Test.YtgbielhbjgipoaaTokEq
import Derived.Test.YtgbielhbjgipoaaTokLaws
import Derived.Test.YtgbielhbjgipoaaQ42
namespace Go.Proofs.Ytgbielhbjgipoaa.Pure
set_option linter.unusedVariables false
set_option linter.unusedSimpArgs false
open Go.RowKit Go.Proofs.YtgbielhbjgipoaaW.PrintWords Go.Proofs.YtgbielhbjgipoaaW.PrintLast Go.Proofs.YtgbielhbjgipoaaW.PrintMore Go.Proofs.Ytgbielhbjgipoaa.Q
theorem ofL_append (l m : By) : ofL l ++ ofL m = ofL (l ++ m) := by
  apply L_inj
  rw [L_append, L_ofL, L_ofL, L_ofL]
/-- The gaps of the statement. -/
def gaps : List By := [[], [32], [10], [9, 13], [47, 42, 97, 47, 42, 39, 42, 47, 98, 42, 47], [37, 32, 39, 10], [47, 42, 42, 42, 47], [32, 47, 42, 32, 37, 32, 42, 47, 32]]
def gapS (v : Int) : By := gaps.getD (v.toNat % 8) []
theorem gaps_ok : ∀ b ∈ gaps, Gap b ∧ b.length ≤ 11 := by
  intro b hb
  have nil : Gap [] := ⟨fun w => rfl, .inl rfl⟩
  have bl : ∀ (c : UInt8) (b : By), blank c = true → Gap b → Gap (c :: b) := fun c b h hh =>
    ⟨fun w => by rw [List.cons_append, skipS_some (gap1_blank h _), hh.1], .inr ⟨c, b, rfl, .inl h⟩⟩
  simp only [gaps, List.mem_cons, List.not_mem_nil, or_false] at hb
  rcases hb with rfl | rfl | rfl | rfl | rfl | rfl | rfl | rfl
  · exact ⟨nil, by decide⟩
  · exact ⟨bl 32 _ (by decide) nil, by decide⟩
  · exact ⟨bl 10 _ (by decide) nil, by decide⟩
  · exact ⟨bl 9 _ (by decide) (bl 13 _ (by decide) nil), by decide⟩
  · refine ⟨⟨fun w => skipS_some ?_, .inr ⟨47, _, rfl, .inr (.inr (by decide))⟩⟩, by decide⟩
    rw [List.cons_append, List.cons_append, gap1_nest (by decide) (by decide) (by decide)]
    rfl
  · refine ⟨⟨fun w => skipS_some ?_, .inr ⟨37, _, rfl, .inr (.inl (by decide))⟩⟩, by decide⟩
    rw [List.cons_append, gap1_line (by decide) (by decide)]
    rfl
  · refine ⟨⟨fun w => skipS_some ?_, .inr ⟨47, _, rfl, .inr (.inr (by decide))⟩⟩, by decide⟩
    rw [List.cons_append, List.cons_append, gap1_nest (by decide) (by decide) (by decide)]
    rfl
  · refine ⟨bl 32 _ (by decide) ⟨fun w => ?_, .inr ⟨47, _, rfl, .inr (.inr (by decide))⟩⟩, by decide⟩
    rw [skipS_some (u := 32 :: w) ?_, skipS_some (gap1_blank (by decide) _)]
    rw [List.cons_append, List.cons_append, gap1_nest (by decide) (by decide) (by decide)]
    rfl
theorem gapS_ok (v : Int) : Gap (gapS v) ∧ (gapS v).length ≤ 11 := by
  apply gaps_ok
  have : v.toNat % 8 < gaps.length := by show _ < 8; omega
  unfold gapS
  rw [List.getD_eq_getElem?_getD, List.getElem?_eq_getElem this]
  exact List.getElem_mem this
theorem gap_eq (v : Int) (h : 0 ≤ v) : manystrandlaw01_gap.f v = some (ofL (gapS v)) := by
  unfold manystrandlaw01_gap.f
  rw [Option.bind_some]
  have e : Int.tmod v 8 = ((v.toNat % 8 : Nat) : Int) := by
    rw [Int.tmod_eq_emod_of_nonneg h]
    omega
  rw [e]
  have hlt : v.toNat % 8 < 8 := by omega
  rw [if_pos (by omega), if_pos (by show _ < (8 : Int); omega)]
  unfold gapS rdOf
  rw [Int.toNat_natCast]
  generalize v.toNat % 8 = m at hlt
  match m, hlt with
  | 0, _ => rfl
  | 1, _ => rfl
  | 2, _ => rfl
  | 3, _ => rfl
  | 4, _ => rfl
  | 5, _ => rfl
  | 6, _ => rfl
  | 7, _ => rfl
theorem alike_ev (l m : List S29) (hl : l.length ≤ 1000000000) (h : l.map (fun x => (x.f0, x.f1)) = m.map (fun x => (x.f0, x.f1))) : Ev (fun k => manystrandref01_Alike.f k l m) true := by
  have hlen : l.length = m.length := by have := congrArg List.length h; simpa using this
  unfold manystrandref01_Alike.f
  refine ev_pos (by omega) ?_
  have key : ∀ (n i : Nat), i + n = l.length → Ev (fun k => manystrandref01_Alike.l0 k l m (i : Int)) true := by
    intro n
    induction n with
    | zero =>
      intro i hi
      refine Ev.step (fun k => by rw [manystrandref01_Alike.l0]) ?_
      exact ev_neg (by omega) (ev_now rfl)
    | succ n ih =>
      intro i hi
      refine Ev.step (fun k => by rw [manystrandref01_Alike.l0]) ?_
      refine ev_pos (by omega) (ev_pos (by omega) (ev_pos (by omega) ?_))
      have e1 : rd_T29 l (i : Int) = l[i]'(by omega) := by
        unfold rd_T29
        rw [Int.toNat_natCast, List.getD_eq_getElem?_getD, List.getElem?_eq_getElem (by omega)]
        rfl
      have e2 : rd_T29 m (i : Int) = m[i]'(by omega) := by
        unfold rd_T29
        rw [Int.toNat_natCast, List.getD_eq_getElem?_getD, List.getElem?_eq_getElem (by omega)]
        rfl
      have e3 : ((l[i]'(by omega)).f0, (l[i]'(by omega)).f1) = ((m[i]'(by omega)).f0, (m[i]'(by omega)).f1) := by
        have := congrArg (fun z => z[i]?) h
        simp only [List.getElem?_map] at this
        rw [List.getElem?_eq_getElem (by omega), List.getElem?_eq_getElem (by omega)] at this
        simpa using this
      simp only [Prod.mk.injEq] at e3
      have e4 : wrap64 ((i : Int) + 1) = ((i + 1 : Nat) : Int) := by unfold wrap64; omega
      rw [e1, e2, e4]
      exact ev_pos (by rw [e3.1]) (ev_pos (by rw [e3.2]) (ih (i + 1) (by omega)))
  exact key l.length 0 (by omega)
/-- The gap that the statement puts in front of token i. -/
def gapAt (gs : List Int) (i : Nat) : By := gapS (rd gs (Int.tmod (i : Int) (gs.length : Int)))
theorem rd_nonneg {gs : List Int} (h : ∀ x ∈ gs, 0 ≤ x) (i : Int) : 0 ≤ rd gs i := by
  unfold rd
  rw [List.getD_eq_getElem?_getD]
  cases hx : gs[i.toNat]? with
  | none => simp
  | some x => exact h x (List.mem_of_getElem? hx)
/-- What the statement asks at the end. -/
def finE (a : ByteArray) (gs : List Int) (x5 : List S29) (all : List Tok) (k : Nat) : Option Bool :=
  (token_Tokens.f k (ofL (bld (gapAt gs) (gapS (rd gs 0)) 0 (L a) all))).bind fun bt186 => (if bt186.2 = 0 then ((manystrandref01_Alike.f k x5 bt186.1).bind fun t190 => (if t190 = true then ((manystrandlaw01_awake.f k).bind fun t191 => (some t191)) else (some false))) else (some false))
theorem blanks_end {a : ByteArray} (ha : a.size ≤ 10000) (gs : List Int) (hne : gs ≠ []) (hgs : ∀ x ∈ gs, 0 ≤ x) (x5 : List S29) (all : List Tok) (fin : Ev (finE a gs x5 all) true) (pre v : By) (hv : v <:+ L a) (hp : pre.length ≤ 60000)
    (hb : pre ++ (v ++ 10 :: gapS (rd gs 0)) = bld (gapAt gs) (gapS (rd gs 0)) 0 (L a) all) (n : Int) (hn : ¬ n < n) :
    Ev (fun k => manystrandlaw01_TokenBlanks.l0 k a gs x5 (ofL pre) (at_ a v) (all.map (mkT a)) n n) true := by
  have hvl := suf_len hv
  refine Ev.step (fun k => by rw [manystrandlaw01_TokenBlanks.l0]) ?_
  refine ev_neg hn (ev_pos (at_nonneg hv) (ev_pos (at_le a v) ?_))
  rw [ex_rest hv]
  have h10 : (⟨#[10]⟩ : ByteArray) = ofL [10] := rfl
  have hg := (gapS_ok (rd gs 0)).2
  have hgl0 : 0 < gs.length := List.length_pos_iff.2 hne
  have s1 : (ofL v).size + 1 ≤ 9223372036854775807 := by rw [size_ofL]; omega
  have s2 : (ofL v ++ (⟨#[10]⟩ : ByteArray)).size + (ofL (gapS (rd gs 0))).size ≤ 9223372036854775807 := by
    rw [h10, ofL_append, size_ofL, size_ofL, List.length_append, List.length_singleton]; omega
  have s3 : (ofL pre).size + ((ofL v ++ (⟨#[10]⟩ : ByteArray)) ++ ofL (gapS (rd gs 0))).size ≤ 9223372036854775807 := by
    rw [h10, ofL_append, ofL_append, size_ofL, size_ofL, List.length_append, List.length_append, List.length_singleton]; omega
  refine ev_pos s1 (ev_pos (by omega) (ev_bind0 (gap_eq _ (rd_nonneg hgs 0)) (ev_pos s2 (ev_pos s3 ?_))))
  have e : ofL pre ++ ((ofL v ++ (⟨#[10]⟩ : ByteArray)) ++ ofL (gapS (rd gs 0))) = ofL (bld (gapAt gs) (gapS (rd gs 0)) 0 (L a) all) := by
    rw [h10, ofL_append, ofL_append, ofL_append, ← hb]
    congr 1
    simp
  rw [e]
  exact fin
theorem blanks_step {a : ByteArray} (ha : a.size ≤ 10000) (gs : List Int) (hne : gs ≠ []) (hgs : ∀ x ∈ gs, 0 ≤ x) (x5 : List S29) (all : List Tok) (x : Tok) (i : Nat) (hlt : i < all.length) (hx : all[i] = x) (pre v : By) (hv : v <:+ L a) (d1 : 0 < x.2.2) (d2 : x.2.2 ≤ v.length)
    (hp : pre.length ≤ 60000) (hi : i ≤ 700)
    (nx : Ev (fun k => manystrandlaw01_TokenBlanks.l0 k a gs x5 (ofL (pre ++ (v.take (v.length - x.2.2) ++ gapAt gs i))) (at_ a (v.drop (v.length - x.2.2))) (all.map (mkT a)) ((all.map (mkT a)).length : Int) ((i + 1 : Nat) : Int)) true) :
    Ev (fun k => manystrandlaw01_TokenBlanks.l0 k a gs x5 (ofL pre) (at_ a v) (all.map (mkT a)) ((all.map (mkT a)).length : Int) (i : Int)) true := by
  have hvl := suf_len hv
  have hgl0 : 0 < gs.length := List.length_pos_iff.2 hne
  have hrd : rd_T29 (all.map (mkT a)) (i : Int) = mkT a x := by
    unfold rd_T29
    rw [Int.toNat_natCast, List.getD_eq_getElem?_getD, List.getElem?_map, List.getElem?_eq_getElem hlt, hx]
    rfl
  have hml : (all.map (mkT a)).length = all.length := List.length_map _
  refine Ev.step (fun k => by rw [manystrandlaw01_TokenBlanks.l0]) ?_
  refine ev_pos (by omega) (ev_pos (by omega) (ev_pos (by omega) ?_))
  rw [hrd]
  have hn1 := at_nonneg hv
  have hvd : (v.drop (v.length - x.2.2)).length = x.2.2 := by rw [List.length_drop]; omega
  have hf2 : (mkT a x).f2 = at_ a (v.drop (v.length - x.2.2)) := by simp only [mkT, at_, hvd]
  have hf3 : at_ a v ≤ (mkT a x).f2 := by simp only [mkT, at_]; omega
  have hf4 : (mkT a x).f2 < (a.size : Int) := by simp only [mkT]; omega
  refine ev_neg (by omega) (ev_neg (by omega) (ev_pos hn1 (ev_pos hf3 (ev_pos (by omega) (ev_neg (by omega) ?_)))))
  have ht0 : 0 ≤ Int.tmod (i : Int) (gs.length : Int) := Int.tmod_nonneg _ (by omega)
  have ht1 : Int.tmod (i : Int) (gs.length : Int) < (gs.length : Int) := Int.tmod_lt_of_pos _ (by omega)
  refine ev_pos ht0 (ev_pos ht1 (ev_bind0 (gap_eq _ (rd_nonneg hgs _)) ?_))
  have hsp : v.take (v.length - x.2.2) ++ v.drop (v.length - x.2.2) = v := List.take_append_drop _ _
  have he : a.extract (at_ a v).toNat ((mkT a x).f2).toNat = ofL (v.take (v.length - x.2.2)) := by
    rw [hf2]
    have := ex_between (a := a) (w := v.take (v.length - x.2.2)) (r := v.drop (v.length - x.2.2)) (by rw [hsp]; exact hv)
    rwa [hsp] at this
  have hgi := (gapS_ok (rd gs (Int.tmod (i : Int) (gs.length : Int)))).2
  have htl : (v.take (v.length - x.2.2)).length ≤ v.length := by rw [List.length_take]; omega
  have s1 : (ofL (v.take (v.length - x.2.2))).size + (ofL (gapS (rd gs (Int.tmod (i : Int) (gs.length : Int))))).size ≤ 9223372036854775807 := by rw [size_ofL, size_ofL]; omega
  have s2 : (ofL pre).size + (ofL (v.take (v.length - x.2.2)) ++ ofL (gapS (rd gs (Int.tmod (i : Int) (gs.length : Int))))).size ≤ 9223372036854775807 := by
    rw [ofL_append, size_ofL, size_ofL, List.length_append]; omega
  rw [he]
  refine ev_pos s1 (ev_pos s2 ?_)
  rw [ofL_append, ofL_append, hf2]
  have e3 : wrap64 ((i : Int) + 1) = ((i + 1 : Nat) : Int) := by unfold wrap64; omega
  rw [e3]
  exact nx
theorem blanks_ev {a : ByteArray} (ha : a.size ≤ 10000) (gs : List Int) (hne : gs ≠ []) (hgs : ∀ x ∈ gs, 0 ≤ x) (x5 : List S29) (all : List Tok) (hall : all.length ≤ 700) (fin : Ev (finE a gs x5 all) true) (ts : List Tok) :
    ∀ (i : Nat) (pre v : By), i + ts.length = all.length → all.drop i = ts → v <:+ L a → Desc v.length ts → pre.length ≤ 20000 - v.length + 11 * i →
      pre ++ bld (gapAt gs) (gapS (rd gs 0)) i v ts = bld (gapAt gs) (gapS (rd gs 0)) 0 (L a) all →
      Ev (fun k => manystrandlaw01_TokenBlanks.l0 k a gs x5 (ofL pre) (at_ a v) (all.map (mkT a)) ((all.map (mkT a)).length : Int) (i : Int)) true := by
  induction ts with
  | nil =>
    intro i pre v hi hd hv _ hp hb
    simp only [List.length_nil] at hi
    have e : ((all.map (mkT a)).length : Int) = (i : Int) := by rw [List.length_map]; omega
    rw [e]
    exact blanks_end ha gs hne hgs x5 all fin pre v hv (by omega) hb (i : Int) (by omega)
  | cons x ts ih =>
    intro i pre v hi hd hv hds hp hb
    simp only [List.length_cons] at hi
    have hvl := suf_len hv
    obtain ⟨d1, d2, d3⟩ := hds
    have hlt : i < all.length := by omega
    have hdr := List.drop_eq_getElem_cons hlt
    rw [hd] at hdr
    injection hdr with hx hd'
    have hvd : (v.drop (v.length - x.2.2)).length = x.2.2 := by rw [List.length_drop]; omega
    refine blanks_step ha gs hne hgs x5 all x i hlt hx.symm pre v hv d1 d2 (by omega) (by omega) ?_
    refine ih (i + 1) _ _ (by omega) hd'.symm (suf_drop _ hv) (by rw [hvd]; exact d3) ?_ ?_
    · have hgi : (gapAt gs i).length ≤ 11 := (gapS_ok _).2
      have htl : (v.take (v.length - x.2.2)).length = v.length - x.2.2 := by rw [List.length_take]; omega
      rw [List.length_append, List.length_append, hvd, htl]
      omega
    · rw [← hb, bld]
      simp
theorem TokenBlanks : manystrandlaw01_TokenBlanks.Pure := by
  intro a gs ha _ _ hw
  have hgs : ∀ x ∈ gs, 0 ≤ x := by
    intro x hx
    have := hw x hx
    simp [Lit.wf] at this
    exact Int.le_trans (by decide) this.1
  refine Ev.rounds ?_
  unfold manystrandlaw01_TokenBlanks.f
  have awk : Ev (fun k => (manystrandlaw01_awake.f k).bind fun t => some t) true := Ev.bind awake_ev (ev_now rfl)
  have j0 : ∀ l, Ev (fun k => manystrandlaw01_TokenBlanks.j0 k a gs l true) true := by
    intro l
    refine Ev.step (fun k => by rw [manystrandlaw01_TokenBlanks.j0]) ?_
    exact ev_pos rfl awk
  refine Ev.bind (tokens_bad_ev a (by unfold Fits; omega)) ?_
  by_cases h : (a.size : Int) > 10000
  · exact ev_pos h (j0 _)
  · refine ev_neg h ?_
    rw [if_neg (by omega)]
    cases hla : lexS (L a) with
    | mk o ts =>
      cases o with
      | some u => exact ev_neg (by simp) (j0 _)
      | none =>
        refine ev_pos rfl ?_
        by_cases hg : gs = []
        · exact ev_pos (by rw [hg]; rfl) (j0 _)
        · refine ev_neg (by simpa using hg) ?_
          by_cases hl : ts.length > 700
          · have : decide (((ts.map (mkT a)).length : Int) > 700) = true := decide_eq_true (by rw [List.length_map]; omega)
            simp only [this]
            exact j0 _
          · have : decide (((ts.map (mkT a)).length : Int) > 700) = false := decide_eq_false (by rw [List.length_map]; omega)
            simp only [this]
            refine Ev.step (fun k => by rw [manystrandlaw01_TokenBlanks.j0]) ?_
            refine ev_neg (by simp) ?_
            have hgl : ∀ i, (gapAt gs i).length ≤ 11 := fun i => (gapS_ok _).2
            have hlen := bld_length (gapAt gs) (gapS (rd gs 0)) hgl (gapS_ok _).2 ts 0 (L a)
            rw [L_length] at hlen
            obtain ⟨t', e1, _, e3, e4⟩ := lex_blanks (gapAt gs) (gapS (rd gs 0)) (fun i => (gapS_ok _).1) (gapS_ok _).1 (L a).length (L a) ts (Nat.le_refl _) hla [] 0
            simp only [List.nil_append] at e1
            have fin : Ev (finE a gs (ts.map (mkT a)) ts) true := by
              unfold finE
              rw [e1] at hlen ⊢
              refine Ev.bind (tokens_bad_ev _ (by unfold Fits; rw [size_ofL]; omega)) ?_
              rw [if_neg (by rw [size_ofL]; omega), L_ofL]
              cases hlt : lexS t' with
              | mk o' ts' =>
                rw [hlt] at e3 e4
                simp only at e3 e4
                subst e3
                refine ev_pos rfl (Ev.bind (alike_ev _ _ (by rw [List.length_map]; omega) ?_) (ev_pos rfl awk))
                have hk := congrArg (List.map (fun p : By × By => (ofL p.1, ofL p.2))) e4
                rw [List.map_map, List.map_map] at hk ⊢
                exact hk.symm
            have hdesc := lex_desc (L a).length (L a) (Nat.le_refl _)
            rw [hla] at hdesc
            have := blanks_ev (a := a) (by omega) gs hg hgs (ts.map (mkT a)) ts (by omega) fin ts 0 [] (L a) (by omega) rfl (List.suffix_refl _) hdesc (by simp) rfl
            rw [at_all] at this
            exact this
end Go.Proofs.Ytgbielhbjgipoaa.Pure
