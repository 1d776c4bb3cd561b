import Derived.Test.YtgfbgfbnmiainaaBFamilyKeepsp1
import Derived.Test.YtgfbgfbnmiainaaBFamilyKeepsp0
import Derived.Test.YtgfbgfbnmiainaaQ66
import Derived.ChangeSlices
import Derived.ChangeArms
import Derived.DataReads
import Derived.DataElems
/-! FamilyKeeps, the walk of the law. (Written by fam_keeps.py.) -/
namespace Go.Proofs.Ytgfbgfbnmiainaa.Fam
set_option linter.unusedVariables false
set_option linter.unusedSimpArgs false
open Go.RowKit Go.Proofs.YtgfbgfbnmiainaaW.PrintWords Go.Proofs.YtgfbgfbnmiainaaW.PrintLast Go.Proofs.YtgfbgfbnmiainaaW.PrintMore Go.Proofs.Ytgfbgfbnmiainaa.Q
attribute [local go_sem] Go.Proofs.YtgfbgfbnmiainaaW.OwnWords.isSome_setCell max2_int min2_int
def LawEnd (w : World) (e : Ending) (w' : World) : Prop := e = .returned (.bool true) ∧ Below w.heap.size w w'
theorem awake_end (w : World) : Calls Try.prog 10 #[] w (LawEnd w) := awake_walk w
section
variable (A0 : Option Addr) (c0 : Nat) (rels : List S33) (A1 : Option Addr) (c1 : Nat) (l : List S37) (La : Option Addr) (lc : Nat) (L : List (List Int)) (w : World) (hr0 : Kd.C k33 w A0 rels.length rels) (hc0 : rels.length ≤ c0) (hr1 : Kd.C k37 w A1 l.length l) (hc1 : l.length ≤ c1) (hL : kII.C w La L.length L) (hlc : L.length ≤ lc)
include hr0 hc0 hr1 hc1 hL hlc
set_option maxHeartbeats 2000000 in
set_option maxRecDepth 100000 in
theorem keeps_heavy1 (k1 : Nat) (hf : manystrandlaw07_light.f k1 l = some false) :
    Calls Try.prog 7 #[.slice A0 rels.length c0, .slice A1 l.length c1, .slice La L.length lc] w (LawEnd w) := by
  have HR0 := Aside0.mk (And.intro hr0 hc0)
  have HR1 := Aside0.mk (And.intro hr1 hc1)
  have HL := Aside0.mk (And.intro hL hlc)
  clear hr0 hc0 hr1 hc1 hL hlc
  have HF1 := Aside0.mk hf
  clear hf
  go_enter Try.func7, Try.ntmps7
  go_wp2_with (first | (go_at_call 8; (refine (manystrandlaw07_light.calls k1 A1 c1 l false _ HR1.out.1 HR1.out.2 HF1.out).mono ?_); rintro e w1 ⟨rfl, hb⟩; have HB1 := Aside0.mk hb; clear hb) | (go_at_call 10; (refine (awake_end _).mono ?_); rintro e w9 ⟨rfl, hb⟩; have HE := Aside0.mk (below_then HB1.out HB1.out.size hb); clear hb))
  go_ret
  exact ⟨rfl, HE.out⟩
set_option maxHeartbeats 2000000 in
set_option maxRecDepth 100000 in
theorem keeps_heavy2 (k1 k2 : Nat) (hf1 : manystrandlaw07_light.f k1 l = some true) (hf2 : manystrandlaw07_lean.f k2 rels = some false) :
    Calls Try.prog 7 #[.slice A0 rels.length c0, .slice A1 l.length c1, .slice La L.length lc] w (LawEnd w) := by
  have HR0 := Aside0.mk (And.intro hr0 hc0)
  have HR1 := Aside0.mk (And.intro hr1 hc1)
  have HL := Aside0.mk (And.intro hL hlc)
  clear hr0 hc0 hr1 hc1 hL hlc
  have HF1 := Aside0.mk hf1
  have HF2 := Aside0.mk hf2
  clear hf1 hf2
  go_enter Try.func7, Try.ntmps7
  go_wp2_with (first | (go_at_call 8; (refine (manystrandlaw07_light.calls k1 A1 c1 l true _ HR1.out.1 HR1.out.2 HF1.out).mono ?_); rintro e w1 ⟨rfl, hb⟩; have HB1 := Aside0.mk hb; clear hb) | (go_at_call 9; (refine (manystrandlaw07_lean.calls k2 A0 c0 rels false _ (Kd.C_below HR0.out.1 HB1.out) HR0.out.2 HF2.out).mono ?_); rintro e w2 ⟨rfl, hb⟩; have HB2 := Aside0.mk (below_then HB1.out HB1.out.size hb); clear hb) | (go_at_call 10; (refine (awake_end _).mono ?_); rintro e w9 ⟨rfl, hb⟩; have HE := Aside0.mk (below_then HB2.out HB2.out.size hb); clear hb))
  go_ret
  exact ⟨rfl, HE.out⟩
set_option maxHeartbeats 2000000 in
set_option maxRecDepth 100000 in
theorem keeps_heavy3 (k1 k2 : Nat) (hf1 : manystrandlaw07_light.f k1 l = some true) (hf2 : manystrandlaw07_lean.f k2 rels = some true) (hne : ¬ L.length = l.length) :
    Calls Try.prog 7 #[.slice A0 rels.length c0, .slice A1 l.length c1, .slice La L.length lc] w (LawEnd w) := by
  have HR0 := Aside0.mk (And.intro hr0 hc0)
  have HR1 := Aside0.mk (And.intro hr1 hc1)
  have HL := Aside0.mk (And.intro hL hlc)
  clear hr0 hc0 hr1 hc1 hL hlc
  have HF1 := Aside0.mk hf1
  have HF2 := Aside0.mk hf2
  have q1 : ((L.length : Int) == (l.length : Int)) = false := beq_eq_false_iff_ne.mpr (by omega)
  have q2 : ((L.length : Int) != (l.length : Int)) = true := bne_iff_ne.mpr (by omega)
  clear hf1 hf2
  go_enter Try.func7, Try.ntmps7
  go_wp2_with (first | (go_at_call 8; (refine (manystrandlaw07_light.calls k1 A1 c1 l true _ HR1.out.1 HR1.out.2 HF1.out).mono ?_); rintro e w1 ⟨rfl, hb⟩; have HB1 := Aside0.mk hb; clear hb) | (go_at_call 9; (refine (manystrandlaw07_lean.calls k2 A0 c0 rels true _ (Kd.C_below HR0.out.1 HB1.out) HR0.out.2 HF2.out).mono ?_); rintro e w2 ⟨rfl, hb⟩; have HB2 := Aside0.mk (below_then HB1.out HB1.out.size hb); clear hb) | (go_at_call 10; (refine (awake_end _).mono ?_); rintro e w9 ⟨rfl, hb⟩; have HE := Aside0.mk (below_then HB2.out HB2.out.size hb); clear hb))
  go_ret
  exact ⟨rfl, HE.out⟩
set_option maxHeartbeats 2000000 in
set_option maxRecDepth 100000 in
theorem keeps_arg (k1 k2 : Nat) (hf1 : manystrandlaw07_light.f k1 l = some true) (hf2 : manystrandlaw07_lean.f k2 rels = some true) (hne : L.length = l.length) (h50 : l.length ≤ 50) (hl100 : ∀ i : Nat, i < l.length → (rd_T37 l i).f0.length ≤ 100 ∧ (rd_T37 l i).f1.length ≤ 100) (hr110 : rels.length ≤ 110) (hr10 : ∀ i : Nat, i < rels.length → (rd_T33 rels i).f1.length ≤ 10) (out : List S37) (hout : FixOut rels l out 2) (hfc : FixCalls rels l out 2) :
    Calls Try.prog 7 #[.slice A0 rels.length c0, .slice A1 l.length c1, .slice La L.length lc] w (LawEnd w) := by
  have HR0 := Aside0.mk (And.intro hr0 hc0)
  have HR1 := Aside0.mk (And.intro hr1 hc1)
  have HL := Aside0.mk (And.intro hL hlc)
  clear hr0 hc0 hr1 hc1 hL hlc
  have HF1 := Aside0.mk hf1
  have HF2 := Aside0.mk hf2
  have q1 : ((L.length : Int) == (l.length : Int)) = true := beq_iff_eq.mpr (by omega)
  have q2 : ((L.length : Int) != (l.length : Int)) = false := by rw [bne, q1]; rfl
  have HFC := Aside0.mk hfc
  have HOut := Aside0.mk hout
  have HN := Aside0.mk (And.intro hne (And.intro h50 (And.intro hl100 (And.intro hr110 hr10))))
  clear hf1 hf2 hfc hout hne h50 hl100 hr110 hr10
  go_enter Try.func7, Try.ntmps7
  go_wp2_with (first | (go_at_call 8; (refine (manystrandlaw07_light.calls k1 A1 c1 l true _ HR1.out.1 HR1.out.2 HF1.out).mono ?_); rintro e w1 ⟨rfl, hb⟩; have HB1 := Aside0.mk hb; clear hb) | (go_at_call 9; (refine (manystrandlaw07_lean.calls k2 A0 c0 rels true _ (Kd.C_below HR0.out.1 HB1.out) HR0.out.2 HF2.out).mono ?_); rintro e w2 ⟨rfl, hb⟩; have HB2 := Aside0.mk (below_then HB1.out HB1.out.size hb); clear hb) | (go_at_call 11; (refine (HFC.out A0 c0 A1 c1 _ (Kd.C_below HR0.out.1 HB2.out) HR0.out.2 (Kd.C_below HR1.out.1 HB2.out) HR1.out.2).mono ?_); rintro e w3 ⟨va, rfl, hra, hb⟩; obtain ⟨Aa, ca, rfl, hla, hCa⟩ := Kd.R_reads hra; have HCa := Aside0.mk (And.intro hCa hla); have HB3 := Aside0.mk (below_then HB2.out HB2.out.size hb); clear hb hra hCa hla) | (go_at_call 10; (refine (awake_end _).mono ?_); rintro e w9 ⟨rfl, hb⟩; have HE := Aside0.mk (below_then HB3.out HB3.out.size hb); clear hb))
  go_ret
  exact ⟨rfl, HE.out⟩
set_option maxHeartbeats 8000000 in
set_option maxRecDepth 100000 in
theorem keeps_fail (k1 k2 : Nat) (hf1 : manystrandlaw07_light.f k1 l = some true) (hf2 : manystrandlaw07_lean.f k2 rels = some true) (hne : L.length = l.length) (h50 : l.length ≤ 50) (hl100 : ∀ i : Nat, i < l.length → (rd_T37 l i).f0.length ≤ 100 ∧ (rd_T37 l i).f1.length ≤ 100) (hr110 : rels.length ≤ 110) (hr10 : ∀ i : Nat, i < rels.length → (rd_T33 rels i).f1.length ≤ 10) (out : List S37) (hout : FixOut rels l out 60) (hfc : FixCalls rels l out 60) :
    Calls Try.prog 7 #[.slice A0 rels.length c0, .slice A1 l.length c1, .slice La L.length lc] w (LawEnd w) := by
  have HR0 := Aside0.mk (And.intro hr0 hc0)
  have HR1 := Aside0.mk (And.intro hr1 hc1)
  have HL := Aside0.mk (And.intro hL hlc)
  clear hr0 hc0 hr1 hc1 hL hlc
  have HF1 := Aside0.mk hf1
  have HF2 := Aside0.mk hf2
  have q1 : ((L.length : Int) == (l.length : Int)) = true := beq_iff_eq.mpr (by omega)
  have q2 : ((L.length : Int) != (l.length : Int)) = false := by rw [bne, q1]; rfl
  have HFC := Aside0.mk hfc
  have HOut := Aside0.mk hout
  have HN := Aside0.mk (And.intro hne (And.intro h50 (And.intro hl100 (And.intro hr110 hr10))))
  clear hf1 hf2 hfc hout hne h50 hl100 hr110 hr10
  go_enter Try.func7, Try.ntmps7
  have HO1 := Aside0.mk (fix_len HOut.out)
  go_upto_region 11 with (first | (go_at_call 8; (refine (manystrandlaw07_light.calls k1 A1 c1 l true _ HR1.out.1 HR1.out.2 HF1.out).mono ?_); rintro e w1 ⟨rfl, hb⟩; have HB1 := Aside0.mk hb; clear hb) | (go_at_call 9; (refine (manystrandlaw07_lean.calls k2 A0 c0 rels true _ (Kd.C_below HR0.out.1 HB1.out) HR0.out.2 HF2.out).mono ?_); rintro e w2 ⟨rfl, hb⟩; have HB2 := Aside0.mk (below_then HB1.out HB1.out.size hb); clear hb) | (go_at_call 11; (refine (HFC.out A0 c0 A1 c1 _ (Kd.C_below HR0.out.1 HB2.out) HR0.out.2 (Kd.C_below HR1.out.1 HB2.out) HR1.out.2).mono ?_); rintro e w3 ⟨va, rfl, hra, hb⟩; obtain ⟨Aa, ca, rfl, hla, hCa⟩ := Kd.R_reads hra; have HCa := Aside0.mk (And.intro hCa hla); have HB3 := Aside0.mk (below_then HB2.out HB2.out.size hb); clear hb hra hCa hla))
  have HL0 := Aside0.mk (show Below w3.heap.size w3 w3 ∧ Kd.R kRaw 37 w3 w3.heap.size (fun _ => True) (.slice none 0 0) [] ∧ Lies w L [] from ⟨Below.refl _ _, Kd.R_nil _ _ _ _ _, lies_nil _ _⟩)
  obtain ⟨hs, hhs⟩ : ∃ hs : Nat → Bool, hs = fun j : Nat => hasB (rd_T37 l (j : Int)) (lst L j) := ⟨_, rfl⟩
  replace hhs := Aside0.mk hhs
  go_loopg [9, 11, 58] L.length (fun kq v9 v11 v58 w' => ∃ (i : Nat) (x : Int) (v : Value) (rs : List Raw), v58 = .int .i64 x ∧ Aside0 (x = (i : Int)) ∧ v9 = .bool (okr hs true i) ∧ v = v11 ∧ i + kq = L.length ∧ Aside0 (rs.length = i ∧ ∀ j : Nat, j < i → (lst L j).length ≤ 100) ∧ Aside0 (Below w3.heap.size w3 w' ∧ Kd.R kRaw 37 w' w3.heap.size (fun _ => True) v rs ∧ Lies w L rs))
  case atStart => exact ⟨0, 0, .slice none 0 0, [], rfl, ⟨rfl⟩, rfl, rfl, by omega, ⟨rfl, fun j hj => absurd hj (by omega)⟩, HL0⟩
  case round =>
    clear HL0
    obtain ⟨i, x, v, rs, rfl, HX, rfl, rfl, hi, HT, HI⟩ := hrel
    by_cases hlt : i < L.length
    · have d0 : decide (0 ≤ x) = true := decide_eq_true (by have := HX.out; omega)
      have d1 : decide (x < (L.length : Int)) = true := decide_eq_true (by have := HX.out; omega)
      have d2 : decide (x < (l.length : Int)) = true := decide_eq_true (by have := HX.out; have := HN.out.1; omega)
      have p0 := eq_true (show 0 ≤ x by have := HX.out; omega)
      have p1 := eq_true (show x < (L.length : Int) by have := HX.out; omega)
      have p2 := eq_true (show x < (l.length : Int) by have := HX.out; have := HN.out.1; omega)
      obtain ⟨ad, B, b, rfl, hx0, hS⟩ := at_II HL.out.1 x (by have := HX.out; omega) (by have := HX.out; omega)
      obtain ⟨ad1, B0, b0, B1, b1, rfl, x0, x1, x2, x3, m0, M0, m1, M1⟩ := at_T37 HR1.out.1 x (by have := HX.out; omega) (by have := HX.out; have := HN.out.1; omega)
      have hB := below_then HB3.out HB3.out.size HI.out.1
      replace hx0 := (hB.cell (World.block_lt_of_cell? w _ hx0)).trans hx0
      replace x0 := (hB.cell (World.block_lt_of_cell? w _ x0)).trans x0
      replace x1 := (hB.cell (World.block_lt_of_cell? w _ x1)).trans x1
      replace x2 := (hB.cell (World.block_lt_of_cell? w _ x2)).trans x2
      replace x3 := (hB.cell (World.block_lt_of_cell? w _ x3)).trans x3
      have HS := Aside0.mk (And.intro (sl_below hS hB) (And.intro (Kd.C_below M0 hB) (Kd.C_below M1 hB)))
      have HM := Aside0.mk (And.intro m0 m1)
      have HBW := Aside0.mk hB
      have HXI : Aside0 (x.toNat = i) := ⟨by have := HX.out; omega⟩
      clear M0 M1 m0 m1 hB
      by_cases h2 : ((lst L x.toNat).length : Int) > 100
      · have e1 : decide ((100 : Int) < ((lst L x.toNat).length : Int)) = true := decide_eq_true h2
        have e2 := eq_true (show (100 : Int) < ((lst L x.toNat).length : Int) from h2)
        go_wp2_with (go_at_call 10; (refine (awake_end _).mono ?_); rintro e w9 ⟨rfl, hb⟩; have HE := Aside0.mk (below_then HBW.out HBW.out.size hb); clear hb)
        go_ret
        exact ⟨rfl, HE.out⟩
      · have e1 : decide ((100 : Int) < ((lst L x.toNat).length : Int)) = false := decide_eq_false h2
        have e2 := eq_false (show ¬ (100 : Int) < ((lst L x.toNat).length : Int) from h2)
        have HH := Aside0.mk (show family_Has.f 2000 (rd_T37 l x).f0 (rd_T37 l x).f1 (rd_T37 l x).f2 (rd_T37 l x).f3 (lst L x.toNat) = some (hs i) from by
          have h1 := has_f' (f := rd_T37 l x) (s := lst L x.toNat) (by have := (HN.out.2.2.1 i (by have := HN.out.1; omega)).1; rw [HX.out]; omega) (by have := (HN.out.2.2.1 i (by have := HN.out.1; omega)).2; rw [HX.out]; omega) (by omega)
          rw [h1, hhs.out]
          have e := HXI.out
          rw [e]
          have e := HX.out
          rw [e])
        have HN2 : Aside0 ((lst L i).length ≤ 100) := ⟨by rw [← HXI.out]; omega⟩
        have HSW := Aside0.mk hS
        clear h2 hS
        have LM : Aside0 (rs.length + 1 ≤ 1000) := ⟨by have := HT.out.1; have := HN.out.1; have := HN.out.2.1; omega⟩
        cases hq : okr hs true i with
        | false =>
          go_wp2_with (first | (at_builtin; go_loud (refine Kd.R_append kRaw (w0 := w3) w3.heap.size rfl (.tmp 76) (.tmp 80) 23 37 (.agg #[.slice none 0 0, .slice none 0 0, .int .i64 0, .int .i64 0]) 64 rfl Try.underlying23 info37' rfl (by decide) (by omega) v rs ⟨B, (lst L x.toNat).length, b⟩ [.slice B (lst L x.toNat).length b, .slice B (lst L x.toNat).length b, .int .i64 0, .int .i64 64] (fun _ => True) (fun _ => False) rfl rfl rfl (fun _ hk => hk.elim) ?aF ?aO ?aB ?aS ?aL ?_); (case aF => exact fun _ _ => trivial); (case aO => exact HI.out.2.1); (case aB => exact HI.out.1); (case aS => exact HI.out.1.size); (case aL => have := LM.out; omega); intro v1 w5 ho hb hg hat; have HW := Aside0.mk (And.intro hb ho); clear hb hg hat ho))
          go_roundg (L.length - (i + 1))
          case measure => omega
          case rel => exact ⟨i + 1, _, v1, rs ++ [⟨B, (lst L x.toNat).length, b⟩], (by first | rfl | (simp; done)), ⟨by rw [HX.out]; unfold wrap64; have := HN.out.1; have := HN.out.2.1; omega⟩, by rw [okr_succ, hq]; rfl, rfl, by omega, ⟨by rw [List.length_append, HT.out.1]; rfl, fun j hj => by
              rcases Nat.lt_or_ge j i with h_ | h_
              · exact HT.out.2 j h_
              · obtain rfl : j = i := by omega
                exact HN2.out⟩, ⟨HW.out.1, HW.out.2, by
              have h_ := HSW.out
              have e_ : x.toNat = rs.length := by rw [HXI.out, HT.out.1]
              rw [e_] at h_ ⊢
              exact lies_next HI.out.2.2 (by rw [HT.out.1]; exact hlt) h_⟩⟩
        | true =>
          go_upto_region 16 with (first | (go_at_call 26; (refine (family_Has.calls 2000 B0 b0 (rd_T37 l x).f0 B1 b1 (rd_T37 l x).f1 (rd_T37 l x).f2 (rd_T37 l x).f3 B b (lst L x.toNat) (hs i) _ HS.out.2.1 HM.out.1 HS.out.2.2 HM.out.2 HS.out.1.1 HS.out.1.2 HH.out).mono ?_); rintro e w4 ⟨rfl, hb⟩; have HB4 := Aside0.mk hb; clear hb))
          have HI4 := Aside0.mk (And.intro (below_then HI.out.1 HI.out.1.size HB4.out) (And.intro (Kd.R_below HI.out.2.1 HB4.out) HI.out.2.2))
          go_wp2_with (first | (at_builtin; go_loud (refine Kd.R_append kRaw (w0 := w3) w3.heap.size rfl (.tmp 76) (.tmp 80) 23 37 (.agg #[.slice none 0 0, .slice none 0 0, .int .i64 0, .int .i64 0]) 64 rfl Try.underlying23 info37' rfl (by decide) (by omega) v rs ⟨B, (lst L x.toNat).length, b⟩ [.slice B (lst L x.toNat).length b, .slice B (lst L x.toNat).length b, .int .i64 0, .int .i64 64] (fun _ => True) (fun _ => False) rfl rfl rfl (fun _ hk => hk.elim) ?aF ?aO ?aB ?aS ?aL ?_); (case aF => exact fun _ _ => trivial); (case aO => exact HI4.out.2.1); (case aB => exact HI4.out.1); (case aS => exact HI4.out.1.size); (case aL => have := LM.out; omega); intro v1 w5 ho hb hg hat; have HW := Aside0.mk (And.intro hb ho); clear hb hg hat ho))
          go_roundg (L.length - (i + 1))
          case measure => omega
          case rel => exact ⟨i + 1, _, v1, rs ++ [⟨B, (lst L x.toNat).length, b⟩], (by first | rfl | (simp; done)), ⟨by rw [HX.out]; unfold wrap64; have := HN.out.1; have := HN.out.2.1; omega⟩, by rw [okr_succ, hq]; rfl, rfl, by omega, ⟨by rw [List.length_append, HT.out.1]; rfl, fun j hj => by
              rcases Nat.lt_or_ge j i with h_ | h_
              · exact HT.out.2 j h_
              · obtain rfl : j = i := by omega
                exact HN2.out⟩, ⟨HW.out.1, HW.out.2, by
              have h_ := HSW.out
              have e_ : x.toNat = rs.length := by rw [HXI.out, HT.out.1]
              rw [e_] at h_ ⊢
              exact lies_next HI.out.2.2 (by rw [HT.out.1]; exact hlt) h_⟩⟩
    · obtain rfl : i = L.length := by omega
      have d1 : decide (x < (L.length : Int)) = false := decide_eq_false (by have := HX.out; omega)
      have p1 := eq_false (show ¬ x < (L.length : Int) by have := HX.out; omega)
      have hs100 := HT.out.2
      have hfacts := keep_facts HOut.out (by decide) HN.out.1 HN.out.2.1 HN.out.2.2.2.1 HN.out.2.2.2.2 hs100
      rw [← hhs.out] at hfacts
      obtain ⟨hol, out2, code2, hH, hF2, hA, hB2⟩ := hfacts
      have HHol := Aside0.mk hH
      have HFC2 := Aside0.mk hF2
      have HA1 := Aside0.mk hA
      obtain ⟨Af, cf, hv, hlf, hCf⟩ := Kd.R_reads HI.out.2.1
      have hrl : rs.length = (fixL L).length := by rw [HT.out.1, fixL_len]
      rw [hrl] at hv
      subst hv
      have HRL := Aside0.mk hrl
      clear hH hF2 hA hlf hCf hrl hs100 hlt hi HX
      obtain ⟨vin, hvin⟩ : ∃ b, okr hs true L.length = b := ⟨_, rfl⟩
      rw [hvin]
      rw [hvin] at HA1
      clear hhs hvin
      go_upto_region 19 with fail
      clear d1 p1
      go_loopg [10, 85] rels.length (fun kq v10 v85 w' => ∃ (i : Nat) (x : Int), v85 = .int .i64 x ∧ Aside0 (x = (i : Int)) ∧ v10 = .bool (okr hol true i) ∧ i + kq = rels.length ∧ Aside0 (Below w3.heap.size w3 w' ∧ Kd.R kRaw 37 w' w3.heap.size (fun _ => True) (.slice Af (fixL L).length cf) rs ∧ Lies w L rs))
      case atStart => exact ⟨0, 0, rfl, ⟨rfl⟩, rfl, by omega, HI⟩
      case round =>
        clear HI
        obtain ⟨i, x, rfl, HX, rfl, hi, HI⟩ := hrel
        by_cases hlt : i < rels.length
        · have d0 : decide (0 ≤ x) = true := decide_eq_true (by have := HX.out; omega)
          have d1 : decide (x < (rels.length : Int)) = true := decide_eq_true (by have := HX.out; omega)
          have p0 := eq_true (show 0 ≤ x by have := HX.out; omega)
          have p1 := eq_true (show x < (rels.length : Int) by have := HX.out; omega)
          obtain ⟨ad, B1, b1, rfl, x0, x1, x2, m1, M1⟩ := at_T33 HR0.out.1 x (by have := HX.out; omega) (by have := HX.out; omega)
          have hB := below_then HB3.out HB3.out.size HI.out.1
          replace x0 := (hB.cell (World.block_lt_of_cell? w _ x0)).trans x0
          replace x1 := (hB.cell (World.block_lt_of_cell? w _ x1)).trans x1
          replace x2 := (hB.cell (World.block_lt_of_cell? w _ x2)).trans x2
          have HM := Aside0.mk (And.intro (Kd.C_below M1 hB) m1)
          have HBW := Aside0.mk hB
          have hH := HHol.out i hlt
          rw [← HX.out] at hH
          have HH := Aside0.mk hH
          clear hH M1 m1 hB
          cases hq : okr hol true i with
          | false =>
            go_wp2_with fail
            go_roundg (rels.length - (i + 1))
            case measure => omega
            case rel => exact ⟨i + 1, _, rfl, ⟨by rw [HX.out]; unfold wrap64; have := HN.out.2.2.2.1; omega⟩, by rw [okr_succ, hq]; rfl, by omega, ⟨below_alloc HI.out.1 _, Kd.R_alloc HI.out.2.1 _, HI.out.2.2⟩⟩
          | true =>
            go_wp2_with (first | (go_at_call 34; (refine (HH.out B1 b1 La lc _ ⟨Kd.C_alloc HM.out.1 _, HM.out.2⟩ (Kd.C_below HL.out.1 (below_alloc HBW.out _)) HL.out.2).mono ?_); rintro e w6 ⟨rfl, hb⟩; have HB6 := Aside0.mk (And.intro (below_then (below_alloc HI.out.1 _) (below_alloc HI.out.1 _).size hb) (And.intro (Kd.R_below (Kd.R_alloc HI.out.2.1 _) hb) HI.out.2.2)); clear hb))
            go_roundg (rels.length - (i + 1))
            case measure => omega
            case rel => exact ⟨i + 1, _, rfl, ⟨by rw [HX.out]; unfold wrap64; have := HN.out.2.2.2.1; omega⟩, by rw [okr_succ, hq]; rfl, by omega, HB6⟩
        · obtain rfl : i = rels.length := by omega
          have d1 : decide (x < (rels.length : Int)) = false := decide_eq_false (by have := HX.out; omega)
          have p1 := eq_false (show ¬ x < (rels.length : Int) by have := HX.out; omega)
          clear HX hlt hi HHol
          generalize okr hol true rels.length = al at HA1 hB2 ⊢
          rcases hB2 with rfl | ⟨rfl, rfl⟩ | ⟨rfl, rfl, hB8⟩
          · cases vin <;> cases al
            ·
              have HBW := Aside0.mk (below_then HB3.out HB3.out.size HI.out.1)
              have HCf : Aside0 (Kd.C kRaw wr Af (fixL L).length rs ∧ (fixL L).length ≤ cf) := (by have h := Kd.R_reads' HI.out.2.1; exact ⟨⟨by rw [h.1]; exact h.2.2, h.2.1⟩⟩)
              go_wp2_with (first | (go_at_call 11; (refine (HFC2.out A0 c0 Af cf _ (Kd.C_below HR0.out.1 HBW.out) HR0.out.2 (lies_all (lies_below HI.out.2.2 HBW.out) (by rw [HRL.out, fixL_len]) HCf.out.1) HCf.out.2).mono ?_); rintro e w7 ⟨vb, rfl, hrb, hb⟩; obtain ⟨Ab, cb, rfl, hlb, hCb⟩ := Kd.R_reads hrb; have HCb := Aside0.mk (And.intro hCb hlb); have HB7 := Aside0.mk (below_then HBW.out HBW.out.size hb); clear hb hrb hCb hlb) | (go_at_call 10; (refine (awake_end _).mono ?_); rintro e w9 ⟨rfl, hb⟩; have HE := Aside0.mk (below_then HB7.out HB7.out.size hb); clear hb))
              go_ret
              exact ⟨rfl, HE.out⟩
            ·
              have HBW := Aside0.mk (below_then HB3.out HB3.out.size HI.out.1)
              have HCf : Aside0 (Kd.C kRaw wr Af (fixL L).length rs ∧ (fixL L).length ≤ cf) := (by have h := Kd.R_reads' HI.out.2.1; exact ⟨⟨by rw [h.1]; exact h.2.2, h.2.1⟩⟩)
              go_wp2_with (first | (go_at_call 11; (refine (HFC2.out A0 c0 Af cf _ (Kd.C_below HR0.out.1 HBW.out) HR0.out.2 (lies_all (lies_below HI.out.2.2 HBW.out) (by rw [HRL.out, fixL_len]) HCf.out.1) HCf.out.2).mono ?_); rintro e w7 ⟨vb, rfl, hrb, hb⟩; obtain ⟨Ab, cb, rfl, hlb, hCb⟩ := Kd.R_reads hrb; have HCb := Aside0.mk (And.intro hCb hlb); have HB7 := Aside0.mk (below_then HBW.out HBW.out.size hb); clear hb hrb hCb hlb) | (go_at_call 10; (refine (awake_end _).mono ?_); rintro e w9 ⟨rfl, hb⟩; have HE := Aside0.mk (below_then HB7.out HB7.out.size hb); clear hb))
              go_ret
              exact ⟨rfl, HE.out⟩
            ·
              have HBW := Aside0.mk (below_then HB3.out HB3.out.size HI.out.1)
              have HCf : Aside0 (Kd.C kRaw wr Af (fixL L).length rs ∧ (fixL L).length ≤ cf) := (by have h := Kd.R_reads' HI.out.2.1; exact ⟨⟨by rw [h.1]; exact h.2.2, h.2.1⟩⟩)
              go_wp2_with (first | (go_at_call 11; (refine (HFC2.out A0 c0 Af cf _ (Kd.C_below HR0.out.1 HBW.out) HR0.out.2 (lies_all (lies_below HI.out.2.2 HBW.out) (by rw [HRL.out, fixL_len]) HCf.out.1) HCf.out.2).mono ?_); rintro e w7 ⟨vb, rfl, hrb, hb⟩; obtain ⟨Ab, cb, rfl, hlb, hCb⟩ := Kd.R_reads hrb; have HCb := Aside0.mk (And.intro hCb hlb); have HB7 := Aside0.mk (below_then HBW.out HBW.out.size hb); clear hb hrb hCb hlb) | (go_at_call 10; (refine (awake_end _).mono ?_); rintro e w9 ⟨rfl, hb⟩; have HE := Aside0.mk (below_then HB7.out HB7.out.size hb); clear hb))
              go_ret
              exact ⟨rfl, HE.out⟩
            ·
              exact absurd (HA1.out rfl rfl).1 (by decide)
          · cases vin
            ·
              have HBW := Aside0.mk (below_then HB3.out HB3.out.size HI.out.1)
              have HCf : Aside0 (Kd.C kRaw wr Af (fixL L).length rs ∧ (fixL L).length ≤ cf) := (by have h := Kd.R_reads' HI.out.2.1; exact ⟨⟨by rw [h.1]; exact h.2.2, h.2.1⟩⟩)
              go_upto_region 38 with (first | (go_at_call 11; (refine (HFC2.out A0 c0 Af cf _ (Kd.C_below HR0.out.1 HBW.out) HR0.out.2 (lies_all (lies_below HI.out.2.2 HBW.out) (by rw [HRL.out, fixL_len]) HCf.out.1) HCf.out.2).mono ?_); rintro e w7 ⟨vb, rfl, hrb, hb⟩; obtain ⟨Ab, cb, rfl, hlb, hCb⟩ := Kd.R_reads hrb; have HCb := Aside0.mk (And.intro hCb hlb); have HB7 := Aside0.mk (below_then HBW.out HBW.out.size hb); clear hb hrb hCb hlb))
              clear d1 p1
              have HZ := Aside0.mk (Below.refl w7.heap.size w7)
              go_loopg [143] L.length (fun kq v143 w' => ∃ (i : Nat) (x : Int), v143 = .int .i64 x ∧ Aside0 (x = (i : Int)) ∧ i + kq = L.length ∧ Aside0 (Below w7.heap.size w7 w'))
              case atStart => exact ⟨0, 0, rfl, ⟨rfl⟩, by omega, HZ⟩
              case round =>
                clear HZ
                obtain ⟨i, x, rfl, HX, hi, HZ⟩ := hrel
                by_cases hlt : i < L.length
                · have d0 : decide (0 ≤ x) = true := decide_eq_true (by have := HX.out; omega)
                  have d1 : decide (x < (L.length : Int)) = true := decide_eq_true (by have := HX.out; omega)
                  have p0 := eq_true (show 0 ≤ x by have := HX.out; omega)
                  have p1 := eq_true (show x < (L.length : Int) by have := HX.out; omega)
                  obtain ⟨ad, B, b, rfl, hx0, hS⟩ := at_II HL.out.1 x (by have := HX.out; omega) (by have := HX.out; omega)
                  have hB := below_then HB7.out HB7.out.size HZ.out
                  replace hx0 := (hB.cell (World.block_lt_of_cell? w _ hx0)).trans hx0
                  clear hS hB
                  go_wp2_with fail
                  go_roundg (L.length - (i + 1))
                  case measure => omega
                  case rel => exact ⟨i + 1, _, rfl, ⟨by rw [HX.out]; unfold wrap64; have := HN.out.1; have := HN.out.2.1; omega⟩, by omega, HZ⟩
                · obtain rfl : i = L.length := by omega
                  have d1 : decide (x < (L.length : Int)) = false := decide_eq_false (by have := HX.out; omega)
                  have p1 := eq_false (show ¬ x < (L.length : Int) by have := HX.out; omega)
                  have HBZ := Aside0.mk (below_then HB7.out HB7.out.size HZ.out)
                  go_wp2_with (first | (go_at_call 10; (refine (awake_end _).mono ?_); rintro e w9 ⟨rfl, hb⟩; have HE := Aside0.mk (below_then HBZ.out HBZ.out.size hb); clear hb))
                  go_ret
                  exact ⟨rfl, HE.out⟩
            ·
              have HBW := Aside0.mk (below_then HB3.out HB3.out.size HI.out.1)
              have HCf : Aside0 (Kd.C kRaw wr Af (fixL L).length rs ∧ (fixL L).length ≤ cf) := (by have h := Kd.R_reads' HI.out.2.1; exact ⟨⟨by rw [h.1]; exact h.2.2, h.2.1⟩⟩)
              go_upto_region 38 with (first | (go_at_call 11; (refine (HFC2.out A0 c0 Af cf _ (Kd.C_below HR0.out.1 HBW.out) HR0.out.2 (lies_all (lies_below HI.out.2.2 HBW.out) (by rw [HRL.out, fixL_len]) HCf.out.1) HCf.out.2).mono ?_); rintro e w7 ⟨vb, rfl, hrb, hb⟩; obtain ⟨Ab, cb, rfl, hlb, hCb⟩ := Kd.R_reads hrb; have HCb := Aside0.mk (And.intro hCb hlb); have HB7 := Aside0.mk (below_then HBW.out HBW.out.size hb); clear hb hrb hCb hlb))
              clear d1 p1
              have HZ := Aside0.mk (Below.refl w7.heap.size w7)
              go_loopg [143] L.length (fun kq v143 w' => ∃ (i : Nat) (x : Int), v143 = .int .i64 x ∧ Aside0 (x = (i : Int)) ∧ i + kq = L.length ∧ Aside0 (Below w7.heap.size w7 w'))
              case atStart => exact ⟨0, 0, rfl, ⟨rfl⟩, by omega, HZ⟩
              case round =>
                clear HZ
                obtain ⟨i, x, rfl, HX, hi, HZ⟩ := hrel
                by_cases hlt : i < L.length
                · have d0 : decide (0 ≤ x) = true := decide_eq_true (by have := HX.out; omega)
                  have d1 : decide (x < (L.length : Int)) = true := decide_eq_true (by have := HX.out; omega)
                  have p0 := eq_true (show 0 ≤ x by have := HX.out; omega)
                  have p1 := eq_true (show x < (L.length : Int) by have := HX.out; omega)
                  obtain ⟨ad, B, b, rfl, hx0, hS⟩ := at_II HL.out.1 x (by have := HX.out; omega) (by have := HX.out; omega)
                  have hB := below_then HB7.out HB7.out.size HZ.out
                  replace hx0 := (hB.cell (World.block_lt_of_cell? w _ hx0)).trans hx0
                  clear hS hB
                  go_wp2_with fail
                  go_roundg (L.length - (i + 1))
                  case measure => omega
                  case rel => exact ⟨i + 1, _, rfl, ⟨by rw [HX.out]; unfold wrap64; have := HN.out.1; have := HN.out.2.1; omega⟩, by omega, HZ⟩
                · obtain rfl : i = L.length := by omega
                  have d1 : decide (x < (L.length : Int)) = false := decide_eq_false (by have := HX.out; omega)
                  have p1 := eq_false (show ¬ x < (L.length : Int) by have := HX.out; omega)
                  have HBZ := Aside0.mk (below_then HB7.out HB7.out.size HZ.out)
                  go_wp2_with (first | (go_at_call 10; (refine (awake_end _).mono ?_); rintro e w9 ⟨rfl, hb⟩; have HE := Aside0.mk (below_then HBZ.out HBZ.out.size hb); clear hb))
                  go_ret
                  exact ⟨rfl, HE.out⟩
          · have HB8 := Aside0.mk hB8
            clear hB8
            cases vin
            ·
              have HBW := Aside0.mk (below_then HB3.out HB3.out.size HI.out.1)
              have HCf : Aside0 (Kd.C kRaw wr Af (fixL L).length rs ∧ (fixL L).length ≤ cf) := (by have h := Kd.R_reads' HI.out.2.1; exact ⟨⟨by rw [h.1]; exact h.2.2, h.2.1⟩⟩)
              have o1 : ((out2.length : Int) == (L.length : Int)) = true := beq_iff_eq.mpr (by have := HB8.out.1; omega)
              have o2 : ((out2.length : Int) != (L.length : Int)) = false := by rw [bne, o1]; rfl
              go_upto_region 38 with (first | (go_at_call 11; (refine (HFC2.out A0 c0 Af cf _ (Kd.C_below HR0.out.1 HBW.out) HR0.out.2 (lies_all (lies_below HI.out.2.2 HBW.out) (by rw [HRL.out, fixL_len]) HCf.out.1) HCf.out.2).mono ?_); rintro e w7 ⟨vb, rfl, hrb, hb⟩; obtain ⟨Ab, cb, rfl, hlb, hCb⟩ := Kd.R_reads hrb; have HCb := Aside0.mk (And.intro hCb hlb); have HB7 := Aside0.mk (below_then HBW.out HBW.out.size hb); clear hb hrb hCb hlb))
              clear d1 p1
              have HZ := Aside0.mk (Below.refl w7.heap.size w7)
              go_loopg [143] L.length (fun kq v143 w' => ∃ (i : Nat) (x : Int), v143 = .int .i64 x ∧ Aside0 (x = (i : Int)) ∧ i + kq = L.length ∧ Aside0 (Below w7.heap.size w7 w'))
              case atStart => exact ⟨0, 0, rfl, ⟨rfl⟩, by omega, HZ⟩
              case round =>
                clear HZ
                obtain ⟨i, x, rfl, HX, hi, HZ⟩ := hrel
                by_cases hlt : i < L.length
                · have d0 : decide (0 ≤ x) = true := decide_eq_true (by have := HX.out; omega)
                  have d1 : decide (x < (L.length : Int)) = true := decide_eq_true (by have := HX.out; omega)
                  have p0 := eq_true (show 0 ≤ x by have := HX.out; omega)
                  have p1 := eq_true (show x < (L.length : Int) by have := HX.out; omega)
                  obtain ⟨ad, B, b, rfl, hx0, hS⟩ := at_II HL.out.1 x (by have := HX.out; omega) (by have := HX.out; omega)
                  have hB := below_then HB7.out HB7.out.size HZ.out
                  replace hx0 := (hB.cell (World.block_lt_of_cell? w _ hx0)).trans hx0
                  have d2 : decide (x < (out2.length : Int)) = true := decide_eq_true (by have := HX.out; have := HB8.out.1; omega)
                  have p2 := eq_true (show x < (out2.length : Int) by have := HX.out; have := HB8.out.1; omega)
                  obtain ⟨ad1, B0, b0, B1, b1, rfl, x0, x1, x2, x3, m0, M0, m1, M1⟩ := at_T37 HCb.out.1 x (by have := HX.out; omega) (by have := HX.out; have := HB8.out.1; omega)
                  replace x0 := (HZ.out.cell (World.block_lt_of_cell? w7 _ x0)).trans x0
                  replace x1 := (HZ.out.cell (World.block_lt_of_cell? w7 _ x1)).trans x1
                  replace x2 := (HZ.out.cell (World.block_lt_of_cell? w7 _ x2)).trans x2
                  replace x3 := (HZ.out.cell (World.block_lt_of_cell? w7 _ x3)).trans x3
                  have HS := Aside0.mk (And.intro (sl_below hS hB) (And.intro (Kd.C_below M0 HZ.out) (Kd.C_below M1 HZ.out)))
                  have HM := Aside0.mk (And.intro m0 m1)
                  have hH := HB8.out.2 i hlt
                  rw [← HX.out] at hH
                  have HXI : Aside0 (x.toNat = i) := ⟨by have := HX.out; omega⟩
                  rw [← HXI.out] at hH
                  have HH := Aside0.mk hH
                  clear hS M0 M1 m0 m1 hB hH
                  go_wp2_with (first | (go_at_call 24; (refine (family_Fixed.calls 2000 B0 b0 (rd_T37 out2 x).f0 B1 b1 (rd_T37 out2 x).f1 (rd_T37 out2 x).f2 (rd_T37 out2 x).f3 true _ HS.out.2.1 HM.out.1 HS.out.2.2 HM.out.2 HH.out.1).mono ?_); rintro e w4 ⟨rfl, hb⟩; have HB4 := Aside0.mk hb; replace x0 := pw_cell_below hb x0; replace x1 := pw_cell_below hb x1; replace x2 := pw_cell_below hb x2; replace x3 := pw_cell_below hb x3; clear hb) | (go_at_call 26; (refine (family_Has.calls 2000 B0 b0 (rd_T37 out2 x).f0 B1 b1 (rd_T37 out2 x).f1 (rd_T37 out2 x).f2 (rd_T37 out2 x).f3 B b (lst L x.toNat) true _ (Kd.C_below HS.out.2.1 HB4.out) HM.out.1 (Kd.C_below HS.out.2.2 HB4.out) HM.out.2 (sl_below HS.out.1 HB4.out).1 HS.out.1.2 HH.out.2).mono ?_); rintro e w5 ⟨rfl, hb⟩; have HB5 := Aside0.mk (below_then HB4.out HB4.out.size hb); clear hb))
                  go_roundg (L.length - (i + 1))
                  case measure => omega
                  case rel => exact ⟨i + 1, _, rfl, ⟨by rw [HX.out]; unfold wrap64; have := HN.out.1; have := HN.out.2.1; omega⟩, by omega, ⟨below_then HZ.out HZ.out.size HB5.out⟩⟩
                · obtain rfl : i = L.length := by omega
                  have d1 : decide (x < (L.length : Int)) = false := decide_eq_false (by have := HX.out; omega)
                  have p1 := eq_false (show ¬ x < (L.length : Int) by have := HX.out; omega)
                  have HBZ := Aside0.mk (below_then HB7.out HB7.out.size HZ.out)
                  go_wp2_with (first | (go_at_call 10; (refine (awake_end _).mono ?_); rintro e w9 ⟨rfl, hb⟩; have HE := Aside0.mk (below_then HBZ.out HBZ.out.size hb); clear hb))
                  go_ret
                  exact ⟨rfl, HE.out⟩
            ·
              exact absurd (HA1.out rfl rfl).1 (by decide)
set_option maxHeartbeats 8000000 in
set_option maxRecDepth 100000 in
theorem keeps_ok (k1 k2 : Nat) (hf1 : manystrandlaw07_light.f k1 l = some true) (hf2 : manystrandlaw07_lean.f k2 rels = some true) (hne : L.length = l.length) (h50 : l.length ≤ 50) (hl100 : ∀ i : Nat, i < l.length → (rd_T37 l i).f0.length ≤ 100 ∧ (rd_T37 l i).f1.length ≤ 100) (hr110 : rels.length ≤ 110) (hr10 : ∀ i : Nat, i < rels.length → (rd_T33 rels i).f1.length ≤ 10) (out : List S37) (hout : FixOut rels l out 0) (hfc : FixCalls rels l out 0) :
    Calls Try.prog 7 #[.slice A0 rels.length c0, .slice A1 l.length c1, .slice La L.length lc] w (LawEnd w) := by
  have HR0 := Aside0.mk (And.intro hr0 hc0)
  have HR1 := Aside0.mk (And.intro hr1 hc1)
  have HL := Aside0.mk (And.intro hL hlc)
  clear hr0 hc0 hr1 hc1 hL hlc
  have HF1 := Aside0.mk hf1
  have HF2 := Aside0.mk hf2
  have q1 : ((L.length : Int) == (l.length : Int)) = true := beq_iff_eq.mpr (by omega)
  have q2 : ((L.length : Int) != (l.length : Int)) = false := by rw [bne, q1]; rfl
  have HFC := Aside0.mk hfc
  have HOut := Aside0.mk hout
  have HN := Aside0.mk (And.intro hne (And.intro h50 (And.intro hl100 (And.intro hr110 hr10))))
  clear hf1 hf2 hfc hout hne h50 hl100 hr110 hr10
  go_enter Try.func7, Try.ntmps7
  have HO1 := Aside0.mk (fix_len HOut.out)
  have p1 : ((out.length : Int) == (l.length : Int)) = true := beq_iff_eq.mpr (by have := HO1.out (by trivial); omega)
  have p2 : ((out.length : Int) != (l.length : Int)) = false := by rw [bne, p1]; rfl
  go_upto_region 11 with (first | (go_at_call 8; (refine (manystrandlaw07_light.calls k1 A1 c1 l true _ HR1.out.1 HR1.out.2 HF1.out).mono ?_); rintro e w1 ⟨rfl, hb⟩; have HB1 := Aside0.mk hb; clear hb) | (go_at_call 9; (refine (manystrandlaw07_lean.calls k2 A0 c0 rels true _ (Kd.C_below HR0.out.1 HB1.out) HR0.out.2 HF2.out).mono ?_); rintro e w2 ⟨rfl, hb⟩; have HB2 := Aside0.mk (below_then HB1.out HB1.out.size hb); clear hb) | (go_at_call 11; (refine (HFC.out A0 c0 A1 c1 _ (Kd.C_below HR0.out.1 HB2.out) HR0.out.2 (Kd.C_below HR1.out.1 HB2.out) HR1.out.2).mono ?_); rintro e w3 ⟨va, rfl, hra, hb⟩; obtain ⟨Aa, ca, rfl, hla, hCa⟩ := Kd.R_reads hra; have HCa := Aside0.mk (And.intro hCa hla); have HB3 := Aside0.mk (below_then HB2.out HB2.out.size hb); clear hb hra hCa hla))
  have HL0 := Aside0.mk (show Below w3.heap.size w3 w3 ∧ Kd.R kRaw 37 w3 w3.heap.size (fun _ => True) (.slice none 0 0) [] ∧ Lies w L [] from ⟨Below.refl _ _, Kd.R_nil _ _ _ _ _, lies_nil _ _⟩)
  obtain ⟨hs, hhs⟩ : ∃ hs : Nat → Bool, hs = fun j : Nat => hasB (rd_T37 l (j : Int)) (lst L j) := ⟨_, rfl⟩
  replace hhs := Aside0.mk hhs
  go_loopg [9, 11, 58] L.length (fun kq v9 v11 v58 w' => ∃ (i : Nat) (x : Int) (v : Value) (rs : List Raw), v58 = .int .i64 x ∧ Aside0 (x = (i : Int)) ∧ v9 = .bool (okr hs true i) ∧ v = v11 ∧ i + kq = L.length ∧ Aside0 (rs.length = i ∧ ∀ j : Nat, j < i → (lst L j).length ≤ 100) ∧ Aside0 (Below w3.heap.size w3 w' ∧ Kd.R kRaw 37 w' w3.heap.size (fun _ => True) v rs ∧ Lies w L rs))
  case atStart => exact ⟨0, 0, .slice none 0 0, [], rfl, ⟨rfl⟩, rfl, rfl, by omega, ⟨rfl, fun j hj => absurd hj (by omega)⟩, HL0⟩
  case round =>
    clear HL0
    obtain ⟨i, x, v, rs, rfl, HX, rfl, rfl, hi, HT, HI⟩ := hrel
    by_cases hlt : i < L.length
    · have d0 : decide (0 ≤ x) = true := decide_eq_true (by have := HX.out; omega)
      have d1 : decide (x < (L.length : Int)) = true := decide_eq_true (by have := HX.out; omega)
      have d2 : decide (x < (l.length : Int)) = true := decide_eq_true (by have := HX.out; have := HN.out.1; omega)
      have p0 := eq_true (show 0 ≤ x by have := HX.out; omega)
      have p1 := eq_true (show x < (L.length : Int) by have := HX.out; omega)
      have p2 := eq_true (show x < (l.length : Int) by have := HX.out; have := HN.out.1; omega)
      obtain ⟨ad, B, b, rfl, hx0, hS⟩ := at_II HL.out.1 x (by have := HX.out; omega) (by have := HX.out; omega)
      obtain ⟨ad1, B0, b0, B1, b1, rfl, x0, x1, x2, x3, m0, M0, m1, M1⟩ := at_T37 HR1.out.1 x (by have := HX.out; omega) (by have := HX.out; have := HN.out.1; omega)
      have hB := below_then HB3.out HB3.out.size HI.out.1
      replace hx0 := (hB.cell (World.block_lt_of_cell? w _ hx0)).trans hx0
      replace x0 := (hB.cell (World.block_lt_of_cell? w _ x0)).trans x0
      replace x1 := (hB.cell (World.block_lt_of_cell? w _ x1)).trans x1
      replace x2 := (hB.cell (World.block_lt_of_cell? w _ x2)).trans x2
      replace x3 := (hB.cell (World.block_lt_of_cell? w _ x3)).trans x3
      have HS := Aside0.mk (And.intro (sl_below hS hB) (And.intro (Kd.C_below M0 hB) (Kd.C_below M1 hB)))
      have HM := Aside0.mk (And.intro m0 m1)
      have HBW := Aside0.mk hB
      have HXI : Aside0 (x.toNat = i) := ⟨by have := HX.out; omega⟩
      clear M0 M1 m0 m1 hB
      by_cases h2 : ((lst L x.toNat).length : Int) > 100
      · have e1 : decide ((100 : Int) < ((lst L x.toNat).length : Int)) = true := decide_eq_true h2
        have e2 := eq_true (show (100 : Int) < ((lst L x.toNat).length : Int) from h2)
        go_wp2_with (go_at_call 10; (refine (awake_end _).mono ?_); rintro e w9 ⟨rfl, hb⟩; have HE := Aside0.mk (below_then HBW.out HBW.out.size hb); clear hb)
        go_ret
        exact ⟨rfl, HE.out⟩
      · have e1 : decide ((100 : Int) < ((lst L x.toNat).length : Int)) = false := decide_eq_false h2
        have e2 := eq_false (show ¬ (100 : Int) < ((lst L x.toNat).length : Int) from h2)
        have HH := Aside0.mk (show family_Has.f 2000 (rd_T37 l x).f0 (rd_T37 l x).f1 (rd_T37 l x).f2 (rd_T37 l x).f3 (lst L x.toNat) = some (hs i) from by
          have h1 := has_f' (f := rd_T37 l x) (s := lst L x.toNat) (by have := (HN.out.2.2.1 i (by have := HN.out.1; omega)).1; rw [HX.out]; omega) (by have := (HN.out.2.2.1 i (by have := HN.out.1; omega)).2; rw [HX.out]; omega) (by omega)
          rw [h1, hhs.out]
          have e := HXI.out
          rw [e]
          have e := HX.out
          rw [e])
        have HN2 : Aside0 ((lst L i).length ≤ 100) := ⟨by rw [← HXI.out]; omega⟩
        have HSW := Aside0.mk hS
        clear h2 hS
        have LM : Aside0 (rs.length + 1 ≤ 1000) := ⟨by have := HT.out.1; have := HN.out.1; have := HN.out.2.1; omega⟩
        cases hq : okr hs true i with
        | false =>
          go_wp2_with (first | (at_builtin; go_loud (refine Kd.R_append kRaw (w0 := w3) w3.heap.size rfl (.tmp 76) (.tmp 80) 23 37 (.agg #[.slice none 0 0, .slice none 0 0, .int .i64 0, .int .i64 0]) 64 rfl Try.underlying23 info37' rfl (by decide) (by omega) v rs ⟨B, (lst L x.toNat).length, b⟩ [.slice B (lst L x.toNat).length b, .slice B (lst L x.toNat).length b, .int .i64 0, .int .i64 64] (fun _ => True) (fun _ => False) rfl rfl rfl (fun _ hk => hk.elim) ?aF ?aO ?aB ?aS ?aL ?_); (case aF => exact fun _ _ => trivial); (case aO => exact HI.out.2.1); (case aB => exact HI.out.1); (case aS => exact HI.out.1.size); (case aL => have := LM.out; omega); intro v1 w5 ho hb hg hat; have HW := Aside0.mk (And.intro hb ho); clear hb hg hat ho))
          go_roundg (L.length - (i + 1))
          case measure => omega
          case rel => exact ⟨i + 1, _, v1, rs ++ [⟨B, (lst L x.toNat).length, b⟩], (by first | rfl | (simp; done)), ⟨by rw [HX.out]; unfold wrap64; have := HN.out.1; have := HN.out.2.1; omega⟩, by rw [okr_succ, hq]; rfl, rfl, by omega, ⟨by rw [List.length_append, HT.out.1]; rfl, fun j hj => by
              rcases Nat.lt_or_ge j i with h_ | h_
              · exact HT.out.2 j h_
              · obtain rfl : j = i := by omega
                exact HN2.out⟩, ⟨HW.out.1, HW.out.2, by
              have h_ := HSW.out
              have e_ : x.toNat = rs.length := by rw [HXI.out, HT.out.1]
              rw [e_] at h_ ⊢
              exact lies_next HI.out.2.2 (by rw [HT.out.1]; exact hlt) h_⟩⟩
        | true =>
          go_upto_region 16 with (first | (go_at_call 26; (refine (family_Has.calls 2000 B0 b0 (rd_T37 l x).f0 B1 b1 (rd_T37 l x).f1 (rd_T37 l x).f2 (rd_T37 l x).f3 B b (lst L x.toNat) (hs i) _ HS.out.2.1 HM.out.1 HS.out.2.2 HM.out.2 HS.out.1.1 HS.out.1.2 HH.out).mono ?_); rintro e w4 ⟨rfl, hb⟩; have HB4 := Aside0.mk hb; clear hb))
          have HI4 := Aside0.mk (And.intro (below_then HI.out.1 HI.out.1.size HB4.out) (And.intro (Kd.R_below HI.out.2.1 HB4.out) HI.out.2.2))
          go_wp2_with (first | (at_builtin; go_loud (refine Kd.R_append kRaw (w0 := w3) w3.heap.size rfl (.tmp 76) (.tmp 80) 23 37 (.agg #[.slice none 0 0, .slice none 0 0, .int .i64 0, .int .i64 0]) 64 rfl Try.underlying23 info37' rfl (by decide) (by omega) v rs ⟨B, (lst L x.toNat).length, b⟩ [.slice B (lst L x.toNat).length b, .slice B (lst L x.toNat).length b, .int .i64 0, .int .i64 64] (fun _ => True) (fun _ => False) rfl rfl rfl (fun _ hk => hk.elim) ?aF ?aO ?aB ?aS ?aL ?_); (case aF => exact fun _ _ => trivial); (case aO => exact HI4.out.2.1); (case aB => exact HI4.out.1); (case aS => exact HI4.out.1.size); (case aL => have := LM.out; omega); intro v1 w5 ho hb hg hat; have HW := Aside0.mk (And.intro hb ho); clear hb hg hat ho))
          go_roundg (L.length - (i + 1))
          case measure => omega
          case rel => exact ⟨i + 1, _, v1, rs ++ [⟨B, (lst L x.toNat).length, b⟩], (by first | rfl | (simp; done)), ⟨by rw [HX.out]; unfold wrap64; have := HN.out.1; have := HN.out.2.1; omega⟩, by rw [okr_succ, hq]; rfl, rfl, by omega, ⟨by rw [List.length_append, HT.out.1]; rfl, fun j hj => by
              rcases Nat.lt_or_ge j i with h_ | h_
              · exact HT.out.2 j h_
              · obtain rfl : j = i := by omega
                exact HN2.out⟩, ⟨HW.out.1, HW.out.2, by
              have h_ := HSW.out
              have e_ : x.toNat = rs.length := by rw [HXI.out, HT.out.1]
              rw [e_] at h_ ⊢
              exact lies_next HI.out.2.2 (by rw [HT.out.1]; exact hlt) h_⟩⟩
    · obtain rfl : i = L.length := by omega
      have d1 : decide (x < (L.length : Int)) = false := decide_eq_false (by have := HX.out; omega)
      have p1 := eq_false (show ¬ x < (L.length : Int) by have := HX.out; omega)
      have hs100 := HT.out.2
      have hfacts := keep_facts HOut.out (by decide) HN.out.1 HN.out.2.1 HN.out.2.2.2.1 HN.out.2.2.2.2 hs100
      rw [← hhs.out] at hfacts
      obtain ⟨hol, out2, code2, hH, hF2, hA, hB2⟩ := hfacts
      have HHol := Aside0.mk hH
      have HFC2 := Aside0.mk hF2
      have HA1 := Aside0.mk hA
      obtain ⟨Af, cf, hv, hlf, hCf⟩ := Kd.R_reads HI.out.2.1
      have hrl : rs.length = (fixL L).length := by rw [HT.out.1, fixL_len]
      rw [hrl] at hv
      subst hv
      have HRL := Aside0.mk hrl
      clear hH hF2 hA hlf hCf hrl hs100 hlt hi HX
      obtain ⟨vin, hvin⟩ : ∃ b, okr hs true L.length = b := ⟨_, rfl⟩
      rw [hvin]
      rw [hvin] at HA1
      clear hhs hvin
      go_upto_region 19 with fail
      clear d1 p1
      go_loopg [10, 85] rels.length (fun kq v10 v85 w' => ∃ (i : Nat) (x : Int), v85 = .int .i64 x ∧ Aside0 (x = (i : Int)) ∧ v10 = .bool (okr hol true i) ∧ i + kq = rels.length ∧ Aside0 (Below w3.heap.size w3 w' ∧ Kd.R kRaw 37 w' w3.heap.size (fun _ => True) (.slice Af (fixL L).length cf) rs ∧ Lies w L rs))
      case atStart => exact ⟨0, 0, rfl, ⟨rfl⟩, rfl, by omega, HI⟩
      case round =>
        clear HI
        obtain ⟨i, x, rfl, HX, rfl, hi, HI⟩ := hrel
        by_cases hlt : i < rels.length
        · have d0 : decide (0 ≤ x) = true := decide_eq_true (by have := HX.out; omega)
          have d1 : decide (x < (rels.length : Int)) = true := decide_eq_true (by have := HX.out; omega)
          have p0 := eq_true (show 0 ≤ x by have := HX.out; omega)
          have p1 := eq_true (show x < (rels.length : Int) by have := HX.out; omega)
          obtain ⟨ad, B1, b1, rfl, x0, x1, x2, m1, M1⟩ := at_T33 HR0.out.1 x (by have := HX.out; omega) (by have := HX.out; omega)
          have hB := below_then HB3.out HB3.out.size HI.out.1
          replace x0 := (hB.cell (World.block_lt_of_cell? w _ x0)).trans x0
          replace x1 := (hB.cell (World.block_lt_of_cell? w _ x1)).trans x1
          replace x2 := (hB.cell (World.block_lt_of_cell? w _ x2)).trans x2
          have HM := Aside0.mk (And.intro (Kd.C_below M1 hB) m1)
          have HBW := Aside0.mk hB
          have hH := HHol.out i hlt
          rw [← HX.out] at hH
          have HH := Aside0.mk hH
          clear hH M1 m1 hB
          cases hq : okr hol true i with
          | false =>
            go_wp2_with fail
            go_roundg (rels.length - (i + 1))
            case measure => omega
            case rel => exact ⟨i + 1, _, rfl, ⟨by rw [HX.out]; unfold wrap64; have := HN.out.2.2.2.1; omega⟩, by rw [okr_succ, hq]; rfl, by omega, ⟨below_alloc HI.out.1 _, Kd.R_alloc HI.out.2.1 _, HI.out.2.2⟩⟩
          | true =>
            go_wp2_with (first | (go_at_call 34; (refine (HH.out B1 b1 La lc _ ⟨Kd.C_alloc HM.out.1 _, HM.out.2⟩ (Kd.C_below HL.out.1 (below_alloc HBW.out _)) HL.out.2).mono ?_); rintro e w6 ⟨rfl, hb⟩; have HB6 := Aside0.mk (And.intro (below_then (below_alloc HI.out.1 _) (below_alloc HI.out.1 _).size hb) (And.intro (Kd.R_below (Kd.R_alloc HI.out.2.1 _) hb) HI.out.2.2)); clear hb))
            go_roundg (rels.length - (i + 1))
            case measure => omega
            case rel => exact ⟨i + 1, _, rfl, ⟨by rw [HX.out]; unfold wrap64; have := HN.out.2.2.2.1; omega⟩, by rw [okr_succ, hq]; rfl, by omega, HB6⟩
        · obtain rfl : i = rels.length := by omega
          have d1 : decide (x < (rels.length : Int)) = false := decide_eq_false (by have := HX.out; omega)
          have p1 := eq_false (show ¬ x < (rels.length : Int) by have := HX.out; omega)
          clear HX hlt hi HHol
          generalize okr hol true rels.length = al at HA1 hB2 ⊢
          rcases hB2 with rfl | ⟨rfl, rfl⟩ | ⟨rfl, rfl, hB8⟩
          · cases vin <;> cases al
            ·
              have HBW := Aside0.mk (below_then HB3.out HB3.out.size HI.out.1)
              have HCf : Aside0 (Kd.C kRaw wr Af (fixL L).length rs ∧ (fixL L).length ≤ cf) := (by have h := Kd.R_reads' HI.out.2.1; exact ⟨⟨by rw [h.1]; exact h.2.2, h.2.1⟩⟩)
              go_wp2_with (first | (go_at_call 11; (refine (HFC2.out A0 c0 Af cf _ (Kd.C_below HR0.out.1 HBW.out) HR0.out.2 (lies_all (lies_below HI.out.2.2 HBW.out) (by rw [HRL.out, fixL_len]) HCf.out.1) HCf.out.2).mono ?_); rintro e w7 ⟨vb, rfl, hrb, hb⟩; obtain ⟨Ab, cb, rfl, hlb, hCb⟩ := Kd.R_reads hrb; have HCb := Aside0.mk (And.intro hCb hlb); have HB7 := Aside0.mk (below_then HBW.out HBW.out.size hb); clear hb hrb hCb hlb) | (go_at_call 10; (refine (awake_end _).mono ?_); rintro e w9 ⟨rfl, hb⟩; have HE := Aside0.mk (below_then HB7.out HB7.out.size hb); clear hb))
              go_ret
              exact ⟨rfl, HE.out⟩
            ·
              have HBW := Aside0.mk (below_then HB3.out HB3.out.size HI.out.1)
              have HCf : Aside0 (Kd.C kRaw wr Af (fixL L).length rs ∧ (fixL L).length ≤ cf) := (by have h := Kd.R_reads' HI.out.2.1; exact ⟨⟨by rw [h.1]; exact h.2.2, h.2.1⟩⟩)
              go_wp2_with (first | (go_at_call 11; (refine (HFC2.out A0 c0 Af cf _ (Kd.C_below HR0.out.1 HBW.out) HR0.out.2 (lies_all (lies_below HI.out.2.2 HBW.out) (by rw [HRL.out, fixL_len]) HCf.out.1) HCf.out.2).mono ?_); rintro e w7 ⟨vb, rfl, hrb, hb⟩; obtain ⟨Ab, cb, rfl, hlb, hCb⟩ := Kd.R_reads hrb; have HCb := Aside0.mk (And.intro hCb hlb); have HB7 := Aside0.mk (below_then HBW.out HBW.out.size hb); clear hb hrb hCb hlb) | (go_at_call 10; (refine (awake_end _).mono ?_); rintro e w9 ⟨rfl, hb⟩; have HE := Aside0.mk (below_then HB7.out HB7.out.size hb); clear hb))
              go_ret
              exact ⟨rfl, HE.out⟩
            ·
              have HBW := Aside0.mk (below_then HB3.out HB3.out.size HI.out.1)
              have HCf : Aside0 (Kd.C kRaw wr Af (fixL L).length rs ∧ (fixL L).length ≤ cf) := (by have h := Kd.R_reads' HI.out.2.1; exact ⟨⟨by rw [h.1]; exact h.2.2, h.2.1⟩⟩)
              go_wp2_with (first | (go_at_call 11; (refine (HFC2.out A0 c0 Af cf _ (Kd.C_below HR0.out.1 HBW.out) HR0.out.2 (lies_all (lies_below HI.out.2.2 HBW.out) (by rw [HRL.out, fixL_len]) HCf.out.1) HCf.out.2).mono ?_); rintro e w7 ⟨vb, rfl, hrb, hb⟩; obtain ⟨Ab, cb, rfl, hlb, hCb⟩ := Kd.R_reads hrb; have HCb := Aside0.mk (And.intro hCb hlb); have HB7 := Aside0.mk (below_then HBW.out HBW.out.size hb); clear hb hrb hCb hlb) | (go_at_call 10; (refine (awake_end _).mono ?_); rintro e w9 ⟨rfl, hb⟩; have HE := Aside0.mk (below_then HB7.out HB7.out.size hb); clear hb))
              go_ret
              exact ⟨rfl, HE.out⟩
            ·
              have HA2 := Aside0.mk (HA1.out rfl rfl).2
              go_upto_region 27 with fail
              clear d1 p1
              go_loopg [104] L.length (fun kq v104 w' => ∃ (i : Nat) (x : Int), v104 = .int .i64 x ∧ Aside0 (x = (i : Int)) ∧ i + kq = L.length ∧ Aside0 (Below w3.heap.size w3 w' ∧ Kd.R kRaw 37 w' w3.heap.size (fun _ => True) (.slice Af (fixL L).length cf) rs ∧ Lies w L rs))
              case atStart => exact ⟨0, 0, rfl, ⟨rfl⟩, by omega, HI⟩
              case round =>
                clear HI
                obtain ⟨i, x, rfl, HX, hi, HI⟩ := hrel
                by_cases hlt : i < L.length
                · have d0 : decide (0 ≤ x) = true := decide_eq_true (by have := HX.out; omega)
                  have d1 : decide (x < (L.length : Int)) = true := decide_eq_true (by have := HX.out; omega)
                  have d2 : decide (x < (out.length : Int)) = true := decide_eq_true (by have := HX.out; have := HO1.out (by trivial); have := HN.out.1; omega)
                  have p0 := eq_true (show 0 ≤ x by have := HX.out; omega)
                  have p1 := eq_true (show x < (L.length : Int) by have := HX.out; omega)
                  have p2 := eq_true (show x < (out.length : Int) by have := HX.out; have := HO1.out (by trivial); have := HN.out.1; omega)
                  obtain ⟨ad, B, b, rfl, hx0, hS⟩ := at_II HL.out.1 x (by have := HX.out; omega) (by have := HX.out; omega)
                  have hB := below_then HB3.out HB3.out.size HI.out.1
                  replace hx0 := (hB.cell (World.block_lt_of_cell? w _ hx0)).trans hx0
                  obtain ⟨ad1, B0, b0, B1, b1, rfl, x0, x1, x2, x3, m0, M0, m1, M1⟩ := at_T37 HCa.out.1 x (by have := HX.out; omega) (by have := HX.out; have := HO1.out (by trivial); have := HN.out.1; omega)
                  replace x0 := (HI.out.1.cell (World.block_lt_of_cell? w3 _ x0)).trans x0
                  replace x1 := (HI.out.1.cell (World.block_lt_of_cell? w3 _ x1)).trans x1
                  replace x2 := (HI.out.1.cell (World.block_lt_of_cell? w3 _ x2)).trans x2
                  replace x3 := (HI.out.1.cell (World.block_lt_of_cell? w3 _ x3)).trans x3
                  have HS := Aside0.mk (And.intro (sl_below hS hB) (And.intro (Kd.C_below M0 HI.out.1) (Kd.C_below M1 HI.out.1)))
                  have HM := Aside0.mk (And.intro m0 m1)
                  have hH := HA2.out i hlt
                  rw [← HX.out] at hH
                  have HXI : Aside0 (x.toNat = i) := ⟨by have := HX.out; omega⟩
                  rw [← HXI.out] at hH
                  have HH := Aside0.mk hH
                  clear hS M0 M1 m0 m1 hB hH
                  go_wp2_with (first | (go_at_call 26; (refine (family_Has.calls 2000 B0 b0 (rd_T37 out x).f0 B1 b1 (rd_T37 out x).f1 (rd_T37 out x).f2 (rd_T37 out x).f3 B b (lst L x.toNat) true _ HS.out.2.1 HM.out.1 HS.out.2.2 HM.out.2 HS.out.1.1 HS.out.1.2 HH.out).mono ?_); rintro e w5 ⟨rfl, hb⟩; have HB5 := Aside0.mk (And.intro (below_then HI.out.1 HI.out.1.size hb) (And.intro (Kd.R_below HI.out.2.1 hb) HI.out.2.2)); clear hb))
                  go_roundg (L.length - (i + 1))
                  case measure => omega
                  case rel => exact ⟨i + 1, _, rfl, ⟨by rw [HX.out]; unfold wrap64; have := HN.out.1; have := HN.out.2.1; omega⟩, by omega, HB5⟩
                · obtain rfl : i = L.length := by omega
                  have d1 : decide (x < (L.length : Int)) = false := decide_eq_false (by have := HX.out; omega)
                  have p1 := eq_false (show ¬ x < (L.length : Int) by have := HX.out; omega)
                  clear HX hlt hi
                  have HBW := Aside0.mk (below_then HB3.out HB3.out.size HI.out.1)
                  have HCf : Aside0 (Kd.C kRaw wr Af (fixL L).length rs ∧ (fixL L).length ≤ cf) := (by have h := Kd.R_reads' HI.out.2.1; exact ⟨⟨by rw [h.1]; exact h.2.2, h.2.1⟩⟩)
                  go_wp2_with (first | (go_at_call 11; (refine (HFC2.out A0 c0 Af cf _ (Kd.C_below HR0.out.1 HBW.out) HR0.out.2 (lies_all (lies_below HI.out.2.2 HBW.out) (by rw [HRL.out, fixL_len]) HCf.out.1) HCf.out.2).mono ?_); rintro e w7 ⟨vb, rfl, hrb, hb⟩; obtain ⟨Ab, cb, rfl, hlb, hCb⟩ := Kd.R_reads hrb; have HCb := Aside0.mk (And.intro hCb hlb); have HB7 := Aside0.mk (below_then HBW.out HBW.out.size hb); clear hb hrb hCb hlb) | (go_at_call 10; (refine (awake_end _).mono ?_); rintro e w9 ⟨rfl, hb⟩; have HE := Aside0.mk (below_then HB7.out HB7.out.size hb); clear hb))
                  go_ret
                  exact ⟨rfl, HE.out⟩
          · cases vin
            ·
              have HBW := Aside0.mk (below_then HB3.out HB3.out.size HI.out.1)
              have HCf : Aside0 (Kd.C kRaw wr Af (fixL L).length rs ∧ (fixL L).length ≤ cf) := (by have h := Kd.R_reads' HI.out.2.1; exact ⟨⟨by rw [h.1]; exact h.2.2, h.2.1⟩⟩)
              go_upto_region 38 with (first | (go_at_call 11; (refine (HFC2.out A0 c0 Af cf _ (Kd.C_below HR0.out.1 HBW.out) HR0.out.2 (lies_all (lies_below HI.out.2.2 HBW.out) (by rw [HRL.out, fixL_len]) HCf.out.1) HCf.out.2).mono ?_); rintro e w7 ⟨vb, rfl, hrb, hb⟩; obtain ⟨Ab, cb, rfl, hlb, hCb⟩ := Kd.R_reads hrb; have HCb := Aside0.mk (And.intro hCb hlb); have HB7 := Aside0.mk (below_then HBW.out HBW.out.size hb); clear hb hrb hCb hlb))
              clear d1 p1
              have HZ := Aside0.mk (Below.refl w7.heap.size w7)
              go_loopg [143] L.length (fun kq v143 w' => ∃ (i : Nat) (x : Int), v143 = .int .i64 x ∧ Aside0 (x = (i : Int)) ∧ i + kq = L.length ∧ Aside0 (Below w7.heap.size w7 w'))
              case atStart => exact ⟨0, 0, rfl, ⟨rfl⟩, by omega, HZ⟩
              case round =>
                clear HZ
                obtain ⟨i, x, rfl, HX, hi, HZ⟩ := hrel
                by_cases hlt : i < L.length
                · have d0 : decide (0 ≤ x) = true := decide_eq_true (by have := HX.out; omega)
                  have d1 : decide (x < (L.length : Int)) = true := decide_eq_true (by have := HX.out; omega)
                  have p0 := eq_true (show 0 ≤ x by have := HX.out; omega)
                  have p1 := eq_true (show x < (L.length : Int) by have := HX.out; omega)
                  obtain ⟨ad, B, b, rfl, hx0, hS⟩ := at_II HL.out.1 x (by have := HX.out; omega) (by have := HX.out; omega)
                  have hB := below_then HB7.out HB7.out.size HZ.out
                  replace hx0 := (hB.cell (World.block_lt_of_cell? w _ hx0)).trans hx0
                  clear hS hB
                  go_wp2_with fail
                  go_roundg (L.length - (i + 1))
                  case measure => omega
                  case rel => exact ⟨i + 1, _, rfl, ⟨by rw [HX.out]; unfold wrap64; have := HN.out.1; have := HN.out.2.1; omega⟩, by omega, HZ⟩
                · obtain rfl : i = L.length := by omega
                  have d1 : decide (x < (L.length : Int)) = false := decide_eq_false (by have := HX.out; omega)
                  have p1 := eq_false (show ¬ x < (L.length : Int) by have := HX.out; omega)
                  have HBZ := Aside0.mk (below_then HB7.out HB7.out.size HZ.out)
                  go_wp2_with (first | (go_at_call 10; (refine (awake_end _).mono ?_); rintro e w9 ⟨rfl, hb⟩; have HE := Aside0.mk (below_then HBZ.out HBZ.out.size hb); clear hb))
                  go_ret
                  exact ⟨rfl, HE.out⟩
            ·
              have HBW := Aside0.mk (below_then HB3.out HB3.out.size HI.out.1)
              have HCf : Aside0 (Kd.C kRaw wr Af (fixL L).length rs ∧ (fixL L).length ≤ cf) := (by have h := Kd.R_reads' HI.out.2.1; exact ⟨⟨by rw [h.1]; exact h.2.2, h.2.1⟩⟩)
              go_upto_region 38 with (first | (go_at_call 11; (refine (HFC2.out A0 c0 Af cf _ (Kd.C_below HR0.out.1 HBW.out) HR0.out.2 (lies_all (lies_below HI.out.2.2 HBW.out) (by rw [HRL.out, fixL_len]) HCf.out.1) HCf.out.2).mono ?_); rintro e w7 ⟨vb, rfl, hrb, hb⟩; obtain ⟨Ab, cb, rfl, hlb, hCb⟩ := Kd.R_reads hrb; have HCb := Aside0.mk (And.intro hCb hlb); have HB7 := Aside0.mk (below_then HBW.out HBW.out.size hb); clear hb hrb hCb hlb))
              clear d1 p1
              have HZ := Aside0.mk (Below.refl w7.heap.size w7)
              go_loopg [143] L.length (fun kq v143 w' => ∃ (i : Nat) (x : Int), v143 = .int .i64 x ∧ Aside0 (x = (i : Int)) ∧ i + kq = L.length ∧ Aside0 (Below w7.heap.size w7 w'))
              case atStart => exact ⟨0, 0, rfl, ⟨rfl⟩, by omega, HZ⟩
              case round =>
                clear HZ
                obtain ⟨i, x, rfl, HX, hi, HZ⟩ := hrel
                by_cases hlt : i < L.length
                · have d0 : decide (0 ≤ x) = true := decide_eq_true (by have := HX.out; omega)
                  have d1 : decide (x < (L.length : Int)) = true := decide_eq_true (by have := HX.out; omega)
                  have p0 := eq_true (show 0 ≤ x by have := HX.out; omega)
                  have p1 := eq_true (show x < (L.length : Int) by have := HX.out; omega)
                  obtain ⟨ad, B, b, rfl, hx0, hS⟩ := at_II HL.out.1 x (by have := HX.out; omega) (by have := HX.out; omega)
                  have hB := below_then HB7.out HB7.out.size HZ.out
                  replace hx0 := (hB.cell (World.block_lt_of_cell? w _ hx0)).trans hx0
                  clear hS hB
                  go_wp2_with fail
                  go_roundg (L.length - (i + 1))
                  case measure => omega
                  case rel => exact ⟨i + 1, _, rfl, ⟨by rw [HX.out]; unfold wrap64; have := HN.out.1; have := HN.out.2.1; omega⟩, by omega, HZ⟩
                · obtain rfl : i = L.length := by omega
                  have d1 : decide (x < (L.length : Int)) = false := decide_eq_false (by have := HX.out; omega)
                  have p1 := eq_false (show ¬ x < (L.length : Int) by have := HX.out; omega)
                  have HBZ := Aside0.mk (below_then HB7.out HB7.out.size HZ.out)
                  go_wp2_with (first | (go_at_call 10; (refine (awake_end _).mono ?_); rintro e w9 ⟨rfl, hb⟩; have HE := Aside0.mk (below_then HBZ.out HBZ.out.size hb); clear hb))
                  go_ret
                  exact ⟨rfl, HE.out⟩
          · have HB8 := Aside0.mk hB8
            clear hB8
            cases vin
            ·
              have HBW := Aside0.mk (below_then HB3.out HB3.out.size HI.out.1)
              have HCf : Aside0 (Kd.C kRaw wr Af (fixL L).length rs ∧ (fixL L).length ≤ cf) := (by have h := Kd.R_reads' HI.out.2.1; exact ⟨⟨by rw [h.1]; exact h.2.2, h.2.1⟩⟩)
              have o1 : ((out2.length : Int) == (L.length : Int)) = true := beq_iff_eq.mpr (by have := HB8.out.1; omega)
              have o2 : ((out2.length : Int) != (L.length : Int)) = false := by rw [bne, o1]; rfl
              go_upto_region 38 with (first | (go_at_call 11; (refine (HFC2.out A0 c0 Af cf _ (Kd.C_below HR0.out.1 HBW.out) HR0.out.2 (lies_all (lies_below HI.out.2.2 HBW.out) (by rw [HRL.out, fixL_len]) HCf.out.1) HCf.out.2).mono ?_); rintro e w7 ⟨vb, rfl, hrb, hb⟩; obtain ⟨Ab, cb, rfl, hlb, hCb⟩ := Kd.R_reads hrb; have HCb := Aside0.mk (And.intro hCb hlb); have HB7 := Aside0.mk (below_then HBW.out HBW.out.size hb); clear hb hrb hCb hlb))
              clear d1 p1
              have HZ := Aside0.mk (Below.refl w7.heap.size w7)
              go_loopg [143] L.length (fun kq v143 w' => ∃ (i : Nat) (x : Int), v143 = .int .i64 x ∧ Aside0 (x = (i : Int)) ∧ i + kq = L.length ∧ Aside0 (Below w7.heap.size w7 w'))
              case atStart => exact ⟨0, 0, rfl, ⟨rfl⟩, by omega, HZ⟩
              case round =>
                clear HZ
                obtain ⟨i, x, rfl, HX, hi, HZ⟩ := hrel
                by_cases hlt : i < L.length
                · have d0 : decide (0 ≤ x) = true := decide_eq_true (by have := HX.out; omega)
                  have d1 : decide (x < (L.length : Int)) = true := decide_eq_true (by have := HX.out; omega)
                  have p0 := eq_true (show 0 ≤ x by have := HX.out; omega)
                  have p1 := eq_true (show x < (L.length : Int) by have := HX.out; omega)
                  obtain ⟨ad, B, b, rfl, hx0, hS⟩ := at_II HL.out.1 x (by have := HX.out; omega) (by have := HX.out; omega)
                  have hB := below_then HB7.out HB7.out.size HZ.out
                  replace hx0 := (hB.cell (World.block_lt_of_cell? w _ hx0)).trans hx0
                  have d2 : decide (x < (out2.length : Int)) = true := decide_eq_true (by have := HX.out; have := HB8.out.1; omega)
                  have p2 := eq_true (show x < (out2.length : Int) by have := HX.out; have := HB8.out.1; omega)
                  obtain ⟨ad1, B0, b0, B1, b1, rfl, x0, x1, x2, x3, m0, M0, m1, M1⟩ := at_T37 HCb.out.1 x (by have := HX.out; omega) (by have := HX.out; have := HB8.out.1; omega)
                  replace x0 := (HZ.out.cell (World.block_lt_of_cell? w7 _ x0)).trans x0
                  replace x1 := (HZ.out.cell (World.block_lt_of_cell? w7 _ x1)).trans x1
                  replace x2 := (HZ.out.cell (World.block_lt_of_cell? w7 _ x2)).trans x2
                  replace x3 := (HZ.out.cell (World.block_lt_of_cell? w7 _ x3)).trans x3
                  have HS := Aside0.mk (And.intro (sl_below hS hB) (And.intro (Kd.C_below M0 HZ.out) (Kd.C_below M1 HZ.out)))
                  have HM := Aside0.mk (And.intro m0 m1)
                  have hH := HB8.out.2 i hlt
                  rw [← HX.out] at hH
                  have HXI : Aside0 (x.toNat = i) := ⟨by have := HX.out; omega⟩
                  rw [← HXI.out] at hH
                  have HH := Aside0.mk hH
                  clear hS M0 M1 m0 m1 hB hH
                  go_wp2_with (first | (go_at_call 24; (refine (family_Fixed.calls 2000 B0 b0 (rd_T37 out2 x).f0 B1 b1 (rd_T37 out2 x).f1 (rd_T37 out2 x).f2 (rd_T37 out2 x).f3 true _ HS.out.2.1 HM.out.1 HS.out.2.2 HM.out.2 HH.out.1).mono ?_); rintro e w4 ⟨rfl, hb⟩; have HB4 := Aside0.mk hb; replace x0 := pw_cell_below hb x0; replace x1 := pw_cell_below hb x1; replace x2 := pw_cell_below hb x2; replace x3 := pw_cell_below hb x3; clear hb) | (go_at_call 26; (refine (family_Has.calls 2000 B0 b0 (rd_T37 out2 x).f0 B1 b1 (rd_T37 out2 x).f1 (rd_T37 out2 x).f2 (rd_T37 out2 x).f3 B b (lst L x.toNat) true _ (Kd.C_below HS.out.2.1 HB4.out) HM.out.1 (Kd.C_below HS.out.2.2 HB4.out) HM.out.2 (sl_below HS.out.1 HB4.out).1 HS.out.1.2 HH.out.2).mono ?_); rintro e w5 ⟨rfl, hb⟩; have HB5 := Aside0.mk (below_then HB4.out HB4.out.size hb); clear hb))
                  go_roundg (L.length - (i + 1))
                  case measure => omega
                  case rel => exact ⟨i + 1, _, rfl, ⟨by rw [HX.out]; unfold wrap64; have := HN.out.1; have := HN.out.2.1; omega⟩, by omega, ⟨below_then HZ.out HZ.out.size HB5.out⟩⟩
                · obtain rfl : i = L.length := by omega
                  have d1 : decide (x < (L.length : Int)) = false := decide_eq_false (by have := HX.out; omega)
                  have p1 := eq_false (show ¬ x < (L.length : Int) by have := HX.out; omega)
                  have HBZ := Aside0.mk (below_then HB7.out HB7.out.size HZ.out)
                  go_wp2_with (first | (go_at_call 10; (refine (awake_end _).mono ?_); rintro e w9 ⟨rfl, hb⟩; have HE := Aside0.mk (below_then HBZ.out HBZ.out.size hb); clear hb))
                  go_ret
                  exact ⟨rfl, HE.out⟩
            ·
              have HA2 := Aside0.mk (HA1.out rfl rfl).2
              go_upto_region 27 with fail
              clear d1 p1
              go_loopg [104] L.length (fun kq v104 w' => ∃ (i : Nat) (x : Int), v104 = .int .i64 x ∧ Aside0 (x = (i : Int)) ∧ i + kq = L.length ∧ Aside0 (Below w3.heap.size w3 w' ∧ Kd.R kRaw 37 w' w3.heap.size (fun _ => True) (.slice Af (fixL L).length cf) rs ∧ Lies w L rs))
              case atStart => exact ⟨0, 0, rfl, ⟨rfl⟩, by omega, HI⟩
              case round =>
                clear HI
                obtain ⟨i, x, rfl, HX, hi, HI⟩ := hrel
                by_cases hlt : i < L.length
                · have d0 : decide (0 ≤ x) = true := decide_eq_true (by have := HX.out; omega)
                  have d1 : decide (x < (L.length : Int)) = true := decide_eq_true (by have := HX.out; omega)
                  have d2 : decide (x < (out.length : Int)) = true := decide_eq_true (by have := HX.out; have := HO1.out (by trivial); have := HN.out.1; omega)
                  have p0 := eq_true (show 0 ≤ x by have := HX.out; omega)
                  have p1 := eq_true (show x < (L.length : Int) by have := HX.out; omega)
                  have p2 := eq_true (show x < (out.length : Int) by have := HX.out; have := HO1.out (by trivial); have := HN.out.1; omega)
                  obtain ⟨ad, B, b, rfl, hx0, hS⟩ := at_II HL.out.1 x (by have := HX.out; omega) (by have := HX.out; omega)
                  have hB := below_then HB3.out HB3.out.size HI.out.1
                  replace hx0 := (hB.cell (World.block_lt_of_cell? w _ hx0)).trans hx0
                  obtain ⟨ad1, B0, b0, B1, b1, rfl, x0, x1, x2, x3, m0, M0, m1, M1⟩ := at_T37 HCa.out.1 x (by have := HX.out; omega) (by have := HX.out; have := HO1.out (by trivial); have := HN.out.1; omega)
                  replace x0 := (HI.out.1.cell (World.block_lt_of_cell? w3 _ x0)).trans x0
                  replace x1 := (HI.out.1.cell (World.block_lt_of_cell? w3 _ x1)).trans x1
                  replace x2 := (HI.out.1.cell (World.block_lt_of_cell? w3 _ x2)).trans x2
                  replace x3 := (HI.out.1.cell (World.block_lt_of_cell? w3 _ x3)).trans x3
                  have HS := Aside0.mk (And.intro (sl_below hS hB) (And.intro (Kd.C_below M0 HI.out.1) (Kd.C_below M1 HI.out.1)))
                  have HM := Aside0.mk (And.intro m0 m1)
                  have hH := HA2.out i hlt
                  rw [← HX.out] at hH
                  have HXI : Aside0 (x.toNat = i) := ⟨by have := HX.out; omega⟩
                  rw [← HXI.out] at hH
                  have HH := Aside0.mk hH
                  clear hS M0 M1 m0 m1 hB hH
                  go_wp2_with (first | (go_at_call 26; (refine (family_Has.calls 2000 B0 b0 (rd_T37 out x).f0 B1 b1 (rd_T37 out x).f1 (rd_T37 out x).f2 (rd_T37 out x).f3 B b (lst L x.toNat) true _ HS.out.2.1 HM.out.1 HS.out.2.2 HM.out.2 HS.out.1.1 HS.out.1.2 HH.out).mono ?_); rintro e w5 ⟨rfl, hb⟩; have HB5 := Aside0.mk (And.intro (below_then HI.out.1 HI.out.1.size hb) (And.intro (Kd.R_below HI.out.2.1 hb) HI.out.2.2)); clear hb))
                  go_roundg (L.length - (i + 1))
                  case measure => omega
                  case rel => exact ⟨i + 1, _, rfl, ⟨by rw [HX.out]; unfold wrap64; have := HN.out.1; have := HN.out.2.1; omega⟩, by omega, HB5⟩
                · obtain rfl : i = L.length := by omega
                  have d1 : decide (x < (L.length : Int)) = false := decide_eq_false (by have := HX.out; omega)
                  have p1 := eq_false (show ¬ x < (L.length : Int) by have := HX.out; omega)
                  clear HX hlt hi
                  have HBW := Aside0.mk (below_then HB3.out HB3.out.size HI.out.1)
                  have HCf : Aside0 (Kd.C kRaw wr Af (fixL L).length rs ∧ (fixL L).length ≤ cf) := (by have h := Kd.R_reads' HI.out.2.1; exact ⟨⟨by rw [h.1]; exact h.2.2, h.2.1⟩⟩)
                  have o1 : ((out2.length : Int) == (L.length : Int)) = true := beq_iff_eq.mpr (by have := HB8.out.1; omega)
                  have o2 : ((out2.length : Int) != (L.length : Int)) = false := by rw [bne, o1]; rfl
                  go_upto_region 38 with (first | (go_at_call 11; (refine (HFC2.out A0 c0 Af cf _ (Kd.C_below HR0.out.1 HBW.out) HR0.out.2 (lies_all (lies_below HI.out.2.2 HBW.out) (by rw [HRL.out, fixL_len]) HCf.out.1) HCf.out.2).mono ?_); rintro e w7 ⟨vb, rfl, hrb, hb⟩; obtain ⟨Ab, cb, rfl, hlb, hCb⟩ := Kd.R_reads hrb; have HCb := Aside0.mk (And.intro hCb hlb); have HB7 := Aside0.mk (below_then HBW.out HBW.out.size hb); clear hb hrb hCb hlb))
                  clear d1 p1
                  have HZ := Aside0.mk (Below.refl w7.heap.size w7)
                  go_loopg [143] L.length (fun kq v143 w' => ∃ (i : Nat) (x : Int), v143 = .int .i64 x ∧ Aside0 (x = (i : Int)) ∧ i + kq = L.length ∧ Aside0 (Below w7.heap.size w7 w'))
                  case atStart => exact ⟨0, 0, rfl, ⟨rfl⟩, by omega, HZ⟩
                  case round =>
                    clear HZ
                    obtain ⟨i, x, rfl, HX, hi, HZ⟩ := hrel
                    by_cases hlt : i < L.length
                    · have d0 : decide (0 ≤ x) = true := decide_eq_true (by have := HX.out; omega)
                      have d1 : decide (x < (L.length : Int)) = true := decide_eq_true (by have := HX.out; omega)
                      have p0 := eq_true (show 0 ≤ x by have := HX.out; omega)
                      have p1 := eq_true (show x < (L.length : Int) by have := HX.out; omega)
                      obtain ⟨ad, B, b, rfl, hx0, hS⟩ := at_II HL.out.1 x (by have := HX.out; omega) (by have := HX.out; omega)
                      have hB := below_then HB7.out HB7.out.size HZ.out
                      replace hx0 := (hB.cell (World.block_lt_of_cell? w _ hx0)).trans hx0
                      have d2 : decide (x < (out2.length : Int)) = true := decide_eq_true (by have := HX.out; have := HB8.out.1; omega)
                      have p2 := eq_true (show x < (out2.length : Int) by have := HX.out; have := HB8.out.1; omega)
                      obtain ⟨ad1, B0, b0, B1, b1, rfl, x0, x1, x2, x3, m0, M0, m1, M1⟩ := at_T37 HCb.out.1 x (by have := HX.out; omega) (by have := HX.out; have := HB8.out.1; omega)
                      replace x0 := (HZ.out.cell (World.block_lt_of_cell? w7 _ x0)).trans x0
                      replace x1 := (HZ.out.cell (World.block_lt_of_cell? w7 _ x1)).trans x1
                      replace x2 := (HZ.out.cell (World.block_lt_of_cell? w7 _ x2)).trans x2
                      replace x3 := (HZ.out.cell (World.block_lt_of_cell? w7 _ x3)).trans x3
                      have HS := Aside0.mk (And.intro (sl_below hS hB) (And.intro (Kd.C_below M0 HZ.out) (Kd.C_below M1 HZ.out)))
                      have HM := Aside0.mk (And.intro m0 m1)
                      have hH := HB8.out.2 i hlt
                      rw [← HX.out] at hH
                      have HXI : Aside0 (x.toNat = i) := ⟨by have := HX.out; omega⟩
                      rw [← HXI.out] at hH
                      have HH := Aside0.mk hH
                      clear hS M0 M1 m0 m1 hB hH
                      go_wp2_with (first | (go_at_call 24; (refine (family_Fixed.calls 2000 B0 b0 (rd_T37 out2 x).f0 B1 b1 (rd_T37 out2 x).f1 (rd_T37 out2 x).f2 (rd_T37 out2 x).f3 true _ HS.out.2.1 HM.out.1 HS.out.2.2 HM.out.2 HH.out.1).mono ?_); rintro e w4 ⟨rfl, hb⟩; have HB4 := Aside0.mk hb; replace x0 := pw_cell_below hb x0; replace x1 := pw_cell_below hb x1; replace x2 := pw_cell_below hb x2; replace x3 := pw_cell_below hb x3; clear hb) | (go_at_call 26; (refine (family_Has.calls 2000 B0 b0 (rd_T37 out2 x).f0 B1 b1 (rd_T37 out2 x).f1 (rd_T37 out2 x).f2 (rd_T37 out2 x).f3 B b (lst L x.toNat) true _ (Kd.C_below HS.out.2.1 HB4.out) HM.out.1 (Kd.C_below HS.out.2.2 HB4.out) HM.out.2 (sl_below HS.out.1 HB4.out).1 HS.out.1.2 HH.out.2).mono ?_); rintro e w5 ⟨rfl, hb⟩; have HB5 := Aside0.mk (below_then HB4.out HB4.out.size hb); clear hb))
                      go_roundg (L.length - (i + 1))
                      case measure => omega
                      case rel => exact ⟨i + 1, _, rfl, ⟨by rw [HX.out]; unfold wrap64; have := HN.out.1; have := HN.out.2.1; omega⟩, by omega, ⟨below_then HZ.out HZ.out.size HB5.out⟩⟩
                    · obtain rfl : i = L.length := by omega
                      have d1 : decide (x < (L.length : Int)) = false := decide_eq_false (by have := HX.out; omega)
                      have p1 := eq_false (show ¬ x < (L.length : Int) by have := HX.out; omega)
                      have HBZ := Aside0.mk (below_then HB7.out HB7.out.size HZ.out)
                      go_wp2_with (first | (go_at_call 10; (refine (awake_end _).mono ?_); rintro e w9 ⟨rfl, hb⟩; have HE := Aside0.mk (below_then HBZ.out HBZ.out.size hb); clear hb))
                      go_ret
                      exact ⟨rfl, HE.out⟩
end
end Go.Proofs.Ytgfbgfbnmiainaa.Fam
/-! FamilyKeeps, whatever came in. -/
namespace Go.Proofs.Ytgfbgfbnmiainaa.Fam
set_option linter.unusedVariables false
set_option linter.unusedSimpArgs false
open Go.RowKit Go.Proofs.YtgfbgfbnmiainaaW.PrintWords Go.Proofs.YtgfbgfbnmiainaaW.PrintLast Go.Proofs.YtgfbgfbnmiainaaW.PrintMore Go.Proofs.Ytgfbgfbnmiainaa.Q
theorem keeps_any (A0 : Option Addr) (c0 : Nat) (rels : List S33) (A1 : Option Addr) (c1 : Nat) (l : List S37) (La : Option Addr) (lc : Nat) (L : List (List Int)) (w : World) (hr0 : Kd.C k33 w A0 rels.length rels) (hc0 : rels.length ≤ c0) (hr1 : Kd.C k37 w A1 l.length l) (hc1 : l.length ≤ c1) (hL : kII.C w La L.length L) (hlc : L.length ≤ lc) :
    Calls Try.prog 7 #[.slice A0 rels.length c0, .slice A1 l.length c1, .slice La L.length lc] w (LawEnd w) := by
  obtain ⟨k1, b1, hf1, hb1⟩ := light_any l (C_len hr1)
  obtain ⟨k2, b2, hf2, hb2⟩ := lean_any rels (C_len hr0)
  cases b1 with
  | false => exact keeps_heavy1 A0 c0 rels A1 c1 l La lc L w hr0 hc0 hr1 hc1 hL hlc k1 hf1
  | true =>
    cases b2 with
    | false => exact keeps_heavy2 A0 c0 rels A1 c1 l La lc L w hr0 hc0 hr1 hc1 hL hlc k1 k2 hf1 hf2
    | true =>
      by_cases hne : L.length = l.length
      · obtain ⟨h50, hl100⟩ := hb1 rfl
        obtain ⟨hr110, hr10⟩ := hb2 rfl
        obtain ⟨out, code, ho, hfc⟩ := fix_all rels l (by omega) (by omega) (fun i hi => by have := hl100 i hi; omega) (fun i hi => by have := hr10 i hi; omega)
        have hcode : code = 2 ∨ code = 60 ∨ code = 0 := by
          rcases ho with ⟨_, _, h⟩ | ⟨_, _, h, _⟩ | ⟨_, h, _⟩
          · exact .inl h
          · exact .inr (.inl h)
          · exact .inr (.inr h)
        rcases hcode with rfl | rfl | rfl
        · exact keeps_arg A0 c0 rels A1 c1 l La lc L w hr0 hc0 hr1 hc1 hL hlc k1 k2 hf1 hf2 hne h50 hl100 hr110 hr10 out ho hfc
        · exact keeps_fail A0 c0 rels A1 c1 l La lc L w hr0 hc0 hr1 hc1 hL hlc k1 k2 hf1 hf2 hne h50 hl100 hr110 hr10 out ho hfc
        · exact keeps_ok A0 c0 rels A1 c1 l La lc L w hr0 hc0 hr1 hc1 hL hlc k1 k2 hf1 hf2 hne h50 hl100 hr110 hr10 out ho hfc
      · exact keeps_heavy3 A0 c0 rels A1 c1 l La lc L w hr0 hc0 hr1 hc1 hL hlc k1 k2 hf1 hf2 hne
end Go.Proofs.Ytgfbgfbnmiainaa.Fam
/-! What came in, read: numbers, texts, lists, structs. -/
namespace Go.Proofs.Ytgfbgfbnmiainaa.Fam
set_option linter.unusedVariables false
set_option linter.unusedSimpArgs false
open Go.RowKit Go.Proofs.YtgfbgfbnmiainaaW.PrintWords Go.Proofs.YtgfbgfbnmiainaaW.PrintLast Go.Proofs.YtgfbgfbnmiainaaW.PrintMore Go.Proofs.Ytgfbgfbnmiainaa.Q
section
variable {H : Type} {enc : TypeId × Value → H} {w : World} {base : Nat} {spare : Nat → Bool} {held : Bool} {fuel : Nat} {cs : List Value} {x : DataW H × List MemPlace}
theorem in_int {t : TypeId} {k : IntKind} (ht : Try.prog.underlying t = some (.int k)) (h : DataW.trod enc Try.prog w base spare held fuel t cs = some x) : ∃ n, cs = [.int k n] ∧ (Lit.int k n).wf = true := by
  cases fuel with
  | zero => simp [DataW.trod] at h
  | succ n =>
    unfold DataW.trod at h
    rw [ht] at h
    split at h <;> simp_all
theorem in_string {t : TypeId} (ht : Try.prog.underlying t = some .string) (h : DataW.trod enc Try.prog w base spare held fuel t cs = some x) : ∃ s, cs = [.string s] := by
  cases fuel with
  | zero => simp [DataW.trod] at h
  | succ n =>
    unfold DataW.trod at h
    rw [ht] at h
    split at h <;> simp_all
/-- A list of what can be read. -/
theorem in_slice {α : Type} (d : Kd α) {t e : TypeId} (ht : Try.prog.underlying t = some (.slice e)) (hc : Try.prog.cellsOf e = d.sz) (hd : ∀ (n : Nat) (cs : List Value) (y : DataW H × List MemPlace), DataW.trod enc Try.prog w base spare held n e cs = some y → ∃ p, d.K w p cs)
    (h : DataW.trod enc Try.prog w base spare held fuel t cs = some x) : ∃ (xs : List α) (A : Option Addr) (c : Nat), cs = [.slice A xs.length c] ∧ xs.length ≤ c ∧ d.C w A xs.length xs := by
  rcases DataW.trod_slice ht h with ⟨rfl, _⟩ | ⟨a, len, cap, elems, rest, n, _, rfl, _, hb, hl, hm, hlen, hel, _, _⟩
  · exact ⟨[], none, 0, rfl, Nat.le_refl _, rfl, by simp, fun h => absurd h (by simp)⟩
  · have each : ∀ i, i < len → ∃ (ci : List Value) (p : α), w.cells? base (a.add (i * d.sz)) d.sz = some ci ∧ d.K w p ci := by
      intro i hi
      have h1 := hel i hi
      rw [List.getElem?_eq_getElem (by omega), hc] at h1
      obtain ⟨ci, h2, h3⟩ := Option.bind_eq_some_iff.1 h1
      obtain ⟨p, hp⟩ := hd _ _ _ h3
      exact ⟨ci, p, h2, hp⟩
    have hex : ∃ xs : List α, xs.length = len ∧ ∀ i (hi : i < xs.length), ∃ ci, w.cells? base (a.add (i * d.sz)) d.sz = some ci ∧ d.K w xs[i] ci := by
      clear hel hlen
      have key : ∀ m, m ≤ len → ∃ xs : List α, xs.length = m ∧ ∀ i (hi : i < xs.length), ∃ ci, w.cells? base (a.add (i * d.sz)) d.sz = some ci ∧ d.K w xs[i] ci := by
        intro m
        induction m with
        | zero => exact fun _ => ⟨[], rfl, fun i hi => absurd hi (by simp)⟩
        | succ m ih =>
          intro hm'
          obtain ⟨xs, hxl, hx⟩ := ih (by omega)
          obtain ⟨ci, p, h1, h2⟩ := each m (by omega)
          refine ⟨xs ++ [p], by simp [hxl], fun i hi => ?_⟩
          rcases Nat.lt_or_ge i xs.length with hlt | hge
          · obtain ⟨cj, h3, h4⟩ := hx i hlt
            exact ⟨cj, h3, by rw [List.getElem_append_left hlt]; exact h4⟩
          · simp only [List.length_append, List.length_cons, List.length_nil] at hi
            obtain rfl : i = m := by omega
            exact ⟨ci, h1, by rw [List.getElem_append_right hge]; simpa [hxl] using h2⟩
      exact key len (Nat.le_refl _)
    obtain ⟨xs, hxl, hx⟩ := hex
    refine ⟨xs, some a, cap, by rw [hxl], by omega, rfl, by simp only [maxLen] at hm; omega, fun _ => ⟨a, rfl, fun j p hj => ?_⟩⟩
    obtain ⟨hj1, hj2⟩ := List.getElem?_eq_some_iff.1 hj
    obtain ⟨ci, h1, h2⟩ := hx j hj1
    rw [hj2] at h2
    refine ⟨ci, d.K_len h2, h2, fun i u hu => ?_⟩
    obtain ⟨hb1, hb2, hb3⟩ := World.cells?_some h1
    have hi : i < d.sz := by rw [← d.K_len h2]; exact (List.getElem?_eq_some_iff.1 hu).1
    rw [← Addr.add_add]
    exact (hb3 i hi).trans hu
theorem size9 : Try.prog.cellsOf 9 = 1 := by kernel_rfl
theorem size31 : Try.prog.cellsOf 31 = 1 := by kernel_rfl
theorem size3 : Try.prog.cellsOf 3 = 1 := by kernel_rfl
theorem size33 : Try.prog.cellsOf 33 = 3 := by kernel_rfl
theorem in_ints (h : DataW.trod enc Try.prog w base spare held fuel 31 cs = some x) : ∃ (xs : List Int) (A : Option Addr) (c : Nat), cs = [.slice A xs.length c] ∧ xs.length ≤ c ∧ (Kd.int .i64).C w A xs.length xs :=
  in_slice (Kd.int .i64) Try.underlying31 size3 (fun n cs y hy => by obtain ⟨m, rfl, _⟩ := in_int Try.underlying3 hy; exact ⟨m, rfl⟩) h
set_option maxRecDepth 100000 in
theorem in_33 (h : DataW.trod enc Try.prog w base spare held fuel 33 cs = some x) : ∃ p : S33, k33.K w p cs := by
  obtain ⟨xs, n, _, _, hl, hxl, hf⟩ := DataW.trod_struct Try.underlying33 h
  rw [size33] at hl
  have hg : ∀ i, i < 3 → ∃ y, xs[i]? = some y := fun i hi => ⟨_, List.getElem?_eq_getElem (by simp at hxl; omega)⟩
  match cs, hl with
  | [c0, c1, c2], _ =>
    obtain ⟨y0, e0⟩ := hg 0 (by decide)
    obtain ⟨y1, e1⟩ := hg 1 (by decide)
    obtain ⟨y2, e2⟩ := hg 2 (by decide)
    have h0 : DataW.trod enc Try.prog w base spare held n 9 (([c0, c1, c2].drop 0).take (Try.prog.cellsOf 9)) = some y0 := (hf 0 _ rfl).trans e0
    have h1 : DataW.trod enc Try.prog w base spare held n 31 (([c0, c1, c2].drop 1).take (Try.prog.cellsOf 31)) = some y1 := (hf 1 _ rfl).trans e1
    have h2 : DataW.trod enc Try.prog w base spare held n 3 (([c0, c1, c2].drop 2).take (Try.prog.cellsOf 3)) = some y2 := (hf 2 _ rfl).trans e2
    rw [size9] at h0
    rw [size31] at h1
    rw [size3] at h2
    obtain ⟨s, g0⟩ := in_string Try.underlying9 h0
    obtain ⟨vs, A, c, g1, hv, hC⟩ := in_ints h1
    obtain ⟨m, g2, _⟩ := in_int Try.underlying3 h2
    simp at g0 g1 g2
    subst g0 g1 g2
    exact ⟨⟨s, vs, m⟩, k33_mk w ⟨s, vs, m⟩ hv hC⟩
theorem in_lists (h : DataW.trod enc Try.prog w base spare held fuel 51 cs = some x) : ∃ (L : List (List Int)) (A : Option Addr) (c : Nat), cs = [.slice A L.length c] ∧ L.length ≤ c ∧ (Kd.slice 3 (Kd.int .i64)).C w A L.length L :=
  in_slice (Kd.slice 3 (Kd.int .i64)) Try.underlying51 size31 (fun n cs y hy => by obtain ⟨xs, A, c, rfl, hc, hC⟩ := in_ints hy; exact ⟨xs, A, c, rfl, hc, hC⟩) h
end
end Go.Proofs.Ytgfbgfbnmiainaa.Fam
/-! What came in, read: families, lists of families, lists of relations. -/
namespace Go.Proofs.Ytgfbgfbnmiainaa.Fam
set_option linter.unusedVariables false
set_option linter.unusedSimpArgs false
open Go.RowKit Go.Proofs.YtgfbgfbnmiainaaW.PrintWords Go.Proofs.YtgfbgfbnmiainaaW.PrintLast Go.Proofs.YtgfbgfbnmiainaaW.PrintMore Go.Proofs.Ytgfbgfbnmiainaa.Q
section
variable {H : Type} {enc : TypeId × Value → H} {w : World} {base : Nat} {spare : Nat → Bool} {held : Bool} {fuel : Nat} {cs : List Value} {x : DataW H × List MemPlace}
theorem size37 : Try.prog.cellsOf 37 = 4 := by kernel_rfl
set_option maxRecDepth 100000 in
theorem in_37 (h : DataW.trod enc Try.prog w base spare held fuel 37 cs = some x) : ∃ p : S37, k37.K w p cs := by
  obtain ⟨xs, n, _, _, hl, hxl, hf⟩ := DataW.trod_struct Try.underlying37 h
  rw [size37] at hl
  have hg : ∀ i, i < 4 → ∃ y, xs[i]? = some y := fun i hi => ⟨_, List.getElem?_eq_getElem (by simp at hxl; omega)⟩
  match cs, hl with
  | [c0, c1, c2, c3], _ =>
    obtain ⟨y0, e0⟩ := hg 0 (by decide)
    obtain ⟨y1, e1⟩ := hg 1 (by decide)
    obtain ⟨y2, e2⟩ := hg 2 (by decide)
    obtain ⟨y3, e3⟩ := hg 3 (by decide)
    have h0 : DataW.trod enc Try.prog w base spare held n 31 (([c0, c1, c2, c3].drop 0).take (Try.prog.cellsOf 31)) = some y0 := (hf 0 _ rfl).trans e0
    have h1 : DataW.trod enc Try.prog w base spare held n 31 (([c0, c1, c2, c3].drop 1).take (Try.prog.cellsOf 31)) = some y1 := (hf 1 _ rfl).trans e1
    have h2 : DataW.trod enc Try.prog w base spare held n 3 (([c0, c1, c2, c3].drop 2).take (Try.prog.cellsOf 3)) = some y2 := (hf 2 _ rfl).trans e2
    have h3 : DataW.trod enc Try.prog w base spare held n 3 (([c0, c1, c2, c3].drop 3).take (Try.prog.cellsOf 3)) = some y3 := (hf 3 _ rfl).trans e3
    rw [size31] at h0 h1
    rw [size3] at h2 h3
    obtain ⟨v0, A0, a0, g0, hv0, hC0⟩ := in_ints h0
    obtain ⟨v1, A1, a1, g1, hv1, hC1⟩ := in_ints h1
    obtain ⟨m2, g2, _⟩ := in_int Try.underlying3 h2
    obtain ⟨m3, g3, _⟩ := in_int Try.underlying3 h3
    simp at g0 g1 g2 g3
    subst g0 g1 g2 g3
    exact ⟨⟨v0, v1, m2, m3⟩, k37_mk w ⟨v0, v1, m2, m3⟩ hv0 hC0 hv1 hC1⟩
theorem in_fams (h : DataW.trod enc Try.prog w base spare held fuel 23 cs = some x) : ∃ (l : List S37) (A : Option Addr) (c : Nat), cs = [.slice A l.length c] ∧ l.length ≤ c ∧ Kd.C k37 w A l.length l :=
  in_slice k37 Try.underlying23 size37 (fun n cs y hy => in_37 hy) h
theorem in_rels (h : DataW.trod enc Try.prog w base spare held fuel 22 cs = some x) : ∃ (l : List S33) (A : Option Addr) (c : Nat), cs = [.slice A l.length c] ∧ l.length ≤ c ∧ Kd.C k33 w A l.length l :=
  in_slice k33 Try.underlying22 size33 (fun n cs y hy => in_33 hy) h
end
end Go.Proofs.Ytgfbgfbnmiainaa.Fam
