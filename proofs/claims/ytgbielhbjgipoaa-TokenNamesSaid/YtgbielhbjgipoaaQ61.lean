-- Walks of Go functions; written by own_print.py of this repo (see NOTES.md).
import Derived.Test.YtgbielhbjgipoaaQ0
import Derived.Test.YtgbielhbjgipoaaQ17
import Derived.Test.YtgbielhbjgipoaaQ18
import Derived.Test.YtgbielhbjgipoaaQ48
import Derived.Test.YtgbielhbjgipoaaQ49
import Derived.Test.YtgbielhbjgipoaaQ54
import Derived.Test.YtgbielhbjgipoaaQ56
import Derived.Test.YtgbielhbjgipoaaQ59
import Derived.Test.YtgbielhbjgipoaaQ60
namespace Go.Proofs.Ytgbielhbjgipoaa.Q
open Go.RowKit Go.Proofs.YtgbielhbjgipoaaW.PrintWords Go.Proofs.YtgbielhbjgipoaaW.PrintLast Go.Proofs.YtgbielhbjgipoaaW.PrintMore
attribute [local go_sem] Go.Proofs.YtgbielhbjgipoaaW.OwnWords.isSome_setCell max2_int min2_int max_two min_two max_three min_three max_four min_four   -- for this text's walks alone
set_option linter.unusedVariables false
set_option linter.unusedSimpArgs false

/-! ### manystrandlaw01_TokenNames: function 7 -/
def manystrandlaw01_TokenNames.j0 : Nat → ByteArray → ByteArray → Int → ByteArray → Int → Option (Bool)
 | 0, _, _, _, _, _ => none
 | k + 1, x0, x3, x4, x5, x6 => (token_IsVar.f k x0).bind fun t371 => ((manystrandref01_IsVar.f k x0).bind fun t372 => (if (t371 == t372) = true then ((token_IsPlain.f k x0).bind fun t373 => ((manystrandref01_IsPlain.f k x0).bind fun t374 => (if (t373 == t374) = true then (if x3.toList = x5.toList then (if x4 = x6 then ((manystrandlaw01_awake.f k).bind fun t375 => (some t375)) else (some false)) else (some false)) else (some false)))) else (some false)))
def manystrandlaw01_TokenNames.f (k : Nat) (a0 : ByteArray) : Option (Bool) := if (a0.size : Int) > 1000 then ((manystrandlaw01_awake.f k).bind fun t360 => (some t360)) else ((token_Quote.f k a0).bind fun bt361 => ((manystrandref01_Quote.f k a0).bind fun bt363 => (if bt361.2 = 0 then ((token_Tokens.f k bt361.1).bind fun bt365 => (if bt365.2 = 0 then (if (bt365.1.length : Int) = 1 then (if 0 < (bt365.1.length : Int) then (if ((rd_T29 bt365.1 0).f0).toList = ([97, 116, 111, 109] : List UInt8) then (if ((rd_T29 bt365.1 0).f1).toList = a0.toList then (manystrandlaw01_TokenNames.j0 k a0 bt361.1 bt361.2 bt363.1 bt363.2) else (some false)) else (some false)) else (none)) else (some false)) else (some false))) else (manystrandlaw01_TokenNames.j0 k a0 bt361.1 bt361.2 bt363.1 bt363.2))))
theorem manystrandlaw01_TokenNames.mono_l : ∀ k, (∀ y0 y1 y2 y3 y4, LeO (manystrandlaw01_TokenNames.j0 k y0 y1 y2 y3 y4) (manystrandlaw01_TokenNames.j0 (k + 1) y0 y1 y2 y3 y4))
 | 0 => fun _ _ _ _ _ r h => by simp [manystrandlaw01_TokenNames.j0] at h
 | k + 1 => by
  have ih0 := manystrandlaw01_TokenNames.mono_l k
  ·intro y0 y1 y2 y3 y4
   unfold manystrandlaw01_TokenNames.j0
   repeat' first
   | (with_reducible exact ih0 _ _ _ _ _)
   | (with_reducible exact manystrandlaw01_awake.mono _)
   | (with_reducible exact manystrandref01_IsPlain.mono _ _)
   | (with_reducible exact manystrandref01_IsVar.mono _ _)
   | (with_reducible exact manystrandref01_Quote.mono _ _)
   | (with_reducible exact token_IsPlain.mono _ _)
   | (with_reducible exact token_IsVar.mono _ _)
   | (with_reducible exact token_Quote.mono _ _)
   | (with_reducible exact token_Tokens.mono _ _)
   | (with_reducible exact LeO.refl _)
   | (with_reducible exact LeO.none _)
   | (with_reducible refine LeO.ite ?_ ?_)
   | (with_reducible refine LeO.bind ?_ (fun _ => ?_))
   | exact ih0 _ _ _ _ _
   | exact manystrandlaw01_awake.mono _
   | exact manystrandref01_IsPlain.mono _ _
   | exact manystrandref01_IsVar.mono _ _
   | exact manystrandref01_Quote.mono _ _
   | exact token_IsPlain.mono _ _
   | exact token_IsVar.mono _ _
   | exact token_Quote.mono _ _
   | exact token_Tokens.mono _ _
   | exact LeO.none _
   | refine LeO.ite ?_ ?_
   | refine LeO.bind ?_ (fun _ => ?_)
theorem manystrandlaw01_TokenNames.mono : ∀ a0 k, LeO (manystrandlaw01_TokenNames.f k a0) (manystrandlaw01_TokenNames.f (k + 1) a0) := by
 intro a0 k
 have ih0 := manystrandlaw01_TokenNames.mono_l k
 unfold manystrandlaw01_TokenNames.f
 repeat' first
   | (with_reducible exact ih0 _ _ _ _ _)
   | (with_reducible exact manystrandlaw01_awake.mono _)
   | (with_reducible exact manystrandref01_IsPlain.mono _ _)
   | (with_reducible exact manystrandref01_IsVar.mono _ _)
   | (with_reducible exact manystrandref01_Quote.mono _ _)
   | (with_reducible exact token_IsPlain.mono _ _)
   | (with_reducible exact token_IsVar.mono _ _)
   | (with_reducible exact token_Quote.mono _ _)
   | (with_reducible exact token_Tokens.mono _ _)
   | (with_reducible exact LeO.refl _)
   | (with_reducible exact LeO.none _)
   | (with_reducible refine LeO.ite ?_ ?_)
   | (with_reducible refine LeO.bind ?_ (fun _ => ?_))
   | exact ih0 _ _ _ _ _
   | exact manystrandlaw01_awake.mono _
   | exact manystrandref01_IsPlain.mono _ _
   | exact manystrandref01_IsVar.mono _ _
   | exact manystrandref01_Quote.mono _ _
   | exact token_IsPlain.mono _ _
   | exact token_IsVar.mono _ _
   | exact token_Quote.mono _ _
   | exact token_Tokens.mono _ _
   | exact LeO.none _
   | refine LeO.ite ?_ ?_
   | refine LeO.bind ?_ (fun _ => ?_)
set_option maxHeartbeats 8000000 in
set_option maxRecDepth 100000 in
theorem manystrandlaw01_TokenNames.calls (k : Nat) (a0 : ByteArray) (r : Bool) (w : World) (h : manystrandlaw01_TokenNames.f k a0 = some r) :
  Calls Try.prog 7 #[.string a0] w fun e w' => e = .returned (.bool r) ∧ Below w.heap.size w w' := by
 have HB := Aside0.mk (Below.refl w.heap.size w)
 have H : (if (a0.size : Int) > 1000 then ((manystrandlaw01_awake.f k).bind fun t360 => (some t360)) else ((token_Quote.f k a0).bind fun bt361 => ((manystrandref01_Quote.f k a0).bind fun bt363 => (if bt361.2 = 0 then ((token_Tokens.f k bt361.1).bind fun bt365 => (if bt365.2 = 0 then (if (bt365.1.length : Int) = 1 then (if 0 < (bt365.1.length : Int) then (if ((rd_T29 bt365.1 0).f0).toList = ([97, 116, 111, 109] : List UInt8) then (if ((rd_T29 bt365.1 0).f1).toList = a0.toList then (manystrandlaw01_TokenNames.j0 k a0 bt361.1 bt361.2 bt363.1 bt363.2) else (some false)) else (some false)) else (none)) else (some false)) else (some false))) else (manystrandlaw01_TokenNames.j0 k a0 bt361.1 bt361.2 bt363.1 bt363.2))))) = some r := h
 clear h
 by_cases c2 : (a0.size : Int) > 1000
 ·rw [if_pos c2] at H
  have c2b0 : decide (1000 < (a0.size : Int)) = true := decide_eq_true c2
  have c2b1 : decide (1000 < a0.size) = true := decide_eq_true (by omega)
  clear c2
  replace H := Option.bind_eq_some_iff.mp H
  obtain ⟨t360, A30, H⟩ := H
  replace H : (some t360) = some r := H
  have A3 := Aside0.mk A30
  clear A30
  obtain rfl := Option.some.inj H
  go_enter Try.func7, Try.ntmps7
  go_wp2_with (first | ((with_reducible refine gate_callee (f := 10) rfl ?_); refine goesL_ (some 12) rfl rfl Try.func10 (by kernel_rfl) rfl #[] rfl (by (try simp only [List.map_toArray, List.map_cons, List.map_nil]); first | done | rfl | (simp only [List.length_drop, List.length_take]; rfl)) ?_; (with_reducible refine (manystrandlaw01_awake.calls k  t360 _ A3.out).mono ?_); rintro e w4 ⟨rfl, hb⟩; refine ⟨_, rfl, ?_⟩; have n0_ := Aside0.mk (below_step (by repeat (first | (with_reducible first | exact HB.out | apply below_alloc | apply pw_below_drewN | apply below_drew1) | exact HB.out)) hb); clear HB; have HB := n0_; clear n0_; (try clear hb); (try clear hb2); (try clear hk); (try clear hi)))
  go_ret
  exact ⟨by first | rfl | (simp [errW_none, errW_some] <;> rfl) | (simp [*, errW_none, errW_some] <;> rfl) | (simp [errW_none, errW_some]; exact Go.Proofs.YtgbielhbjgipoaaW.OwnWords.isEmpty_bne _), by repeat (first | (with_reducible first | exact HB.out | apply below_alloc | apply pw_below_drewN | apply below_drew1) | exact HB.out)⟩
 ·rw [if_neg c2] at H
  have c2b0 : decide (1000 < (a0.size : Int)) = false := decide_eq_false c2
  have c2b1 : decide (1000 < a0.size) = false := decide_eq_false (by omega)
  clear c2
  replace H := Option.bind_eq_some_iff.mp H
  obtain ⟨⟨t361, t362⟩, A50, H⟩ := H
  replace H : ((manystrandref01_Quote.f k a0).bind fun bt363 => (if t362 = 0 then ((token_Tokens.f k t361).bind fun bt365 => (if bt365.2 = 0 then (if (bt365.1.length : Int) = 1 then (if 0 < (bt365.1.length : Int) then (if ((rd_T29 bt365.1 0).f0).toList = ([97, 116, 111, 109] : List UInt8) then (if ((rd_T29 bt365.1 0).f1).toList = a0.toList then (manystrandlaw01_TokenNames.j0 k a0 t361 t362 bt363.1 bt363.2) else (some false)) else (some false)) else (none)) else (some false)) else (some false))) else (manystrandlaw01_TokenNames.j0 k a0 t361 t362 bt363.1 bt363.2))) = some r := H
  have A5 := Aside0.mk A50
  clear A50
  replace H := Option.bind_eq_some_iff.mp H
  obtain ⟨⟨t363, t364⟩, A60, H⟩ := H
  replace H : (if t362 = 0 then ((token_Tokens.f k t361).bind fun bt365 => (if bt365.2 = 0 then (if (bt365.1.length : Int) = 1 then (if 0 < (bt365.1.length : Int) then (if ((rd_T29 bt365.1 0).f0).toList = ([97, 116, 111, 109] : List UInt8) then (if ((rd_T29 bt365.1 0).f1).toList = a0.toList then (manystrandlaw01_TokenNames.j0 k a0 t361 t362 t363 t364) else (some false)) else (some false)) else (none)) else (some false)) else (some false))) else (manystrandlaw01_TokenNames.j0 k a0 t361 t362 t363 t364)) = some r := H
  have A6 := Aside0.mk A60
  clear A60
  have HC7 := Aside0.mk H
  clear H
  go_enter Try.func7, Try.ntmps7
  go_upto_if 24 with (first | ((with_reducible refine gate_callee (f := 19) rfl ?_); refine goesL_ (some 15) rfl rfl Try.func19 (by kernel_rfl) rfl #[.string a0] rfl (by (try simp only [List.map_toArray, List.map_cons, List.map_nil]); first | done | rfl | (simp only [List.length_drop, List.length_take]; rfl)) ?_; (with_reducible refine (token_Quote.calls k a0 t361 t362 _ A5.out).mono ?_); rintro e w8 ⟨rfl, hb⟩; refine ⟨_, rfl, ?_⟩; have n0_ := Aside0.mk (below_step (by repeat (first | (with_reducible first | exact HB.out | apply below_alloc | apply pw_below_drewN | apply below_drew1) | exact HB.out)) hb); clear HB; have HB := n0_; clear n0_; (try clear hb); (try clear hb2); (try clear hk); (try clear hi)) | ((with_reducible refine gate_callee (f := 20) rfl ?_); refine goesL_ (some 20) rfl rfl Try.func20 (by kernel_rfl) rfl #[.string a0] rfl (by (try simp only [List.map_toArray, List.map_cons, List.map_nil]); first | done | rfl | (simp only [List.length_drop, List.length_take]; rfl)) ?_; (with_reducible refine (manystrandref01_Quote.calls k a0 t363 t364 _ A6.out).mono ?_); rintro e w' ⟨rfl, ⟨nd, rfl⟩⟩; refine ⟨_, rfl, ?_⟩))
  (try simp only [Act.put, List.setIfInBounds_toArray, List.set_cons_zero, List.set_cons_succ])
  go_cut [] (fun wc => ∃ (kq : Nat), Aside0 (manystrandlaw01_TokenNames.j0 kq a0 t361 t362 t363 t364 = some r) ∧ Aside0 (kq ≤ k) ∧ Aside0 (Below w.heap.size w wc))
  case first =>
   have H := HC7.out
   clear HC7
   by_cases c9 : t362 = 0
   ·rw [if_pos c9] at H
    have c9b0 : (t362 == 0) = true := beq_iff_eq.mpr c9
    have c9b1 : (t362 != 0) = false := bne_eq_false_iff_eq.mpr c9
    clear c9
    (first | rw [c9b0] | (simp only [i64_w, i32_w]; rw [c9b0]) | skip)
    replace H := Option.bind_eq_some_iff.mp H
    obtain ⟨⟨t365, t366⟩, A100, H⟩ := H
    replace H : (if t366 = 0 then (if (t365.length : Int) = 1 then (if 0 < (t365.length : Int) then (if ((rd_T29 t365 0).f0).toList = ([97, 116, 111, 109] : List UInt8) then (if ((rd_T29 t365 0).f1).toList = a0.toList then (manystrandlaw01_TokenNames.j0 k a0 t361 t362 t363 t364) else (some false)) else (some false)) else (none)) else (some false)) else (some false)) = some r := H
    have A10 := Aside0.mk A100
    clear A100
    by_cases c11 : t366 = 0
    ·rw [if_pos c11] at H
     have c11b0 : (t366 == 0) = true := beq_iff_eq.mpr c11
     have c11b1 : (t366 != 0) = false := bne_eq_false_iff_eq.mpr c11
     clear c11
     by_cases c12 : (t365.length : Int) = 1
     ·rw [if_pos c12] at H
      have c12b0 : ((t365.length : Int) == 1) = true := beq_iff_eq.mpr c12
      have c12b1 : ((t365.length : Int) != 1) = false := bne_eq_false_iff_eq.mpr c12
      clear c12
      by_cases c13 : 0 < (t365.length : Int)
      ·rw [if_pos c13] at H
       have c13b0 : decide (0 < (t365.length : Int)) = true := decide_eq_true c13
       have c13b1 : decide (0 < t365.length) = true := decide_eq_true (by omega)
       clear c13
       by_cases c14 : ((rd_T29 t365 0).f0).toList = ([97, 116, 111, 109] : List UInt8)
       ·rw [if_pos c14] at H
        have c14b0 : (((rd_T29 t365 0).f0).toList == ([97, 116, 111, 109] : List UInt8)) = true := beq_iff_eq.mpr c14
        have c14b1 : (((rd_T29 t365 0).f0).toList != ([97, 116, 111, 109] : List UInt8)) = false := bne_eq_false_iff_eq.mpr c14
        clear c14
        by_cases c15 : ((rd_T29 t365 0).f1).toList = a0.toList
        ·rw [if_pos c15] at H
         have c15b0 : (((rd_T29 t365 0).f1).toList == a0.toList) = true := beq_iff_eq.mpr c15
         have c15b1 : (((rd_T29 t365 0).f1).toList != a0.toList) = false := bne_eq_false_iff_eq.mpr c15
         clear c15
         have H' := Aside0.mk H
         clear H
         go_wp2_with (first | ((with_reducible refine gate_callee (f := 9) rfl ?_); refine goesL_ (some 27) rfl rfl Try.func9 (by kernel_rfl) rfl #[.string t361] rfl (by (try simp only [List.map_toArray, List.map_cons, List.map_nil]); first | done | rfl | (simp only [List.length_drop, List.length_take]; rfl)) ?_; (with_reducible refine (token_Tokens.calls k t361 t365 t366 _ A10.out).mono ?_); rintro e w16 ⟨v367, rfl, ho0, hb⟩; refine ⟨_, rfl, ?_⟩; have n0_ := Aside0.mk (Kd.R_lower ho0 (below_size (by repeat (first | (with_reducible first | exact HB.out | apply below_alloc | apply pw_below_drewN | apply below_drew1) | exact HB.out)))); have n1_ := Aside0.mk (below_step (by repeat (first | (with_reducible first | exact HB.out | apply below_alloc | apply pw_below_drewN | apply below_drew1) | exact HB.out)) hb); clear HB; have HO368 := n0_; have HB := n1_; clear n0_ n1_; (try clear hb); (try clear hb2); (try clear hk); (try clear hi); (try clear ho0); obtain ⟨Ao17, co17, eo17⟩ := Kd.R_slice HO368.out; subst eo17; have p369 : 0 ≤ (0 : Int) := (by omega); have q369 : 0 < (t365.length : Int) := of_decide_eq_true (by first | (with_reducible assumption) | assumption); obtain ⟨ad369, e369, hx369_0, hx369_1, hx369_2⟩ := at_T29 (Kd.R_reads' HO368.out).2.2 0 p369 q369; cases e369; have qi369 : (0 < t365.length) = True := eq_true (by omega); (try rw [show ((0 : Int)).toNat = 0 from rfl] at hx369_0); (try rw [show 0 * 3 = 0 from rfl] at hx369_0); (try rw [Addr.add_zero'] at hx369_0); (try rw [show ((0 : Int)).toNat = 0 from rfl] at hx369_1); (try rw [show 0 * 3 = 0 from rfl] at hx369_1); (try rw [Addr.add_zero'] at hx369_1); (try rw [show ((0 : Int)).toNat = 0 from rfl] at hx369_2); (try rw [show 0 * 3 = 0 from rfl] at hx369_2); (try rw [Addr.add_zero'] at hx369_2); replace p369 := eq_true p369; replace q369 := eq_true q369; have p370 : 0 ≤ (0 : Int) := (by omega); have q370 : 0 < (t365.length : Int) := of_decide_eq_true (by first | (with_reducible assumption) | assumption); obtain ⟨ad370, e370, hx370_0, hx370_1, hx370_2⟩ := at_T29 (Kd.R_reads' HO368.out).2.2 0 p370 q370; obtain rfl : ad369 = ad370 := (by injection e370); have qi370 : (0 < t365.length) = True := eq_true (by omega); (try rw [show ((0 : Int)).toNat = 0 from rfl] at hx370_0); (try rw [show 0 * 3 = 0 from rfl] at hx370_0); (try rw [Addr.add_zero'] at hx370_0); (try rw [show ((0 : Int)).toNat = 0 from rfl] at hx370_1); (try rw [show 0 * 3 = 0 from rfl] at hx370_1); (try rw [Addr.add_zero'] at hx370_1); (try rw [show ((0 : Int)).toNat = 0 from rfl] at hx370_2); (try rw [show 0 * 3 = 0 from rfl] at hx370_2); (try rw [Addr.add_zero'] at hx370_2); replace p370 := eq_true p370; replace q370 := eq_true q370))
         go_meet
         case rel => exact ⟨_, H', ⟨by first | omega | exact Nat.le_refl _⟩, ⟨by repeat (first | (with_reducible first | exact HB.out | apply below_alloc | apply pw_below_drewN | apply below_drew1) | exact HB.out)⟩⟩
        ·rw [if_neg c15] at H
         have c15b0 : (((rd_T29 t365 0).f1).toList == a0.toList) = false := beq_eq_false_iff_ne.mpr c15
         have c15b1 : (((rd_T29 t365 0).f1).toList != a0.toList) = true := bne_iff_ne.mpr c15
         obtain rfl := Option.some.inj H
         go_wp2_with (first | ((with_reducible refine gate_callee (f := 9) rfl ?_); refine goesL_ (some 27) rfl rfl Try.func9 (by kernel_rfl) rfl #[.string t361] rfl (by (try simp only [List.map_toArray, List.map_cons, List.map_nil]); first | done | rfl | (simp only [List.length_drop, List.length_take]; rfl)) ?_; (with_reducible refine (token_Tokens.calls k t361 t365 t366 _ A10.out).mono ?_); rintro e w18 ⟨v367, rfl, ho0, hb⟩; refine ⟨_, rfl, ?_⟩; have n0_ := Aside0.mk (Kd.R_lower ho0 (below_size (by repeat (first | (with_reducible first | exact HB.out | apply below_alloc | apply pw_below_drewN | apply below_drew1) | exact HB.out)))); have n1_ := Aside0.mk (below_step (by repeat (first | (with_reducible first | exact HB.out | apply below_alloc | apply pw_below_drewN | apply below_drew1) | exact HB.out)) hb); clear HB; have HO368 := n0_; have HB := n1_; clear n0_ n1_; (try clear hb); (try clear hb2); (try clear hk); (try clear hi); (try clear ho0); obtain ⟨Ao19, co19, eo19⟩ := Kd.R_slice HO368.out; subst eo19; have p369 : 0 ≤ (0 : Int) := (by omega); have q369 : 0 < (t365.length : Int) := of_decide_eq_true (by first | (with_reducible assumption) | assumption); obtain ⟨ad369, e369, hx369_0, hx369_1, hx369_2⟩ := at_T29 (Kd.R_reads' HO368.out).2.2 0 p369 q369; cases e369; have qi369 : (0 < t365.length) = True := eq_true (by omega); (try rw [show ((0 : Int)).toNat = 0 from rfl] at hx369_0); (try rw [show 0 * 3 = 0 from rfl] at hx369_0); (try rw [Addr.add_zero'] at hx369_0); (try rw [show ((0 : Int)).toNat = 0 from rfl] at hx369_1); (try rw [show 0 * 3 = 0 from rfl] at hx369_1); (try rw [Addr.add_zero'] at hx369_1); (try rw [show ((0 : Int)).toNat = 0 from rfl] at hx369_2); (try rw [show 0 * 3 = 0 from rfl] at hx369_2); (try rw [Addr.add_zero'] at hx369_2); replace p369 := eq_true p369; replace q369 := eq_true q369; have p370 : 0 ≤ (0 : Int) := (by omega); have q370 : 0 < (t365.length : Int) := of_decide_eq_true (by first | (with_reducible assumption) | assumption); obtain ⟨ad370, e370, hx370_0, hx370_1, hx370_2⟩ := at_T29 (Kd.R_reads' HO368.out).2.2 0 p370 q370; obtain rfl : ad369 = ad370 := (by injection e370); have qi370 : (0 < t365.length) = True := eq_true (by omega); (try rw [show ((0 : Int)).toNat = 0 from rfl] at hx370_0); (try rw [show 0 * 3 = 0 from rfl] at hx370_0); (try rw [Addr.add_zero'] at hx370_0); (try rw [show ((0 : Int)).toNat = 0 from rfl] at hx370_1); (try rw [show 0 * 3 = 0 from rfl] at hx370_1); (try rw [Addr.add_zero'] at hx370_1); (try rw [show ((0 : Int)).toNat = 0 from rfl] at hx370_2); (try rw [show 0 * 3 = 0 from rfl] at hx370_2); (try rw [Addr.add_zero'] at hx370_2); replace p370 := eq_true p370; replace q370 := eq_true q370))
         go_ret
         exact ⟨by first | rfl | (simp [errW_none, errW_some] <;> rfl) | (simp [*, errW_none, errW_some] <;> rfl) | (simp [errW_none, errW_some]; exact Go.Proofs.YtgbielhbjgipoaaW.OwnWords.isEmpty_bne _), by repeat (first | (with_reducible first | exact HB.out | apply below_alloc | apply pw_below_drewN | apply below_drew1) | exact HB.out)⟩
       ·rw [if_neg c14] at H
        have c14b0 : (((rd_T29 t365 0).f0).toList == ([97, 116, 111, 109] : List UInt8)) = false := beq_eq_false_iff_ne.mpr c14
        have c14b1 : (((rd_T29 t365 0).f0).toList != ([97, 116, 111, 109] : List UInt8)) = true := bne_iff_ne.mpr c14
        obtain rfl := Option.some.inj H
        go_wp2_with (first | ((with_reducible refine gate_callee (f := 9) rfl ?_); refine goesL_ (some 27) rfl rfl Try.func9 (by kernel_rfl) rfl #[.string t361] rfl (by (try simp only [List.map_toArray, List.map_cons, List.map_nil]); first | done | rfl | (simp only [List.length_drop, List.length_take]; rfl)) ?_; (with_reducible refine (token_Tokens.calls k t361 t365 t366 _ A10.out).mono ?_); rintro e w20 ⟨v367, rfl, ho0, hb⟩; refine ⟨_, rfl, ?_⟩; have n0_ := Aside0.mk (Kd.R_lower ho0 (below_size (by repeat (first | (with_reducible first | exact HB.out | apply below_alloc | apply pw_below_drewN | apply below_drew1) | exact HB.out)))); have n1_ := Aside0.mk (below_step (by repeat (first | (with_reducible first | exact HB.out | apply below_alloc | apply pw_below_drewN | apply below_drew1) | exact HB.out)) hb); clear HB; have HO368 := n0_; have HB := n1_; clear n0_ n1_; (try clear hb); (try clear hb2); (try clear hk); (try clear hi); (try clear ho0); obtain ⟨Ao21, co21, eo21⟩ := Kd.R_slice HO368.out; subst eo21; have p369 : 0 ≤ (0 : Int) := (by omega); have q369 : 0 < (t365.length : Int) := of_decide_eq_true (by first | (with_reducible assumption) | assumption); obtain ⟨ad369, e369, hx369_0, hx369_1, hx369_2⟩ := at_T29 (Kd.R_reads' HO368.out).2.2 0 p369 q369; cases e369; have qi369 : (0 < t365.length) = True := eq_true (by omega); (try rw [show ((0 : Int)).toNat = 0 from rfl] at hx369_0); (try rw [show 0 * 3 = 0 from rfl] at hx369_0); (try rw [Addr.add_zero'] at hx369_0); (try rw [show ((0 : Int)).toNat = 0 from rfl] at hx369_1); (try rw [show 0 * 3 = 0 from rfl] at hx369_1); (try rw [Addr.add_zero'] at hx369_1); (try rw [show ((0 : Int)).toNat = 0 from rfl] at hx369_2); (try rw [show 0 * 3 = 0 from rfl] at hx369_2); (try rw [Addr.add_zero'] at hx369_2); replace p369 := eq_true p369; replace q369 := eq_true q369))
        go_ret
        exact ⟨by first | rfl | (simp [errW_none, errW_some] <;> rfl) | (simp [*, errW_none, errW_some] <;> rfl) | (simp [errW_none, errW_some]; exact Go.Proofs.YtgbielhbjgipoaaW.OwnWords.isEmpty_bne _), by repeat (first | (with_reducible first | exact HB.out | apply below_alloc | apply pw_below_drewN | apply below_drew1) | exact HB.out)⟩
      ·rw [if_neg c13] at H
       exact absurd H (by simp)
     ·rw [if_neg c12] at H
      have c12b0 : ((t365.length : Int) == 1) = false := beq_eq_false_iff_ne.mpr c12
      have c12b1 : ((t365.length : Int) != 1) = true := bne_iff_ne.mpr c12
      obtain rfl := Option.some.inj H
      go_wp2_with (first | ((with_reducible refine gate_callee (f := 9) rfl ?_); refine goesL_ (some 27) rfl rfl Try.func9 (by kernel_rfl) rfl #[.string t361] rfl (by (try simp only [List.map_toArray, List.map_cons, List.map_nil]); first | done | rfl | (simp only [List.length_drop, List.length_take]; rfl)) ?_; (with_reducible refine (token_Tokens.calls k t361 t365 t366 _ A10.out).mono ?_); rintro e w22 ⟨v367, rfl, ho0, hb⟩; refine ⟨_, rfl, ?_⟩; have n0_ := Aside0.mk (Kd.R_lower ho0 (below_size (by repeat (first | (with_reducible first | exact HB.out | apply below_alloc | apply pw_below_drewN | apply below_drew1) | exact HB.out)))); have n1_ := Aside0.mk (below_step (by repeat (first | (with_reducible first | exact HB.out | apply below_alloc | apply pw_below_drewN | apply below_drew1) | exact HB.out)) hb); clear HB; have HO368 := n0_; have HB := n1_; clear n0_ n1_; (try clear hb); (try clear hb2); (try clear hk); (try clear hi); (try clear ho0); obtain ⟨Ao23, co23, eo23⟩ := Kd.R_slice HO368.out; subst eo23))
      go_ret
      exact ⟨by first | rfl | (simp [errW_none, errW_some] <;> rfl) | (simp [*, errW_none, errW_some] <;> rfl) | (simp [errW_none, errW_some]; exact Go.Proofs.YtgbielhbjgipoaaW.OwnWords.isEmpty_bne _), by repeat (first | (with_reducible first | exact HB.out | apply below_alloc | apply pw_below_drewN | apply below_drew1) | exact HB.out)⟩
    ·rw [if_neg c11] at H
     have c11b0 : (t366 == 0) = false := beq_eq_false_iff_ne.mpr c11
     have c11b1 : (t366 != 0) = true := bne_iff_ne.mpr c11
     obtain rfl := Option.some.inj H
     go_wp2_with (first | ((with_reducible refine gate_callee (f := 9) rfl ?_); refine goesL_ (some 27) rfl rfl Try.func9 (by kernel_rfl) rfl #[.string t361] rfl (by (try simp only [List.map_toArray, List.map_cons, List.map_nil]); first | done | rfl | (simp only [List.length_drop, List.length_take]; rfl)) ?_; (with_reducible refine (token_Tokens.calls k t361 t365 t366 _ A10.out).mono ?_); rintro e w24 ⟨v367, rfl, ho0, hb⟩; refine ⟨_, rfl, ?_⟩; have n0_ := Aside0.mk (Kd.R_lower ho0 (below_size (by repeat (first | (with_reducible first | exact HB.out | apply below_alloc | apply pw_below_drewN | apply below_drew1) | exact HB.out)))); have n1_ := Aside0.mk (below_step (by repeat (first | (with_reducible first | exact HB.out | apply below_alloc | apply pw_below_drewN | apply below_drew1) | exact HB.out)) hb); clear HB; have HO368 := n0_; have HB := n1_; clear n0_ n1_; (try clear hb); (try clear hb2); (try clear hk); (try clear hi); (try clear ho0)))
     go_ret
     exact ⟨by first | rfl | (simp [errW_none, errW_some] <;> rfl) | (simp [*, errW_none, errW_some] <;> rfl) | (simp [errW_none, errW_some]; exact Go.Proofs.YtgbielhbjgipoaaW.OwnWords.isEmpty_bne _), by repeat (first | (with_reducible first | exact HB.out | apply below_alloc | apply pw_below_drewN | apply below_drew1) | exact HB.out)⟩
   ·rw [if_neg c9] at H
    have c9b0 : (t362 == 0) = false := beq_eq_false_iff_ne.mpr c9
    have c9b1 : (t362 != 0) = true := bne_iff_ne.mpr c9
    (first | rw [c9b0] | (simp only [i64_w, i32_w]; rw [c9b0]) | skip)
    have H' := Aside0.mk H
    clear H
    go_wp2
    go_meet
    case rel => exact ⟨_, H', ⟨by first | omega | exact Nat.le_refl _⟩, ⟨by repeat (first | (with_reducible first | exact HB.out | apply below_alloc | apply pw_below_drewN | apply below_drew1) | exact HB.out)⟩⟩
  case rest =>
   clear HC7
   try clear c1
   try clear c2
   try clear c2b0
   try clear c2b1
   try clear p2
   try clear p3
   try clear q3
   try clear hx3
   try clear qi3
   try clear c7
   try clear c9
   try clear c9b0
   try clear c9b1
   try clear c10
   try clear c11
   try clear c11b0
   try clear c11b1
   try clear c12
   try clear c12b0
   try clear c12b1
   try clear c13
   try clear c13b0
   try clear c13b1
   try clear c14
   try clear c14b0
   try clear c14b1
   try clear c15
   try clear c15b0
   try clear c15b1
   try clear c19
   try clear c20
   try clear hx369_0
   try clear hx369_1
   try clear hx369_2
   try clear hx370_0
   try clear hx370_1
   try clear hx370_2
   try clear p369
   try clear p370
   try clear q369
   try clear q370
   obtain ⟨kq, HA, HJ6, HB⟩ := hcut
   cases kq with
   | zero => exact absurd HA.out (by simp [manystrandlaw01_TokenNames.j0])
   | succ kj6 =>
    have H := HA.out
    clear HA
    simp only [manystrandlaw01_TokenNames.j0] at H
    replace H := Option.bind_eq_some_iff.mp H
    obtain ⟨t371, A250, H⟩ := H
    replace H : ((manystrandref01_IsVar.f kj6 a0).bind fun t372 => (if (t371 == t372) = true then ((token_IsPlain.f kj6 a0).bind fun t373 => ((manystrandref01_IsPlain.f kj6 a0).bind fun t374 => (if (t373 == t374) = true then (if t361.toList = t363.toList then (if t362 = t364 then ((manystrandlaw01_awake.f kj6).bind fun t375 => (some t375)) else (some false)) else (some false)) else (some false)))) else (some false))) = some r := H
    have A25 := Aside0.mk A250
    clear A250
    replace H := Option.bind_eq_some_iff.mp H
    obtain ⟨t372, A260, H⟩ := H
    replace H : (if (t371 == t372) = true then ((token_IsPlain.f kj6 a0).bind fun t373 => ((manystrandref01_IsPlain.f kj6 a0).bind fun t374 => (if (t373 == t374) = true then (if t361.toList = t363.toList then (if t362 = t364 then ((manystrandlaw01_awake.f kj6).bind fun t375 => (some t375)) else (some false)) else (some false)) else (some false)))) else (some false)) = some r := H
    have A26 := Aside0.mk A260
    clear A260
    by_cases c27 : (t371 == t372) = true
    ·rw [if_pos c27] at H
     have c27b0 : (t371 == t372) = true := c27
     (try (have c27b1 : decide (t371 = t372) = true := by simpa using c27))
     (try (have c27b2 : (t371 == t372) = true := by simpa using c27))
     clear c27
     replace H := Option.bind_eq_some_iff.mp H
     obtain ⟨t373, A280, H⟩ := H
     replace H : ((manystrandref01_IsPlain.f kj6 a0).bind fun t374 => (if (t373 == t374) = true then (if t361.toList = t363.toList then (if t362 = t364 then ((manystrandlaw01_awake.f kj6).bind fun t375 => (some t375)) else (some false)) else (some false)) else (some false))) = some r := H
     have A28 := Aside0.mk A280
     clear A280
     replace H := Option.bind_eq_some_iff.mp H
     obtain ⟨t374, A290, H⟩ := H
     replace H : (if (t373 == t374) = true then (if t361.toList = t363.toList then (if t362 = t364 then ((manystrandlaw01_awake.f kj6).bind fun t375 => (some t375)) else (some false)) else (some false)) else (some false)) = some r := H
     have A29 := Aside0.mk A290
     clear A290
     by_cases c30 : (t373 == t374) = true
     ·rw [if_pos c30] at H
      have c30b0 : (t373 == t374) = true := c30
      (try (have c30b1 : decide (t373 = t374) = true := by simpa using c30))
      (try (have c30b2 : (t373 == t374) = true := by simpa using c30))
      clear c30
      by_cases c31 : t361.toList = t363.toList
      ·rw [if_pos c31] at H
       have c31b0 : (t361.toList == t363.toList) = true := beq_iff_eq.mpr c31
       have c31b1 : (t361.toList != t363.toList) = false := bne_eq_false_iff_eq.mpr c31
       clear c31
       by_cases c32 : t362 = t364
       ·rw [if_pos c32] at H
        have c32b0 : (t362 == t364) = true := beq_iff_eq.mpr c32
        have c32b1 : (t362 != t364) = false := bne_eq_false_iff_eq.mpr c32
        clear c32
        replace H := Option.bind_eq_some_iff.mp H
        obtain ⟨t375, A330, H⟩ := H
        replace H : (some t375) = some r := H
        have A33 := Aside0.mk A330
        clear A330
        obtain rfl := Option.some.inj H
        go_wp2_with (first | ((with_reducible refine gate_callee (f := 21) rfl ?_); refine goesL_ (some 53) rfl rfl Try.func21 (by kernel_rfl) rfl #[.string a0] rfl (by (try simp only [List.map_toArray, List.map_cons, List.map_nil]); first | done | rfl | (simp only [List.length_drop, List.length_take]; rfl)) ?_; (with_reducible refine (token_IsVar.calls kj6 a0 t371 _ A25.out).mono ?_); rintro e w' ⟨rfl, ⟨nd, rfl⟩⟩; refine ⟨_, rfl, ?_⟩) | ((with_reducible refine gate_callee (f := 22) rfl ?_); refine goesL_ (some 55) rfl rfl Try.func22 (by kernel_rfl) rfl #[.string a0] rfl (by (try simp only [List.map_toArray, List.map_cons, List.map_nil]); first | done | rfl | (simp only [List.length_drop, List.length_take]; rfl)) ?_; (with_reducible refine (manystrandref01_IsVar.calls kj6 a0 t372 _ A26.out).mono ?_); rintro e w' ⟨rfl, ⟨nd, rfl⟩⟩; refine ⟨_, rfl, ?_⟩) | (go_at_call 23; (with_reducible refine (token_IsPlain.calls kj6 a0 t373 _ A28.out).mono ?_); rintro e w' ⟨rfl, ⟨nd, rfl⟩⟩) | (go_at_call 24; (with_reducible refine (manystrandref01_IsPlain.calls kj6 a0 t374 _ A29.out).mono ?_); rintro e w' ⟨rfl, ⟨nd, rfl⟩⟩) | (go_at_call 10; (with_reducible refine (manystrandlaw01_awake.calls kj6  t375 _ A33.out).mono ?_); rintro e w34 ⟨rfl, hb⟩; have n0_ := Aside0.mk (below_step (by repeat (first | (with_reducible first | exact HB.out | apply below_alloc | apply pw_below_drewN | apply below_drew1) | exact HB.out)) hb); clear HB; have HB := n0_; clear n0_; (try clear hb); (try clear hb2); (try clear hk); (try clear hi)))
        go_ret
        exact ⟨by first | rfl | (simp [errW_none, errW_some] <;> rfl) | (simp [*, errW_none, errW_some] <;> rfl) | (simp [errW_none, errW_some]; exact Go.Proofs.YtgbielhbjgipoaaW.OwnWords.isEmpty_bne _), by repeat (first | (with_reducible first | exact HB.out | apply below_alloc | apply pw_below_drewN | apply below_drew1) | exact HB.out)⟩
       ·rw [if_neg c32] at H
        have c32b0 : (t362 == t364) = false := beq_eq_false_iff_ne.mpr c32
        have c32b1 : (t362 != t364) = true := bne_iff_ne.mpr c32
        obtain rfl := Option.some.inj H
        go_wp2_with (first | ((with_reducible refine gate_callee (f := 21) rfl ?_); refine goesL_ (some 53) rfl rfl Try.func21 (by kernel_rfl) rfl #[.string a0] rfl (by (try simp only [List.map_toArray, List.map_cons, List.map_nil]); first | done | rfl | (simp only [List.length_drop, List.length_take]; rfl)) ?_; (with_reducible refine (token_IsVar.calls kj6 a0 t371 _ A25.out).mono ?_); rintro e w' ⟨rfl, ⟨nd, rfl⟩⟩; refine ⟨_, rfl, ?_⟩) | ((with_reducible refine gate_callee (f := 22) rfl ?_); refine goesL_ (some 55) rfl rfl Try.func22 (by kernel_rfl) rfl #[.string a0] rfl (by (try simp only [List.map_toArray, List.map_cons, List.map_nil]); first | done | rfl | (simp only [List.length_drop, List.length_take]; rfl)) ?_; (with_reducible refine (manystrandref01_IsVar.calls kj6 a0 t372 _ A26.out).mono ?_); rintro e w' ⟨rfl, ⟨nd, rfl⟩⟩; refine ⟨_, rfl, ?_⟩) | (go_at_call 23; (with_reducible refine (token_IsPlain.calls kj6 a0 t373 _ A28.out).mono ?_); rintro e w' ⟨rfl, ⟨nd, rfl⟩⟩) | (go_at_call 24; (with_reducible refine (manystrandref01_IsPlain.calls kj6 a0 t374 _ A29.out).mono ?_); rintro e w' ⟨rfl, ⟨nd, rfl⟩⟩))
        go_ret
        exact ⟨by first | rfl | (simp [errW_none, errW_some] <;> rfl) | (simp [*, errW_none, errW_some] <;> rfl) | (simp [errW_none, errW_some]; exact Go.Proofs.YtgbielhbjgipoaaW.OwnWords.isEmpty_bne _), by repeat (first | (with_reducible first | exact HB.out | apply below_alloc | apply pw_below_drewN | apply below_drew1) | exact HB.out)⟩
      ·rw [if_neg c31] at H
       have c31b0 : (t361.toList == t363.toList) = false := beq_eq_false_iff_ne.mpr c31
       have c31b1 : (t361.toList != t363.toList) = true := bne_iff_ne.mpr c31
       obtain rfl := Option.some.inj H
       go_wp2_with (first | ((with_reducible refine gate_callee (f := 21) rfl ?_); refine goesL_ (some 53) rfl rfl Try.func21 (by kernel_rfl) rfl #[.string a0] rfl (by (try simp only [List.map_toArray, List.map_cons, List.map_nil]); first | done | rfl | (simp only [List.length_drop, List.length_take]; rfl)) ?_; (with_reducible refine (token_IsVar.calls kj6 a0 t371 _ A25.out).mono ?_); rintro e w' ⟨rfl, ⟨nd, rfl⟩⟩; refine ⟨_, rfl, ?_⟩) | ((with_reducible refine gate_callee (f := 22) rfl ?_); refine goesL_ (some 55) rfl rfl Try.func22 (by kernel_rfl) rfl #[.string a0] rfl (by (try simp only [List.map_toArray, List.map_cons, List.map_nil]); first | done | rfl | (simp only [List.length_drop, List.length_take]; rfl)) ?_; (with_reducible refine (manystrandref01_IsVar.calls kj6 a0 t372 _ A26.out).mono ?_); rintro e w' ⟨rfl, ⟨nd, rfl⟩⟩; refine ⟨_, rfl, ?_⟩) | (go_at_call 23; (with_reducible refine (token_IsPlain.calls kj6 a0 t373 _ A28.out).mono ?_); rintro e w' ⟨rfl, ⟨nd, rfl⟩⟩) | (go_at_call 24; (with_reducible refine (manystrandref01_IsPlain.calls kj6 a0 t374 _ A29.out).mono ?_); rintro e w' ⟨rfl, ⟨nd, rfl⟩⟩))
       go_ret
       exact ⟨by first | rfl | (simp [errW_none, errW_some] <;> rfl) | (simp [*, errW_none, errW_some] <;> rfl) | (simp [errW_none, errW_some]; exact Go.Proofs.YtgbielhbjgipoaaW.OwnWords.isEmpty_bne _), by repeat (first | (with_reducible first | exact HB.out | apply below_alloc | apply pw_below_drewN | apply below_drew1) | exact HB.out)⟩
     ·rw [if_neg c30] at H
      have c30b0 : (t373 == t374) = false := by simpa using c30
      (try (have c30b1 : decide (t373 = t374) = false := by simpa using c30))
      (try (have c30b2 : (t373 == t374) = false := by simpa using c30))
      (try (have c30b3 : ¬ (t373 = t374) := by simpa using c30))
      clear c30
      obtain rfl := Option.some.inj H
      go_wp2_with (first | ((with_reducible refine gate_callee (f := 21) rfl ?_); refine goesL_ (some 53) rfl rfl Try.func21 (by kernel_rfl) rfl #[.string a0] rfl (by (try simp only [List.map_toArray, List.map_cons, List.map_nil]); first | done | rfl | (simp only [List.length_drop, List.length_take]; rfl)) ?_; (with_reducible refine (token_IsVar.calls kj6 a0 t371 _ A25.out).mono ?_); rintro e w' ⟨rfl, ⟨nd, rfl⟩⟩; refine ⟨_, rfl, ?_⟩) | ((with_reducible refine gate_callee (f := 22) rfl ?_); refine goesL_ (some 55) rfl rfl Try.func22 (by kernel_rfl) rfl #[.string a0] rfl (by (try simp only [List.map_toArray, List.map_cons, List.map_nil]); first | done | rfl | (simp only [List.length_drop, List.length_take]; rfl)) ?_; (with_reducible refine (manystrandref01_IsVar.calls kj6 a0 t372 _ A26.out).mono ?_); rintro e w' ⟨rfl, ⟨nd, rfl⟩⟩; refine ⟨_, rfl, ?_⟩) | (go_at_call 23; (with_reducible refine (token_IsPlain.calls kj6 a0 t373 _ A28.out).mono ?_); rintro e w' ⟨rfl, ⟨nd, rfl⟩⟩) | (go_at_call 24; (with_reducible refine (manystrandref01_IsPlain.calls kj6 a0 t374 _ A29.out).mono ?_); rintro e w' ⟨rfl, ⟨nd, rfl⟩⟩))
      go_ret
      exact ⟨by first | rfl | (simp [errW_none, errW_some] <;> rfl) | (simp [*, errW_none, errW_some] <;> rfl) | (simp [errW_none, errW_some]; exact Go.Proofs.YtgbielhbjgipoaaW.OwnWords.isEmpty_bne _), by repeat (first | (with_reducible first | exact HB.out | apply below_alloc | apply pw_below_drewN | apply below_drew1) | exact HB.out)⟩
    ·rw [if_neg c27] at H
     have c27b0 : (t371 == t372) = false := by simpa using c27
     (try (have c27b1 : decide (t371 = t372) = false := by simpa using c27))
     (try (have c27b2 : (t371 == t372) = false := by simpa using c27))
     (try (have c27b3 : ¬ (t371 = t372) := by simpa using c27))
     clear c27
     obtain rfl := Option.some.inj H
     go_wp2_with (first | ((with_reducible refine gate_callee (f := 21) rfl ?_); refine goesL_ (some 53) rfl rfl Try.func21 (by kernel_rfl) rfl #[.string a0] rfl (by (try simp only [List.map_toArray, List.map_cons, List.map_nil]); first | done | rfl | (simp only [List.length_drop, List.length_take]; rfl)) ?_; (with_reducible refine (token_IsVar.calls kj6 a0 t371 _ A25.out).mono ?_); rintro e w' ⟨rfl, ⟨nd, rfl⟩⟩; refine ⟨_, rfl, ?_⟩) | ((with_reducible refine gate_callee (f := 22) rfl ?_); refine goesL_ (some 55) rfl rfl Try.func22 (by kernel_rfl) rfl #[.string a0] rfl (by (try simp only [List.map_toArray, List.map_cons, List.map_nil]); first | done | rfl | (simp only [List.length_drop, List.length_take]; rfl)) ?_; (with_reducible refine (manystrandref01_IsVar.calls kj6 a0 t372 _ A26.out).mono ?_); rintro e w' ⟨rfl, ⟨nd, rfl⟩⟩; refine ⟨_, rfl, ?_⟩))
     go_ret
     exact ⟨by first | rfl | (simp [errW_none, errW_some] <;> rfl) | (simp [*, errW_none, errW_some] <;> rfl) | (simp [errW_none, errW_some]; exact Go.Proofs.YtgbielhbjgipoaaW.OwnWords.isEmpty_bne _), by repeat (first | (with_reducible first | exact HB.out | apply below_alloc | apply pw_below_drewN | apply below_drew1) | exact HB.out)⟩

/-- THE ONE PURE STATEMENT of manystrandlaw01_TokenNames: yours. -/
def manystrandlaw01_TokenNames.Pure : Prop := ∀ (a0 : ByteArray), a0.size ≤ 140737488351232 → ∃ k, manystrandlaw01_TokenNames.f k a0 = some true
theorem manystrandlaw01_TokenNames.walk (P : manystrandlaw01_TokenNames.Pure) (a0 : ByteArray) (w : World) (w0 : a0.size ≤ 140737488351232) :
  Calls Try.prog 7 #[.string a0] w fun e w' => e = .returned (.bool true) ∧ Below w.heap.size w w' := by
 obtain ⟨k, h⟩ := P a0 w0
 refine (manystrandlaw01_TokenNames.calls k a0 true w h).mono ?_
 rintro e w' ⟨rfl, hd⟩
 exact ⟨rfl, hd⟩

end Go.Proofs.Ytgbielhbjgipoaa.Q
