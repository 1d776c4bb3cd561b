-- Walks of Go functions; written by own_print.py of this repo (see NOTES.md).
import Derived.Test.YtgbielhbjgipoaaQ0
import Derived.Test.YtgbielhbjgipoaaQ8
import Derived.Test.YtgbielhbjgipoaaQ9
import Derived.Test.YtgbielhbjgipoaaQ10
import Derived.Test.YtgbielhbjgipoaaQ11
import Derived.Test.YtgbielhbjgipoaaQ49
import Derived.Test.YtgbielhbjgipoaaQ50
namespace Go.Proofs.Ytgbielhbjgipoaa.Q
open Go.RowKit Go.Proofs.YtgbielhbjgipoaaW.PrintWords Go.Proofs.YtgbielhbjgipoaaW.PrintLast Go.Proofs.YtgbielhbjgipoaaW.PrintMore
attribute [local go_sem] Go.Proofs.YtgbielhbjgipoaaW.OwnWords.isSome_setCell max2_int min2_int max_two min_two max_three min_three max_four min_four   -- for this text's walks alone
set_option linter.unusedVariables false
set_option linter.unusedSimpArgs false

/-! ### token_Valid: function 28 -/
def token_Valid.j0 : Nat → ByteArray → ByteArray → Bool → ByteArray → ByteArray → Int → Option (Bool)
 | 0, _, _, _, _, _, _ => none
 | k + 1, x3, x10, x15, x313000, x313001, x313002 => if x15 = true then (if x313000.toList = ([116, 101, 120, 116] : List UInt8) then ((token_printed.f k x3 200).bind fun t314 => (some t314)) else ((token_printed.f k x3 60).bind fun t315 => (some t315))) else (if x10.toList = ([105, 110, 116] : List UInt8) then (if x3.toList = ([] : List UInt8) then (some false) else (if 0 < (x3.size : Int) then ((token_digit.f (bt x3 0)).bind fun t316 => (if t316 = true then ((token_number.f k x3 0).bind fun bt317 => (if bt317.2 = true then (some (bt317.1 == (x3.size : Int))) else (some false))) else (if (bt x3 0) = 126 then ((token_number.f k x3 0).bind fun bt319 => (if bt319.2 = true then (some (bt319.1 == (x3.size : Int))) else (some false))) else (some false)))) else (none))) else (if x10.toList = ([99, 104, 97, 114] : List UInt8) then (if (x3.size : Int) = 1 then (if 0 < (x3.size : Int) then (if (bt x3 0) = 10 then (some true) else (if (bt x3 0) ≥ 32 then (some (decide ((bt x3 0) ≤ 126))) else (some false))) else (none)) else (some false)) else (if x10.toList = ([107, 101, 121] : List UInt8) then ((token_isKey.f x3).bind fun t321 => (some t321)) else (if x10.toList = ([115, 105, 103, 110] : List UInt8) then (if x3.toList = ([] : List UInt8) then (some false) else ((token_signAt.f k x3).bind fun t322 => (some (t322.toList == x3.toList)))) else (some false)))))
def token_Valid.f (k : Nat) (a0_0 : ByteArray) (a0_1 : ByteArray) (a0_2 : Int) : Option (Bool) := if a0_0.toList = ([118, 97, 114] : List UInt8) then ((token_IsVar.f k a0_1).bind fun t313 => (some t313)) else (if a0_0.toList = ([97, 116, 111, 109] : List UInt8) then (token_Valid.j0 k a0_1 a0_0 (a0_0.toList == ([97, 116, 111, 109] : List UInt8)) a0_0 a0_1 a0_2) else (token_Valid.j0 k a0_1 a0_0 (a0_0.toList == ([116, 101, 120, 116] : List UInt8)) a0_0 a0_1 a0_2))
theorem token_Valid.mono_l : ∀ k, (∀ y0 y1 y2 y3 y4 y5, LeO (token_Valid.j0 k y0 y1 y2 y3 y4 y5) (token_Valid.j0 (k + 1) y0 y1 y2 y3 y4 y5))
 | 0 => fun _ _ _ _ _ _ r h => by simp [token_Valid.j0] at h
 | k + 1 => by
  have ih0 := token_Valid.mono_l k
  ·intro y0 y1 y2 y3 y4 y5
   unfold token_Valid.j0
   repeat' first
   | (with_reducible exact ih0 _ _ _ _ _ _)
   | (with_reducible exact token_IsVar.mono _ _)
   | (with_reducible exact token_number.mono _ _ _)
   | (with_reducible exact token_printed.mono _ _ _)
   | (with_reducible exact token_signAt.mono _ _)
   | (with_reducible exact LeO.refl _)
   | (with_reducible exact LeO.none _)
   | (with_reducible refine LeO.ite ?_ ?_)
   | (with_reducible refine LeO.bind ?_ (fun _ => ?_))
   | exact ih0 _ _ _ _ _ _
   | exact token_IsVar.mono _ _
   | exact token_number.mono _ _ _
   | exact token_printed.mono _ _ _
   | exact token_signAt.mono _ _
   | exact LeO.none _
   | refine LeO.ite ?_ ?_
   | refine LeO.bind ?_ (fun _ => ?_)
theorem token_Valid.mono : ∀ a0 a1 a2 k, LeO (token_Valid.f k a0 a1 a2) (token_Valid.f (k + 1) a0 a1 a2) := by
 intro a0 a1 a2 k
 have ih0 := token_Valid.mono_l k
 unfold token_Valid.f
 repeat' first
   | (with_reducible exact ih0 _ _ _ _ _ _)
   | (with_reducible exact token_IsVar.mono _ _)
   | (with_reducible exact token_number.mono _ _ _)
   | (with_reducible exact token_printed.mono _ _ _)
   | (with_reducible exact token_signAt.mono _ _)
   | (with_reducible exact LeO.refl _)
   | (with_reducible exact LeO.none _)
   | (with_reducible refine LeO.ite ?_ ?_)
   | (with_reducible refine LeO.bind ?_ (fun _ => ?_))
   | exact ih0 _ _ _ _ _ _
   | exact token_IsVar.mono _ _
   | exact token_number.mono _ _ _
   | exact token_printed.mono _ _ _
   | exact token_signAt.mono _ _
   | exact LeO.none _
   | refine LeO.ite ?_ ?_
   | refine LeO.bind ?_ (fun _ => ?_)
set_option maxHeartbeats 8000000 in
set_option maxRecDepth 100000 in
theorem token_Valid.calls (k : Nat) (a0_0 : ByteArray) (a0_1 : ByteArray) (a0_2 : Int) (r : Bool) (w : World) (h : token_Valid.f k a0_0 a0_1 a0_2 = some r) :
  Calls Try.prog 28 #[.agg #[.string a0_0, .string a0_1, .int .i64 a0_2]] w fun e w' => e = .returned (.bool r) ∧ Below w.heap.size w w' := by
 have hu29 := Try.underlying29
 have HB := Aside0.mk (Below.refl w.heap.size w)
 have H : (if a0_0.toList = ([118, 97, 114] : List UInt8) then ((token_IsVar.f k a0_1).bind fun t313 => (some t313)) else (if a0_0.toList = ([97, 116, 111, 109] : List UInt8) then (token_Valid.j0 k a0_1 a0_0 (a0_0.toList == ([97, 116, 111, 109] : List UInt8)) a0_0 a0_1 a0_2) else (token_Valid.j0 k a0_1 a0_0 (a0_0.toList == ([116, 101, 120, 116] : List UInt8)) a0_0 a0_1 a0_2))) = some r := h
 clear h
 by_cases c2 : a0_0.toList = ([118, 97, 114] : List UInt8)
 ·rw [if_pos c2] at H
  have c2b0 : (a0_0.toList == ([118, 97, 114] : List UInt8)) = true := beq_iff_eq.mpr c2
  have c2b1 : (a0_0.toList != ([118, 97, 114] : List UInt8)) = false := bne_eq_false_iff_eq.mpr c2
  clear c2
  replace H := Option.bind_eq_some_iff.mp H
  obtain ⟨t313, A30, H⟩ := H
  replace H : (some t313) = some r := H
  have A3 := Aside0.mk A30
  clear A30
  obtain rfl := Option.some.inj H
  go_enter Try.func28, Try.ntmps28
  go_wp2_with (first | ((with_reducible refine gate_dst (N := 1) rfl ?_); (try (refine gate_guard (by rfl) ?_; dsimp only)); refine box_event ?hg (N := 1) ?hd (cs := #[.string a0_0, .string a0_1, .int .i64 a0_2]) (t := 29) ?hr ?_; (case hd => rfl); (case hg => rfl); (case hr => first | (go_simp; done) | (go_simp; rfl)); intro gb312 hg w4 hbox hb; have n0_ := Aside0.mk (below_step (by repeat (first | (with_reducible first | exact HB.out | apply below_alloc | apply pw_below_drewN | apply below_drew1) | exact HB.out)) hb); have n1_ := Aside0.mk (hbox); have n2_ := Aside0.mk ((by rw [hg]; exact (below_size (by repeat (first | (with_reducible first | exact HB.out | apply below_alloc | apply pw_below_drewN | apply below_drew1) | exact HB.out))) : w.heap.size ≤ gb312)); have n3_ := Aside0.mk ((by rw [hg]; exact (below_size (by repeat (first | (with_reducible first | exact HB.out | apply below_alloc | apply pw_below_drewN | apply below_drew1) | exact HB.out))) : w.heap.size ≤ gb312)); clear HB; have HB := n0_; have BK312 := n1_; have GW312 := n2_; have GE312 := n3_; clear n0_ n1_ n2_ n3_; clear hb hbox hg; have hcz5_0 : w4.cell? ⟨gb312, 0, none⟩ = some (.string a0_0) := (blk_cell BK312.out 0).trans rfl; have hcz5_1 : w4.cell? ⟨gb312, 1, none⟩ = some (.string a0_1) := (blk_cell BK312.out 1).trans rfl; have hcz5_2 : w4.cell? ⟨gb312, 2, none⟩ = some (.int .i64 a0_2) := (blk_cell BK312.out 2).trans rfl; have hfz5_0 := blk_frozen BK312.out 0; have hfz5_1 := blk_frozen BK312.out 1; have hfz5_2 := blk_frozen BK312.out 2) | ((with_reducible refine gate_callee (f := 21) rfl ?_); refine goesL_ (some 14) rfl rfl Try.func21 (by kernel_rfl) rfl #[.string a0_1] rfl (by (try simp only [List.map_toArray, List.map_cons, List.map_nil]); first | done | rfl | (simp only [List.length_drop, List.length_take]; rfl)) ?_; (with_reducible refine (token_IsVar.calls k a0_1 t313 _ A3.out).mono ?_); rintro e w' ⟨rfl, ⟨nd, rfl⟩⟩; refine ⟨_, rfl, ?_⟩))
  go_ret
  exact ⟨by first | rfl | (simp [errW_none, errW_some] <;> rfl) | (simp [*, errW_none, errW_some] <;> rfl) | (simp [errW_none, errW_some]; exact Go.Proofs.YtgbielhbjgipoaaW.OwnWords.isEmpty_bne _), by repeat (first | (with_reducible first | exact HB.out | apply below_alloc | apply pw_below_drewN | apply below_drew1 | refine below_set ?_ GE312.out) | exact HB.out)⟩
 ·rw [if_neg c2] at H
  have c2b0 : (a0_0.toList == ([118, 97, 114] : List UInt8)) = false := beq_eq_false_iff_ne.mpr c2
  have c2b1 : (a0_0.toList != ([118, 97, 114] : List UInt8)) = true := bne_iff_ne.mpr c2
  have HC6 := Aside0.mk H
  clear H
  go_enter Try.func28, Try.ntmps28
  go_upto_if 15 with (first | ((with_reducible refine gate_dst (N := 1) rfl ?_); (try (refine gate_guard (by rfl) ?_; dsimp only)); refine box_event ?hg (N := 1) ?hd (cs := #[.string a0_0, .string a0_1, .int .i64 a0_2]) (t := 29) ?hr ?_; (case hd => rfl); (case hg => rfl); (case hr => first | (go_simp; done) | (go_simp; rfl)); intro gb312 hg w7 hbox hb; have n0_ := Aside0.mk (below_step (by repeat (first | (with_reducible first | exact HB.out | apply below_alloc | apply pw_below_drewN | apply below_drew1) | exact HB.out)) hb); have n1_ := Aside0.mk (hbox); have n2_ := Aside0.mk ((by rw [hg]; exact (below_size (by repeat (first | (with_reducible first | exact HB.out | apply below_alloc | apply pw_below_drewN | apply below_drew1) | exact HB.out))) : w.heap.size ≤ gb312)); have n3_ := Aside0.mk ((by rw [hg]; exact (below_size (by repeat (first | (with_reducible first | exact HB.out | apply below_alloc | apply pw_below_drewN | apply below_drew1) | exact HB.out))) : w.heap.size ≤ gb312)); clear HB; have HB := n0_; have BK312 := n1_; have GW312 := n2_; have GE312 := n3_; clear n0_ n1_ n2_ n3_; clear hb hbox hg; have hcz8_0 : w7.cell? ⟨gb312, 0, none⟩ = some (.string a0_0) := (blk_cell BK312.out 0).trans rfl; have hcz8_1 : w7.cell? ⟨gb312, 1, none⟩ = some (.string a0_1) := (blk_cell BK312.out 1).trans rfl; have hcz8_2 : w7.cell? ⟨gb312, 2, none⟩ = some (.int .i64 a0_2) := (blk_cell BK312.out 2).trans rfl; have hfz8_0 := blk_frozen BK312.out 0; have hfz8_1 := blk_frozen BK312.out 1; have hfz8_2 := blk_frozen BK312.out 2))
  (try simp only [Act.put, List.setIfInBounds_toArray, List.set_cons_zero, List.set_cons_succ])
  go_cut [15] (fun v15 wc => ∃ (kq : Nat) (x15_5 : Bool), v15 = .bool x15_5 ∧ Aside0 (token_Valid.j0 kq a0_1 a0_0 x15_5 a0_0 a0_1 a0_2 = some r) ∧ Aside0 (kq ≤ k) ∧ Aside0 (wc.heap[gb312]? = some (.cells #[.string a0_0, .string a0_1, .int .i64 a0_2] 29 (0, 0))) ∧ Aside0 (Below w.heap.size w wc))
  case first =>
   have H := HC6.out
   clear HC6
   by_cases c9 : a0_0.toList = ([97, 116, 111, 109] : List UInt8)
   ·rw [if_pos c9] at H
    have c9b0 : (a0_0.toList == ([97, 116, 111, 109] : List UInt8)) = true := beq_iff_eq.mpr c9
    have c9b1 : (a0_0.toList != ([97, 116, 111, 109] : List UInt8)) = false := bne_eq_false_iff_eq.mpr c9
    clear c9
    (first | rw [c9b0] | (simp only [i64_w, i32_w]; rw [c9b0]) | skip)
    have H' := Aside0.mk H
    clear H
    go_wp2
    go_meet
    case rel => exact ⟨_, ((a0_0.toList == ([97, 116, 111, 109] : List UInt8))), (by first | rfl | (simp; done) | (simp [*]; done)), H', ⟨by first | omega | exact Nat.le_refl _⟩, ⟨by (with_reducible repeat (first | refine blk_drewN ?_ _ | refine blk_drew ?_ | refine blk_alloc ?_ _)); exact BK312.out⟩, ⟨by repeat (first | (with_reducible first | exact HB.out | apply below_alloc | apply pw_below_drewN | apply below_drew1 | refine below_set ?_ GE312.out) | exact HB.out)⟩⟩
   ·rw [if_neg c9] at H
    have c9b0 : (a0_0.toList == ([97, 116, 111, 109] : List UInt8)) = false := beq_eq_false_iff_ne.mpr c9
    have c9b1 : (a0_0.toList != ([97, 116, 111, 109] : List UInt8)) = true := bne_iff_ne.mpr c9
    (first | rw [c9b0] | (simp only [i64_w, i32_w]; rw [c9b0]) | skip)
    have H' := Aside0.mk H
    clear H
    go_wp2
    go_meet
    case rel => exact ⟨_, ((a0_0.toList == ([116, 101, 120, 116] : List UInt8))), (by first | rfl | (simp; done) | (simp [*]; done)), H', ⟨by first | omega | exact Nat.le_refl _⟩, ⟨by (with_reducible repeat (first | refine blk_drewN ?_ _ | refine blk_drew ?_ | refine blk_alloc ?_ _)); exact BK312.out⟩, ⟨by repeat (first | (with_reducible first | exact HB.out | apply below_alloc | apply pw_below_drewN | apply below_drew1 | refine below_set ?_ GE312.out) | exact HB.out)⟩⟩
  case rest =>
   clear HC6
   try clear c2
   try clear c2b0
   try clear c2b1
   try clear p2
   try clear c9
   try clear c9b0
   try clear c9b1
   try clear hcz5_0
   try clear hcz5_1
   try clear hcz5_2
   try clear hcz8_0
   try clear hcz8_1
   try clear hcz8_2
   try clear hfz5_0
   try clear hfz5_1
   try clear hfz5_2
   try clear hfz8_0
   try clear hfz8_1
   try clear hfz8_2
   obtain ⟨kq, x15_5, rfl, HA, HJ5, BK312, HB⟩ := hcut
   cases kq with
   | zero => exact absurd HA.out (by simp [token_Valid.j0])
   | succ kj5 =>
    have H := HA.out
    clear HA
    simp only [token_Valid.j0] at H
    by_cases c10 : x15_5 = true
    ·subst c10
     have H1 : (if a0_0.toList = ([116, 101, 120, 116] : List UInt8) then ((token_printed.f kj5 a0_1 200).bind fun t314 => (some t314)) else ((token_printed.f kj5 a0_1 60).bind fun t315 => (some t315))) = some r := by rw [if_pos rfl] at H; exact H
     clear H
     have H := H1
     clear H1
     by_cases c11 : a0_0.toList = ([116, 101, 120, 116] : List UInt8)
     ·rw [if_pos c11] at H
      have c11b0 : (a0_0.toList == ([116, 101, 120, 116] : List UInt8)) = true := beq_iff_eq.mpr c11
      have c11b1 : (a0_0.toList != ([116, 101, 120, 116] : List UInt8)) = false := bne_eq_false_iff_eq.mpr c11
      clear c11
      replace H := Option.bind_eq_some_iff.mp H
      obtain ⟨t314, A120, H⟩ := H
      replace H : (some t314) = some r := H
      have A12 := Aside0.mk A120
      clear A120
      obtain rfl := Option.some.inj H
      have hcz13_0 : wc.cell? ⟨gb312, 0, none⟩ = some (.string a0_0) := (blk_cell BK312.out 0).trans rfl
      have hcz13_1 : wc.cell? ⟨gb312, 1, none⟩ = some (.string a0_1) := (blk_cell BK312.out 1).trans rfl
      have hcz13_2 : wc.cell? ⟨gb312, 2, none⟩ = some (.int .i64 a0_2) := (blk_cell BK312.out 2).trans rfl
      have hfz13_0 := blk_frozen BK312.out 0
      have hfz13_1 := blk_frozen BK312.out 1
      have hfz13_2 := blk_frozen BK312.out 2
      go_wp2_with (first | ((with_reducible refine gate_callee (f := 45) rfl ?_); refine goesL_ (some 23) rfl rfl Try.func45 (by kernel_rfl) rfl #[.string a0_1, .int .i64 200] rfl (by (try simp only [List.map_toArray, List.map_cons, List.map_nil]); first | done | rfl | (simp only [List.length_drop, List.length_take]; rfl)) ?_; (with_reducible refine (token_printed.calls kj5 a0_1 200 t314 _ A12.out).mono ?_); rintro e w' ⟨rfl, ⟨nd, rfl⟩⟩; refine ⟨_, rfl, ?_⟩))
      go_ret
      exact ⟨by first | rfl | (simp [errW_none, errW_some] <;> rfl) | (simp [*, errW_none, errW_some] <;> rfl) | (simp [errW_none, errW_some]; exact Go.Proofs.YtgbielhbjgipoaaW.OwnWords.isEmpty_bne _), by repeat (first | (with_reducible first | exact HB.out | apply below_alloc | apply pw_below_drewN | apply below_drew1 | refine below_set ?_ GE312.out) | exact HB.out)⟩
     ·rw [if_neg c11] at H
      have c11b0 : (a0_0.toList == ([116, 101, 120, 116] : List UInt8)) = false := beq_eq_false_iff_ne.mpr c11
      have c11b1 : (a0_0.toList != ([116, 101, 120, 116] : List UInt8)) = true := bne_iff_ne.mpr c11
      replace H := Option.bind_eq_some_iff.mp H
      obtain ⟨t315, A140, H⟩ := H
      replace H : (some t315) = some r := H
      have A14 := Aside0.mk A140
      clear A140
      obtain rfl := Option.some.inj H
      have hcz15_0 : wc.cell? ⟨gb312, 0, none⟩ = some (.string a0_0) := (blk_cell BK312.out 0).trans rfl
      have hcz15_1 : wc.cell? ⟨gb312, 1, none⟩ = some (.string a0_1) := (blk_cell BK312.out 1).trans rfl
      have hcz15_2 : wc.cell? ⟨gb312, 2, none⟩ = some (.int .i64 a0_2) := (blk_cell BK312.out 2).trans rfl
      have hfz15_0 := blk_frozen BK312.out 0
      have hfz15_1 := blk_frozen BK312.out 1
      have hfz15_2 := blk_frozen BK312.out 2
      go_wp2_with (first | ((with_reducible refine gate_callee (f := 45) rfl ?_); refine goesL_ (some 23) rfl rfl Try.func45 (by kernel_rfl) rfl #[.string a0_1, .int .i64 60] rfl (by (try simp only [List.map_toArray, List.map_cons, List.map_nil]); first | done | rfl | (simp only [List.length_drop, List.length_take]; rfl)) ?_; (with_reducible refine (token_printed.calls kj5 a0_1 60 t315 _ A14.out).mono ?_); rintro e w' ⟨rfl, ⟨nd, rfl⟩⟩; refine ⟨_, rfl, ?_⟩))
      go_ret
      exact ⟨by first | rfl | (simp [errW_none, errW_some] <;> rfl) | (simp [*, errW_none, errW_some] <;> rfl) | (simp [errW_none, errW_some]; exact Go.Proofs.YtgbielhbjgipoaaW.OwnWords.isEmpty_bne _), by repeat (first | (with_reducible first | exact HB.out | apply below_alloc | apply pw_below_drewN | apply below_drew1 | refine below_set ?_ GE312.out) | exact HB.out)⟩
    ·replace c10 := Bool.eq_false_iff.mpr c10
     subst c10
     have H1 : (if a0_0.toList = ([105, 110, 116] : List UInt8) then (if a0_1.toList = ([] : List UInt8) then (some false) else (if 0 < (a0_1.size : Int) then ((token_digit.f (bt a0_1 0)).bind fun t316 => (if t316 = true then ((token_number.f kj5 a0_1 0).bind fun bt317 => (if bt317.2 = true then (some (bt317.1 == (a0_1.size : Int))) else (some false))) else (if (bt a0_1 0) = 126 then ((token_number.f kj5 a0_1 0).bind fun bt319 => (if bt319.2 = true then (some (bt319.1 == (a0_1.size : Int))) else (some false))) else (some false)))) else (none))) else (if a0_0.toList = ([99, 104, 97, 114] : List UInt8) then (if (a0_1.size : Int) = 1 then (if 0 < (a0_1.size : Int) then (if (bt a0_1 0) = 10 then (some true) else (if (bt a0_1 0) ≥ 32 then (some (decide ((bt a0_1 0) ≤ 126))) else (some false))) else (none)) else (some false)) else (if a0_0.toList = ([107, 101, 121] : List UInt8) then ((token_isKey.f a0_1).bind fun t321 => (some t321)) else (if a0_0.toList = ([115, 105, 103, 110] : List UInt8) then (if a0_1.toList = ([] : List UInt8) then (some false) else ((token_signAt.f kj5 a0_1).bind fun t322 => (some (t322.toList == a0_1.toList)))) else (some false))))) = some r := by rw [if_neg (show ¬ (false = true) by decide)] at H; exact H
     clear H
     have H := H1
     clear H1
     by_cases c16 : a0_0.toList = ([105, 110, 116] : List UInt8)
     ·rw [if_pos c16] at H
      have c16b0 : (a0_0.toList == ([105, 110, 116] : List UInt8)) = true := beq_iff_eq.mpr c16
      have c16b1 : (a0_0.toList != ([105, 110, 116] : List UInt8)) = false := bne_eq_false_iff_eq.mpr c16
      clear c16
      by_cases c17 : a0_1.toList = ([] : List UInt8)
      ·rw [if_pos c17] at H
       have c17b0 : (a0_1.toList == ([] : List UInt8)) = true := beq_iff_eq.mpr c17
       have c17b1 : (a0_1.toList != ([] : List UInt8)) = false := bne_eq_false_iff_eq.mpr c17
       clear c17
       obtain rfl := Option.some.inj H
       go_wp2
       go_ret
       exact ⟨by first | rfl | (simp [errW_none, errW_some] <;> rfl) | (simp [*, errW_none, errW_some] <;> rfl) | (simp [errW_none, errW_some]; exact Go.Proofs.YtgbielhbjgipoaaW.OwnWords.isEmpty_bne _), by repeat (first | (with_reducible first | exact HB.out | apply below_alloc | apply pw_below_drewN | apply below_drew1 | refine below_set ?_ GE312.out) | exact HB.out)⟩
      ·rw [if_neg c17] at H
       have c17b0 : (a0_1.toList == ([] : List UInt8)) = false := beq_eq_false_iff_ne.mpr c17
       have c17b1 : (a0_1.toList != ([] : List UInt8)) = true := bne_iff_ne.mpr c17
       by_cases c18 : 0 < (a0_1.size : Int)
       ·rw [if_pos c18] at H
        have c18b0 : decide (0 < (a0_1.size : Int)) = true := decide_eq_true c18
        have c18b1 : decide (0 < a0_1.size) = true := decide_eq_true (by omega)
        clear c18
        replace H := Option.bind_eq_some_iff.mp H
        obtain ⟨t316, A200, H⟩ := H
        replace H : (if t316 = true then ((token_number.f kj5 a0_1 0).bind fun bt317 => (if bt317.2 = true then (some (bt317.1 == (a0_1.size : Int))) else (some false))) else (if (bt a0_1 0) = 126 then ((token_number.f kj5 a0_1 0).bind fun bt319 => (if bt319.2 = true then (some (bt319.1 == (a0_1.size : Int))) else (some false))) else (some false))) = some r := H
        have A20 := Aside0.mk A200
        clear A200
        by_cases c21 : t316 = true
        ·subst c21
         have H1 : ((token_number.f kj5 a0_1 0).bind fun bt317 => (if bt317.2 = true then (some (bt317.1 == (a0_1.size : Int))) else (some false))) = some r := by rw [if_pos rfl] at H; exact H
         clear H
         have H := H1
         clear H1
         replace H := Option.bind_eq_some_iff.mp H
         obtain ⟨⟨t317, t318⟩, A220, H⟩ := H
         replace H : (if t318 = true then (some (t317 == (a0_1.size : Int))) else (some false)) = some r := H
         have A22 := Aside0.mk A220
         clear A220
         by_cases c23 : t318 = true
         ·subst c23
          have H1 : (some (t317 == (a0_1.size : Int))) = some r := by rw [if_pos rfl] at H; exact H
          clear H
          have H := H1
          clear H1
          obtain rfl := Option.some.inj H
          have p19 : 0 ≤ (0 : Int) := (by omega)
          have q19 : 0 < a0_1.size := (by have : (0 : Int) < (a0_1.size : Int) := of_decide_eq_true (by first | (with_reducible assumption) | assumption); omega)
          have hx19 : ∀ h : 0 < a0_1.size, ((a0_1[0]'h).toNat : Int) = bt a0_1 0 := bt_at a0_1 0
          clear p19
          have qi19 : (0 < (a0_1.size : Int)) = True := eq_true (of_decide_eq_true (by first | (with_reducible assumption) | assumption))
          replace q19 := eq_true q19
          go_wp2_with (first | (go_at_call 46; (with_reducible refine (token_digit.calls (bt a0_1 0) true _ A20.out).mono ?_); rintro e w' ⟨rfl, ⟨nd, rfl⟩⟩) | ((with_reducible refine gate_callee (f := 47) rfl ?_); refine goesL_ (some 41) rfl rfl Try.func47 (by kernel_rfl) rfl #[.string a0_1, .int .i64 0] rfl (by (try simp only [List.map_toArray, List.map_cons, List.map_nil]); first | done | rfl | (simp only [List.length_drop, List.length_take]; rfl)) ?_; (with_reducible refine (token_number.calls kj5 a0_1 0 t317 true _ A22.out).mono ?_); rintro e w' ⟨rfl, ⟨nd, rfl⟩⟩; refine ⟨_, rfl, ?_⟩))
          go_ret
          exact ⟨by first | rfl | (simp [errW_none, errW_some] <;> rfl) | (simp [*, errW_none, errW_some] <;> rfl) | (simp [errW_none, errW_some]; exact Go.Proofs.YtgbielhbjgipoaaW.OwnWords.isEmpty_bne _), by repeat (first | (with_reducible first | exact HB.out | apply below_alloc | apply pw_below_drewN | apply below_drew1 | refine below_set ?_ GE312.out) | exact HB.out)⟩
         ·replace c23 := Bool.eq_false_iff.mpr c23
          subst c23
          have H1 : (some false) = some r := by rw [if_neg (show ¬ (false = true) by decide)] at H; exact H
          clear H
          have H := H1
          clear H1
          obtain rfl := Option.some.inj H
          have p19 : 0 ≤ (0 : Int) := (by omega)
          have q19 : 0 < a0_1.size := (by have : (0 : Int) < (a0_1.size : Int) := of_decide_eq_true (by first | (with_reducible assumption) | assumption); omega)
          have hx19 : ∀ h : 0 < a0_1.size, ((a0_1[0]'h).toNat : Int) = bt a0_1 0 := bt_at a0_1 0
          clear p19
          have qi19 : (0 < (a0_1.size : Int)) = True := eq_true (of_decide_eq_true (by first | (with_reducible assumption) | assumption))
          replace q19 := eq_true q19
          go_wp2_with (first | (go_at_call 46; (with_reducible refine (token_digit.calls (bt a0_1 0) true _ A20.out).mono ?_); rintro e w' ⟨rfl, ⟨nd, rfl⟩⟩) | ((with_reducible refine gate_callee (f := 47) rfl ?_); refine goesL_ (some 41) rfl rfl Try.func47 (by kernel_rfl) rfl #[.string a0_1, .int .i64 0] rfl (by (try simp only [List.map_toArray, List.map_cons, List.map_nil]); first | done | rfl | (simp only [List.length_drop, List.length_take]; rfl)) ?_; (with_reducible refine (token_number.calls kj5 a0_1 0 t317 false _ A22.out).mono ?_); rintro e w' ⟨rfl, ⟨nd, rfl⟩⟩; refine ⟨_, rfl, ?_⟩))
          go_ret
          exact ⟨by first | rfl | (simp [errW_none, errW_some] <;> rfl) | (simp [*, errW_none, errW_some] <;> rfl) | (simp [errW_none, errW_some]; exact Go.Proofs.YtgbielhbjgipoaaW.OwnWords.isEmpty_bne _), by repeat (first | (with_reducible first | exact HB.out | apply below_alloc | apply pw_below_drewN | apply below_drew1 | refine below_set ?_ GE312.out) | exact HB.out)⟩
        ·replace c21 := Bool.eq_false_iff.mpr c21
         subst c21
         have H1 : (if (bt a0_1 0) = 126 then ((token_number.f kj5 a0_1 0).bind fun bt319 => (if bt319.2 = true then (some (bt319.1 == (a0_1.size : Int))) else (some false))) else (some false)) = some r := by rw [if_neg (show ¬ (false = true) by decide)] at H; exact H
         clear H
         have H := H1
         clear H1
         by_cases c25 : (bt a0_1 0) = 126
         ·rw [if_pos c25] at H
          have c25b0 : ((bt a0_1 0) == 126) = true := beq_iff_eq.mpr c25
          have c25b1 : ((bt a0_1 0) != 126) = false := bne_eq_false_iff_eq.mpr c25
          clear c25
          replace H := Option.bind_eq_some_iff.mp H
          obtain ⟨⟨t319, t320⟩, A260, H⟩ := H
          replace H : (if t320 = true then (some (t319 == (a0_1.size : Int))) else (some false)) = some r := H
          have A26 := Aside0.mk A260
          clear A260
          by_cases c27 : t320 = true
          ·subst c27
           have H1 : (some (t319 == (a0_1.size : Int))) = some r := by rw [if_pos rfl] at H; exact H
           clear H
           have H := H1
           clear H1
           obtain rfl := Option.some.inj H
           have p19 : 0 ≤ (0 : Int) := (by omega)
           have q19 : 0 < a0_1.size := (by have : (0 : Int) < (a0_1.size : Int) := of_decide_eq_true (by first | (with_reducible assumption) | assumption); omega)
           have hx19 : ∀ h : 0 < a0_1.size, ((a0_1[0]'h).toNat : Int) = bt a0_1 0 := bt_at a0_1 0
           clear p19
           have qi19 : (0 < (a0_1.size : Int)) = True := eq_true (of_decide_eq_true (by first | (with_reducible assumption) | assumption))
           replace q19 := eq_true q19
           go_wp2_with (first | (go_at_call 46; (with_reducible refine (token_digit.calls (bt a0_1 0) false _ A20.out).mono ?_); rintro e w' ⟨rfl, ⟨nd, rfl⟩⟩; have p24 : 0 ≤ (0 : Int) := (by omega); have q24 : 0 < a0_1.size := (by have : (0 : Int) < (a0_1.size : Int) := of_decide_eq_true (by first | (with_reducible assumption) | assumption); omega); have hx24 : ∀ h : 0 < a0_1.size, ((a0_1[0]'h).toNat : Int) = bt a0_1 0 := bt_at a0_1 0; clear p24; have qi24 : (0 < (a0_1.size : Int)) = True := eq_true (of_decide_eq_true (by first | (with_reducible assumption) | assumption)); replace q24 := eq_true q24) | ((with_reducible refine gate_callee (f := 47) rfl ?_); refine goesL_ (some 41) rfl rfl Try.func47 (by kernel_rfl) rfl #[.string a0_1, .int .i64 0] rfl (by (try simp only [List.map_toArray, List.map_cons, List.map_nil]); first | done | rfl | (simp only [List.length_drop, List.length_take]; rfl)) ?_; (with_reducible refine (token_number.calls kj5 a0_1 0 t319 true _ A26.out).mono ?_); rintro e w' ⟨rfl, ⟨nd, rfl⟩⟩; refine ⟨_, rfl, ?_⟩))
           go_ret
           exact ⟨by first | rfl | (simp [errW_none, errW_some] <;> rfl) | (simp [*, errW_none, errW_some] <;> rfl) | (simp [errW_none, errW_some]; exact Go.Proofs.YtgbielhbjgipoaaW.OwnWords.isEmpty_bne _), by repeat (first | (with_reducible first | exact HB.out | apply below_alloc | apply pw_below_drewN | apply below_drew1 | refine below_set ?_ GE312.out) | exact HB.out)⟩
          ·replace c27 := Bool.eq_false_iff.mpr c27
           subst c27
           have H1 : (some false) = some r := by rw [if_neg (show ¬ (false = true) by decide)] at H; exact H
           clear H
           have H := H1
           clear H1
           obtain rfl := Option.some.inj H
           have p19 : 0 ≤ (0 : Int) := (by omega)
           have q19 : 0 < a0_1.size := (by have : (0 : Int) < (a0_1.size : Int) := of_decide_eq_true (by first | (with_reducible assumption) | assumption); omega)
           have hx19 : ∀ h : 0 < a0_1.size, ((a0_1[0]'h).toNat : Int) = bt a0_1 0 := bt_at a0_1 0
           clear p19
           have qi19 : (0 < (a0_1.size : Int)) = True := eq_true (of_decide_eq_true (by first | (with_reducible assumption) | assumption))
           replace q19 := eq_true q19
           go_wp2_with (first | (go_at_call 46; (with_reducible refine (token_digit.calls (bt a0_1 0) false _ A20.out).mono ?_); rintro e w' ⟨rfl, ⟨nd, rfl⟩⟩; have p24 : 0 ≤ (0 : Int) := (by omega); have q24 : 0 < a0_1.size := (by have : (0 : Int) < (a0_1.size : Int) := of_decide_eq_true (by first | (with_reducible assumption) | assumption); omega); have hx24 : ∀ h : 0 < a0_1.size, ((a0_1[0]'h).toNat : Int) = bt a0_1 0 := bt_at a0_1 0; clear p24; have qi24 : (0 < (a0_1.size : Int)) = True := eq_true (of_decide_eq_true (by first | (with_reducible assumption) | assumption)); replace q24 := eq_true q24) | ((with_reducible refine gate_callee (f := 47) rfl ?_); refine goesL_ (some 41) rfl rfl Try.func47 (by kernel_rfl) rfl #[.string a0_1, .int .i64 0] rfl (by (try simp only [List.map_toArray, List.map_cons, List.map_nil]); first | done | rfl | (simp only [List.length_drop, List.length_take]; rfl)) ?_; (with_reducible refine (token_number.calls kj5 a0_1 0 t319 false _ A26.out).mono ?_); rintro e w' ⟨rfl, ⟨nd, rfl⟩⟩; refine ⟨_, rfl, ?_⟩))
           go_ret
           exact ⟨by first | rfl | (simp [errW_none, errW_some] <;> rfl) | (simp [*, errW_none, errW_some] <;> rfl) | (simp [errW_none, errW_some]; exact Go.Proofs.YtgbielhbjgipoaaW.OwnWords.isEmpty_bne _), by repeat (first | (with_reducible first | exact HB.out | apply below_alloc | apply pw_below_drewN | apply below_drew1 | refine below_set ?_ GE312.out) | exact HB.out)⟩
         ·rw [if_neg c25] at H
          have c25b0 : ((bt a0_1 0) == 126) = false := beq_eq_false_iff_ne.mpr c25
          have c25b1 : ((bt a0_1 0) != 126) = true := bne_iff_ne.mpr c25
          obtain rfl := Option.some.inj H
          have p19 : 0 ≤ (0 : Int) := (by omega)
          have q19 : 0 < a0_1.size := (by have : (0 : Int) < (a0_1.size : Int) := of_decide_eq_true (by first | (with_reducible assumption) | assumption); omega)
          have hx19 : ∀ h : 0 < a0_1.size, ((a0_1[0]'h).toNat : Int) = bt a0_1 0 := bt_at a0_1 0
          clear p19
          have qi19 : (0 < (a0_1.size : Int)) = True := eq_true (of_decide_eq_true (by first | (with_reducible assumption) | assumption))
          replace q19 := eq_true q19
          go_wp2_with (first | (go_at_call 46; (with_reducible refine (token_digit.calls (bt a0_1 0) false _ A20.out).mono ?_); rintro e w' ⟨rfl, ⟨nd, rfl⟩⟩; have p24 : 0 ≤ (0 : Int) := (by omega); have q24 : 0 < a0_1.size := (by have : (0 : Int) < (a0_1.size : Int) := of_decide_eq_true (by first | (with_reducible assumption) | assumption); omega); have hx24 : ∀ h : 0 < a0_1.size, ((a0_1[0]'h).toNat : Int) = bt a0_1 0 := bt_at a0_1 0; clear p24; have qi24 : (0 < (a0_1.size : Int)) = True := eq_true (of_decide_eq_true (by first | (with_reducible assumption) | assumption)); replace q24 := eq_true q24))
          go_ret
          exact ⟨by first | rfl | (simp [errW_none, errW_some] <;> rfl) | (simp [*, errW_none, errW_some] <;> rfl) | (simp [errW_none, errW_some]; exact Go.Proofs.YtgbielhbjgipoaaW.OwnWords.isEmpty_bne _), by repeat (first | (with_reducible first | exact HB.out | apply below_alloc | apply pw_below_drewN | apply below_drew1 | refine below_set ?_ GE312.out) | exact HB.out)⟩
       ·rw [if_neg c18] at H
        exact absurd H (by simp)
     ·rw [if_neg c16] at H
      have c16b0 : (a0_0.toList == ([105, 110, 116] : List UInt8)) = false := beq_eq_false_iff_ne.mpr c16
      have c16b1 : (a0_0.toList != ([105, 110, 116] : List UInt8)) = true := bne_iff_ne.mpr c16
      by_cases c28 : a0_0.toList = ([99, 104, 97, 114] : List UInt8)
      ·rw [if_pos c28] at H
       have c28b0 : (a0_0.toList == ([99, 104, 97, 114] : List UInt8)) = true := beq_iff_eq.mpr c28
       have c28b1 : (a0_0.toList != ([99, 104, 97, 114] : List UInt8)) = false := bne_eq_false_iff_eq.mpr c28
       clear c28
       by_cases c29 : (a0_1.size : Int) = 1
       ·rw [if_pos c29] at H
        have c29b0 : ((a0_1.size : Int) == 1) = true := beq_iff_eq.mpr c29
        have c29b1 : ((a0_1.size : Int) != 1) = false := bne_eq_false_iff_eq.mpr c29
        clear c29
        by_cases c30 : 0 < (a0_1.size : Int)
        ·rw [if_pos c30] at H
         have c30b0 : decide (0 < (a0_1.size : Int)) = true := decide_eq_true c30
         have c30b1 : decide (0 < a0_1.size) = true := decide_eq_true (by omega)
         clear c30
         by_cases c32 : (bt a0_1 0) = 10
         ·rw [if_pos c32] at H
          have c32b0 : ((bt a0_1 0) == 10) = true := beq_iff_eq.mpr c32
          have c32b1 : ((bt a0_1 0) != 10) = false := bne_eq_false_iff_eq.mpr c32
          clear c32
          obtain rfl := Option.some.inj H
          have p31 : 0 ≤ (0 : Int) := (by omega)
          have q31 : 0 < a0_1.size := (by have : (0 : Int) < (a0_1.size : Int) := of_decide_eq_true (by first | (with_reducible assumption) | assumption); omega)
          have hx31 : ∀ h : 0 < a0_1.size, ((a0_1[0]'h).toNat : Int) = bt a0_1 0 := bt_at a0_1 0
          clear p31
          have qi31 : (0 < (a0_1.size : Int)) = True := eq_true (of_decide_eq_true (by first | (with_reducible assumption) | assumption))
          replace q31 := eq_true q31
          go_wp2
          go_ret
          exact ⟨by first | rfl | (simp [errW_none, errW_some] <;> rfl) | (simp [*, errW_none, errW_some] <;> rfl) | (simp [errW_none, errW_some]; exact Go.Proofs.YtgbielhbjgipoaaW.OwnWords.isEmpty_bne _), by repeat (first | (with_reducible first | exact HB.out | apply below_alloc | apply pw_below_drewN | apply below_drew1 | refine below_set ?_ GE312.out) | exact HB.out)⟩
         ·rw [if_neg c32] at H
          have c32b0 : ((bt a0_1 0) == 10) = false := beq_eq_false_iff_ne.mpr c32
          have c32b1 : ((bt a0_1 0) != 10) = true := bne_iff_ne.mpr c32
          by_cases c34 : (bt a0_1 0) ≥ 32
          ·rw [if_pos c34] at H
           have c34b0 : decide (32 ≤ (bt a0_1 0)) = true := decide_eq_true c34
           clear c34
           obtain rfl := Option.some.inj H
           have p31 : 0 ≤ (0 : Int) := (by omega)
           have q31 : 0 < a0_1.size := (by have : (0 : Int) < (a0_1.size : Int) := of_decide_eq_true (by first | (with_reducible assumption) | assumption); omega)
           have hx31 : ∀ h : 0 < a0_1.size, ((a0_1[0]'h).toNat : Int) = bt a0_1 0 := bt_at a0_1 0
           clear p31
           have qi31 : (0 < (a0_1.size : Int)) = True := eq_true (of_decide_eq_true (by first | (with_reducible assumption) | assumption))
           replace q31 := eq_true q31
           have p33 : 0 ≤ (0 : Int) := (by omega)
           have q33 : 0 < a0_1.size := (by have : (0 : Int) < (a0_1.size : Int) := of_decide_eq_true (by first | (with_reducible assumption) | assumption); omega)
           have hx33 : ∀ h : 0 < a0_1.size, ((a0_1[0]'h).toNat : Int) = bt a0_1 0 := bt_at a0_1 0
           clear p33
           have qi33 : (0 < (a0_1.size : Int)) = True := eq_true (of_decide_eq_true (by first | (with_reducible assumption) | assumption))
           replace q33 := eq_true q33
           have p35 : 0 ≤ (0 : Int) := (by omega)
           have q35 : 0 < a0_1.size := (by have : (0 : Int) < (a0_1.size : Int) := of_decide_eq_true (by first | (with_reducible assumption) | assumption); omega)
           have hx35 : ∀ h : 0 < a0_1.size, ((a0_1[0]'h).toNat : Int) = bt a0_1 0 := bt_at a0_1 0
           clear p35
           have qi35 : (0 < (a0_1.size : Int)) = True := eq_true (of_decide_eq_true (by first | (with_reducible assumption) | assumption))
           replace q35 := eq_true q35
           go_wp2
           go_ret
           exact ⟨by first | rfl | (simp [errW_none, errW_some] <;> rfl) | (simp [*, errW_none, errW_some] <;> rfl) | (simp [errW_none, errW_some]; exact Go.Proofs.YtgbielhbjgipoaaW.OwnWords.isEmpty_bne _), by repeat (first | (with_reducible first | exact HB.out | apply below_alloc | apply pw_below_drewN | apply below_drew1 | refine below_set ?_ GE312.out) | exact HB.out)⟩
          ·rw [if_neg c34] at H
           have c34b0 : decide (32 ≤ (bt a0_1 0)) = false := decide_eq_false c34
           clear c34
           obtain rfl := Option.some.inj H
           have p31 : 0 ≤ (0 : Int) := (by omega)
           have q31 : 0 < a0_1.size := (by have : (0 : Int) < (a0_1.size : Int) := of_decide_eq_true (by first | (with_reducible assumption) | assumption); omega)
           have hx31 : ∀ h : 0 < a0_1.size, ((a0_1[0]'h).toNat : Int) = bt a0_1 0 := bt_at a0_1 0
           clear p31
           have qi31 : (0 < (a0_1.size : Int)) = True := eq_true (of_decide_eq_true (by first | (with_reducible assumption) | assumption))
           replace q31 := eq_true q31
           have p33 : 0 ≤ (0 : Int) := (by omega)
           have q33 : 0 < a0_1.size := (by have : (0 : Int) < (a0_1.size : Int) := of_decide_eq_true (by first | (with_reducible assumption) | assumption); omega)
           have hx33 : ∀ h : 0 < a0_1.size, ((a0_1[0]'h).toNat : Int) = bt a0_1 0 := bt_at a0_1 0
           clear p33
           have qi33 : (0 < (a0_1.size : Int)) = True := eq_true (of_decide_eq_true (by first | (with_reducible assumption) | assumption))
           replace q33 := eq_true q33
           go_wp2
           go_ret
           exact ⟨by first | rfl | (simp [errW_none, errW_some] <;> rfl) | (simp [*, errW_none, errW_some] <;> rfl) | (simp [errW_none, errW_some]; exact Go.Proofs.YtgbielhbjgipoaaW.OwnWords.isEmpty_bne _), by repeat (first | (with_reducible first | exact HB.out | apply below_alloc | apply pw_below_drewN | apply below_drew1 | refine below_set ?_ GE312.out) | exact HB.out)⟩
        ·rw [if_neg c30] at H
         exact absurd H (by simp)
       ·rw [if_neg c29] at H
        have c29b0 : ((a0_1.size : Int) == 1) = false := beq_eq_false_iff_ne.mpr c29
        have c29b1 : ((a0_1.size : Int) != 1) = true := bne_iff_ne.mpr c29
        obtain rfl := Option.some.inj H
        go_wp2
        go_ret
        exact ⟨by first | rfl | (simp [errW_none, errW_some] <;> rfl) | (simp [*, errW_none, errW_some] <;> rfl) | (simp [errW_none, errW_some]; exact Go.Proofs.YtgbielhbjgipoaaW.OwnWords.isEmpty_bne _), by repeat (first | (with_reducible first | exact HB.out | apply below_alloc | apply pw_below_drewN | apply below_drew1 | refine below_set ?_ GE312.out) | exact HB.out)⟩
      ·rw [if_neg c28] at H
       have c28b0 : (a0_0.toList == ([99, 104, 97, 114] : List UInt8)) = false := beq_eq_false_iff_ne.mpr c28
       have c28b1 : (a0_0.toList != ([99, 104, 97, 114] : List UInt8)) = true := bne_iff_ne.mpr c28
       by_cases c36 : a0_0.toList = ([107, 101, 121] : List UInt8)
       ·rw [if_pos c36] at H
        have c36b0 : (a0_0.toList == ([107, 101, 121] : List UInt8)) = true := beq_iff_eq.mpr c36
        have c36b1 : (a0_0.toList != ([107, 101, 121] : List UInt8)) = false := bne_eq_false_iff_eq.mpr c36
        clear c36
        replace H := Option.bind_eq_some_iff.mp H
        obtain ⟨t321, A370, H⟩ := H
        replace H : (some t321) = some r := H
        have A37 := Aside0.mk A370
        clear A370
        obtain rfl := Option.some.inj H
        go_wp2_with (first | ((with_reducible refine gate_callee (f := 41) rfl ?_); refine goesL_ (some 74) rfl rfl Try.func41 (by kernel_rfl) rfl #[.string a0_1] rfl (by (try simp only [List.map_toArray, List.map_cons, List.map_nil]); first | done | rfl | (simp only [List.length_drop, List.length_take]; rfl)) ?_; (with_reducible refine (token_isKey.calls a0_1 t321 _ A37.out).mono ?_); rintro e w' ⟨rfl, ⟨nd, rfl⟩⟩; refine ⟨_, rfl, ?_⟩))
        go_ret
        exact ⟨by first | rfl | (simp [errW_none, errW_some] <;> rfl) | (simp [*, errW_none, errW_some] <;> rfl) | (simp [errW_none, errW_some]; exact Go.Proofs.YtgbielhbjgipoaaW.OwnWords.isEmpty_bne _), by repeat (first | (with_reducible first | exact HB.out | apply below_alloc | apply pw_below_drewN | apply below_drew1 | refine below_set ?_ GE312.out) | exact HB.out)⟩
       ·rw [if_neg c36] at H
        have c36b0 : (a0_0.toList == ([107, 101, 121] : List UInt8)) = false := beq_eq_false_iff_ne.mpr c36
        have c36b1 : (a0_0.toList != ([107, 101, 121] : List UInt8)) = true := bne_iff_ne.mpr c36
        by_cases c38 : a0_0.toList = ([115, 105, 103, 110] : List UInt8)
        ·rw [if_pos c38] at H
         have c38b0 : (a0_0.toList == ([115, 105, 103, 110] : List UInt8)) = true := beq_iff_eq.mpr c38
         have c38b1 : (a0_0.toList != ([115, 105, 103, 110] : List UInt8)) = false := bne_eq_false_iff_eq.mpr c38
         clear c38
         by_cases c39 : a0_1.toList = ([] : List UInt8)
         ·rw [if_pos c39] at H
          have c39b0 : (a0_1.toList == ([] : List UInt8)) = true := beq_iff_eq.mpr c39
          have c39b1 : (a0_1.toList != ([] : List UInt8)) = false := bne_eq_false_iff_eq.mpr c39
          clear c39
          obtain rfl := Option.some.inj H
          go_wp2
          go_ret
          exact ⟨by first | rfl | (simp [errW_none, errW_some] <;> rfl) | (simp [*, errW_none, errW_some] <;> rfl) | (simp [errW_none, errW_some]; exact Go.Proofs.YtgbielhbjgipoaaW.OwnWords.isEmpty_bne _), by repeat (first | (with_reducible first | exact HB.out | apply below_alloc | apply pw_below_drewN | apply below_drew1 | refine below_set ?_ GE312.out) | exact HB.out)⟩
         ·rw [if_neg c39] at H
          have c39b0 : (a0_1.toList == ([] : List UInt8)) = false := beq_eq_false_iff_ne.mpr c39
          have c39b1 : (a0_1.toList != ([] : List UInt8)) = true := bne_iff_ne.mpr c39
          replace H := Option.bind_eq_some_iff.mp H
          obtain ⟨t322, A400, H⟩ := H
          replace H : (some (t322.toList == a0_1.toList)) = some r := H
          have A40 := Aside0.mk A400
          clear A400
          obtain rfl := Option.some.inj H
          go_wp2_with (first | (go_at_call 48; (with_reducible refine (token_signAt.calls kj5 a0_1 t322 _ A40.out).mono ?_); rintro e w41 ⟨rfl, hb⟩; have n0_ := Aside0.mk (blk_below (g := gb312) (o := .cells #[.string a0_0, .string a0_1, .int .i64 a0_2] 29 (0, 0)) (by (with_reducible repeat (first | refine blk_drewN ?_ _ | refine blk_drew ?_ | refine blk_alloc ?_ _)); exact BK312.out) hb); have n1_ := Aside0.mk (below_step (by repeat (first | (with_reducible first | exact HB.out | apply below_alloc | apply pw_below_drewN | apply below_drew1 | refine below_set ?_ GE312.out) | exact HB.out)) hb); clear BK312; clear HB; have BK312 := n0_; have HB := n1_; clear n0_ n1_; (try clear hb); (try clear hb2); (try clear hk); (try clear hi)))
          go_ret
          exact ⟨by first | rfl | (simp [errW_none, errW_some] <;> rfl) | (simp [*, errW_none, errW_some] <;> rfl) | (simp [errW_none, errW_some]; exact Go.Proofs.YtgbielhbjgipoaaW.OwnWords.isEmpty_bne _), by repeat (first | (with_reducible first | exact HB.out | apply below_alloc | apply pw_below_drewN | apply below_drew1 | refine below_set ?_ GE312.out) | exact HB.out)⟩
        ·rw [if_neg c38] at H
         have c38b0 : (a0_0.toList == ([115, 105, 103, 110] : List UInt8)) = false := beq_eq_false_iff_ne.mpr c38
         have c38b1 : (a0_0.toList != ([115, 105, 103, 110] : List UInt8)) = true := bne_iff_ne.mpr c38
         obtain rfl := Option.some.inj H
         go_wp2
         go_ret
         exact ⟨by first | rfl | (simp [errW_none, errW_some] <;> rfl) | (simp [*, errW_none, errW_some] <;> rfl) | (simp [errW_none, errW_some]; exact Go.Proofs.YtgbielhbjgipoaaW.OwnWords.isEmpty_bne _), by repeat (first | (with_reducible first | exact HB.out | apply below_alloc | apply pw_below_drewN | apply below_drew1 | refine below_set ?_ GE312.out) | exact HB.out)⟩

end Go.Proofs.Ytgbielhbjgipoaa.Q
