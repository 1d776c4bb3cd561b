-- Walks of Go functions; written by own_print.py of this repo (see NOTES.md).
import Derived.Test.YtgfbgfbnmiainaaBFamilyTellsq0
import Derived.Test.YtgfbgfbnmiainaaBFamilyTellsq1
section
namespace Go.Proofs.Ytgfbgfbnmiainaa.Q
open Go.RowKit Go.Proofs.YtgfbgfbnmiainaaW.PrintWords Go.Proofs.YtgfbgfbnmiainaaW.PrintLast Go.Proofs.YtgfbgfbnmiainaaW.PrintMore Go.Proofs.YtgfbgfbnmiainaaW.OwnWords
attribute [local go_sem] Go.Proofs.YtgfbgfbnmiainaaW.OwnWords.isSome_setCell max2_int min2_int max_two min_two max_three min_three max_four min_four
set_option linter.unusedVariables false
set_option linter.unusedSimpArgs false

/-! ### family_Has: function 26 -/
def family_Has.f (k : Nat) (l0_0 : List Int) (l0_1 : List Int) (a0_2 : Int) (a0_3 : Int) (l1 : List Int) : Option (Bool) := (family_open.f k l0_0 l0_1 a0_2 a0_3).bind fun bt371 => ((family_mask.f k l1).bind fun bt377 => (if bt371.2.2.2.2 = true then (if bt377.2 = true then (if (Go.bits .andNot .u64 bt371.1 bt377.1) = 0 then (if (Go.bits .andNot .u64 bt377.1 bt371.2.1) = 0 then (if (l1.length : Int) ≥ bt371.2.2.1 then (some (decide ((l1.length : Int) ≤ bt371.2.2.2.1))) else (some false)) else (some false)) else (some false)) else (some false)) else (some false)))
theorem family_Has.mono : ∀ a0 a1 a2 a3 a4 k, LeO (family_Has.f k a0 a1 a2 a3 a4) (family_Has.f (k + 1) a0 a1 a2 a3 a4) := by
 intro a0 a1 a2 a3 a4 k
 unfold family_Has.f
 repeat' first
   | (with_reducible exact family_mask.mono _ _)
   | (with_reducible exact family_open.mono _ _ _ _ _)
   | (with_reducible exact LeO.refl _)
   | (with_reducible exact LeO.none _)
   | (with_reducible refine LeO.ite ?_ ?_)
   | (with_reducible refine LeO.bind ?_ (fun _ => ?_))
   | exact family_mask.mono _ _
   | exact family_open.mono _ _ _ _ _
   | exact LeO.none _
   | refine LeO.ite ?_ ?_
   | refine LeO.bind ?_ (fun _ => ?_)
set_option maxHeartbeats 8000000 in
set_option maxRecDepth 100000 in
theorem family_Has.calls (k : Nat) (A0_0 : Option Addr) (c0_0 : Nat) (l0_0 : List Int) (A0_1 : Option Addr) (c0_1 : Nat) (l0_1 : List Int) (a0_2 : Int) (a0_3 : Int) (A1 : Option Addr) (c1 : Nat) (l1 : List Int) (r : Bool) (w : World) (hr0_0 : Kd.C (Kd.int .i64) w A0_0 l0_0.length l0_0) (hc0_0 : l0_0.length ≤ c0_0) (hr0_1 : Kd.C (Kd.int .i64) w A0_1 l0_1.length l0_1) (hc0_1 : l0_1.length ≤ c0_1) (hr1 : Kd.C (Kd.int .i64) w A1 l1.length l1) (hc1 : l1.length ≤ c1) (h : family_Has.f k l0_0 l0_1 a0_2 a0_3 l1 = some r) :
  Calls Try.prog 26 #[.agg #[.slice A0_0 l0_0.length c0_0, .slice A0_1 l0_1.length c0_1, .int .i64 a0_2, .int .i64 a0_3], .slice A1 l1.length c1] w fun e w' => e = .returned (.bool r) ∧ Below w.heap.size w w' := by
 have hu37 := Try.underlying37
 have hu59 := Try.underlying59
 have HR0_0 := Aside0.mk hr0_0
 have HC0_0 := Aside0.mk hc0_0
 clear hr0_0 hc0_0
 have HR0_1 := Aside0.mk hr0_1
 have HC0_1 := Aside0.mk hc0_1
 clear hr0_1 hc0_1
 have HR1 := Aside0.mk hr1
 have HC1 := Aside0.mk hc1
 clear hr1 hc1
 have HB := Aside0.mk (Below.refl w.heap.size w)
 have H : ((family_open.f k l0_0 l0_1 a0_2 a0_3).bind fun bt371 => ((family_mask.f k l1).bind fun bt377 => (if bt371.2.2.2.2 = true then (if bt377.2 = true then (if (Go.bits .andNot .u64 bt371.1 bt377.1) = 0 then (if (Go.bits .andNot .u64 bt377.1 bt371.2.1) = 0 then (if (l1.length : Int) ≥ bt371.2.2.1 then (some (decide ((l1.length : Int) ≤ bt371.2.2.2.1))) else (some false)) else (some false)) else (some false)) else (some false)) else (some false)))) = some r := h
 clear h
 replace H := Option.bind_eq_some_iff.mp H
 obtain ⟨⟨t371, t372, t373, t374, t375⟩, A30, H⟩ := H
 replace H : ((family_mask.f k l1).bind fun bt377 => (if t375 = true then (if bt377.2 = true then (if (Go.bits .andNot .u64 t371 bt377.1) = 0 then (if (Go.bits .andNot .u64 bt377.1 t372) = 0 then (if (l1.length : Int) ≥ t373 then (some (decide ((l1.length : Int) ≤ t374))) else (some false)) else (some false)) else (some false)) else (some false)) else (some false))) = some r := H
 have A3 := Aside0.mk A30
 clear A30
 replace H := Option.bind_eq_some_iff.mp H
 obtain ⟨⟨t377, t378⟩, A40, H⟩ := H
 replace H : (if t375 = true then (if t378 = true then (if (Go.bits .andNot .u64 t371 t377) = 0 then (if (Go.bits .andNot .u64 t377 t372) = 0 then (if (l1.length : Int) ≥ t373 then (some (decide ((l1.length : Int) ≤ t374))) else (some false)) else (some false)) else (some false)) else (some false)) else (some false)) = some r := H
 have A4 := Aside0.mk A40
 clear A40
 by_cases c5 : t375 = true
 ·subst c5
  have H1 : (if t378 = true then (if (Go.bits .andNot .u64 t371 t377) = 0 then (if (Go.bits .andNot .u64 t377 t372) = 0 then (if (l1.length : Int) ≥ t373 then (some (decide ((l1.length : Int) ≤ t374))) else (some false)) else (some false)) else (some false)) else (some false)) = some r := by rw [if_pos rfl] at H; exact H
  clear H
  have H := H1
  clear H1
  by_cases c6 : t378 = true
  ·subst c6
   have H1 : (if (Go.bits .andNot .u64 t371 t377) = 0 then (if (Go.bits .andNot .u64 t377 t372) = 0 then (if (l1.length : Int) ≥ t373 then (some (decide ((l1.length : Int) ≤ t374))) else (some false)) else (some false)) else (some false)) = some r := by rw [if_pos rfl] at H; exact H
   clear H
   have H := H1
   clear H1
   by_cases c7 : (Go.bits .andNot .u64 t371 t377) = 0
   ·rw [if_pos c7] at H
    have c7b0 : ((Go.bits .andNot .u64 t371 t377) == 0) = true := beq_iff_eq.mpr c7
    have c7b1 : ((Go.bits .andNot .u64 t371 t377) != 0) = false := bne_eq_false_iff_eq.mpr c7
    clear c7
    by_cases c8 : (Go.bits .andNot .u64 t377 t372) = 0
    ·rw [if_pos c8] at H
     have c8b0 : ((Go.bits .andNot .u64 t377 t372) == 0) = true := beq_iff_eq.mpr c8
     have c8b1 : ((Go.bits .andNot .u64 t377 t372) != 0) = false := bne_eq_false_iff_eq.mpr c8
     clear c8
     by_cases c9 : (l1.length : Int) ≥ t373
     ·rw [if_pos c9] at H
      have c9b0 : decide (t373 ≤ (l1.length : Int)) = true := decide_eq_true c9
      clear c9
      obtain rfl := Option.some.inj H
      go_enter Try.func26, Try.ntmps26
      go_wp2_with (first | ((with_reducible refine gate_dst (N := 2) rfl ?_); refine box_event ?hg (N := 2) ?hd (cs := #[.slice A0_0 l0_0.length c0_0, .slice A0_1 l0_1.length c0_1, .int .i64 a0_2, .int .i64 a0_3]) (t := 37) ?hr ?_; (case hd => rfl); (case hg => rfl); (case hr => first | (go_simp; done) | (go_simp; rfl)); intro gb370 hg w10 hbox hb; have n0_ := Aside0.mk (below_step bSt_ hb); have n1_ := Aside0.mk (hbox); have n2_ := Aside0.mk ((by rw [hg]; exact (below_size bSt_) : w.heap.size ≤ gb370)); have n3_ := Aside0.mk ((by rw [hg]; exact (below_size bSt_) : w.heap.size ≤ gb370)); clear HB; have HB := n0_; have BK370 := n1_; have GW370 := n2_; have GE370 := n3_; clear n0_ n1_ n2_ n3_; clear hb hbox hg; have hcz11_0 : w10.cell? ⟨gb370, 0, none⟩ = some (.slice A0_0 l0_0.length c0_0) := (blk_cell BK370.out 0).trans rfl; have hcz11_1 : w10.cell? ⟨gb370, 1, none⟩ = some (.slice A0_1 l0_1.length c0_1) := (blk_cell BK370.out 1).trans rfl; have hcz11_2 : w10.cell? ⟨gb370, 2, none⟩ = some (.int .i64 a0_2) := (blk_cell BK370.out 2).trans rfl; have hcz11_3 : w10.cell? ⟨gb370, 3, none⟩ = some (.int .i64 a0_3) := (blk_cell BK370.out 3).trans rfl; have hfz11_0 := blk_frozen BK370.out 0; have hfz11_1 := blk_frozen BK370.out 1; have hfz11_2 := blk_frozen BK370.out 2; have hfz11_3 := blk_frozen BK370.out 3) | ((with_reducible refine gate_callee (f := 36) rfl ?_); refine goesL_ (some 12) rfl rfl Try.func36 (by kernel_rfl) rfl #[.agg #[.slice A0_0 l0_0.length c0_0, .slice A0_1 l0_1.length c0_1, .int .i64 a0_2, .int .i64 a0_3]] rfl (by (try simp only [List.map_toArray, List.map_cons, List.map_nil]); first | done | rfl | (simp only [List.length_drop, List.length_take]; rfl)) ?_; (with_reducible refine (family_open.calls k _ _ l0_0 _ _ l0_1 a0_2 a0_3 t371 t372 t373 t374 true _ ?side1 ?side2 ?side3 ?side4 A3.out).mono ?_); (case side1 => repeat (first | exact (Kd.C_below HR0_0.out HB.out) | (with_reducible refine Kd.C_alloc ?_ _) | (with_reducible refine Kd.C_drewN ?_ _) | (with_reducible refine Kd.C_drew ?_))); (case side2 => exact HC0_0.out); (case side3 => repeat (first | exact (Kd.C_below HR0_1.out HB.out) | (with_reducible refine Kd.C_alloc ?_ _) | (with_reducible refine Kd.C_drewN ?_ _) | (with_reducible refine Kd.C_drew ?_))); (case side4 => exact HC0_1.out); rintro e w12 ⟨rfl, hb⟩; refine ⟨_, rfl, ?_⟩; have n0_ := Aside0.mk (blk_below (bKq_ BK370.out) hb); have n1_ := Aside0.mk (below_step bSt_ hb); clear BK370; clear HB; have BK370 := n0_; have HB := n1_; clear n0_ n1_; (try clear hb); (try clear hb2); (try clear hk); (try clear hi)) | ((with_reducible refine gate_dst (N := 5) rfl ?_); refine box_event ?hg (N := 5) ?hd (cs := #[.int .u64 0, .int .u64 0, .int .i64 0, .int .i64 0]) (t := 59) ?hr ?_; (case hd => rfl); (case hg => rfl); (case hr => first | (go_simp; done) | (go_simp; rfl)); intro gb376 hg w13 hbox hb; have n0_ := Aside0.mk (blk_below (bKq_ BK370.out) hb); have n1_ := Aside0.mk (below_step bSt_ hb); have n2_ := Aside0.mk (hbox); have n3_ := Aside0.mk ((by rw [hg]; exact (below_size bSt_) : w.heap.size ≤ gb376)); have n4_ := Aside0.mk ((by rw [hg]; exact (below_size bSt_) : w.heap.size ≤ gb376)); have n5_ := Aside0.mk ((by rw [hg]; exact Nat.ne_of_lt (blk_lt (bKq_ BK370.out)) : gb370 ≠ gb376)); have n6_ := Aside0.mk ((by rw [hg]; exact Nat.ne_of_gt (blk_lt (bKq_ BK370.out)) : gb376 ≠ gb370)); clear BK370; clear HB; have BK370 := n0_; have HB := n1_; have BK376 := n2_; have GW376 := n3_; have GE376 := n4_; have NB370_376 := n5_; have NB376_370 := n6_; clear n0_ n1_ n2_ n3_ n4_ n5_ n6_; clear hb hbox hg; have hnb14 := NB376_370.out; have hnc14 := NB370_376.out; have hcz15_0 : w13.cell? ⟨gb376, 0, none⟩ = some (.int .u64 0) := (blk_cell BK376.out 0).trans rfl; have hcz15_1 : w13.cell? ⟨gb376, 1, none⟩ = some (.int .u64 0) := (blk_cell BK376.out 1).trans rfl; have hcz15_2 : w13.cell? ⟨gb376, 2, none⟩ = some (.int .i64 0) := (blk_cell BK376.out 2).trans rfl; have hcz15_3 : w13.cell? ⟨gb376, 3, none⟩ = some (.int .i64 0) := (blk_cell BK376.out 3).trans rfl; have hfz15_0 := blk_frozen BK376.out 0; have hfz15_1 := blk_frozen BK376.out 1; have hfz15_2 := blk_frozen BK376.out 2; have hfz15_3 := blk_frozen BK376.out 3) | ((with_reducible refine gate_callee (f := 50) rfl ?_); refine goesL_ (some 17) rfl rfl Try.func50 (by kernel_rfl) rfl #[.slice A1 l1.length c1] rfl (by (try simp only [List.map_toArray, List.map_cons, List.map_nil]); first | done | rfl | (simp only [List.length_drop, List.length_take]; rfl)) ?_; (with_reducible refine (family_mask.calls k _ _ l1 t377 true _ ?side1 ?side2 A4.out).mono ?_); (case side1 => exact Kd.C_below HR1.out bSt_); (case side2 => exact HC1.out); rintro e w' ⟨rfl, ⟨nd, rfl⟩⟩; refine ⟨_, rfl, ?_⟩))
      go_ret
      exact ⟨by first | rfl | (simp [errW_none, errW_some] <;> rfl) | (simp [*, errW_none, errW_some] <;> rfl) | (simp [errW_none, errW_some]; exact Go.Proofs.YtgfbgfbnmiainaaW.OwnWords.isEmpty_bne _), bSt_⟩
     ·rw [if_neg c9] at H
      have c9b0 : decide (t373 ≤ (l1.length : Int)) = false := decide_eq_false c9
      clear c9
      obtain rfl := Option.some.inj H
      go_enter Try.func26, Try.ntmps26
      go_wp2_with (first | ((with_reducible refine gate_dst (N := 2) rfl ?_); refine box_event ?hg (N := 2) ?hd (cs := #[.slice A0_0 l0_0.length c0_0, .slice A0_1 l0_1.length c0_1, .int .i64 a0_2, .int .i64 a0_3]) (t := 37) ?hr ?_; (case hd => rfl); (case hg => rfl); (case hr => first | (go_simp; done) | (go_simp; rfl)); intro gb370 hg w16 hbox hb; have n0_ := Aside0.mk (below_step bSt_ hb); have n1_ := Aside0.mk (hbox); have n2_ := Aside0.mk ((by rw [hg]; exact (below_size bSt_) : w.heap.size ≤ gb370)); have n3_ := Aside0.mk ((by rw [hg]; exact (below_size bSt_) : w.heap.size ≤ gb370)); clear HB; have HB := n0_; have BK370 := n1_; have GW370 := n2_; have GE370 := n3_; clear n0_ n1_ n2_ n3_; clear hb hbox hg; have hcz17_0 : w16.cell? ⟨gb370, 0, none⟩ = some (.slice A0_0 l0_0.length c0_0) := (blk_cell BK370.out 0).trans rfl; have hcz17_1 : w16.cell? ⟨gb370, 1, none⟩ = some (.slice A0_1 l0_1.length c0_1) := (blk_cell BK370.out 1).trans rfl; have hcz17_2 : w16.cell? ⟨gb370, 2, none⟩ = some (.int .i64 a0_2) := (blk_cell BK370.out 2).trans rfl; have hcz17_3 : w16.cell? ⟨gb370, 3, none⟩ = some (.int .i64 a0_3) := (blk_cell BK370.out 3).trans rfl; have hfz17_0 := blk_frozen BK370.out 0; have hfz17_1 := blk_frozen BK370.out 1; have hfz17_2 := blk_frozen BK370.out 2; have hfz17_3 := blk_frozen BK370.out 3) | ((with_reducible refine gate_callee (f := 36) rfl ?_); refine goesL_ (some 12) rfl rfl Try.func36 (by kernel_rfl) rfl #[.agg #[.slice A0_0 l0_0.length c0_0, .slice A0_1 l0_1.length c0_1, .int .i64 a0_2, .int .i64 a0_3]] rfl (by (try simp only [List.map_toArray, List.map_cons, List.map_nil]); first | done | rfl | (simp only [List.length_drop, List.length_take]; rfl)) ?_; (with_reducible refine (family_open.calls k _ _ l0_0 _ _ l0_1 a0_2 a0_3 t371 t372 t373 t374 true _ ?side1 ?side2 ?side3 ?side4 A3.out).mono ?_); (case side1 => repeat (first | exact (Kd.C_below HR0_0.out HB.out) | (with_reducible refine Kd.C_alloc ?_ _) | (with_reducible refine Kd.C_drewN ?_ _) | (with_reducible refine Kd.C_drew ?_))); (case side2 => exact HC0_0.out); (case side3 => repeat (first | exact (Kd.C_below HR0_1.out HB.out) | (with_reducible refine Kd.C_alloc ?_ _) | (with_reducible refine Kd.C_drewN ?_ _) | (with_reducible refine Kd.C_drew ?_))); (case side4 => exact HC0_1.out); rintro e w18 ⟨rfl, hb⟩; refine ⟨_, rfl, ?_⟩; have n0_ := Aside0.mk (blk_below (bKq_ BK370.out) hb); have n1_ := Aside0.mk (below_step bSt_ hb); clear BK370; clear HB; have BK370 := n0_; have HB := n1_; clear n0_ n1_; (try clear hb); (try clear hb2); (try clear hk); (try clear hi)) | ((with_reducible refine gate_dst (N := 5) rfl ?_); refine box_event ?hg (N := 5) ?hd (cs := #[.int .u64 0, .int .u64 0, .int .i64 0, .int .i64 0]) (t := 59) ?hr ?_; (case hd => rfl); (case hg => rfl); (case hr => first | (go_simp; done) | (go_simp; rfl)); intro gb376 hg w19 hbox hb; have n0_ := Aside0.mk (blk_below (bKq_ BK370.out) hb); have n1_ := Aside0.mk (below_step bSt_ hb); have n2_ := Aside0.mk (hbox); have n3_ := Aside0.mk ((by rw [hg]; exact (below_size bSt_) : w.heap.size ≤ gb376)); have n4_ := Aside0.mk ((by rw [hg]; exact (below_size bSt_) : w.heap.size ≤ gb376)); have n5_ := Aside0.mk ((by rw [hg]; exact Nat.ne_of_lt (blk_lt (bKq_ BK370.out)) : gb370 ≠ gb376)); have n6_ := Aside0.mk ((by rw [hg]; exact Nat.ne_of_gt (blk_lt (bKq_ BK370.out)) : gb376 ≠ gb370)); clear BK370; clear HB; have BK370 := n0_; have HB := n1_; have BK376 := n2_; have GW376 := n3_; have GE376 := n4_; have NB370_376 := n5_; have NB376_370 := n6_; clear n0_ n1_ n2_ n3_ n4_ n5_ n6_; clear hb hbox hg; have hnb20 := NB376_370.out; have hnc20 := NB370_376.out; have hcz21_0 : w19.cell? ⟨gb376, 0, none⟩ = some (.int .u64 0) := (blk_cell BK376.out 0).trans rfl; have hcz21_1 : w19.cell? ⟨gb376, 1, none⟩ = some (.int .u64 0) := (blk_cell BK376.out 1).trans rfl; have hcz21_2 : w19.cell? ⟨gb376, 2, none⟩ = some (.int .i64 0) := (blk_cell BK376.out 2).trans rfl; have hcz21_3 : w19.cell? ⟨gb376, 3, none⟩ = some (.int .i64 0) := (blk_cell BK376.out 3).trans rfl; have hfz21_0 := blk_frozen BK376.out 0; have hfz21_1 := blk_frozen BK376.out 1; have hfz21_2 := blk_frozen BK376.out 2; have hfz21_3 := blk_frozen BK376.out 3) | ((with_reducible refine gate_callee (f := 50) rfl ?_); refine goesL_ (some 17) rfl rfl Try.func50 (by kernel_rfl) rfl #[.slice A1 l1.length c1] rfl (by (try simp only [List.map_toArray, List.map_cons, List.map_nil]); first | done | rfl | (simp only [List.length_drop, List.length_take]; rfl)) ?_; (with_reducible refine (family_mask.calls k _ _ l1 t377 true _ ?side1 ?side2 A4.out).mono ?_); (case side1 => exact Kd.C_below HR1.out bSt_); (case side2 => exact HC1.out); rintro e w' ⟨rfl, ⟨nd, rfl⟩⟩; refine ⟨_, rfl, ?_⟩))
      go_ret
      exact ⟨by first | rfl | (simp [errW_none, errW_some] <;> rfl) | (simp [*, errW_none, errW_some] <;> rfl) | (simp [errW_none, errW_some]; exact Go.Proofs.YtgfbgfbnmiainaaW.OwnWords.isEmpty_bne _), bSt_⟩
    ·rw [if_neg c8] at H
     have c8b0 : ((Go.bits .andNot .u64 t377 t372) == 0) = false := beq_eq_false_iff_ne.mpr c8
     have c8b1 : ((Go.bits .andNot .u64 t377 t372) != 0) = true := bne_iff_ne.mpr c8
     obtain rfl := Option.some.inj H
     go_enter Try.func26, Try.ntmps26
     go_wp2_with (first | ((with_reducible refine gate_dst (N := 2) rfl ?_); refine box_event ?hg (N := 2) ?hd (cs := #[.slice A0_0 l0_0.length c0_0, .slice A0_1 l0_1.length c0_1, .int .i64 a0_2, .int .i64 a0_3]) (t := 37) ?hr ?_; (case hd => rfl); (case hg => rfl); (case hr => first | (go_simp; done) | (go_simp; rfl)); intro gb370 hg w22 hbox hb; have n0_ := Aside0.mk (below_step bSt_ hb); have n1_ := Aside0.mk (hbox); have n2_ := Aside0.mk ((by rw [hg]; exact (below_size bSt_) : w.heap.size ≤ gb370)); have n3_ := Aside0.mk ((by rw [hg]; exact (below_size bSt_) : w.heap.size ≤ gb370)); clear HB; have HB := n0_; have BK370 := n1_; have GW370 := n2_; have GE370 := n3_; clear n0_ n1_ n2_ n3_; clear hb hbox hg; have hcz23_0 : w22.cell? ⟨gb370, 0, none⟩ = some (.slice A0_0 l0_0.length c0_0) := (blk_cell BK370.out 0).trans rfl; have hcz23_1 : w22.cell? ⟨gb370, 1, none⟩ = some (.slice A0_1 l0_1.length c0_1) := (blk_cell BK370.out 1).trans rfl; have hcz23_2 : w22.cell? ⟨gb370, 2, none⟩ = some (.int .i64 a0_2) := (blk_cell BK370.out 2).trans rfl; have hcz23_3 : w22.cell? ⟨gb370, 3, none⟩ = some (.int .i64 a0_3) := (blk_cell BK370.out 3).trans rfl; have hfz23_0 := blk_frozen BK370.out 0; have hfz23_1 := blk_frozen BK370.out 1; have hfz23_2 := blk_frozen BK370.out 2; have hfz23_3 := blk_frozen BK370.out 3) | ((with_reducible refine gate_callee (f := 36) rfl ?_); refine goesL_ (some 12) rfl rfl Try.func36 (by kernel_rfl) rfl #[.agg #[.slice A0_0 l0_0.length c0_0, .slice A0_1 l0_1.length c0_1, .int .i64 a0_2, .int .i64 a0_3]] rfl (by (try simp only [List.map_toArray, List.map_cons, List.map_nil]); first | done | rfl | (simp only [List.length_drop, List.length_take]; rfl)) ?_; (with_reducible refine (family_open.calls k _ _ l0_0 _ _ l0_1 a0_2 a0_3 t371 t372 t373 t374 true _ ?side1 ?side2 ?side3 ?side4 A3.out).mono ?_); (case side1 => repeat (first | exact (Kd.C_below HR0_0.out HB.out) | (with_reducible refine Kd.C_alloc ?_ _) | (with_reducible refine Kd.C_drewN ?_ _) | (with_reducible refine Kd.C_drew ?_))); (case side2 => exact HC0_0.out); (case side3 => repeat (first | exact (Kd.C_below HR0_1.out HB.out) | (with_reducible refine Kd.C_alloc ?_ _) | (with_reducible refine Kd.C_drewN ?_ _) | (with_reducible refine Kd.C_drew ?_))); (case side4 => exact HC0_1.out); rintro e w24 ⟨rfl, hb⟩; refine ⟨_, rfl, ?_⟩; have n0_ := Aside0.mk (blk_below (bKq_ BK370.out) hb); have n1_ := Aside0.mk (below_step bSt_ hb); clear BK370; clear HB; have BK370 := n0_; have HB := n1_; clear n0_ n1_; (try clear hb); (try clear hb2); (try clear hk); (try clear hi)) | ((with_reducible refine gate_dst (N := 5) rfl ?_); refine box_event ?hg (N := 5) ?hd (cs := #[.int .u64 0, .int .u64 0, .int .i64 0, .int .i64 0]) (t := 59) ?hr ?_; (case hd => rfl); (case hg => rfl); (case hr => first | (go_simp; done) | (go_simp; rfl)); intro gb376 hg w25 hbox hb; have n0_ := Aside0.mk (blk_below (bKq_ BK370.out) hb); have n1_ := Aside0.mk (below_step bSt_ hb); have n2_ := Aside0.mk (hbox); have n3_ := Aside0.mk ((by rw [hg]; exact (below_size bSt_) : w.heap.size ≤ gb376)); have n4_ := Aside0.mk ((by rw [hg]; exact (below_size bSt_) : w.heap.size ≤ gb376)); have n5_ := Aside0.mk ((by rw [hg]; exact Nat.ne_of_lt (blk_lt (bKq_ BK370.out)) : gb370 ≠ gb376)); have n6_ := Aside0.mk ((by rw [hg]; exact Nat.ne_of_gt (blk_lt (bKq_ BK370.out)) : gb376 ≠ gb370)); clear BK370; clear HB; have BK370 := n0_; have HB := n1_; have BK376 := n2_; have GW376 := n3_; have GE376 := n4_; have NB370_376 := n5_; have NB376_370 := n6_; clear n0_ n1_ n2_ n3_ n4_ n5_ n6_; clear hb hbox hg; have hnb26 := NB376_370.out; have hnc26 := NB370_376.out; have hcz27_0 : w25.cell? ⟨gb376, 0, none⟩ = some (.int .u64 0) := (blk_cell BK376.out 0).trans rfl; have hcz27_1 : w25.cell? ⟨gb376, 1, none⟩ = some (.int .u64 0) := (blk_cell BK376.out 1).trans rfl; have hcz27_2 : w25.cell? ⟨gb376, 2, none⟩ = some (.int .i64 0) := (blk_cell BK376.out 2).trans rfl; have hcz27_3 : w25.cell? ⟨gb376, 3, none⟩ = some (.int .i64 0) := (blk_cell BK376.out 3).trans rfl; have hfz27_0 := blk_frozen BK376.out 0; have hfz27_1 := blk_frozen BK376.out 1; have hfz27_2 := blk_frozen BK376.out 2; have hfz27_3 := blk_frozen BK376.out 3) | ((with_reducible refine gate_callee (f := 50) rfl ?_); refine goesL_ (some 17) rfl rfl Try.func50 (by kernel_rfl) rfl #[.slice A1 l1.length c1] rfl (by (try simp only [List.map_toArray, List.map_cons, List.map_nil]); first | done | rfl | (simp only [List.length_drop, List.length_take]; rfl)) ?_; (with_reducible refine (family_mask.calls k _ _ l1 t377 true _ ?side1 ?side2 A4.out).mono ?_); (case side1 => exact Kd.C_below HR1.out bSt_); (case side2 => exact HC1.out); rintro e w' ⟨rfl, ⟨nd, rfl⟩⟩; refine ⟨_, rfl, ?_⟩))
     go_ret
     exact ⟨by first | rfl | (simp [errW_none, errW_some] <;> rfl) | (simp [*, errW_none, errW_some] <;> rfl) | (simp [errW_none, errW_some]; exact Go.Proofs.YtgfbgfbnmiainaaW.OwnWords.isEmpty_bne _), bSt_⟩
   ·rw [if_neg c7] at H
    have c7b0 : ((Go.bits .andNot .u64 t371 t377) == 0) = false := beq_eq_false_iff_ne.mpr c7
    have c7b1 : ((Go.bits .andNot .u64 t371 t377) != 0) = true := bne_iff_ne.mpr c7
    obtain rfl := Option.some.inj H
    go_enter Try.func26, Try.ntmps26
    go_wp2_with (first | ((with_reducible refine gate_dst (N := 2) rfl ?_); refine box_event ?hg (N := 2) ?hd (cs := #[.slice A0_0 l0_0.length c0_0, .slice A0_1 l0_1.length c0_1, .int .i64 a0_2, .int .i64 a0_3]) (t := 37) ?hr ?_; (case hd => rfl); (case hg => rfl); (case hr => first | (go_simp; done) | (go_simp; rfl)); intro gb370 hg w28 hbox hb; have n0_ := Aside0.mk (below_step bSt_ hb); have n1_ := Aside0.mk (hbox); have n2_ := Aside0.mk ((by rw [hg]; exact (below_size bSt_) : w.heap.size ≤ gb370)); have n3_ := Aside0.mk ((by rw [hg]; exact (below_size bSt_) : w.heap.size ≤ gb370)); clear HB; have HB := n0_; have BK370 := n1_; have GW370 := n2_; have GE370 := n3_; clear n0_ n1_ n2_ n3_; clear hb hbox hg; have hcz29_0 : w28.cell? ⟨gb370, 0, none⟩ = some (.slice A0_0 l0_0.length c0_0) := (blk_cell BK370.out 0).trans rfl; have hcz29_1 : w28.cell? ⟨gb370, 1, none⟩ = some (.slice A0_1 l0_1.length c0_1) := (blk_cell BK370.out 1).trans rfl; have hcz29_2 : w28.cell? ⟨gb370, 2, none⟩ = some (.int .i64 a0_2) := (blk_cell BK370.out 2).trans rfl; have hcz29_3 : w28.cell? ⟨gb370, 3, none⟩ = some (.int .i64 a0_3) := (blk_cell BK370.out 3).trans rfl; have hfz29_0 := blk_frozen BK370.out 0; have hfz29_1 := blk_frozen BK370.out 1; have hfz29_2 := blk_frozen BK370.out 2; have hfz29_3 := blk_frozen BK370.out 3) | ((with_reducible refine gate_callee (f := 36) rfl ?_); refine goesL_ (some 12) rfl rfl Try.func36 (by kernel_rfl) rfl #[.agg #[.slice A0_0 l0_0.length c0_0, .slice A0_1 l0_1.length c0_1, .int .i64 a0_2, .int .i64 a0_3]] rfl (by (try simp only [List.map_toArray, List.map_cons, List.map_nil]); first | done | rfl | (simp only [List.length_drop, List.length_take]; rfl)) ?_; (with_reducible refine (family_open.calls k _ _ l0_0 _ _ l0_1 a0_2 a0_3 t371 t372 t373 t374 true _ ?side1 ?side2 ?side3 ?side4 A3.out).mono ?_); (case side1 => repeat (first | exact (Kd.C_below HR0_0.out HB.out) | (with_reducible refine Kd.C_alloc ?_ _) | (with_reducible refine Kd.C_drewN ?_ _) | (with_reducible refine Kd.C_drew ?_))); (case side2 => exact HC0_0.out); (case side3 => repeat (first | exact (Kd.C_below HR0_1.out HB.out) | (with_reducible refine Kd.C_alloc ?_ _) | (with_reducible refine Kd.C_drewN ?_ _) | (with_reducible refine Kd.C_drew ?_))); (case side4 => exact HC0_1.out); rintro e w30 ⟨rfl, hb⟩; refine ⟨_, rfl, ?_⟩; have n0_ := Aside0.mk (blk_below (bKq_ BK370.out) hb); have n1_ := Aside0.mk (below_step bSt_ hb); clear BK370; clear HB; have BK370 := n0_; have HB := n1_; clear n0_ n1_; (try clear hb); (try clear hb2); (try clear hk); (try clear hi)) | ((with_reducible refine gate_dst (N := 5) rfl ?_); refine box_event ?hg (N := 5) ?hd (cs := #[.int .u64 0, .int .u64 0, .int .i64 0, .int .i64 0]) (t := 59) ?hr ?_; (case hd => rfl); (case hg => rfl); (case hr => first | (go_simp; done) | (go_simp; rfl)); intro gb376 hg w31 hbox hb; have n0_ := Aside0.mk (blk_below (bKq_ BK370.out) hb); have n1_ := Aside0.mk (below_step bSt_ hb); have n2_ := Aside0.mk (hbox); have n3_ := Aside0.mk ((by rw [hg]; exact (below_size bSt_) : w.heap.size ≤ gb376)); have n4_ := Aside0.mk ((by rw [hg]; exact (below_size bSt_) : w.heap.size ≤ gb376)); have n5_ := Aside0.mk ((by rw [hg]; exact Nat.ne_of_lt (blk_lt (bKq_ BK370.out)) : gb370 ≠ gb376)); have n6_ := Aside0.mk ((by rw [hg]; exact Nat.ne_of_gt (blk_lt (bKq_ BK370.out)) : gb376 ≠ gb370)); clear BK370; clear HB; have BK370 := n0_; have HB := n1_; have BK376 := n2_; have GW376 := n3_; have GE376 := n4_; have NB370_376 := n5_; have NB376_370 := n6_; clear n0_ n1_ n2_ n3_ n4_ n5_ n6_; clear hb hbox hg; have hnb32 := NB376_370.out; have hnc32 := NB370_376.out; have hcz33_0 : w31.cell? ⟨gb376, 0, none⟩ = some (.int .u64 0) := (blk_cell BK376.out 0).trans rfl; have hcz33_1 : w31.cell? ⟨gb376, 1, none⟩ = some (.int .u64 0) := (blk_cell BK376.out 1).trans rfl; have hcz33_2 : w31.cell? ⟨gb376, 2, none⟩ = some (.int .i64 0) := (blk_cell BK376.out 2).trans rfl; have hcz33_3 : w31.cell? ⟨gb376, 3, none⟩ = some (.int .i64 0) := (blk_cell BK376.out 3).trans rfl; have hfz33_0 := blk_frozen BK376.out 0; have hfz33_1 := blk_frozen BK376.out 1; have hfz33_2 := blk_frozen BK376.out 2; have hfz33_3 := blk_frozen BK376.out 3) | ((with_reducible refine gate_callee (f := 50) rfl ?_); refine goesL_ (some 17) rfl rfl Try.func50 (by kernel_rfl) rfl #[.slice A1 l1.length c1] rfl (by (try simp only [List.map_toArray, List.map_cons, List.map_nil]); first | done | rfl | (simp only [List.length_drop, List.length_take]; rfl)) ?_; (with_reducible refine (family_mask.calls k _ _ l1 t377 true _ ?side1 ?side2 A4.out).mono ?_); (case side1 => exact Kd.C_below HR1.out bSt_); (case side2 => exact HC1.out); rintro e w' ⟨rfl, ⟨nd, rfl⟩⟩; refine ⟨_, rfl, ?_⟩))
    go_ret
    exact ⟨by first | rfl | (simp [errW_none, errW_some] <;> rfl) | (simp [*, errW_none, errW_some] <;> rfl) | (simp [errW_none, errW_some]; exact Go.Proofs.YtgfbgfbnmiainaaW.OwnWords.isEmpty_bne _), bSt_⟩
  ·replace c6 := Bool.eq_false_iff.mpr c6
   subst c6
   have H1 : (some false) = some r := by rw [if_neg (show ¬ (false = true) by decide)] at H; exact H
   clear H
   have H := H1
   clear H1
   obtain rfl := Option.some.inj H
   go_enter Try.func26, Try.ntmps26
   go_wp2_with (first | ((with_reducible refine gate_dst (N := 2) rfl ?_); refine box_event ?hg (N := 2) ?hd (cs := #[.slice A0_0 l0_0.length c0_0, .slice A0_1 l0_1.length c0_1, .int .i64 a0_2, .int .i64 a0_3]) (t := 37) ?hr ?_; (case hd => rfl); (case hg => rfl); (case hr => first | (go_simp; done) | (go_simp; rfl)); intro gb370 hg w34 hbox hb; have n0_ := Aside0.mk (below_step bSt_ hb); have n1_ := Aside0.mk (hbox); have n2_ := Aside0.mk ((by rw [hg]; exact (below_size bSt_) : w.heap.size ≤ gb370)); have n3_ := Aside0.mk ((by rw [hg]; exact (below_size bSt_) : w.heap.size ≤ gb370)); clear HB; have HB := n0_; have BK370 := n1_; have GW370 := n2_; have GE370 := n3_; clear n0_ n1_ n2_ n3_; clear hb hbox hg; have hcz35_0 : w34.cell? ⟨gb370, 0, none⟩ = some (.slice A0_0 l0_0.length c0_0) := (blk_cell BK370.out 0).trans rfl; have hcz35_1 : w34.cell? ⟨gb370, 1, none⟩ = some (.slice A0_1 l0_1.length c0_1) := (blk_cell BK370.out 1).trans rfl; have hcz35_2 : w34.cell? ⟨gb370, 2, none⟩ = some (.int .i64 a0_2) := (blk_cell BK370.out 2).trans rfl; have hcz35_3 : w34.cell? ⟨gb370, 3, none⟩ = some (.int .i64 a0_3) := (blk_cell BK370.out 3).trans rfl; have hfz35_0 := blk_frozen BK370.out 0; have hfz35_1 := blk_frozen BK370.out 1; have hfz35_2 := blk_frozen BK370.out 2; have hfz35_3 := blk_frozen BK370.out 3) | ((with_reducible refine gate_callee (f := 36) rfl ?_); refine goesL_ (some 12) rfl rfl Try.func36 (by kernel_rfl) rfl #[.agg #[.slice A0_0 l0_0.length c0_0, .slice A0_1 l0_1.length c0_1, .int .i64 a0_2, .int .i64 a0_3]] rfl (by (try simp only [List.map_toArray, List.map_cons, List.map_nil]); first | done | rfl | (simp only [List.length_drop, List.length_take]; rfl)) ?_; (with_reducible refine (family_open.calls k _ _ l0_0 _ _ l0_1 a0_2 a0_3 t371 t372 t373 t374 true _ ?side1 ?side2 ?side3 ?side4 A3.out).mono ?_); (case side1 => repeat (first | exact (Kd.C_below HR0_0.out HB.out) | (with_reducible refine Kd.C_alloc ?_ _) | (with_reducible refine Kd.C_drewN ?_ _) | (with_reducible refine Kd.C_drew ?_))); (case side2 => exact HC0_0.out); (case side3 => repeat (first | exact (Kd.C_below HR0_1.out HB.out) | (with_reducible refine Kd.C_alloc ?_ _) | (with_reducible refine Kd.C_drewN ?_ _) | (with_reducible refine Kd.C_drew ?_))); (case side4 => exact HC0_1.out); rintro e w36 ⟨rfl, hb⟩; refine ⟨_, rfl, ?_⟩; have n0_ := Aside0.mk (blk_below (bKq_ BK370.out) hb); have n1_ := Aside0.mk (below_step bSt_ hb); clear BK370; clear HB; have BK370 := n0_; have HB := n1_; clear n0_ n1_; (try clear hb); (try clear hb2); (try clear hk); (try clear hi)) | ((with_reducible refine gate_dst (N := 5) rfl ?_); refine box_event ?hg (N := 5) ?hd (cs := #[.int .u64 0, .int .u64 0, .int .i64 0, .int .i64 0]) (t := 59) ?hr ?_; (case hd => rfl); (case hg => rfl); (case hr => first | (go_simp; done) | (go_simp; rfl)); intro gb376 hg w37 hbox hb; have n0_ := Aside0.mk (blk_below (bKq_ BK370.out) hb); have n1_ := Aside0.mk (below_step bSt_ hb); have n2_ := Aside0.mk (hbox); have n3_ := Aside0.mk ((by rw [hg]; exact (below_size bSt_) : w.heap.size ≤ gb376)); have n4_ := Aside0.mk ((by rw [hg]; exact (below_size bSt_) : w.heap.size ≤ gb376)); have n5_ := Aside0.mk ((by rw [hg]; exact Nat.ne_of_lt (blk_lt (bKq_ BK370.out)) : gb370 ≠ gb376)); have n6_ := Aside0.mk ((by rw [hg]; exact Nat.ne_of_gt (blk_lt (bKq_ BK370.out)) : gb376 ≠ gb370)); clear BK370; clear HB; have BK370 := n0_; have HB := n1_; have BK376 := n2_; have GW376 := n3_; have GE376 := n4_; have NB370_376 := n5_; have NB376_370 := n6_; clear n0_ n1_ n2_ n3_ n4_ n5_ n6_; clear hb hbox hg; have hnb38 := NB376_370.out; have hnc38 := NB370_376.out; have hcz39_0 : w37.cell? ⟨gb376, 0, none⟩ = some (.int .u64 0) := (blk_cell BK376.out 0).trans rfl; have hcz39_1 : w37.cell? ⟨gb376, 1, none⟩ = some (.int .u64 0) := (blk_cell BK376.out 1).trans rfl; have hcz39_2 : w37.cell? ⟨gb376, 2, none⟩ = some (.int .i64 0) := (blk_cell BK376.out 2).trans rfl; have hcz39_3 : w37.cell? ⟨gb376, 3, none⟩ = some (.int .i64 0) := (blk_cell BK376.out 3).trans rfl; have hfz39_0 := blk_frozen BK376.out 0; have hfz39_1 := blk_frozen BK376.out 1; have hfz39_2 := blk_frozen BK376.out 2; have hfz39_3 := blk_frozen BK376.out 3) | ((with_reducible refine gate_callee (f := 50) rfl ?_); refine goesL_ (some 17) rfl rfl Try.func50 (by kernel_rfl) rfl #[.slice A1 l1.length c1] rfl (by (try simp only [List.map_toArray, List.map_cons, List.map_nil]); first | done | rfl | (simp only [List.length_drop, List.length_take]; rfl)) ?_; (with_reducible refine (family_mask.calls k _ _ l1 t377 false _ ?side1 ?side2 A4.out).mono ?_); (case side1 => exact Kd.C_below HR1.out bSt_); (case side2 => exact HC1.out); rintro e w' ⟨rfl, ⟨nd, rfl⟩⟩; refine ⟨_, rfl, ?_⟩))
   go_ret
   exact ⟨by first | rfl | (simp [errW_none, errW_some] <;> rfl) | (simp [*, errW_none, errW_some] <;> rfl) | (simp [errW_none, errW_some]; exact Go.Proofs.YtgfbgfbnmiainaaW.OwnWords.isEmpty_bne _), bSt_⟩
 ·replace c5 := Bool.eq_false_iff.mpr c5
  subst c5
  have H1 : (some false) = some r := by rw [if_neg (show ¬ (false = true) by decide)] at H; exact H
  clear H
  have H := H1
  clear H1
  obtain rfl := Option.some.inj H
  go_enter Try.func26, Try.ntmps26
  go_wp2_with (first | ((with_reducible refine gate_dst (N := 2) rfl ?_); refine box_event ?hg (N := 2) ?hd (cs := #[.slice A0_0 l0_0.length c0_0, .slice A0_1 l0_1.length c0_1, .int .i64 a0_2, .int .i64 a0_3]) (t := 37) ?hr ?_; (case hd => rfl); (case hg => rfl); (case hr => first | (go_simp; done) | (go_simp; rfl)); intro gb370 hg w40 hbox hb; have n0_ := Aside0.mk (below_step bSt_ hb); have n1_ := Aside0.mk (hbox); have n2_ := Aside0.mk ((by rw [hg]; exact (below_size bSt_) : w.heap.size ≤ gb370)); have n3_ := Aside0.mk ((by rw [hg]; exact (below_size bSt_) : w.heap.size ≤ gb370)); clear HB; have HB := n0_; have BK370 := n1_; have GW370 := n2_; have GE370 := n3_; clear n0_ n1_ n2_ n3_; clear hb hbox hg; have hcz41_0 : w40.cell? ⟨gb370, 0, none⟩ = some (.slice A0_0 l0_0.length c0_0) := (blk_cell BK370.out 0).trans rfl; have hcz41_1 : w40.cell? ⟨gb370, 1, none⟩ = some (.slice A0_1 l0_1.length c0_1) := (blk_cell BK370.out 1).trans rfl; have hcz41_2 : w40.cell? ⟨gb370, 2, none⟩ = some (.int .i64 a0_2) := (blk_cell BK370.out 2).trans rfl; have hcz41_3 : w40.cell? ⟨gb370, 3, none⟩ = some (.int .i64 a0_3) := (blk_cell BK370.out 3).trans rfl; have hfz41_0 := blk_frozen BK370.out 0; have hfz41_1 := blk_frozen BK370.out 1; have hfz41_2 := blk_frozen BK370.out 2; have hfz41_3 := blk_frozen BK370.out 3) | ((with_reducible refine gate_callee (f := 36) rfl ?_); refine goesL_ (some 12) rfl rfl Try.func36 (by kernel_rfl) rfl #[.agg #[.slice A0_0 l0_0.length c0_0, .slice A0_1 l0_1.length c0_1, .int .i64 a0_2, .int .i64 a0_3]] rfl (by (try simp only [List.map_toArray, List.map_cons, List.map_nil]); first | done | rfl | (simp only [List.length_drop, List.length_take]; rfl)) ?_; (with_reducible refine (family_open.calls k _ _ l0_0 _ _ l0_1 a0_2 a0_3 t371 t372 t373 t374 false _ ?side1 ?side2 ?side3 ?side4 A3.out).mono ?_); (case side1 => repeat (first | exact (Kd.C_below HR0_0.out HB.out) | (with_reducible refine Kd.C_alloc ?_ _) | (with_reducible refine Kd.C_drewN ?_ _) | (with_reducible refine Kd.C_drew ?_))); (case side2 => exact HC0_0.out); (case side3 => repeat (first | exact (Kd.C_below HR0_1.out HB.out) | (with_reducible refine Kd.C_alloc ?_ _) | (with_reducible refine Kd.C_drewN ?_ _) | (with_reducible refine Kd.C_drew ?_))); (case side4 => exact HC0_1.out); rintro e w42 ⟨rfl, hb⟩; refine ⟨_, rfl, ?_⟩; have n0_ := Aside0.mk (blk_below (bKq_ BK370.out) hb); have n1_ := Aside0.mk (below_step bSt_ hb); clear BK370; clear HB; have BK370 := n0_; have HB := n1_; clear n0_ n1_; (try clear hb); (try clear hb2); (try clear hk); (try clear hi)) | ((with_reducible refine gate_dst (N := 5) rfl ?_); refine box_event ?hg (N := 5) ?hd (cs := #[.int .u64 0, .int .u64 0, .int .i64 0, .int .i64 0]) (t := 59) ?hr ?_; (case hd => rfl); (case hg => rfl); (case hr => first | (go_simp; done) | (go_simp; rfl)); intro gb376 hg w43 hbox hb; have n0_ := Aside0.mk (blk_below (bKq_ BK370.out) hb); have n1_ := Aside0.mk (below_step bSt_ hb); have n2_ := Aside0.mk (hbox); have n3_ := Aside0.mk ((by rw [hg]; exact (below_size bSt_) : w.heap.size ≤ gb376)); have n4_ := Aside0.mk ((by rw [hg]; exact (below_size bSt_) : w.heap.size ≤ gb376)); have n5_ := Aside0.mk ((by rw [hg]; exact Nat.ne_of_lt (blk_lt (bKq_ BK370.out)) : gb370 ≠ gb376)); have n6_ := Aside0.mk ((by rw [hg]; exact Nat.ne_of_gt (blk_lt (bKq_ BK370.out)) : gb376 ≠ gb370)); clear BK370; clear HB; have BK370 := n0_; have HB := n1_; have BK376 := n2_; have GW376 := n3_; have GE376 := n4_; have NB370_376 := n5_; have NB376_370 := n6_; clear n0_ n1_ n2_ n3_ n4_ n5_ n6_; clear hb hbox hg; have hnb44 := NB376_370.out; have hnc44 := NB370_376.out; have hcz45_0 : w43.cell? ⟨gb376, 0, none⟩ = some (.int .u64 0) := (blk_cell BK376.out 0).trans rfl; have hcz45_1 : w43.cell? ⟨gb376, 1, none⟩ = some (.int .u64 0) := (blk_cell BK376.out 1).trans rfl; have hcz45_2 : w43.cell? ⟨gb376, 2, none⟩ = some (.int .i64 0) := (blk_cell BK376.out 2).trans rfl; have hcz45_3 : w43.cell? ⟨gb376, 3, none⟩ = some (.int .i64 0) := (blk_cell BK376.out 3).trans rfl; have hfz45_0 := blk_frozen BK376.out 0; have hfz45_1 := blk_frozen BK376.out 1; have hfz45_2 := blk_frozen BK376.out 2; have hfz45_3 := blk_frozen BK376.out 3) | ((with_reducible refine gate_callee (f := 50) rfl ?_); refine goesL_ (some 17) rfl rfl Try.func50 (by kernel_rfl) rfl #[.slice A1 l1.length c1] rfl (by (try simp only [List.map_toArray, List.map_cons, List.map_nil]); first | done | rfl | (simp only [List.length_drop, List.length_take]; rfl)) ?_; (with_reducible refine (family_mask.calls k _ _ l1 t377 t378 _ ?side1 ?side2 A4.out).mono ?_); (case side1 => exact Kd.C_below HR1.out bSt_); (case side2 => exact HC1.out); rintro e w' ⟨rfl, ⟨nd, rfl⟩⟩; refine ⟨_, rfl, ?_⟩))
  go_ret
  exact ⟨by first | rfl | (simp [errW_none, errW_some] <;> rfl) | (simp [*, errW_none, errW_some] <;> rfl) | (simp [errW_none, errW_some]; exact Go.Proofs.YtgfbgfbnmiainaaW.OwnWords.isEmpty_bne _), bSt_⟩

end Go.Proofs.Ytgfbgfbnmiainaa.Q
end
section
namespace Go.Proofs.Ytgfbgfbnmiainaa.Q
open Go.RowKit Go.Proofs.YtgfbgfbnmiainaaW.PrintWords Go.Proofs.YtgfbgfbnmiainaaW.PrintLast Go.Proofs.YtgfbgfbnmiainaaW.PrintMore Go.Proofs.YtgfbgfbnmiainaaW.OwnWords
attribute [local go_sem] Go.Proofs.YtgfbgfbnmiainaaW.OwnWords.isSome_setCell max2_int min2_int max_two min_two max_three min_three max_four min_four
set_option linter.unusedVariables false
set_option linter.unusedSimpArgs false

/-! ### manystrandref07_Has: function 27 -/
def manystrandref07_Has.j0 : Nat → List Int → Bool → List Int → List Int → Int → Int → Option (Bool)
 | 0, _, _, _, _, _, _ => none
 | k + 1, x1, x13, x380000, x380001, x380002, x380003 => if x13 = true then (some false) else ((manystrandref07_of.f k x1).bind fun t382 => ((manystrandref07_of.f k x380000).bind fun t383 => (if (Go.bits .andNot .u64 t383 t382) = 0 then ((manystrandref07_of.f k x380001).bind fun t384 => (if (Go.bits .andNot .u64 t382 t384) = 0 then (if (x1.length : Int) ≥ x380002 then (some (decide ((x1.length : Int) ≤ x380003))) else (some false)) else (some false))) else (some false))))
def manystrandref07_Has.f (k : Nat) (l0_0 : List Int) (l0_1 : List Int) (a0_2 : Int) (a0_3 : Int) (l1 : List Int) : Option (Bool) := (manystrandref07_Valid.f k l0_0 l0_1 a0_2 a0_3).bind fun t380 => (if t380 = true then ((manystrandref07_numbers.f k l1).bind fun t381 => (manystrandref07_Has.j0 k l1 (!t381) l0_0 l0_1 a0_2 a0_3)) else (manystrandref07_Has.j0 k l1 true l0_0 l0_1 a0_2 a0_3))
theorem manystrandref07_Has.mono_l : ∀ k, (∀ y0 y1 y2 y3 y4 y5, LeO (manystrandref07_Has.j0 k y0 y1 y2 y3 y4 y5) (manystrandref07_Has.j0 (k + 1) y0 y1 y2 y3 y4 y5))
 | 0 => fun _ _ _ _ _ _ r h => by simp [manystrandref07_Has.j0] at h
 | k + 1 => by
  have ih0 := manystrandref07_Has.mono_l k
  ·intro y0 y1 y2 y3 y4 y5
   unfold manystrandref07_Has.j0
   repeat' first
   | (with_reducible exact ih0 _ _ _ _ _ _)
   | (with_reducible exact manystrandref07_Valid.mono _ _ _ _ _)
   | (with_reducible exact manystrandref07_numbers.mono _ _)
   | (with_reducible exact manystrandref07_of.mono _ _)
   | (with_reducible exact LeO.refl _)
   | (with_reducible exact LeO.none _)
   | (with_reducible refine LeO.ite ?_ ?_)
   | (with_reducible refine LeO.bind ?_ (fun _ => ?_))
   | exact ih0 _ _ _ _ _ _
   | exact manystrandref07_Valid.mono _ _ _ _ _
   | exact manystrandref07_numbers.mono _ _
   | exact manystrandref07_of.mono _ _
   | exact LeO.none _
   | refine LeO.ite ?_ ?_
   | refine LeO.bind ?_ (fun _ => ?_)
theorem manystrandref07_Has.mono : ∀ a0 a1 a2 a3 a4 k, LeO (manystrandref07_Has.f k a0 a1 a2 a3 a4) (manystrandref07_Has.f (k + 1) a0 a1 a2 a3 a4) := by
 intro a0 a1 a2 a3 a4 k
 have ih0 := manystrandref07_Has.mono_l k
 unfold manystrandref07_Has.f
 repeat' first
   | (with_reducible exact ih0 _ _ _ _ _ _)
   | (with_reducible exact manystrandref07_Valid.mono _ _ _ _ _)
   | (with_reducible exact manystrandref07_numbers.mono _ _)
   | (with_reducible exact manystrandref07_of.mono _ _)
   | (with_reducible exact LeO.refl _)
   | (with_reducible exact LeO.none _)
   | (with_reducible refine LeO.ite ?_ ?_)
   | (with_reducible refine LeO.bind ?_ (fun _ => ?_))
   | exact ih0 _ _ _ _ _ _
   | exact manystrandref07_Valid.mono _ _ _ _ _
   | exact manystrandref07_numbers.mono _ _
   | exact manystrandref07_of.mono _ _
   | exact LeO.none _
   | refine LeO.ite ?_ ?_
   | refine LeO.bind ?_ (fun _ => ?_)
set_option maxHeartbeats 8000000 in
set_option maxRecDepth 100000 in
theorem manystrandref07_Has.calls (k : Nat) (A0_0 : Option Addr) (c0_0 : Nat) (l0_0 : List Int) (A0_1 : Option Addr) (c0_1 : Nat) (l0_1 : List Int) (a0_2 : Int) (a0_3 : Int) (A1 : Option Addr) (c1 : Nat) (l1 : List Int) (r : Bool) (w : World) (hr0_0 : Kd.C (Kd.int .i64) w A0_0 l0_0.length l0_0) (hc0_0 : l0_0.length ≤ c0_0) (hr0_1 : Kd.C (Kd.int .i64) w A0_1 l0_1.length l0_1) (hc0_1 : l0_1.length ≤ c0_1) (hr1 : Kd.C (Kd.int .i64) w A1 l1.length l1) (hc1 : l1.length ≤ c1) (h : manystrandref07_Has.f k l0_0 l0_1 a0_2 a0_3 l1 = some r) :
  Calls Try.prog 27 #[.agg #[.slice A0_0 l0_0.length c0_0, .slice A0_1 l0_1.length c0_1, .int .i64 a0_2, .int .i64 a0_3], .slice A1 l1.length c1] w fun e w' => e = .returned (.bool r) ∧ Below w.heap.size w w' := by
 have hu37 := Try.underlying37
 have HR0_0 := Aside0.mk hr0_0
 have HC0_0 := Aside0.mk hc0_0
 clear hr0_0 hc0_0
 have HR0_1 := Aside0.mk hr0_1
 have HC0_1 := Aside0.mk hc0_1
 clear hr0_1 hc0_1
 have HR1 := Aside0.mk hr1
 have HC1 := Aside0.mk hc1
 clear hr1 hc1
 have HB := Aside0.mk (Below.refl w.heap.size w)
 have H : ((manystrandref07_Valid.f k l0_0 l0_1 a0_2 a0_3).bind fun t380 => (if t380 = true then ((manystrandref07_numbers.f k l1).bind fun t381 => (manystrandref07_Has.j0 k l1 (!t381) l0_0 l0_1 a0_2 a0_3)) else (manystrandref07_Has.j0 k l1 true l0_0 l0_1 a0_2 a0_3))) = some r := h
 clear h
 have HC3 := Aside0.mk H
 clear H
 go_enter Try.func27, Try.ntmps27
 go_upto_region 1 with (first | ((with_reducible refine gate_dst (N := 2) rfl ?_); (try (refine gate_guard (by rfl) ?_; dsimp only)); refine box_event ?hg (N := 2) ?hd (cs := #[.slice A0_0 l0_0.length c0_0, .slice A0_1 l0_1.length c0_1, .int .i64 a0_2, .int .i64 a0_3]) (t := 37) ?hr ?_; (case hd => rfl); (case hg => rfl); (case hr => first | (go_simp; done) | (go_simp; rfl)); intro gb379 hg w4 hbox hb; have n0_ := Aside0.mk (below_step bSt_ hb); have n1_ := Aside0.mk (hbox); have n2_ := Aside0.mk ((by rw [hg]; exact (below_size bSt_) : w.heap.size ≤ gb379)); have n3_ := Aside0.mk ((by rw [hg]; exact (below_size bSt_) : w.heap.size ≤ gb379)); clear HB; have HB := n0_; have BK379 := n1_; have GW379 := n2_; have GE379 := n3_; clear n0_ n1_ n2_ n3_; clear hb hbox hg))
 (try simp only [Act.put, List.setIfInBounds_toArray, List.set_cons_zero, List.set_cons_succ])
 go_cut [13] (fun v13 wc => ∃ (kq : Nat) (x13_2 : Bool), v13 = .bool x13_2 ∧ Aside0 (manystrandref07_Has.j0 kq l1 x13_2 l0_0 l0_1 a0_2 a0_3 = some r) ∧ Aside0 (kq ≤ k) ∧ Aside0 (wc.heap[gb379]? = some (.cells #[(.slice A0_0 l0_0.length c0_0), (.slice A0_1 l0_1.length c0_1), .int .i64 a0_2, .int .i64 a0_3] 37 (0, 0))) ∧ Aside0 (Below w.heap.size w wc))
 case first =>
  have H := HC3.out
  clear HC3
  replace H := Option.bind_eq_some_iff.mp H
  obtain ⟨t380, A50, H⟩ := H
  replace H : (if t380 = true then ((manystrandref07_numbers.f k l1).bind fun t381 => (manystrandref07_Has.j0 k l1 (!t381) l0_0 l0_1 a0_2 a0_3)) else (manystrandref07_Has.j0 k l1 true l0_0 l0_1 a0_2 a0_3)) = some r := H
  have A5 := Aside0.mk A50
  clear A50
  by_cases c6 : t380 = true
  ·subst c6
   have H1 : ((manystrandref07_numbers.f k l1).bind fun t381 => (manystrandref07_Has.j0 k l1 (!t381) l0_0 l0_1 a0_2 a0_3)) = some r := by rw [if_pos rfl] at H; exact H
   clear H
   have H := H1
   clear H1
   replace H := Option.bind_eq_some_iff.mp H
   obtain ⟨t381, A70, H⟩ := H
   replace H : (manystrandref07_Has.j0 k l1 (!t381) l0_0 l0_1 a0_2 a0_3) = some r := H
   have A7 := Aside0.mk A70
   clear A70
   have H' := Aside0.mk H
   clear H
   have hcz8_0 : w4.cell? ⟨gb379, 0, none⟩ = some (.slice A0_0 l0_0.length c0_0) := (blk_cell BK379.out 0).trans rfl
   have hcz8_1 : w4.cell? ⟨gb379, 1, none⟩ = some (.slice A0_1 l0_1.length c0_1) := (blk_cell BK379.out 1).trans rfl
   have hcz8_2 : w4.cell? ⟨gb379, 2, none⟩ = some (.int .i64 a0_2) := (blk_cell BK379.out 2).trans rfl
   have hcz8_3 : w4.cell? ⟨gb379, 3, none⟩ = some (.int .i64 a0_3) := (blk_cell BK379.out 3).trans rfl
   have hfz8_0 := blk_frozen BK379.out 0
   have hfz8_1 := blk_frozen BK379.out 1
   have hfz8_2 := blk_frozen BK379.out 2
   have hfz8_3 := blk_frozen BK379.out 3
   go_wp2_with (first | ((with_reducible refine gate_callee (f := 23) rfl ?_); refine goesL_ (some 7) rfl rfl Try.func23 (by kernel_rfl) rfl #[.agg #[.slice A0_0 l0_0.length c0_0, .slice A0_1 l0_1.length c0_1, .int .i64 a0_2, .int .i64 a0_3]] rfl (by (try simp only [List.map_toArray, List.map_cons, List.map_nil]); first | done | rfl | (simp only [List.length_drop, List.length_take]; rfl)) ?_; (with_reducible refine (manystrandref07_Valid.calls k _ _ l0_0 _ _ l0_1 a0_2 a0_3 true _ ?side1 ?side2 ?side3 ?side4 A5.out).mono ?_); (case side1 => repeat (first | exact (Kd.C_below HR0_0.out HB.out) | (with_reducible refine Kd.C_alloc ?_ _) | (with_reducible refine Kd.C_drewN ?_ _) | (with_reducible refine Kd.C_drew ?_))); (case side2 => exact HC0_0.out); (case side3 => repeat (first | exact (Kd.C_below HR0_1.out HB.out) | (with_reducible refine Kd.C_alloc ?_ _) | (with_reducible refine Kd.C_drewN ?_ _) | (with_reducible refine Kd.C_drew ?_))); (case side4 => exact HC0_1.out); rintro e w9 ⟨rfl, hb⟩; refine ⟨_, rfl, ?_⟩; have n0_ := Aside0.mk (blk_below (bKq_ BK379.out) hb); have n1_ := Aside0.mk (below_step bSt_ hb); clear BK379; clear HB; have BK379 := n0_; have HB := n1_; clear n0_ n1_; (try clear hb); (try clear hb2); (try clear hk); (try clear hi)) | (go_at_call 49; (with_reducible refine (manystrandref07_numbers.calls k _ _ l1 t381 _ ?side1 ?side2 A7.out).mono ?_); (case side1 => repeat (first | exact (Kd.C_below HR1.out HB.out) | (with_reducible refine Kd.C_alloc ?_ _) | (with_reducible refine Kd.C_drewN ?_ _) | (with_reducible refine Kd.C_drew ?_))); (case side2 => exact HC1.out); rintro e w' ⟨rfl, ⟨nd, rfl⟩⟩))
   go_meet
   case rel => exact ⟨_, (!t381), (by first | rfl | (simp; done) | (simp [*]; done)), H', ⟨by first | omega | exact Nat.le_refl _⟩, ⟨bKq_ BK379.out⟩, ⟨bSt_⟩⟩
  ·replace c6 := Bool.eq_false_iff.mpr c6
   subst c6
   have H1 : (manystrandref07_Has.j0 k l1 true l0_0 l0_1 a0_2 a0_3) = some r := by rw [if_neg (show ¬ (false = true) by decide)] at H; exact H
   clear H
   have H := H1
   clear H1
   have H' := Aside0.mk H
   clear H
   have hcz10_0 : w4.cell? ⟨gb379, 0, none⟩ = some (.slice A0_0 l0_0.length c0_0) := (blk_cell BK379.out 0).trans rfl
   have hcz10_1 : w4.cell? ⟨gb379, 1, none⟩ = some (.slice A0_1 l0_1.length c0_1) := (blk_cell BK379.out 1).trans rfl
   have hcz10_2 : w4.cell? ⟨gb379, 2, none⟩ = some (.int .i64 a0_2) := (blk_cell BK379.out 2).trans rfl
   have hcz10_3 : w4.cell? ⟨gb379, 3, none⟩ = some (.int .i64 a0_3) := (blk_cell BK379.out 3).trans rfl
   have hfz10_0 := blk_frozen BK379.out 0
   have hfz10_1 := blk_frozen BK379.out 1
   have hfz10_2 := blk_frozen BK379.out 2
   have hfz10_3 := blk_frozen BK379.out 3
   go_wp2_with (first | ((with_reducible refine gate_callee (f := 23) rfl ?_); refine goesL_ (some 7) rfl rfl Try.func23 (by kernel_rfl) rfl #[.agg #[.slice A0_0 l0_0.length c0_0, .slice A0_1 l0_1.length c0_1, .int .i64 a0_2, .int .i64 a0_3]] rfl (by (try simp only [List.map_toArray, List.map_cons, List.map_nil]); first | done | rfl | (simp only [List.length_drop, List.length_take]; rfl)) ?_; (with_reducible refine (manystrandref07_Valid.calls k _ _ l0_0 _ _ l0_1 a0_2 a0_3 false _ ?side1 ?side2 ?side3 ?side4 A5.out).mono ?_); (case side1 => repeat (first | exact (Kd.C_below HR0_0.out HB.out) | (with_reducible refine Kd.C_alloc ?_ _) | (with_reducible refine Kd.C_drewN ?_ _) | (with_reducible refine Kd.C_drew ?_))); (case side2 => exact HC0_0.out); (case side3 => repeat (first | exact (Kd.C_below HR0_1.out HB.out) | (with_reducible refine Kd.C_alloc ?_ _) | (with_reducible refine Kd.C_drewN ?_ _) | (with_reducible refine Kd.C_drew ?_))); (case side4 => exact HC0_1.out); rintro e w11 ⟨rfl, hb⟩; refine ⟨_, rfl, ?_⟩; have n0_ := Aside0.mk (blk_below (bKq_ BK379.out) hb); have n1_ := Aside0.mk (below_step bSt_ hb); clear BK379; clear HB; have BK379 := n0_; have HB := n1_; clear n0_ n1_; (try clear hb); (try clear hb2); (try clear hk); (try clear hi)))
   go_meet
   case rel => exact ⟨_, (true), (by first | rfl | (simp; done) | (simp [*]; done)), H', ⟨by first | omega | exact Nat.le_refl _⟩, ⟨bKq_ BK379.out⟩, ⟨bSt_⟩⟩
 case rest =>
  clear HC3
  try clear c1
  try clear c2
  try clear p2
  try clear c6
  try clear hcz10_0
  try clear hcz10_1
  try clear hcz10_2
  try clear hcz10_3
  try clear hcz8_0
  try clear hcz8_1
  try clear hcz8_2
  try clear hcz8_3
  try clear hfz10_0
  try clear hfz10_1
  try clear hfz10_2
  try clear hfz10_3
  try clear hfz8_0
  try clear hfz8_1
  try clear hfz8_2
  try clear hfz8_3
  obtain ⟨kq, x13_2, rfl, HA, HJ2, BK379, HB⟩ := hcut
  cases kq with
  | zero => exact absurd HA.out (by simp [manystrandref07_Has.j0])
  | succ kj2 =>
   have H := HA.out
   clear HA
   simp only [manystrandref07_Has.j0] at H
   by_cases c12 : x13_2 = true
   ·subst c12
    have H1 : (some false) = some r := by rw [if_pos rfl] at H; exact H
    clear H
    have H := H1
    clear H1
    obtain rfl := Option.some.inj H
    go_wp2
    go_ret
    exact ⟨by first | rfl | (simp [errW_none, errW_some] <;> rfl) | (simp [*, errW_none, errW_some] <;> rfl) | (simp [errW_none, errW_some]; exact Go.Proofs.YtgfbgfbnmiainaaW.OwnWords.isEmpty_bne _), bSt_⟩
   ·replace c12 := Bool.eq_false_iff.mpr c12
    subst c12
    have H1 : ((manystrandref07_of.f kj2 l1).bind fun t382 => ((manystrandref07_of.f kj2 l0_0).bind fun t383 => (if (Go.bits .andNot .u64 t383 t382) = 0 then ((manystrandref07_of.f kj2 l0_1).bind fun t384 => (if (Go.bits .andNot .u64 t382 t384) = 0 then (if (l1.length : Int) ≥ a0_2 then (some (decide ((l1.length : Int) ≤ a0_3))) else (some false)) else (some false))) else (some false)))) = some r := by rw [if_neg (show ¬ (false = true) by decide)] at H; exact H
    clear H
    have H := H1
    clear H1
    replace H := Option.bind_eq_some_iff.mp H
    obtain ⟨t382, A130, H⟩ := H
    replace H : ((manystrandref07_of.f kj2 l0_0).bind fun t383 => (if (Go.bits .andNot .u64 t383 t382) = 0 then ((manystrandref07_of.f kj2 l0_1).bind fun t384 => (if (Go.bits .andNot .u64 t382 t384) = 0 then (if (l1.length : Int) ≥ a0_2 then (some (decide ((l1.length : Int) ≤ a0_3))) else (some false)) else (some false))) else (some false))) = some r := H
    have A13 := Aside0.mk A130
    clear A130
    replace H := Option.bind_eq_some_iff.mp H
    obtain ⟨t383, A140, H⟩ := H
    replace H : (if (Go.bits .andNot .u64 t383 t382) = 0 then ((manystrandref07_of.f kj2 l0_1).bind fun t384 => (if (Go.bits .andNot .u64 t382 t384) = 0 then (if (l1.length : Int) ≥ a0_2 then (some (decide ((l1.length : Int) ≤ a0_3))) else (some false)) else (some false))) else (some false)) = some r := H
    have A14 := Aside0.mk A140
    clear A140
    by_cases c15 : (Go.bits .andNot .u64 t383 t382) = 0
    ·rw [if_pos c15] at H
     have c15b0 : ((Go.bits .andNot .u64 t383 t382) == 0) = true := beq_iff_eq.mpr c15
     have c15b1 : ((Go.bits .andNot .u64 t383 t382) != 0) = false := bne_eq_false_iff_eq.mpr c15
     clear c15
     replace H := Option.bind_eq_some_iff.mp H
     obtain ⟨t384, A160, H⟩ := H
     replace H : (if (Go.bits .andNot .u64 t382 t384) = 0 then (if (l1.length : Int) ≥ a0_2 then (some (decide ((l1.length : Int) ≤ a0_3))) else (some false)) else (some false)) = some r := H
     have A16 := Aside0.mk A160
     clear A160
     by_cases c17 : (Go.bits .andNot .u64 t382 t384) = 0
     ·rw [if_pos c17] at H
      have c17b0 : ((Go.bits .andNot .u64 t382 t384) == 0) = true := beq_iff_eq.mpr c17
      have c17b1 : ((Go.bits .andNot .u64 t382 t384) != 0) = false := bne_eq_false_iff_eq.mpr c17
      clear c17
      by_cases c18 : (l1.length : Int) ≥ a0_2
      ·rw [if_pos c18] at H
       have c18b0 : decide (a0_2 ≤ (l1.length : Int)) = true := decide_eq_true c18
       clear c18
       obtain rfl := Option.some.inj H
       go_wp2_with (first | ((with_reducible refine gate_callee (f := 46) rfl ?_); refine goesL_ (some 15) rfl rfl Try.func46 (by kernel_rfl) rfl #[.slice A1 l1.length c1] rfl (by (try simp only [List.map_toArray, List.map_cons, List.map_nil]); first | done | rfl | (simp only [List.length_drop, List.length_take]; rfl)) ?_; (with_reducible refine (manystrandref07_of.calls kj2 _ _ l1 t382 _ ?side1 ?side2 A13.out).mono ?_); (case side1 => repeat (first | exact (Kd.C_below HR1.out HB.out) | (with_reducible refine Kd.C_alloc ?_ _) | (with_reducible refine Kd.C_drewN ?_ _) | (with_reducible refine Kd.C_drew ?_))); (case side2 => exact HC1.out); rintro e w' ⟨rfl, ⟨nd, rfl⟩⟩; refine ⟨_, rfl, ?_⟩; have hcz19_0 : wc.cell? ⟨gb379, 0, none⟩ = some (.slice A0_0 l0_0.length c0_0) := (blk_cell BK379.out 0).trans rfl; have hcz19_1 : wc.cell? ⟨gb379, 1, none⟩ = some (.slice A0_1 l0_1.length c0_1) := (blk_cell BK379.out 1).trans rfl; have hcz19_2 : wc.cell? ⟨gb379, 2, none⟩ = some (.int .i64 a0_2) := (blk_cell BK379.out 2).trans rfl; have hcz19_3 : wc.cell? ⟨gb379, 3, none⟩ = some (.int .i64 a0_3) := (blk_cell BK379.out 3).trans rfl; have hfz19_0 := blk_frozen BK379.out 0; have hfz19_1 := blk_frozen BK379.out 1; have hfz19_2 := blk_frozen BK379.out 2; have hfz19_3 := blk_frozen BK379.out 3) | ((with_reducible refine gate_callee (f := 46) rfl ?_); refine goesL_ (some 18) rfl rfl Try.func46 (by kernel_rfl) rfl #[.slice A0_0 l0_0.length c0_0] rfl (by (try simp only [List.map_toArray, List.map_cons, List.map_nil]); first | done | rfl | (simp only [List.length_drop, List.length_take]; rfl)) ?_; (with_reducible refine (manystrandref07_of.calls kj2 _ _ l0_0 t383 _ ?side1 ?side2 A14.out).mono ?_); (case side1 => repeat (first | exact (Kd.C_below HR0_0.out bSt_) | (with_reducible refine Kd.C_alloc ?_ _) | (with_reducible refine Kd.C_drewN ?_ _) | (with_reducible refine Kd.C_drew ?_))); (case side2 => exact HC0_0.out); rintro e w' ⟨rfl, ⟨nd, rfl⟩⟩; refine ⟨_, rfl, ?_⟩) | (go_at_call 46; (with_reducible refine (manystrandref07_of.calls kj2 _ _ l0_1 t384 _ ?side1 ?side2 A16.out).mono ?_); (case side1 => repeat (first | exact (Kd.C_below HR0_1.out bSt_) | (with_reducible refine Kd.C_alloc ?_ _) | (with_reducible refine Kd.C_drewN ?_ _) | (with_reducible refine Kd.C_drew ?_))); (case side2 => exact HC0_1.out); rintro e w' ⟨rfl, ⟨nd, rfl⟩⟩))
       go_ret
       exact ⟨by first | rfl | (simp [errW_none, errW_some] <;> rfl) | (simp [*, errW_none, errW_some] <;> rfl) | (simp [errW_none, errW_some]; exact Go.Proofs.YtgfbgfbnmiainaaW.OwnWords.isEmpty_bne _), bSt_⟩
      ·rw [if_neg c18] at H
       have c18b0 : decide (a0_2 ≤ (l1.length : Int)) = false := decide_eq_false c18
       clear c18
       obtain rfl := Option.some.inj H
       go_wp2_with (first | ((with_reducible refine gate_callee (f := 46) rfl ?_); refine goesL_ (some 15) rfl rfl Try.func46 (by kernel_rfl) rfl #[.slice A1 l1.length c1] rfl (by (try simp only [List.map_toArray, List.map_cons, List.map_nil]); first | done | rfl | (simp only [List.length_drop, List.length_take]; rfl)) ?_; (with_reducible refine (manystrandref07_of.calls kj2 _ _ l1 t382 _ ?side1 ?side2 A13.out).mono ?_); (case side1 => repeat (first | exact (Kd.C_below HR1.out HB.out) | (with_reducible refine Kd.C_alloc ?_ _) | (with_reducible refine Kd.C_drewN ?_ _) | (with_reducible refine Kd.C_drew ?_))); (case side2 => exact HC1.out); rintro e w' ⟨rfl, ⟨nd, rfl⟩⟩; refine ⟨_, rfl, ?_⟩; have hcz20_0 : wc.cell? ⟨gb379, 0, none⟩ = some (.slice A0_0 l0_0.length c0_0) := (blk_cell BK379.out 0).trans rfl; have hcz20_1 : wc.cell? ⟨gb379, 1, none⟩ = some (.slice A0_1 l0_1.length c0_1) := (blk_cell BK379.out 1).trans rfl; have hcz20_2 : wc.cell? ⟨gb379, 2, none⟩ = some (.int .i64 a0_2) := (blk_cell BK379.out 2).trans rfl; have hcz20_3 : wc.cell? ⟨gb379, 3, none⟩ = some (.int .i64 a0_3) := (blk_cell BK379.out 3).trans rfl; have hfz20_0 := blk_frozen BK379.out 0; have hfz20_1 := blk_frozen BK379.out 1; have hfz20_2 := blk_frozen BK379.out 2; have hfz20_3 := blk_frozen BK379.out 3) | ((with_reducible refine gate_callee (f := 46) rfl ?_); refine goesL_ (some 18) rfl rfl Try.func46 (by kernel_rfl) rfl #[.slice A0_0 l0_0.length c0_0] rfl (by (try simp only [List.map_toArray, List.map_cons, List.map_nil]); first | done | rfl | (simp only [List.length_drop, List.length_take]; rfl)) ?_; (with_reducible refine (manystrandref07_of.calls kj2 _ _ l0_0 t383 _ ?side1 ?side2 A14.out).mono ?_); (case side1 => repeat (first | exact (Kd.C_below HR0_0.out bSt_) | (with_reducible refine Kd.C_alloc ?_ _) | (with_reducible refine Kd.C_drewN ?_ _) | (with_reducible refine Kd.C_drew ?_))); (case side2 => exact HC0_0.out); rintro e w' ⟨rfl, ⟨nd, rfl⟩⟩; refine ⟨_, rfl, ?_⟩) | (go_at_call 46; (with_reducible refine (manystrandref07_of.calls kj2 _ _ l0_1 t384 _ ?side1 ?side2 A16.out).mono ?_); (case side1 => repeat (first | exact (Kd.C_below HR0_1.out bSt_) | (with_reducible refine Kd.C_alloc ?_ _) | (with_reducible refine Kd.C_drewN ?_ _) | (with_reducible refine Kd.C_drew ?_))); (case side2 => exact HC0_1.out); rintro e w' ⟨rfl, ⟨nd, rfl⟩⟩))
       go_ret
       exact ⟨by first | rfl | (simp [errW_none, errW_some] <;> rfl) | (simp [*, errW_none, errW_some] <;> rfl) | (simp [errW_none, errW_some]; exact Go.Proofs.YtgfbgfbnmiainaaW.OwnWords.isEmpty_bne _), bSt_⟩
     ·rw [if_neg c17] at H
      have c17b0 : ((Go.bits .andNot .u64 t382 t384) == 0) = false := beq_eq_false_iff_ne.mpr c17
      have c17b1 : ((Go.bits .andNot .u64 t382 t384) != 0) = true := bne_iff_ne.mpr c17
      obtain rfl := Option.some.inj H
      go_wp2_with (first | ((with_reducible refine gate_callee (f := 46) rfl ?_); refine goesL_ (some 15) rfl rfl Try.func46 (by kernel_rfl) rfl #[.slice A1 l1.length c1] rfl (by (try simp only [List.map_toArray, List.map_cons, List.map_nil]); first | done | rfl | (simp only [List.length_drop, List.length_take]; rfl)) ?_; (with_reducible refine (manystrandref07_of.calls kj2 _ _ l1 t382 _ ?side1 ?side2 A13.out).mono ?_); (case side1 => repeat (first | exact (Kd.C_below HR1.out HB.out) | (with_reducible refine Kd.C_alloc ?_ _) | (with_reducible refine Kd.C_drewN ?_ _) | (with_reducible refine Kd.C_drew ?_))); (case side2 => exact HC1.out); rintro e w' ⟨rfl, ⟨nd, rfl⟩⟩; refine ⟨_, rfl, ?_⟩; have hcz21_0 : wc.cell? ⟨gb379, 0, none⟩ = some (.slice A0_0 l0_0.length c0_0) := (blk_cell BK379.out 0).trans rfl; have hcz21_1 : wc.cell? ⟨gb379, 1, none⟩ = some (.slice A0_1 l0_1.length c0_1) := (blk_cell BK379.out 1).trans rfl; have hcz21_2 : wc.cell? ⟨gb379, 2, none⟩ = some (.int .i64 a0_2) := (blk_cell BK379.out 2).trans rfl; have hcz21_3 : wc.cell? ⟨gb379, 3, none⟩ = some (.int .i64 a0_3) := (blk_cell BK379.out 3).trans rfl; have hfz21_0 := blk_frozen BK379.out 0; have hfz21_1 := blk_frozen BK379.out 1; have hfz21_2 := blk_frozen BK379.out 2; have hfz21_3 := blk_frozen BK379.out 3) | ((with_reducible refine gate_callee (f := 46) rfl ?_); refine goesL_ (some 18) rfl rfl Try.func46 (by kernel_rfl) rfl #[.slice A0_0 l0_0.length c0_0] rfl (by (try simp only [List.map_toArray, List.map_cons, List.map_nil]); first | done | rfl | (simp only [List.length_drop, List.length_take]; rfl)) ?_; (with_reducible refine (manystrandref07_of.calls kj2 _ _ l0_0 t383 _ ?side1 ?side2 A14.out).mono ?_); (case side1 => repeat (first | exact (Kd.C_below HR0_0.out bSt_) | (with_reducible refine Kd.C_alloc ?_ _) | (with_reducible refine Kd.C_drewN ?_ _) | (with_reducible refine Kd.C_drew ?_))); (case side2 => exact HC0_0.out); rintro e w' ⟨rfl, ⟨nd, rfl⟩⟩; refine ⟨_, rfl, ?_⟩) | (go_at_call 46; (with_reducible refine (manystrandref07_of.calls kj2 _ _ l0_1 t384 _ ?side1 ?side2 A16.out).mono ?_); (case side1 => repeat (first | exact (Kd.C_below HR0_1.out bSt_) | (with_reducible refine Kd.C_alloc ?_ _) | (with_reducible refine Kd.C_drewN ?_ _) | (with_reducible refine Kd.C_drew ?_))); (case side2 => exact HC0_1.out); rintro e w' ⟨rfl, ⟨nd, rfl⟩⟩))
      go_ret
      exact ⟨by first | rfl | (simp [errW_none, errW_some] <;> rfl) | (simp [*, errW_none, errW_some] <;> rfl) | (simp [errW_none, errW_some]; exact Go.Proofs.YtgfbgfbnmiainaaW.OwnWords.isEmpty_bne _), bSt_⟩
    ·rw [if_neg c15] at H
     have c15b0 : ((Go.bits .andNot .u64 t383 t382) == 0) = false := beq_eq_false_iff_ne.mpr c15
     have c15b1 : ((Go.bits .andNot .u64 t383 t382) != 0) = true := bne_iff_ne.mpr c15
     obtain rfl := Option.some.inj H
     go_wp2_with (first | ((with_reducible refine gate_callee (f := 46) rfl ?_); refine goesL_ (some 15) rfl rfl Try.func46 (by kernel_rfl) rfl #[.slice A1 l1.length c1] rfl (by (try simp only [List.map_toArray, List.map_cons, List.map_nil]); first | done | rfl | (simp only [List.length_drop, List.length_take]; rfl)) ?_; (with_reducible refine (manystrandref07_of.calls kj2 _ _ l1 t382 _ ?side1 ?side2 A13.out).mono ?_); (case side1 => repeat (first | exact (Kd.C_below HR1.out HB.out) | (with_reducible refine Kd.C_alloc ?_ _) | (with_reducible refine Kd.C_drewN ?_ _) | (with_reducible refine Kd.C_drew ?_))); (case side2 => exact HC1.out); rintro e w' ⟨rfl, ⟨nd, rfl⟩⟩; refine ⟨_, rfl, ?_⟩; have hcz22_0 : wc.cell? ⟨gb379, 0, none⟩ = some (.slice A0_0 l0_0.length c0_0) := (blk_cell BK379.out 0).trans rfl; have hcz22_1 : wc.cell? ⟨gb379, 1, none⟩ = some (.slice A0_1 l0_1.length c0_1) := (blk_cell BK379.out 1).trans rfl; have hcz22_2 : wc.cell? ⟨gb379, 2, none⟩ = some (.int .i64 a0_2) := (blk_cell BK379.out 2).trans rfl; have hcz22_3 : wc.cell? ⟨gb379, 3, none⟩ = some (.int .i64 a0_3) := (blk_cell BK379.out 3).trans rfl; have hfz22_0 := blk_frozen BK379.out 0; have hfz22_1 := blk_frozen BK379.out 1; have hfz22_2 := blk_frozen BK379.out 2; have hfz22_3 := blk_frozen BK379.out 3) | ((with_reducible refine gate_callee (f := 46) rfl ?_); refine goesL_ (some 18) rfl rfl Try.func46 (by kernel_rfl) rfl #[.slice A0_0 l0_0.length c0_0] rfl (by (try simp only [List.map_toArray, List.map_cons, List.map_nil]); first | done | rfl | (simp only [List.length_drop, List.length_take]; rfl)) ?_; (with_reducible refine (manystrandref07_of.calls kj2 _ _ l0_0 t383 _ ?side1 ?side2 A14.out).mono ?_); (case side1 => repeat (first | exact (Kd.C_below HR0_0.out bSt_) | (with_reducible refine Kd.C_alloc ?_ _) | (with_reducible refine Kd.C_drewN ?_ _) | (with_reducible refine Kd.C_drew ?_))); (case side2 => exact HC0_0.out); rintro e w' ⟨rfl, ⟨nd, rfl⟩⟩; refine ⟨_, rfl, ?_⟩))
     go_ret
     exact ⟨by first | rfl | (simp [errW_none, errW_some] <;> rfl) | (simp [*, errW_none, errW_some] <;> rfl) | (simp [errW_none, errW_some]; exact Go.Proofs.YtgfbgfbnmiainaaW.OwnWords.isEmpty_bne _), bSt_⟩

end Go.Proofs.Ytgfbgfbnmiainaa.Q
end
section
namespace Go.Proofs.Ytgfbgfbnmiainaa.Q
open Go.RowKit Go.Proofs.YtgfbgfbnmiainaaW.PrintWords Go.Proofs.YtgfbgfbnmiainaaW.PrintLast Go.Proofs.YtgfbgfbnmiainaaW.PrintMore Go.Proofs.YtgfbgfbnmiainaaW.OwnWords
attribute [local go_sem] Go.Proofs.YtgfbgfbnmiainaaW.OwnWords.isSome_setCell max2_int min2_int max_two min_two max_three min_three max_four min_four
set_option linter.unusedVariables false
set_option linter.unusedSimpArgs false

/-! ### family_Meet: function 28 -/
def family_Meet.j0 : Nat → Bool → Int → Int → Int → Int → Int → Int → Int → Int → Option (List Int × List Int × Int × Int × Int)
 | 0, _, _, _, _, _, _, _, _, _ => none
 | k + 1, x27, x394000, x394001, x394002, x394003, x400000, x400001, x400002, x400003 => if x27 = true then (some (([] : List Int), ([] : List Int), 0, 0, 2)) else ((family_span_normal.f k (Go.bits .or .u64 x394000 x400000) (Go.bits .and .u64 x394001 x400001) (mx x394002 x400002) (mn x394003 x400003)).bind fun bt400 => (if bt400.2.2.2.2 = true then ((family_span_close.f k bt400.1 bt400.2.1 bt400.2.2.1 bt400.2.2.2.1).bind fun bt406 => (some (bt406.1, bt406.2.1, bt406.2.2.1, bt406.2.2.2, 0))) else (some (([] : List Int), ([] : List Int), 0, 0, 60))))
def family_Meet.f (k : Nat) (l0_0 : List Int) (l0_1 : List Int) (a0_2 : Int) (a0_3 : Int) (l1_0 : List Int) (l1_1 : List Int) (a1_2 : Int) (a1_3 : Int) : Option (List Int × List Int × Int × Int × Int) := (family_open.f k l0_0 l0_1 a0_2 a0_3).bind fun bt388 => ((family_open.f k l1_0 l1_1 a1_2 a1_3).bind fun bt394 => (if bt388.2.2.2.2 = true then (family_Meet.j0 k (!bt394.2.2.2.2) bt388.1 bt388.2.1 bt388.2.2.1 bt388.2.2.2.1 bt394.1 bt394.2.1 bt394.2.2.1 bt394.2.2.2.1) else (family_Meet.j0 k true bt388.1 bt388.2.1 bt388.2.2.1 bt388.2.2.2.1 bt394.1 bt394.2.1 bt394.2.2.1 bt394.2.2.2.1)))
theorem family_Meet.mono_l : ∀ k, (∀ y0 y1 y2 y3 y4 y5 y6 y7 y8, LeO (family_Meet.j0 k y0 y1 y2 y3 y4 y5 y6 y7 y8) (family_Meet.j0 (k + 1) y0 y1 y2 y3 y4 y5 y6 y7 y8))
 | 0 => fun _ _ _ _ _ _ _ _ _ r h => by simp [family_Meet.j0] at h
 | k + 1 => by
  have ih0 := family_Meet.mono_l k
  ·intro y0 y1 y2 y3 y4 y5 y6 y7 y8
   unfold family_Meet.j0
   repeat' first
   | (with_reducible exact ih0 _ _ _ _ _ _ _ _ _)
   | (with_reducible exact family_open.mono _ _ _ _ _)
   | (with_reducible exact family_span_close.mono _ _ _ _ _)
   | (with_reducible exact family_span_normal.mono _ _ _ _ _)
   | (with_reducible exact LeO.refl _)
   | (with_reducible exact LeO.none _)
   | (with_reducible refine LeO.ite ?_ ?_)
   | (with_reducible refine LeO.bind ?_ (fun _ => ?_))
   | exact ih0 _ _ _ _ _ _ _ _ _
   | exact family_open.mono _ _ _ _ _
   | exact family_span_close.mono _ _ _ _ _
   | exact family_span_normal.mono _ _ _ _ _
   | exact LeO.none _
   | refine LeO.ite ?_ ?_
   | refine LeO.bind ?_ (fun _ => ?_)
theorem family_Meet.mono : ∀ a0 a1 a2 a3 a4 a5 a6 a7 k, LeO (family_Meet.f k a0 a1 a2 a3 a4 a5 a6 a7) (family_Meet.f (k + 1) a0 a1 a2 a3 a4 a5 a6 a7) := by
 intro a0 a1 a2 a3 a4 a5 a6 a7 k
 have ih0 := family_Meet.mono_l k
 unfold family_Meet.f
 repeat' first
   | (with_reducible exact ih0 _ _ _ _ _ _ _ _ _)
   | (with_reducible exact family_open.mono _ _ _ _ _)
   | (with_reducible exact family_span_close.mono _ _ _ _ _)
   | (with_reducible exact family_span_normal.mono _ _ _ _ _)
   | (with_reducible exact LeO.refl _)
   | (with_reducible exact LeO.none _)
   | (with_reducible refine LeO.ite ?_ ?_)
   | (with_reducible refine LeO.bind ?_ (fun _ => ?_))
   | exact ih0 _ _ _ _ _ _ _ _ _
   | exact family_open.mono _ _ _ _ _
   | exact family_span_close.mono _ _ _ _ _
   | exact family_span_normal.mono _ _ _ _ _
   | exact LeO.none _
   | refine LeO.ite ?_ ?_
   | refine LeO.bind ?_ (fun _ => ?_)
set_option maxHeartbeats 8000000 in
set_option maxRecDepth 100000 in
theorem family_Meet.calls (k : Nat) (A0_0 : Option Addr) (c0_0 : Nat) (l0_0 : List Int) (A0_1 : Option Addr) (c0_1 : Nat) (l0_1 : List Int) (a0_2 : Int) (a0_3 : Int) (A1_0 : Option Addr) (c1_0 : Nat) (l1_0 : List Int) (A1_1 : Option Addr) (c1_1 : Nat) (l1_1 : List Int) (a1_2 : Int) (a1_3 : Int) (r1 : List Int) (r2 : List Int) (r3 : Int) (r4 : Int) (r5 : Int) (w : World) (hr0_0 : Kd.C (Kd.int .i64) w A0_0 l0_0.length l0_0) (hc0_0 : l0_0.length ≤ c0_0) (hr0_1 : Kd.C (Kd.int .i64) w A0_1 l0_1.length l0_1) (hc0_1 : l0_1.length ≤ c0_1) (hr1_0 : Kd.C (Kd.int .i64) w A1_0 l1_0.length l1_0) (hc1_0 : l1_0.length ≤ c1_0) (hr1_1 : Kd.C (Kd.int .i64) w A1_1 l1_1.length l1_1) (hc1_1 : l1_1.length ≤ c1_1) (h : family_Meet.f k l0_0 l0_1 a0_2 a0_3 l1_0 l1_1 a1_2 a1_3 = some (r1, r2, r3, r4, r5)) :
  Calls Try.prog 28 #[.agg #[.slice A0_0 l0_0.length c0_0, .slice A0_1 l0_1.length c0_1, .int .i64 a0_2, .int .i64 a0_3], .agg #[.slice A1_0 l1_0.length c1_0, .slice A1_1 l1_1.length c1_1, .int .i64 a1_2, .int .i64 a1_3]] w fun e w' => ∃ v0_ v1_ : Value, e = .returned (.tuple #[.agg #[v0_, v1_, .int .i64 r3, .int .i64 r4], .int .i64 r5]) ∧ Kd.R (Kd.int .i64) 3 w' w.heap.size (fun k_ => some k_ ≠ (v1_ : Value).ownBlock) v0_ r1 ∧ Kd.R (Kd.int .i64) 3 w' w.heap.size (fun k_ => some k_ ≠ (v0_ : Value).ownBlock) v1_ r2 ∧ Below w.heap.size w w' := by
 have hu37 := Try.underlying37
 have hu59 := Try.underlying59
 have HR0_0 := Aside0.mk hr0_0
 have HC0_0 := Aside0.mk hc0_0
 clear hr0_0 hc0_0
 have HR0_1 := Aside0.mk hr0_1
 have HC0_1 := Aside0.mk hc0_1
 clear hr0_1 hc0_1
 have HR1_0 := Aside0.mk hr1_0
 have HC1_0 := Aside0.mk hc1_0
 clear hr1_0 hc1_0
 have HR1_1 := Aside0.mk hr1_1
 have HC1_1 := Aside0.mk hc1_1
 clear hr1_1 hc1_1
 have HB := Aside0.mk (Below.refl w.heap.size w)
 have H : ((family_open.f k l0_0 l0_1 a0_2 a0_3).bind fun bt388 => ((family_open.f k l1_0 l1_1 a1_2 a1_3).bind fun bt394 => (if bt388.2.2.2.2 = true then (family_Meet.j0 k (!bt394.2.2.2.2) bt388.1 bt388.2.1 bt388.2.2.1 bt388.2.2.2.1 bt394.1 bt394.2.1 bt394.2.2.1 bt394.2.2.2.1) else (family_Meet.j0 k true bt388.1 bt388.2.1 bt388.2.2.1 bt388.2.2.2.1 bt394.1 bt394.2.1 bt394.2.2.1 bt394.2.2.2.1)))) = some (r1, r2, r3, r4, r5) := h
 clear h
 replace H := Option.bind_eq_some_iff.mp H
 obtain ⟨⟨t388, t389, t390, t391, t392⟩, A30, H⟩ := H
 replace H : ((family_open.f k l1_0 l1_1 a1_2 a1_3).bind fun bt394 => (if t392 = true then (family_Meet.j0 k (!bt394.2.2.2.2) t388 t389 t390 t391 bt394.1 bt394.2.1 bt394.2.2.1 bt394.2.2.2.1) else (family_Meet.j0 k true t388 t389 t390 t391 bt394.1 bt394.2.1 bt394.2.2.1 bt394.2.2.2.1))) = some (r1, r2, r3, r4, r5) := H
 have A3 := Aside0.mk A30
 clear A30
 replace H := Option.bind_eq_some_iff.mp H
 obtain ⟨⟨t394, t395, t396, t397, t398⟩, A40, H⟩ := H
 replace H : (if t392 = true then (family_Meet.j0 k (!t398) t388 t389 t390 t391 t394 t395 t396 t397) else (family_Meet.j0 k true t388 t389 t390 t391 t394 t395 t396 t397)) = some (r1, r2, r3, r4, r5) := H
 have A4 := Aside0.mk A40
 clear A40
 have HC5 := Aside0.mk H
 clear H
 go_enter Try.func28, Try.ntmps28
 go_upto_region 3 with (first | ((with_reducible refine gate_dst (N := 2) rfl ?_); refine box_event ?hg (N := 2) ?hd (cs := #[.slice A0_0 l0_0.length c0_0, .slice A0_1 l0_1.length c0_1, .int .i64 a0_2, .int .i64 a0_3]) (t := 37) ?hr ?_; (case hd => rfl); (case hg => rfl); (case hr => first | (go_simp; done) | (go_simp; rfl)); intro gb385 hg w6 hbox hb; have n0_ := Aside0.mk (below_step bSt_ hb); have n1_ := Aside0.mk (hbox); have n2_ := Aside0.mk ((by rw [hg]; exact (below_size bSt_) : w.heap.size ≤ gb385)); have n3_ := Aside0.mk ((by rw [hg]; exact (below_size bSt_) : w.heap.size ≤ gb385)); clear HB; have HB := n0_; have BK385 := n1_; have GW385 := n2_; have GE385 := n3_; clear n0_ n1_ n2_ n3_; clear hb hbox hg) | ((with_reducible refine gate_dst (N := 3) rfl ?_); refine box_event ?hg (N := 3) ?hd (cs := #[.slice A1_0 l1_0.length c1_0, .slice A1_1 l1_1.length c1_1, .int .i64 a1_2, .int .i64 a1_3]) (t := 37) ?hr ?_; (case hd => rfl); (case hg => rfl); (case hr => first | (go_simp; done) | (go_simp; rfl)); intro gb386 hg w7 hbox hb; have n0_ := Aside0.mk (blk_below (bKq_ BK385.out) hb); have n1_ := Aside0.mk (below_step bSt_ hb); have n2_ := Aside0.mk (hbox); have n3_ := Aside0.mk ((by rw [hg]; exact (below_size bSt_) : w.heap.size ≤ gb386)); have n4_ := Aside0.mk ((by rw [hg]; exact (below_size bSt_) : w.heap.size ≤ gb386)); have n5_ := Aside0.mk ((by rw [hg]; exact Nat.ne_of_lt (blk_lt (bKq_ BK385.out)) : gb385 ≠ gb386)); have n6_ := Aside0.mk ((by rw [hg]; exact Nat.ne_of_gt (blk_lt (bKq_ BK385.out)) : gb386 ≠ gb385)); clear BK385; clear HB; have BK385 := n0_; have HB := n1_; have BK386 := n2_; have GW386 := n3_; have GE386 := n4_; have NB385_386 := n5_; have NB386_385 := n6_; clear n0_ n1_ n2_ n3_ n4_ n5_ n6_; clear hb hbox hg) | ((with_reducible refine gate_dst (N := 4) rfl ?_); refine box_event ?hg (N := 4) ?hd (cs := #[.slice none 0 0, .slice none 0 0, .int .i64 0, .int .i64 0]) (t := 37) ?hr ?_; (case hd => rfl); (case hg => rfl); (case hr => first | (go_simp; done) | (go_simp; rfl)); intro gb387 hg w8 hbox hb; have n0_ := Aside0.mk (blk_below (bKq_ BK385.out) hb); have n1_ := Aside0.mk (blk_below (bKq_ BK386.out) hb); have n2_ := Aside0.mk (below_step bSt_ hb); have n3_ := Aside0.mk (hbox); have n4_ := Aside0.mk ((by rw [hg]; exact (below_size bSt_) : w.heap.size ≤ gb387)); have n5_ := Aside0.mk ((by rw [hg]; exact (below_size bSt_) : w.heap.size ≤ gb387)); have n6_ := Aside0.mk ((by rw [hg]; exact Nat.ne_of_lt (blk_lt (bKq_ BK385.out)) : gb385 ≠ gb387)); have n7_ := Aside0.mk ((by rw [hg]; exact Nat.ne_of_gt (blk_lt (bKq_ BK385.out)) : gb387 ≠ gb385)); have n8_ := Aside0.mk ((by rw [hg]; exact Nat.ne_of_lt (blk_lt (bKq_ BK386.out)) : gb386 ≠ gb387)); have n9_ := Aside0.mk ((by rw [hg]; exact Nat.ne_of_gt (blk_lt (bKq_ BK386.out)) : gb387 ≠ gb386)); clear BK385; clear BK386; clear HB; have BK385 := n0_; have BK386 := n1_; have HB := n2_; have BK387 := n3_; have GW387 := n4_; have GE387 := n5_; have NB385_387 := n6_; have NB387_385 := n7_; have NB386_387 := n8_; have NB387_386 := n9_; clear n0_ n1_ n2_ n3_ n4_ n5_ n6_ n7_ n8_ n9_; clear hb hbox hg; have hnb9 := NB385_386.out; have hnc9 := NB386_385.out; have hnb10 := NB385_387.out; have hnc10 := NB387_385.out; have hcz11_0 : w8.cell? ⟨gb385, 0, none⟩ = some (.slice A0_0 l0_0.length c0_0) := (blk_cell BK385.out 0).trans rfl; have hcz11_1 : w8.cell? ⟨gb385, 1, none⟩ = some (.slice A0_1 l0_1.length c0_1) := (blk_cell BK385.out 1).trans rfl; have hcz11_2 : w8.cell? ⟨gb385, 2, none⟩ = some (.int .i64 a0_2) := (blk_cell BK385.out 2).trans rfl; have hcz11_3 : w8.cell? ⟨gb385, 3, none⟩ = some (.int .i64 a0_3) := (blk_cell BK385.out 3).trans rfl; have hfz11_0 := blk_frozen BK385.out 0; have hfz11_1 := blk_frozen BK385.out 1; have hfz11_2 := blk_frozen BK385.out 2; have hfz11_3 := blk_frozen BK385.out 3) | ((with_reducible refine gate_callee (f := 36) rfl ?_); refine goesL_ (some 14) rfl rfl Try.func36 (by kernel_rfl) rfl #[.agg #[.slice A0_0 l0_0.length c0_0, .slice A0_1 l0_1.length c0_1, .int .i64 a0_2, .int .i64 a0_3]] rfl (by (try simp only [List.map_toArray, List.map_cons, List.map_nil]); first | done | rfl | (simp only [List.length_drop, List.length_take]; rfl)) ?_; (with_reducible refine (family_open.calls k _ _ l0_0 _ _ l0_1 a0_2 a0_3 t388 t389 t390 t391 t392 _ ?side1 ?side2 ?side3 ?side4 A3.out).mono ?_); (case side1 => repeat (first | exact (Kd.C_below HR0_0.out HB.out) | (with_reducible refine Kd.C_alloc ?_ _) | (with_reducible refine Kd.C_drewN ?_ _) | (with_reducible refine Kd.C_drew ?_))); (case side2 => exact HC0_0.out); (case side3 => repeat (first | exact (Kd.C_below HR0_1.out HB.out) | (with_reducible refine Kd.C_alloc ?_ _) | (with_reducible refine Kd.C_drewN ?_ _) | (with_reducible refine Kd.C_drew ?_))); (case side4 => exact HC0_1.out); rintro e w12 ⟨rfl, hb⟩; refine ⟨_, rfl, ?_⟩; have n0_ := Aside0.mk (blk_below (bKq_ BK385.out) hb); have n1_ := Aside0.mk (blk_below (bKq_ BK386.out) hb); have n2_ := Aside0.mk (blk_below (bKq_ BK387.out) hb); have n3_ := Aside0.mk (below_step bSt_ hb); clear BK385; clear BK386; clear BK387; clear HB; have BK385 := n0_; have BK386 := n1_; have BK387 := n2_; have HB := n3_; clear n0_ n1_ n2_ n3_; (try clear hb); (try clear hb2); (try clear hk); (try clear hi)) | ((with_reducible refine gate_dst (N := 6) rfl ?_); refine box_event ?hg (N := 6) ?hd (cs := #[.int .u64 0, .int .u64 0, .int .i64 0, .int .i64 0]) (t := 59) ?hr ?_; (case hd => rfl); (case hg => rfl); (case hr => first | (go_simp; done) | (go_simp; rfl)); intro gb393 hg w13 hbox hb; have n0_ := Aside0.mk (blk_below (bKq_ BK385.out) hb); have n1_ := Aside0.mk (blk_below (bKq_ BK386.out) hb); have n2_ := Aside0.mk (blk_below (bKq_ BK387.out) hb); have n3_ := Aside0.mk (below_step bSt_ hb); have n4_ := Aside0.mk (hbox); have n5_ := Aside0.mk ((by rw [hg]; exact (below_size bSt_) : w.heap.size ≤ gb393)); have n6_ := Aside0.mk ((by rw [hg]; exact (below_size bSt_) : w.heap.size ≤ gb393)); have n7_ := Aside0.mk ((by rw [hg]; exact Nat.ne_of_lt (blk_lt (bKq_ BK385.out)) : gb385 ≠ gb393)); have n8_ := Aside0.mk ((by rw [hg]; exact Nat.ne_of_gt (blk_lt (bKq_ BK385.out)) : gb393 ≠ gb385)); have n9_ := Aside0.mk ((by rw [hg]; exact Nat.ne_of_lt (blk_lt (bKq_ BK386.out)) : gb386 ≠ gb393)); have n10_ := Aside0.mk ((by rw [hg]; exact Nat.ne_of_gt (blk_lt (bKq_ BK386.out)) : gb393 ≠ gb386)); have n11_ := Aside0.mk ((by rw [hg]; exact Nat.ne_of_lt (blk_lt (bKq_ BK387.out)) : gb387 ≠ gb393)); have n12_ := Aside0.mk ((by rw [hg]; exact Nat.ne_of_gt (blk_lt (bKq_ BK387.out)) : gb393 ≠ gb387)); clear BK385; clear BK386; clear BK387; clear HB; have BK385 := n0_; have BK386 := n1_; have BK387 := n2_; have HB := n3_; have BK393 := n4_; have GW393 := n5_; have GE393 := n6_; have NB385_393 := n7_; have NB393_385 := n8_; have NB386_393 := n9_; have NB393_386 := n10_; have NB387_393 := n11_; have NB393_387 := n12_; clear n0_ n1_ n2_ n3_ n4_ n5_ n6_ n7_ n8_ n9_ n10_ n11_ n12_; clear hb hbox hg; have hnb14 := NB393_385.out; have hnc14 := NB385_393.out; have hnb15 := NB393_386.out; have hnc15 := NB386_393.out; have hnb16 := NB393_387.out; have hnc16 := NB387_393.out; have hcz17_0 : w13.cell? ⟨gb393, 0, none⟩ = some (.int .u64 0) := (blk_cell BK393.out 0).trans rfl; have hcz17_1 : w13.cell? ⟨gb393, 1, none⟩ = some (.int .u64 0) := (blk_cell BK393.out 1).trans rfl; have hcz17_2 : w13.cell? ⟨gb393, 2, none⟩ = some (.int .i64 0) := (blk_cell BK393.out 2).trans rfl; have hcz17_3 : w13.cell? ⟨gb393, 3, none⟩ = some (.int .i64 0) := (blk_cell BK393.out 3).trans rfl; have hfz17_0 := blk_frozen BK393.out 0; have hfz17_1 := blk_frozen BK393.out 1; have hfz17_2 := blk_frozen BK393.out 2; have hfz17_3 := blk_frozen BK393.out 3; have hnb18 := NB386_387.out; have hnc18 := NB387_386.out; have hcz19_0 : w13.cell? ⟨gb386, 0, none⟩ = some (.slice A1_0 l1_0.length c1_0) := (blk_cell BK386.out 0).trans rfl; have hcz19_1 : w13.cell? ⟨gb386, 1, none⟩ = some (.slice A1_1 l1_1.length c1_1) := (blk_cell BK386.out 1).trans rfl; have hcz19_2 : w13.cell? ⟨gb386, 2, none⟩ = some (.int .i64 a1_2) := (blk_cell BK386.out 2).trans rfl; have hcz19_3 : w13.cell? ⟨gb386, 3, none⟩ = some (.int .i64 a1_3) := (blk_cell BK386.out 3).trans rfl; have hfz19_0 := blk_frozen BK386.out 0; have hfz19_1 := blk_frozen BK386.out 1; have hfz19_2 := blk_frozen BK386.out 2; have hfz19_3 := blk_frozen BK386.out 3) | ((with_reducible refine gate_callee (f := 36) rfl ?_); refine goesL_ (some 19) rfl rfl Try.func36 (by kernel_rfl) rfl #[.agg #[.slice A1_0 l1_0.length c1_0, .slice A1_1 l1_1.length c1_1, .int .i64 a1_2, .int .i64 a1_3]] rfl (by (try simp only [List.map_toArray, List.map_cons, List.map_nil]); first | done | rfl | (simp only [List.length_drop, List.length_take]; rfl)) ?_; (with_reducible refine (family_open.calls k _ _ l1_0 _ _ l1_1 a1_2 a1_3 t394 t395 t396 t397 t398 _ ?side1 ?side2 ?side3 ?side4 A4.out).mono ?_); (case side1 => exact Kd.C_below HR1_0.out bSt_); (case side2 => exact HC1_0.out); (case side3 => exact Kd.C_below HR1_1.out bSt_); (case side4 => exact HC1_1.out); rintro e w20 ⟨rfl, hb⟩; refine ⟨_, rfl, ?_⟩; have n0_ := Aside0.mk (blk_below (bKq_ BK385.out) hb); have n1_ := Aside0.mk (blk_below (bKq_ BK386.out) hb); have n2_ := Aside0.mk (blk_below (bKq_ BK387.out) hb); have n3_ := Aside0.mk (blk_below (g := gb393) (o := .cells #[.int .u64 t388, .int .u64 t389, .int .i64 t390, .int .i64 t391] 59 (0, 0)) (bKq_ BK393.out) hb); have n4_ := Aside0.mk (below_step bSt_ hb); clear BK385; clear BK386; clear BK387; clear BK393; clear HB; have BK385 := n0_; have BK386 := n1_; have BK387 := n2_; have BK393 := n3_; have HB := n4_; clear n0_ n1_ n2_ n3_ n4_; (try clear hb); (try clear hb2); (try clear hk); (try clear hi)) | ((with_reducible refine gate_dst (N := 8) rfl ?_); refine box_event ?hg (N := 8) ?hd (cs := #[.int .u64 0, .int .u64 0, .int .i64 0, .int .i64 0]) (t := 59) ?hr ?_; (case hd => rfl); (case hg => rfl); (case hr => first | (go_simp; done) | (go_simp; rfl)); intro gb399 hg w21 hbox hb; have n0_ := Aside0.mk (blk_below (bKq_ BK385.out) hb); have n1_ := Aside0.mk (blk_below (bKq_ BK386.out) hb); have n2_ := Aside0.mk (blk_below (bKq_ BK387.out) hb); have n3_ := Aside0.mk (blk_below (bKq_ BK393.out) hb); have n4_ := Aside0.mk (below_step bSt_ hb); have n5_ := Aside0.mk (hbox); have n6_ := Aside0.mk ((by rw [hg]; exact (below_size bSt_) : w.heap.size ≤ gb399)); have n7_ := Aside0.mk ((by rw [hg]; exact (below_size bSt_) : w.heap.size ≤ gb399)); have n8_ := Aside0.mk ((by rw [hg]; exact Nat.ne_of_lt (blk_lt (bKq_ BK385.out)) : gb385 ≠ gb399)); have n9_ := Aside0.mk ((by rw [hg]; exact Nat.ne_of_gt (blk_lt (bKq_ BK385.out)) : gb399 ≠ gb385)); have n10_ := Aside0.mk ((by rw [hg]; exact Nat.ne_of_lt (blk_lt (bKq_ BK386.out)) : gb386 ≠ gb399)); have n11_ := Aside0.mk ((by rw [hg]; exact Nat.ne_of_gt (blk_lt (bKq_ BK386.out)) : gb399 ≠ gb386)); have n12_ := Aside0.mk ((by rw [hg]; exact Nat.ne_of_lt (blk_lt (bKq_ BK387.out)) : gb387 ≠ gb399)); have n13_ := Aside0.mk ((by rw [hg]; exact Nat.ne_of_gt (blk_lt (bKq_ BK387.out)) : gb399 ≠ gb387)); have n14_ := Aside0.mk ((by rw [hg]; exact Nat.ne_of_lt (blk_lt (bKq_ BK393.out)) : gb393 ≠ gb399)); have n15_ := Aside0.mk ((by rw [hg]; exact Nat.ne_of_gt (blk_lt (bKq_ BK393.out)) : gb399 ≠ gb393)); clear BK385; clear BK386; clear BK387; clear BK393; clear HB; have BK385 := n0_; have BK386 := n1_; have BK387 := n2_; have BK393 := n3_; have HB := n4_; have BK399 := n5_; have GW399 := n6_; have GE399 := n7_; have NB385_399 := n8_; have NB399_385 := n9_; have NB386_399 := n10_; have NB399_386 := n11_; have NB387_399 := n12_; have NB399_387 := n13_; have NB393_399 := n14_; have NB399_393 := n15_; clear n0_ n1_ n2_ n3_ n4_ n5_ n6_ n7_ n8_ n9_ n10_ n11_ n12_ n13_ n14_ n15_; clear hb hbox hg; have hnb22 := NB399_385.out; have hnc22 := NB385_399.out; have hnb23 := NB399_386.out; have hnc23 := NB386_399.out; have hnb24 := NB399_387.out; have hnc24 := NB387_399.out; have hnb25 := NB399_393.out; have hnc25 := NB393_399.out; have hcz26_0 : w21.cell? ⟨gb399, 0, none⟩ = some (.int .u64 0) := (blk_cell BK399.out 0).trans rfl; have hcz26_1 : w21.cell? ⟨gb399, 1, none⟩ = some (.int .u64 0) := (blk_cell BK399.out 1).trans rfl; have hcz26_2 : w21.cell? ⟨gb399, 2, none⟩ = some (.int .i64 0) := (blk_cell BK399.out 2).trans rfl; have hcz26_3 : w21.cell? ⟨gb399, 3, none⟩ = some (.int .i64 0) := (blk_cell BK399.out 3).trans rfl; have hfz26_0 := blk_frozen BK399.out 0; have hfz26_1 := blk_frozen BK399.out 1; have hfz26_2 := blk_frozen BK399.out 2; have hfz26_3 := blk_frozen BK399.out 3))
 (try simp only [Act.put, List.setIfInBounds_toArray, List.set_cons_zero, List.set_cons_succ])
 go_cut [27] (fun v27 wc => ∃ (kq : Nat) (x27_4 : Bool), v27 = .bool x27_4 ∧ Aside0 (family_Meet.j0 kq x27_4 t388 t389 t390 t391 t394 t395 t396 t397 = some (r1, r2, r3, r4, r5)) ∧ Aside0 (kq ≤ k) ∧ Aside0 (wc.heap[gb385]? = some (.cells #[(.slice A0_0 l0_0.length c0_0), (.slice A0_1 l0_1.length c0_1), .int .i64 a0_2, .int .i64 a0_3] 37 (0, 0))) ∧ Aside0 (wc.heap[gb386]? = some (.cells #[(.slice A1_0 l1_0.length c1_0), (.slice A1_1 l1_1.length c1_1), .int .i64 a1_2, .int .i64 a1_3] 37 (0, 0))) ∧ Aside0 (wc.heap[gb387]? = some (.cells #[(.slice none 0 0), (.slice none 0 0), .int .i64 0, .int .i64 0] 37 (0, 0))) ∧ Aside0 (wc.heap[gb393]? = some (.cells #[.int .u64 t388, .int .u64 t389, .int .i64 t390, .int .i64 t391] 59 (0, 0))) ∧ Aside0 (wc.heap[gb399]? = some (.cells #[.int .u64 t394, .int .u64 t395, .int .i64 t396, .int .i64 t397] 59 (0, 0))) ∧ Aside0 (Below w.heap.size w wc))
 case first =>
  have H := HC5.out
  clear HC5
  by_cases c27 : t392 = true
  ·subst c27
   have H1 : (family_Meet.j0 k (!t398) t388 t389 t390 t391 t394 t395 t396 t397) = some (r1, r2, r3, r4, r5) := by rw [if_pos rfl] at H; exact H
   clear H
   have H := H1
   clear H1
   have H' := Aside0.mk H
   clear H
   go_wp2
   go_meet
   case rel => exact ⟨_, (!t398), (by first | rfl | (simp; done) | (simp [*]; done)), H', ⟨by first | omega | exact Nat.le_refl _⟩, ⟨bKq_ BK385.out⟩, ⟨bKq_ BK386.out⟩, ⟨bKq_ BK387.out⟩, ⟨bKq_ BK393.out⟩, ⟨bKq_ BK399.out⟩, ⟨bSt_⟩⟩
  ·replace c27 := Bool.eq_false_iff.mpr c27
   subst c27
   have H1 : (family_Meet.j0 k true t388 t389 t390 t391 t394 t395 t396 t397) = some (r1, r2, r3, r4, r5) := by rw [if_neg (show ¬ (false = true) by decide)] at H; exact H
   clear H
   have H := H1
   clear H1
   have H' := Aside0.mk H
   clear H
   go_wp2
   go_meet
   case rel => exact ⟨_, (true), (by first | rfl | (simp; done) | (simp [*]; done)), H', ⟨by first | omega | exact Nat.le_refl _⟩, ⟨bKq_ BK385.out⟩, ⟨bKq_ BK386.out⟩, ⟨bKq_ BK387.out⟩, ⟨bKq_ BK393.out⟩, ⟨bKq_ BK399.out⟩, ⟨bSt_⟩⟩
 case rest =>
  clear HC5
  try clear c1
  try clear c2
  try clear p2
  try clear c3
  try clear c9
  try clear c10
  try clear c14
  try clear c15
  try clear c16
  try clear c18
  try clear c22
  try clear c23
  try clear c24
  try clear c25
  try clear c27
  try clear hcz11_0
  try clear hcz11_1
  try clear hcz11_2
  try clear hcz11_3
  try clear hcz17_0
  try clear hcz17_1
  try clear hcz17_2
  try clear hcz17_3
  try clear hcz19_0
  try clear hcz19_1
  try clear hcz19_2
  try clear hcz19_3
  try clear hcz26_0
  try clear hcz26_1
  try clear hcz26_2
  try clear hcz26_3
  try clear hfz11_0
  try clear hfz11_1
  try clear hfz11_2
  try clear hfz11_3
  try clear hfz17_0
  try clear hfz17_1
  try clear hfz17_2
  try clear hfz17_3
  try clear hfz19_0
  try clear hfz19_1
  try clear hfz19_2
  try clear hfz19_3
  try clear hfz26_0
  try clear hfz26_1
  try clear hfz26_2
  try clear hfz26_3
  obtain ⟨kq, x27_4, rfl, HA, HJ4, BK385, BK386, BK387, BK393, BK399, HB⟩ := hcut
  cases kq with
  | zero => exact absurd HA.out (by simp [family_Meet.j0])
  | succ kj4 =>
   have H := HA.out
   clear HA
   simp only [family_Meet.j0] at H
   by_cases c28 : x27_4 = true
   ·subst c28
    have H1 : (some (([] : List Int), ([] : List Int), 0, 0, 2)) = some (r1, r2, r3, r4, r5) := by rw [if_pos rfl] at H; exact H
    clear H
    have H := H1
    clear H1
    simp only [Option.some.injEq, Prod.mk.injEq] at H
    obtain ⟨rfl, rfl, rfl, rfl, rfl⟩ := H
    have hnb29 := NB387_385.out
    have hnc29 := NB385_387.out
    have hnb30 := NB387_386.out
    have hnc30 := NB386_387.out
    have hnb31 := NB387_393.out
    have hnc31 := NB393_387.out
    have hnb32 := NB387_399.out
    have hnc32 := NB399_387.out
    have hcz33_0 : wc.cell? ⟨gb387, 0, none⟩ = some (.slice none 0 0) := (blk_cell BK387.out 0).trans rfl
    have hcz33_1 : wc.cell? ⟨gb387, 1, none⟩ = some (.slice none 0 0) := (blk_cell BK387.out 1).trans rfl
    have hcz33_2 : wc.cell? ⟨gb387, 2, none⟩ = some (.int .i64 0) := (blk_cell BK387.out 2).trans rfl
    have hcz33_3 : wc.cell? ⟨gb387, 3, none⟩ = some (.int .i64 0) := (blk_cell BK387.out 3).trans rfl
    have hfz33_0 := blk_frozen BK387.out 0
    have hfz33_1 := blk_frozen BK387.out 1
    have hfz33_2 := blk_frozen BK387.out 2
    have hfz33_3 := blk_frozen BK387.out 3
    go_wp2
    refine bodyPost_ret (results_ct rfl _ _ gb387 37 #[.slice none 0 0, .slice none 0 0, .int .i64 0, .int .i64 0] (0, 0) _ rfl (bKq_ BK387.out) Try.underlying37 rfl (by kernel_rfl)) rfl ?_
    exact ⟨_, _, by first | rfl | (simp [errW_none, errW_some] <;> rfl) | (simp [*, errW_none, errW_some] <;> rfl) | (simp [errW_none, errW_some]; exact Go.Proofs.YtgfbgfbnmiainaaW.OwnWords.isEmpty_bne _), by first | exact Kd.R_nil _ _ _ _ _ | exact Kd.N_nil _ _ _ _ _ | exact Kd.V_nil _ _ _ _ _ | exact Kd.Q_nil _ _ _ _ _ | exact Kd.S_nil _ _ _ _ _, by first | exact Kd.R_nil _ _ _ _ _ | exact Kd.N_nil _ _ _ _ _ | exact Kd.V_nil _ _ _ _ _ | exact Kd.Q_nil _ _ _ _ _ | exact Kd.S_nil _ _ _ _ _, bSt_⟩
   ·replace c28 := Bool.eq_false_iff.mpr c28
    subst c28
    have H1 : ((family_span_normal.f kj4 (Go.bits .or .u64 t388 t394) (Go.bits .and .u64 t389 t395) (mx t390 t396) (mn t391 t397)).bind fun bt400 => (if bt400.2.2.2.2 = true then ((family_span_close.f kj4 bt400.1 bt400.2.1 bt400.2.2.1 bt400.2.2.2.1).bind fun bt406 => (some (bt406.1, bt406.2.1, bt406.2.2.1, bt406.2.2.2, 0))) else (some (([] : List Int), ([] : List Int), 0, 0, 60)))) = some (r1, r2, r3, r4, r5) := by rw [if_neg (show ¬ (false = true) by decide)] at H; exact H
    clear H
    have H := H1
    clear H1
    obtain ⟨ji34, hji34⟩ : ∃ j_ : Int, (mx t390 t396) = j_ := ⟨_, rfl⟩
    replace H : ((family_span_normal.f kj4 (Go.bits .or .u64 t388 t394) (Go.bits .and .u64 t389 t395) (ji34) (mn t391 t397)).bind fun bt400 => (if bt400.2.2.2.2 = true then ((family_span_close.f kj4 bt400.1 bt400.2.1 bt400.2.2.1 bt400.2.2.2.1).bind fun bt406 => (some (bt406.1, bt406.2.1, bt406.2.2.1, bt406.2.2.2, 0))) else (some (([] : List Int), ([] : List Int), 0, 0, 60)))) = some (r1, r2, r3, r4, r5) := by first | (rw [hji34] at H; exact H) | (simp only [hji34] at H ⊢; exact H)
    have hji34_ : (if t390 < t396 then t396 else t390) = ji34 := hji34
    obtain ⟨ji35, hji35⟩ : ∃ j_ : Int, (mn t391 t397) = j_ := ⟨_, rfl⟩
    replace H : ((family_span_normal.f kj4 (Go.bits .or .u64 t388 t394) (Go.bits .and .u64 t389 t395) (ji34) (ji35)).bind fun bt400 => (if bt400.2.2.2.2 = true then ((family_span_close.f kj4 bt400.1 bt400.2.1 bt400.2.2.1 bt400.2.2.2.1).bind fun bt406 => (some (bt406.1, bt406.2.1, bt406.2.2.1, bt406.2.2.2, 0))) else (some (([] : List Int), ([] : List Int), 0, 0, 60)))) = some (r1, r2, r3, r4, r5) := by first | (rw [hji35] at H; exact H) | (simp only [hji35] at H ⊢; exact H)
    have hji35_ : (if t397 < t391 then t397 else t391) = ji35 := hji35
    replace H := Option.bind_eq_some_iff.mp H
    obtain ⟨⟨t400, t401, t402, t403, t404⟩, A360, H⟩ := H
    replace H : (if t404 = true then ((family_span_close.f kj4 t400 t401 t402 t403).bind fun bt406 => (some (bt406.1, bt406.2.1, bt406.2.2.1, bt406.2.2.2, 0))) else (some (([] : List Int), ([] : List Int), 0, 0, 60))) = some (r1, r2, r3, r4, r5) := H
    have A36 := Aside0.mk A360
    clear A360
    by_cases c37 : t404 = true
    ·subst c37
     have H1 : ((family_span_close.f kj4 t400 t401 t402 t403).bind fun bt406 => (some (bt406.1, bt406.2.1, bt406.2.2.1, bt406.2.2.2, 0))) = some (r1, r2, r3, r4, r5) := by rw [if_pos rfl] at H; exact H
     clear H
     have H := H1
     clear H1
     replace H := Option.bind_eq_some_iff.mp H
     obtain ⟨⟨t406, t409, t412, t413⟩, A380, H⟩ := H
     replace H : (some (t406, t409, t412, t413, 0)) = some (r1, r2, r3, r4, r5) := H
     have A38 := Aside0.mk A380
     clear A380
     simp only [Option.some.injEq, Prod.mk.injEq] at H
     obtain ⟨rfl, rfl, rfl, rfl, rfl⟩ := H
     have hnb39 := NB393_385.out
     have hnc39 := NB385_393.out
     have hnb40 := NB393_386.out
     have hnc40 := NB386_393.out
     have hnb41 := NB393_387.out
     have hnc41 := NB387_393.out
     have hnb42 := NB393_399.out
     have hnc42 := NB399_393.out
     have hcz43_0 : wc.cell? ⟨gb393, 0, none⟩ = some (.int .u64 t388) := (blk_cell BK393.out 0).trans rfl
     have hcz43_1 : wc.cell? ⟨gb393, 1, none⟩ = some (.int .u64 t389) := (blk_cell BK393.out 1).trans rfl
     have hcz43_2 : wc.cell? ⟨gb393, 2, none⟩ = some (.int .i64 t390) := (blk_cell BK393.out 2).trans rfl
     have hcz43_3 : wc.cell? ⟨gb393, 3, none⟩ = some (.int .i64 t391) := (blk_cell BK393.out 3).trans rfl
     have hfz43_0 := blk_frozen BK393.out 0
     have hfz43_1 := blk_frozen BK393.out 1
     have hfz43_2 := blk_frozen BK393.out 2
     have hfz43_3 := blk_frozen BK393.out 3
     have hnb44 := NB399_385.out
     have hnc44 := NB385_399.out
     have hnb45 := NB399_386.out
     have hnc45 := NB386_399.out
     have hnb46 := NB399_387.out
     have hnc46 := NB387_399.out
     have hcz47_0 : wc.cell? ⟨gb399, 0, none⟩ = some (.int .u64 t394) := (blk_cell BK399.out 0).trans rfl
     have hcz47_1 : wc.cell? ⟨gb399, 1, none⟩ = some (.int .u64 t395) := (blk_cell BK399.out 1).trans rfl
     have hcz47_2 : wc.cell? ⟨gb399, 2, none⟩ = some (.int .i64 t396) := (blk_cell BK399.out 2).trans rfl
     have hcz47_3 : wc.cell? ⟨gb399, 3, none⟩ = some (.int .i64 t397) := (blk_cell BK399.out 3).trans rfl
     have hfz47_0 := blk_frozen BK399.out 0
     have hfz47_1 := blk_frozen BK399.out 1
     have hfz47_2 := blk_frozen BK399.out 2
     have hfz47_3 := blk_frozen BK399.out 3
     go_wp2_with (first | ((with_reducible refine gate_callee (f := 45) rfl ?_); refine goesL_ (some 51) rfl rfl Try.func45 (by kernel_rfl) rfl #[.agg #[.int .u64 (Go.bits .or .u64 t388 t394), .int .u64 (Go.bits .and .u64 t389 t395), .int .i64 ji34, .int .i64 ji35]] rfl (by (try simp only [List.map_toArray, List.map_cons, List.map_nil]); first | done | (simp only [hji34, hji35]; rfl) | rfl | (simp only [List.length_drop, List.length_take]; rfl)) ?_; (with_reducible refine (family_span_normal.calls kj4 (Go.bits .or .u64 t388 t394) (Go.bits .and .u64 t389 t395) ji34 ji35 t400 t401 t402 t403 true _ A36.out).mono ?_); rintro e w48 ⟨rfl, hb⟩; refine ⟨_, rfl, ?_⟩; have n0_ := Aside0.mk (blk_below (bKq_ BK385.out) hb); have n1_ := Aside0.mk (blk_below (bKq_ BK386.out) hb); have n2_ := Aside0.mk (blk_below (bKq_ BK387.out) hb); have n3_ := Aside0.mk (blk_below (bKq_ BK393.out) hb); have n4_ := Aside0.mk (blk_below (bKq_ BK399.out) hb); have n5_ := Aside0.mk (below_step bSt_ hb); clear BK385; clear BK386; clear BK387; clear BK393; clear BK399; clear HB; have BK385 := n0_; have BK386 := n1_; have BK387 := n2_; have BK393 := n3_; have BK399 := n4_; have HB := n5_; clear n0_ n1_ n2_ n3_ n4_ n5_; (try clear hb); (try clear hb2); (try clear hk); (try clear hi)) | ((with_reducible refine gate_dst (N := 10) rfl ?_); refine box_event ?hg (N := 10) ?hd (cs := #[.int .u64 0, .int .u64 0, .int .i64 0, .int .i64 0]) (t := 59) ?hr ?_; (case hd => rfl); (case hg => rfl); (case hr => first | (go_simp; done) | (go_simp; rfl)); intro gb405 hg w49 hbox hb; have n0_ := Aside0.mk (blk_below (bKq_ BK385.out) hb); have n1_ := Aside0.mk (blk_below (bKq_ BK386.out) hb); have n2_ := Aside0.mk (blk_below (bKq_ BK387.out) hb); have n3_ := Aside0.mk (blk_below (bKq_ BK393.out) hb); have n4_ := Aside0.mk (blk_below (bKq_ BK399.out) hb); have n5_ := Aside0.mk (below_step bSt_ hb); have n6_ := Aside0.mk (hbox); have n7_ := Aside0.mk ((by rw [hg]; exact (below_size bSt_) : w.heap.size ≤ gb405)); have n8_ := Aside0.mk ((by rw [hg]; exact (below_size bSt_) : w.heap.size ≤ gb405)); have n9_ := Aside0.mk ((by rw [hg]; exact Nat.ne_of_lt (blk_lt (bKq_ BK385.out)) : gb385 ≠ gb405)); have n10_ := Aside0.mk ((by rw [hg]; exact Nat.ne_of_gt (blk_lt (bKq_ BK385.out)) : gb405 ≠ gb385)); have n11_ := Aside0.mk ((by rw [hg]; exact Nat.ne_of_lt (blk_lt (bKq_ BK386.out)) : gb386 ≠ gb405)); have n12_ := Aside0.mk ((by rw [hg]; exact Nat.ne_of_gt (blk_lt (bKq_ BK386.out)) : gb405 ≠ gb386)); have n13_ := Aside0.mk ((by rw [hg]; exact Nat.ne_of_lt (blk_lt (bKq_ BK387.out)) : gb387 ≠ gb405)); have n14_ := Aside0.mk ((by rw [hg]; exact Nat.ne_of_gt (blk_lt (bKq_ BK387.out)) : gb405 ≠ gb387)); have n15_ := Aside0.mk ((by rw [hg]; exact Nat.ne_of_lt (blk_lt (bKq_ BK393.out)) : gb393 ≠ gb405)); have n16_ := Aside0.mk ((by rw [hg]; exact Nat.ne_of_gt (blk_lt (bKq_ BK393.out)) : gb405 ≠ gb393)); have n17_ := Aside0.mk ((by rw [hg]; exact Nat.ne_of_lt (blk_lt (bKq_ BK399.out)) : gb399 ≠ gb405)); have n18_ := Aside0.mk ((by rw [hg]; exact Nat.ne_of_gt (blk_lt (bKq_ BK399.out)) : gb405 ≠ gb399)); clear BK385; clear BK386; clear BK387; clear BK393; clear BK399; clear HB; have BK385 := n0_; have BK386 := n1_; have BK387 := n2_; have BK393 := n3_; have BK399 := n4_; have HB := n5_; have BK405 := n6_; have GW405 := n7_; have GE405 := n8_; have NB385_405 := n9_; have NB405_385 := n10_; have NB386_405 := n11_; have NB405_386 := n12_; have NB387_405 := n13_; have NB405_387 := n14_; have NB393_405 := n15_; have NB405_393 := n16_; have NB399_405 := n17_; have NB405_399 := n18_; clear n0_ n1_ n2_ n3_ n4_ n5_ n6_ n7_ n8_ n9_ n10_ n11_ n12_ n13_ n14_ n15_ n16_ n17_ n18_; clear hb hbox hg; have hnb50 := NB405_385.out; have hnc50 := NB385_405.out; have hnb51 := NB405_386.out; have hnc51 := NB386_405.out; have hnb52 := NB405_387.out; have hnc52 := NB387_405.out; have hnb53 := NB405_393.out; have hnc53 := NB393_405.out; have hnb54 := NB405_399.out; have hnc54 := NB399_405.out; have hcz55_0 : w49.cell? ⟨gb405, 0, none⟩ = some (.int .u64 0) := (blk_cell BK405.out 0).trans rfl; have hcz55_1 : w49.cell? ⟨gb405, 1, none⟩ = some (.int .u64 0) := (blk_cell BK405.out 1).trans rfl; have hcz55_2 : w49.cell? ⟨gb405, 2, none⟩ = some (.int .i64 0) := (blk_cell BK405.out 2).trans rfl; have hcz55_3 : w49.cell? ⟨gb405, 3, none⟩ = some (.int .i64 0) := (blk_cell BK405.out 3).trans rfl; have hfz55_0 := blk_frozen BK405.out 0; have hfz55_1 := blk_frozen BK405.out 1; have hfz55_2 := blk_frozen BK405.out 2; have hfz55_3 := blk_frozen BK405.out 3) | ((with_reducible refine gate_callee (f := 39) rfl ?_); refine goesL_ (some 58) rfl rfl Try.func39 (by kernel_rfl) rfl #[.agg #[.int .u64 t400, .int .u64 t401, .int .i64 t402, .int .i64 t403]] rfl (by (try simp only [List.map_toArray, List.map_cons, List.map_nil]); first | done | rfl | (simp only [List.length_drop, List.length_take]; rfl)) ?_; (with_reducible refine (family_span_close.calls kj4 t400 t401 t402 t403 t406 t409 t412 t413 _ A38.out).mono ?_); rintro e w56 ⟨v407, v410, rfl, ho0, ho1, hb⟩; refine ⟨_, rfl, ?_⟩; have n0_ := Aside0.mk (Kd.R_lower ho0 (below_size bSt_)); have n1_ := Aside0.mk (Kd.R_lower ho1 (below_size bSt_)); have n2_ := Aside0.mk (blk_below (bKq_ BK385.out) hb); have n3_ := Aside0.mk (blk_below (bKq_ BK386.out) hb); have n4_ := Aside0.mk (blk_below (bKq_ BK387.out) hb); have n5_ := Aside0.mk (blk_below (bKq_ BK393.out) hb); have n6_ := Aside0.mk (blk_below (bKq_ BK399.out) hb); have n7_ := Aside0.mk (blk_below (g := gb405) (o := .cells #[.int .u64 t400, .int .u64 t401, .int .i64 t402, .int .i64 t403] 59 (0, 0)) (bKq_ BK405.out) hb); have n8_ := Aside0.mk (below_step bSt_ hb); clear BK385; clear BK386; clear BK387; clear BK393; clear BK399; clear BK405; clear HB; have HO408 := n0_; have HO411 := n1_; have BK385 := n2_; have BK386 := n3_; have BK387 := n4_; have BK393 := n5_; have BK399 := n6_; have BK405 := n7_; have HB := n8_; clear n0_ n1_ n2_ n3_ n4_ n5_ n6_ n7_ n8_; (try clear hb); (try clear hb2); (try clear hk); (try clear hi); (try clear ho0); (try clear ho1); obtain ⟨Ao57, co57, eo57⟩ := Kd.R_slice HO408.out; subst eo57; have hnb58 := NB387_385.out; have hnc58 := NB385_387.out; have hnb59 := NB387_386.out; have hnc59 := NB386_387.out; have hcz60_0 : w56.cell? ⟨gb387, 0, none⟩ = some (.slice none 0 0) := (blk_cell BK387.out 0).trans rfl; have hcz60_1 : w56.cell? ⟨gb387, 1, none⟩ = some (.slice none 0 0) := (blk_cell BK387.out 1).trans rfl; have hcz60_2 : w56.cell? ⟨gb387, 2, none⟩ = some (.int .i64 0) := (blk_cell BK387.out 2).trans rfl; have hcz60_3 : w56.cell? ⟨gb387, 3, none⟩ = some (.int .i64 0) := (blk_cell BK387.out 3).trans rfl; have hfz60_0 := blk_frozen BK387.out 0; have hfz60_1 := blk_frozen BK387.out 1; have hfz60_2 := blk_frozen BK387.out 2; have hfz60_3 := blk_frozen BK387.out 3; obtain ⟨Ao61, co61, eo61⟩ := Kd.R_slice HO411.out; subst eo61))
     refine bodyPost_ret (results_ct rfl _ _ gb387 37 #[.slice Ao57 t406.length co57, .slice Ao61 t409.length co61, .int .i64 t412, .int .i64 t413] (0, 0) _ rfl (bKq_ BK387.out) Try.underlying37 rfl (by kernel_rfl)) rfl ?_
     exact ⟨_, _, by first | rfl | (simp [errW_none, errW_some] <;> rfl) | (simp only [← hji34, ← hji35]; first | rfl | (simp [errW_none, errW_some] <;> rfl)) | (simp [*, errW_none, errW_some] <;> rfl) | (simp [errW_none, errW_some]; exact Go.Proofs.YtgfbgfbnmiainaaW.OwnWords.isEmpty_bne _), by (with_reducible repeat (first | apply Kd.R_alloc | apply Kd.R_drewN | apply Kd.R_drew)); exact Kd.R_mono (Kd.R_far (p := ⟨gb387, 3, none⟩) (Kd.R_far (p := ⟨gb387, 2, none⟩) (Kd.R_far (p := ⟨gb387, 1, none⟩) (Kd.R_far (p := ⟨gb387, 0, none⟩) (Kd.R_types HO408.out BK387.out (by decide)) (fun _ hk => hk.2) (.slice Ao57 t406.length co57)) (fun _ hk => hk.2) (.slice Ao61 t409.length co61)) (fun _ hk => hk.2) (.int .i64 t412)) (fun _ hk => hk.2) (.int .i64 t413)) (fun _ hk => hk.1), by (with_reducible repeat (first | apply Kd.R_alloc | apply Kd.R_drewN | apply Kd.R_drew)); exact Kd.R_mono (Kd.R_far (p := ⟨gb387, 3, none⟩) (Kd.R_far (p := ⟨gb387, 2, none⟩) (Kd.R_far (p := ⟨gb387, 1, none⟩) (Kd.R_far (p := ⟨gb387, 0, none⟩) (Kd.R_types HO411.out BK387.out (by decide)) (fun _ hk => hk.2) (.slice Ao57 t406.length co57)) (fun _ hk => hk.2) (.slice Ao61 t409.length co61)) (fun _ hk => hk.2) (.int .i64 t412)) (fun _ hk => hk.2) (.int .i64 t413)) (fun _ hk => hk.1), bSt_⟩
    ·replace c37 := Bool.eq_false_iff.mpr c37
     subst c37
     have H1 : (some (([] : List Int), ([] : List Int), 0, 0, 60)) = some (r1, r2, r3, r4, r5) := by rw [if_neg (show ¬ (false = true) by decide)] at H; exact H
     clear H
     have H := H1
     clear H1
     simp only [Option.some.injEq, Prod.mk.injEq] at H
     obtain ⟨rfl, rfl, rfl, rfl, rfl⟩ := H
     have hnb62 := NB393_385.out
     have hnc62 := NB385_393.out
     have hnb63 := NB393_386.out
     have hnc63 := NB386_393.out
     have hnb64 := NB393_387.out
     have hnc64 := NB387_393.out
     have hnb65 := NB393_399.out
     have hnc65 := NB399_393.out
     have hcz66_0 : wc.cell? ⟨gb393, 0, none⟩ = some (.int .u64 t388) := (blk_cell BK393.out 0).trans rfl
     have hcz66_1 : wc.cell? ⟨gb393, 1, none⟩ = some (.int .u64 t389) := (blk_cell BK393.out 1).trans rfl
     have hcz66_2 : wc.cell? ⟨gb393, 2, none⟩ = some (.int .i64 t390) := (blk_cell BK393.out 2).trans rfl
     have hcz66_3 : wc.cell? ⟨gb393, 3, none⟩ = some (.int .i64 t391) := (blk_cell BK393.out 3).trans rfl
     have hfz66_0 := blk_frozen BK393.out 0
     have hfz66_1 := blk_frozen BK393.out 1
     have hfz66_2 := blk_frozen BK393.out 2
     have hfz66_3 := blk_frozen BK393.out 3
     have hnb67 := NB399_385.out
     have hnc67 := NB385_399.out
     have hnb68 := NB399_386.out
     have hnc68 := NB386_399.out
     have hnb69 := NB399_387.out
     have hnc69 := NB387_399.out
     have hcz70_0 : wc.cell? ⟨gb399, 0, none⟩ = some (.int .u64 t394) := (blk_cell BK399.out 0).trans rfl
     have hcz70_1 : wc.cell? ⟨gb399, 1, none⟩ = some (.int .u64 t395) := (blk_cell BK399.out 1).trans rfl
     have hcz70_2 : wc.cell? ⟨gb399, 2, none⟩ = some (.int .i64 t396) := (blk_cell BK399.out 2).trans rfl
     have hcz70_3 : wc.cell? ⟨gb399, 3, none⟩ = some (.int .i64 t397) := (blk_cell BK399.out 3).trans rfl
     have hfz70_0 := blk_frozen BK399.out 0
     have hfz70_1 := blk_frozen BK399.out 1
     have hfz70_2 := blk_frozen BK399.out 2
     have hfz70_3 := blk_frozen BK399.out 3
     go_wp2_with (first | ((with_reducible refine gate_callee (f := 45) rfl ?_); refine goesL_ (some 51) rfl rfl Try.func45 (by kernel_rfl) rfl #[.agg #[.int .u64 (Go.bits .or .u64 t388 t394), .int .u64 (Go.bits .and .u64 t389 t395), .int .i64 ji34, .int .i64 ji35]] rfl (by (try simp only [List.map_toArray, List.map_cons, List.map_nil]); first | done | (simp only [hji34, hji35]; rfl) | rfl | (simp only [List.length_drop, List.length_take]; rfl)) ?_; (with_reducible refine (family_span_normal.calls kj4 (Go.bits .or .u64 t388 t394) (Go.bits .and .u64 t389 t395) ji34 ji35 t400 t401 t402 t403 false _ A36.out).mono ?_); rintro e w71 ⟨rfl, hb⟩; refine ⟨_, rfl, ?_⟩; have n0_ := Aside0.mk (blk_below (bKq_ BK385.out) hb); have n1_ := Aside0.mk (blk_below (bKq_ BK386.out) hb); have n2_ := Aside0.mk (blk_below (bKq_ BK387.out) hb); have n3_ := Aside0.mk (blk_below (bKq_ BK393.out) hb); have n4_ := Aside0.mk (blk_below (bKq_ BK399.out) hb); have n5_ := Aside0.mk (below_step bSt_ hb); clear BK385; clear BK386; clear BK387; clear BK393; clear BK399; clear HB; have BK385 := n0_; have BK386 := n1_; have BK387 := n2_; have BK393 := n3_; have BK399 := n4_; have HB := n5_; clear n0_ n1_ n2_ n3_ n4_ n5_; (try clear hb); (try clear hb2); (try clear hk); (try clear hi)) | ((with_reducible refine gate_dst (N := 10) rfl ?_); refine box_event ?hg (N := 10) ?hd (cs := #[.int .u64 0, .int .u64 0, .int .i64 0, .int .i64 0]) (t := 59) ?hr ?_; (case hd => rfl); (case hg => rfl); (case hr => first | (go_simp; done) | (go_simp; rfl)); intro gb405 hg w72 hbox hb; have n0_ := Aside0.mk (blk_below (bKq_ BK385.out) hb); have n1_ := Aside0.mk (blk_below (bKq_ BK386.out) hb); have n2_ := Aside0.mk (blk_below (bKq_ BK387.out) hb); have n3_ := Aside0.mk (blk_below (bKq_ BK393.out) hb); have n4_ := Aside0.mk (blk_below (bKq_ BK399.out) hb); have n5_ := Aside0.mk (below_step bSt_ hb); have n6_ := Aside0.mk (hbox); have n7_ := Aside0.mk ((by rw [hg]; exact (below_size bSt_) : w.heap.size ≤ gb405)); have n8_ := Aside0.mk ((by rw [hg]; exact (below_size bSt_) : w.heap.size ≤ gb405)); have n9_ := Aside0.mk ((by rw [hg]; exact Nat.ne_of_lt (blk_lt (bKq_ BK385.out)) : gb385 ≠ gb405)); have n10_ := Aside0.mk ((by rw [hg]; exact Nat.ne_of_gt (blk_lt (bKq_ BK385.out)) : gb405 ≠ gb385)); have n11_ := Aside0.mk ((by rw [hg]; exact Nat.ne_of_lt (blk_lt (bKq_ BK386.out)) : gb386 ≠ gb405)); have n12_ := Aside0.mk ((by rw [hg]; exact Nat.ne_of_gt (blk_lt (bKq_ BK386.out)) : gb405 ≠ gb386)); have n13_ := Aside0.mk ((by rw [hg]; exact Nat.ne_of_lt (blk_lt (bKq_ BK387.out)) : gb387 ≠ gb405)); have n14_ := Aside0.mk ((by rw [hg]; exact Nat.ne_of_gt (blk_lt (bKq_ BK387.out)) : gb405 ≠ gb387)); have n15_ := Aside0.mk ((by rw [hg]; exact Nat.ne_of_lt (blk_lt (bKq_ BK393.out)) : gb393 ≠ gb405)); have n16_ := Aside0.mk ((by rw [hg]; exact Nat.ne_of_gt (blk_lt (bKq_ BK393.out)) : gb405 ≠ gb393)); have n17_ := Aside0.mk ((by rw [hg]; exact Nat.ne_of_lt (blk_lt (bKq_ BK399.out)) : gb399 ≠ gb405)); have n18_ := Aside0.mk ((by rw [hg]; exact Nat.ne_of_gt (blk_lt (bKq_ BK399.out)) : gb405 ≠ gb399)); clear BK385; clear BK386; clear BK387; clear BK393; clear BK399; clear HB; have BK385 := n0_; have BK386 := n1_; have BK387 := n2_; have BK393 := n3_; have BK399 := n4_; have HB := n5_; have BK405 := n6_; have GW405 := n7_; have GE405 := n8_; have NB385_405 := n9_; have NB405_385 := n10_; have NB386_405 := n11_; have NB405_386 := n12_; have NB387_405 := n13_; have NB405_387 := n14_; have NB393_405 := n15_; have NB405_393 := n16_; have NB399_405 := n17_; have NB405_399 := n18_; clear n0_ n1_ n2_ n3_ n4_ n5_ n6_ n7_ n8_ n9_ n10_ n11_ n12_ n13_ n14_ n15_ n16_ n17_ n18_; clear hb hbox hg; have hnb73 := NB405_385.out; have hnc73 := NB385_405.out; have hnb74 := NB405_386.out; have hnc74 := NB386_405.out; have hnb75 := NB405_387.out; have hnc75 := NB387_405.out; have hnb76 := NB405_393.out; have hnc76 := NB393_405.out; have hnb77 := NB405_399.out; have hnc77 := NB399_405.out; have hcz78_0 : w72.cell? ⟨gb405, 0, none⟩ = some (.int .u64 0) := (blk_cell BK405.out 0).trans rfl; have hcz78_1 : w72.cell? ⟨gb405, 1, none⟩ = some (.int .u64 0) := (blk_cell BK405.out 1).trans rfl; have hcz78_2 : w72.cell? ⟨gb405, 2, none⟩ = some (.int .i64 0) := (blk_cell BK405.out 2).trans rfl; have hcz78_3 : w72.cell? ⟨gb405, 3, none⟩ = some (.int .i64 0) := (blk_cell BK405.out 3).trans rfl; have hfz78_0 := blk_frozen BK405.out 0; have hfz78_1 := blk_frozen BK405.out 1; have hfz78_2 := blk_frozen BK405.out 2; have hfz78_3 := blk_frozen BK405.out 3; have hnb79 := NB387_385.out; have hnc79 := NB385_387.out; have hnb80 := NB387_386.out; have hnc80 := NB386_387.out; have hcz81_0 : w72.cell? ⟨gb387, 0, none⟩ = some (.slice none 0 0) := (blk_cell BK387.out 0).trans rfl; have hcz81_1 : w72.cell? ⟨gb387, 1, none⟩ = some (.slice none 0 0) := (blk_cell BK387.out 1).trans rfl; have hcz81_2 : w72.cell? ⟨gb387, 2, none⟩ = some (.int .i64 0) := (blk_cell BK387.out 2).trans rfl; have hcz81_3 : w72.cell? ⟨gb387, 3, none⟩ = some (.int .i64 0) := (blk_cell BK387.out 3).trans rfl; have hfz81_0 := blk_frozen BK387.out 0; have hfz81_1 := blk_frozen BK387.out 1; have hfz81_2 := blk_frozen BK387.out 2; have hfz81_3 := blk_frozen BK387.out 3))
     refine bodyPost_ret (results_ct rfl _ _ gb387 37 #[.slice none 0 0, .slice none 0 0, .int .i64 0, .int .i64 0] (0, 0) _ rfl (bKq_ BK387.out) Try.underlying37 rfl (by kernel_rfl)) rfl ?_
     exact ⟨_, _, by first | rfl | (simp [errW_none, errW_some] <;> rfl) | (simp only [← hji34, ← hji35]; first | rfl | (simp [errW_none, errW_some] <;> rfl)) | (simp [*, errW_none, errW_some] <;> rfl) | (simp [errW_none, errW_some]; exact Go.Proofs.YtgfbgfbnmiainaaW.OwnWords.isEmpty_bne _), by first | exact Kd.R_nil _ _ _ _ _ | exact Kd.N_nil _ _ _ _ _ | exact Kd.V_nil _ _ _ _ _ | exact Kd.Q_nil _ _ _ _ _ | exact Kd.S_nil _ _ _ _ _, by first | exact Kd.R_nil _ _ _ _ _ | exact Kd.N_nil _ _ _ _ _ | exact Kd.V_nil _ _ _ _ _ | exact Kd.Q_nil _ _ _ _ _ | exact Kd.S_nil _ _ _ _ _, bSt_⟩

end Go.Proofs.Ytgfbgfbnmiainaa.Q
end
section
namespace Go.Proofs.Ytgfbgfbnmiainaa.Q
open Go.RowKit Go.Proofs.YtgfbgfbnmiainaaW.PrintWords Go.Proofs.YtgfbgfbnmiainaaW.PrintLast Go.Proofs.YtgfbgfbnmiainaaW.PrintMore Go.Proofs.YtgfbgfbnmiainaaW.OwnWords
attribute [local go_sem] Go.Proofs.YtgfbgfbnmiainaaW.OwnWords.isSome_setCell max2_int min2_int max_two min_two max_three min_three max_four min_four
set_option linter.unusedVariables false
set_option linter.unusedSimpArgs false

/-! ### family_Count: function 20 -/
mutual
def family_Count.l0 : Nat → Int → Int → List Int → Int → Int → Int → Int → Int → Option (Int × Int)
 | 0, _, _, _, _, _, _, _, _ => none
 | k + 1, x6, x7, x8, x9, x319000, x319001, x319002, x319003 => if x9 ≤ x7 then (family_Count.l1 k x6 x7 x8 x9 x9 x319000 x319001 x319002 x319003) else (family_Count.l2 k x6 x8 0 (wrap64 (x319002 - x6)) x319000 x319001 x319002 x319003)
def family_Count.l1 : Nat → Int → Int → List Int → Int → Int → Int → Int → Int → Int → Option (Int × Int)
 | 0, _, _, _, _, _, _, _, _, _ => none
 | k + 1, x6, x7, x8, x9, x10, x319000, x319001, x319002, x319003 => if x10 > 0 then (if 0 ≤ x10 then (if x10 < (x8.length : Int) then (if 0 ≤ (wrap64 (x10 - 1)) then (if (wrap64 (x10 - 1)) < (x8.length : Int) then (family_Count.l1 k x6 x7 (x8.set (x10 : Int).toNat (wrap64 ((rd x8 x10) + (rd x8 (wrap64 (x10 - 1)))))) x9 (wrap64 (x10 - 1)) x319000 x319001 x319002 x319003) else (none)) else (none)) else (none)) else (none)) else (family_Count.l0 k x6 x7 x8 (wrap64 (x9 + 1)) x319000 x319001 x319002 x319003)
def family_Count.l2 : Nat → Int → List Int → Int → Int → Int → Int → Int → Int → Option (Int × Int)
 | 0, _, _, _, _, _, _, _, _ => none
 | k + 1, x6, x8, x11, x12, x319000, x319001, x319002, x319003 => if x12 ≤ (wrap64 (x319003 - x6)) then (if 0 ≤ x12 then (if x12 < (x8.length : Int) then (if (wrap64 (x11 + (rd x8 x12))) > 4611686018427387904 then (some (0, 4)) else (family_Count.l2 k x6 x8 (wrap64 (x11 + (rd x8 x12))) (wrap64 (x12 + 1)) x319000 x319001 x319002 x319003)) else (none)) else (none)) else (some (x11, 0))
end
def family_Count.f (k : Nat) (l0_0 : List Int) (l0_1 : List Int) (a0_2 : Int) (a0_3 : Int) : Option (Int × Int) := (family_open.f k l0_0 l0_1 a0_2 a0_3).bind fun bt313 => (if bt313.2.2.2.2 = true then ((family_span_normal.f k bt313.1 bt313.2.1 bt313.2.2.1 bt313.2.2.2.1).bind fun bt319 => (if bt319.2.2.2.2 = true then ((bits_OnesCount64.f bt319.1).bind fun t324 => ((bits_OnesCount64.f bt319.2.1).bind fun t325 => (if 0 ≤ (wrap64 ((wrap64 (t325 - t324)) + 1)) then (if (wrap64 ((wrap64 (t325 - t324)) + 1) : Int).toNat ≤ 35184372088832 then ((some (List.replicate (wrap64 ((wrap64 (t325 - t324)) + 1) : Int).toNat 0 : List Int)).bind fun y326 => (if 0 < (y326.length : Int) then (family_Count.l0 k t324 (wrap64 (t325 - t324)) (y326.set (0 : Int).toNat 1) 1 bt319.1 bt319.2.1 bt319.2.2.1 bt319.2.2.2.1) else (none))) else (none)) else (none)))) else (some (0, 0)))) else (some (0, 2)))
theorem family_Count.mono_l : ∀ k, (∀ y0 y1 y2 y3 y4 y5 y6 y7, LeO (family_Count.l0 k y0 y1 y2 y3 y4 y5 y6 y7) (family_Count.l0 (k + 1) y0 y1 y2 y3 y4 y5 y6 y7)) ∧ (∀ y0 y1 y2 y3 y4 y5 y6 y7 y8, LeO (family_Count.l1 k y0 y1 y2 y3 y4 y5 y6 y7 y8) (family_Count.l1 (k + 1) y0 y1 y2 y3 y4 y5 y6 y7 y8)) ∧ (∀ y0 y1 y2 y3 y4 y5 y6 y7, LeO (family_Count.l2 k y0 y1 y2 y3 y4 y5 y6 y7) (family_Count.l2 (k + 1) y0 y1 y2 y3 y4 y5 y6 y7))
 | 0 => ⟨fun _ _ _ _ _ _ _ _ r h => by simp [family_Count.l0] at h, fun _ _ _ _ _ _ _ _ _ r h => by simp [family_Count.l1] at h, fun _ _ _ _ _ _ _ _ r h => by simp [family_Count.l2] at h⟩
 | k + 1 => by
  obtain ⟨ih0, ih1, ih2⟩ := family_Count.mono_l k
  refine ⟨?_, ?_, ?_⟩
  ·intro y0 y1 y2 y3 y4 y5 y6 y7
   unfold family_Count.l0
   repeat' first
   | (with_reducible exact ih0 _ _ _ _ _ _ _ _)
   | (with_reducible exact ih1 _ _ _ _ _ _ _ _ _)
   | (with_reducible exact ih2 _ _ _ _ _ _ _ _)
   | (with_reducible exact family_open.mono _ _ _ _ _)
   | (with_reducible exact family_span_normal.mono _ _ _ _ _)
   | (with_reducible exact LeO.refl _)
   | (with_reducible exact LeO.none _)
   | (with_reducible refine LeO.ite ?_ ?_)
   | (with_reducible refine LeO.bind ?_ (fun _ => ?_))
   | exact ih0 _ _ _ _ _ _ _ _
   | exact ih1 _ _ _ _ _ _ _ _ _
   | exact ih2 _ _ _ _ _ _ _ _
   | exact family_open.mono _ _ _ _ _
   | exact family_span_normal.mono _ _ _ _ _
   | exact LeO.none _
   | refine LeO.ite ?_ ?_
   | refine LeO.bind ?_ (fun _ => ?_)
  ·intro y0 y1 y2 y3 y4 y5 y6 y7 y8
   unfold family_Count.l1
   repeat' first
   | (with_reducible exact ih0 _ _ _ _ _ _ _ _)
   | (with_reducible exact ih1 _ _ _ _ _ _ _ _ _)
   | (with_reducible exact ih2 _ _ _ _ _ _ _ _)
   | (with_reducible exact family_open.mono _ _ _ _ _)
   | (with_reducible exact family_span_normal.mono _ _ _ _ _)
   | (with_reducible exact LeO.refl _)
   | (with_reducible exact LeO.none _)
   | (with_reducible refine LeO.ite ?_ ?_)
   | (with_reducible refine LeO.bind ?_ (fun _ => ?_))
   | exact ih0 _ _ _ _ _ _ _ _
   | exact ih1 _ _ _ _ _ _ _ _ _
   | exact ih2 _ _ _ _ _ _ _ _
   | exact family_open.mono _ _ _ _ _
   | exact family_span_normal.mono _ _ _ _ _
   | exact LeO.none _
   | refine LeO.ite ?_ ?_
   | refine LeO.bind ?_ (fun _ => ?_)
  ·intro y0 y1 y2 y3 y4 y5 y6 y7
   unfold family_Count.l2
   repeat' first
   | (with_reducible exact ih0 _ _ _ _ _ _ _ _)
   | (with_reducible exact ih1 _ _ _ _ _ _ _ _ _)
   | (with_reducible exact ih2 _ _ _ _ _ _ _ _)
   | (with_reducible exact family_open.mono _ _ _ _ _)
   | (with_reducible exact family_span_normal.mono _ _ _ _ _)
   | (with_reducible exact LeO.refl _)
   | (with_reducible exact LeO.none _)
   | (with_reducible refine LeO.ite ?_ ?_)
   | (with_reducible refine LeO.bind ?_ (fun _ => ?_))
   | exact ih0 _ _ _ _ _ _ _ _
   | exact ih1 _ _ _ _ _ _ _ _ _
   | exact ih2 _ _ _ _ _ _ _ _
   | exact family_open.mono _ _ _ _ _
   | exact family_span_normal.mono _ _ _ _ _
   | exact LeO.none _
   | refine LeO.ite ?_ ?_
   | refine LeO.bind ?_ (fun _ => ?_)
theorem family_Count.mono : ∀ a0 a1 a2 a3 k, LeO (family_Count.f k a0 a1 a2 a3) (family_Count.f (k + 1) a0 a1 a2 a3) := by
 intro a0 a1 a2 a3 k
 obtain ⟨ih0, ih1, ih2⟩ := family_Count.mono_l k
 unfold family_Count.f
 repeat' first
   | (with_reducible exact ih0 _ _ _ _ _ _ _ _)
   | (with_reducible exact ih1 _ _ _ _ _ _ _ _ _)
   | (with_reducible exact ih2 _ _ _ _ _ _ _ _)
   | (with_reducible exact family_open.mono _ _ _ _ _)
   | (with_reducible exact family_span_normal.mono _ _ _ _ _)
   | (with_reducible exact LeO.refl _)
   | (with_reducible exact LeO.none _)
   | (with_reducible refine LeO.ite ?_ ?_)
   | (with_reducible refine LeO.bind ?_ (fun _ => ?_))
   | exact ih0 _ _ _ _ _ _ _ _
   | exact ih1 _ _ _ _ _ _ _ _ _
   | exact ih2 _ _ _ _ _ _ _ _
   | exact family_open.mono _ _ _ _ _
   | exact family_span_normal.mono _ _ _ _ _
   | exact LeO.none _
   | refine LeO.ite ?_ ?_
   | refine LeO.bind ?_ (fun _ => ?_)
def family_Count.T17 : Bool × List (List Nat × List Nat) := (true, [([], []), ([], []), ([0, 1], [0, 1]), ([2], [2]), ([], []), ([], []), ([5], [5]), ([4, 6], [4, 6]), ([7], [7]), ([3, 8], [3, 8]), ([0, 1, 0, 1, 2, 3, 4, 5, 6, 7, 8, 9], [0, 1]), ([10, 9, 0, 1, 2, 3, 4, 5, 6, 7, 8, 9], [9, 10])])
def family_Count.B17 : List Nat := [0, 0, 3, 7, 0, 0, 32, 112, 240, 511, 1023, 2047]
theorem family_Count.tab17 : rtab .any (opsOf Try.f20 17) = family_Count.T17 := by kernel_rfl
theorem family_Count.bits17 : waitsOk family_Count.T17.2 family_Count.B17 = true := by kernel_rfl
set_option maxHeartbeats 8000000 in
set_option maxRecDepth 100000 in
theorem family_Count.calls (k : Nat) (A0_0 : Option Addr) (c0_0 : Nat) (l0_0 : List Int) (A0_1 : Option Addr) (c0_1 : Nat) (l0_1 : List Int) (a0_2 : Int) (a0_3 : Int) (r1 : Int) (r2 : Int) (w : World) (hr0_0 : Kd.C (Kd.int .i64) w A0_0 l0_0.length l0_0) (hc0_0 : l0_0.length ≤ c0_0) (hr0_1 : Kd.C (Kd.int .i64) w A0_1 l0_1.length l0_1) (hc0_1 : l0_1.length ≤ c0_1) (h : family_Count.f k l0_0 l0_1 a0_2 a0_3 = some (r1, r2)) :
  Calls Try.prog 20 #[.agg #[.slice A0_0 l0_0.length c0_0, .slice A0_1 l0_1.length c0_1, .int .i64 a0_2, .int .i64 a0_3]] w fun e w' => e = .returned (.tuple #[.int .i64 r1, .int .i64 r2]) ∧ Below w.heap.size w w' := by
 have hu37 := Try.underlying37
 have hu59 := Try.underlying59
 have HR0_0 := Aside0.mk hr0_0
 have HC0_0 := Aside0.mk hc0_0
 clear hr0_0 hc0_0
 have HR0_1 := Aside0.mk hr0_1
 have HC0_1 := Aside0.mk hc0_1
 clear hr0_1 hc0_1
 have HB := Aside0.mk (Below.refl w.heap.size w)
 have H : ((family_open.f k l0_0 l0_1 a0_2 a0_3).bind fun bt313 => (if bt313.2.2.2.2 = true then ((family_span_normal.f k bt313.1 bt313.2.1 bt313.2.2.1 bt313.2.2.2.1).bind fun bt319 => (if bt319.2.2.2.2 = true then ((bits_OnesCount64.f bt319.1).bind fun t324 => ((bits_OnesCount64.f bt319.2.1).bind fun t325 => (if 0 ≤ (wrap64 ((wrap64 (t325 - t324)) + 1)) then (if (wrap64 ((wrap64 (t325 - t324)) + 1) : Int).toNat ≤ 35184372088832 then ((some (List.replicate (wrap64 ((wrap64 (t325 - t324)) + 1) : Int).toNat 0 : List Int)).bind fun y326 => (if 0 < (y326.length : Int) then (family_Count.l0 k t324 (wrap64 (t325 - t324)) (y326.set (0 : Int).toNat 1) 1 bt319.1 bt319.2.1 bt319.2.2.1 bt319.2.2.2.1) else (none))) else (none)) else (none)))) else (some (0, 0)))) else (some (0, 2)))) = some (r1, r2) := h
 clear h
 replace H := Option.bind_eq_some_iff.mp H
 obtain ⟨⟨t313, t314, t315, t316, t317⟩, A20, H⟩ := H
 replace H : (if t317 = true then ((family_span_normal.f k t313 t314 t315 t316).bind fun bt319 => (if bt319.2.2.2.2 = true then ((bits_OnesCount64.f bt319.1).bind fun t324 => ((bits_OnesCount64.f bt319.2.1).bind fun t325 => (if 0 ≤ (wrap64 ((wrap64 (t325 - t324)) + 1)) then (if (wrap64 ((wrap64 (t325 - t324)) + 1) : Int).toNat ≤ 35184372088832 then ((some (List.replicate (wrap64 ((wrap64 (t325 - t324)) + 1) : Int).toNat 0 : List Int)).bind fun y326 => (if 0 < (y326.length : Int) then (family_Count.l0 k t324 (wrap64 (t325 - t324)) (y326.set (0 : Int).toNat 1) 1 bt319.1 bt319.2.1 bt319.2.2.1 bt319.2.2.2.1) else (none))) else (none)) else (none)))) else (some (0, 0)))) else (some (0, 2))) = some (r1, r2) := H
 have A2 := Aside0.mk A20
 clear A20
 by_cases c3 : t317 = true
 ·subst c3
  have H1 : ((family_span_normal.f k t313 t314 t315 t316).bind fun bt319 => (if bt319.2.2.2.2 = true then ((bits_OnesCount64.f bt319.1).bind fun t324 => ((bits_OnesCount64.f bt319.2.1).bind fun t325 => (if 0 ≤ (wrap64 ((wrap64 (t325 - t324)) + 1)) then (if (wrap64 ((wrap64 (t325 - t324)) + 1) : Int).toNat ≤ 35184372088832 then ((some (List.replicate (wrap64 ((wrap64 (t325 - t324)) + 1) : Int).toNat 0 : List Int)).bind fun y326 => (if 0 < (y326.length : Int) then (family_Count.l0 k t324 (wrap64 (t325 - t324)) (y326.set (0 : Int).toNat 1) 1 bt319.1 bt319.2.1 bt319.2.2.1 bt319.2.2.2.1) else (none))) else (none)) else (none)))) else (some (0, 0)))) = some (r1, r2) := by rw [if_pos rfl] at H; exact H
  clear H
  have H := H1
  clear H1
  replace H := Option.bind_eq_some_iff.mp H
  obtain ⟨⟨t319, t320, t321, t322, t323⟩, A40, H⟩ := H
  replace H : (if t323 = true then ((bits_OnesCount64.f t319).bind fun t324 => ((bits_OnesCount64.f t320).bind fun t325 => (if 0 ≤ (wrap64 ((wrap64 (t325 - t324)) + 1)) then (if (wrap64 ((wrap64 (t325 - t324)) + 1) : Int).toNat ≤ 35184372088832 then ((some (List.replicate (wrap64 ((wrap64 (t325 - t324)) + 1) : Int).toNat 0 : List Int)).bind fun y326 => (if 0 < (y326.length : Int) then (family_Count.l0 k t324 (wrap64 (t325 - t324)) (y326.set (0 : Int).toNat 1) 1 t319 t320 t321 t322) else (none))) else (none)) else (none)))) else (some (0, 0))) = some (r1, r2) := H
  have A4 := Aside0.mk A40
  clear A40
  by_cases c5 : t323 = true
  ·subst c5
   have H1 : ((bits_OnesCount64.f t319).bind fun t324 => ((bits_OnesCount64.f t320).bind fun t325 => (if 0 ≤ (wrap64 ((wrap64 (t325 - t324)) + 1)) then (if (wrap64 ((wrap64 (t325 - t324)) + 1) : Int).toNat ≤ 35184372088832 then ((some (List.replicate (wrap64 ((wrap64 (t325 - t324)) + 1) : Int).toNat 0 : List Int)).bind fun y326 => (if 0 < (y326.length : Int) then (family_Count.l0 k t324 (wrap64 (t325 - t324)) (y326.set (0 : Int).toNat 1) 1 t319 t320 t321 t322) else (none))) else (none)) else (none)))) = some (r1, r2) := by rw [if_pos rfl] at H; exact H
   clear H
   have H := H1
   clear H1
   replace H := Option.bind_eq_some_iff.mp H
   obtain ⟨t324, A60, H⟩ := H
   replace H : ((bits_OnesCount64.f t320).bind fun t325 => (if 0 ≤ (wrap64 ((wrap64 (t325 - t324)) + 1)) then (if (wrap64 ((wrap64 (t325 - t324)) + 1) : Int).toNat ≤ 35184372088832 then ((some (List.replicate (wrap64 ((wrap64 (t325 - t324)) + 1) : Int).toNat 0 : List Int)).bind fun y326 => (if 0 < (y326.length : Int) then (family_Count.l0 k t324 (wrap64 (t325 - t324)) (y326.set (0 : Int).toNat 1) 1 t319 t320 t321 t322) else (none))) else (none)) else (none))) = some (r1, r2) := H
   have A6 := Aside0.mk A60
   clear A60
   replace H := Option.bind_eq_some_iff.mp H
   obtain ⟨t325, A70, H⟩ := H
   replace H : (if 0 ≤ (wrap64 ((wrap64 (t325 - t324)) + 1)) then (if (wrap64 ((wrap64 (t325 - t324)) + 1) : Int).toNat ≤ 35184372088832 then ((some (List.replicate (wrap64 ((wrap64 (t325 - t324)) + 1) : Int).toNat 0 : List Int)).bind fun y326 => (if 0 < (y326.length : Int) then (family_Count.l0 k t324 (wrap64 (t325 - t324)) (y326.set (0 : Int).toNat 1) 1 t319 t320 t321 t322) else (none))) else (none)) else (none)) = some (r1, r2) := H
   have A7 := Aside0.mk A70
   clear A70
   obtain ⟨ji8, hji8⟩ : ∃ j_ : Int, (wrap64 ((wrap64 (t325 - t324)) + 1)) = j_ := ⟨_, rfl⟩
   replace H : (if 0 ≤ (ji8) then (if (ji8 : Int).toNat ≤ 35184372088832 then ((some (List.replicate (ji8 : Int).toNat 0 : List Int)).bind fun y326 => (if 0 < (y326.length : Int) then (family_Count.l0 k t324 (wrap64 (t325 - t324)) (y326.set (0 : Int).toNat 1) 1 t319 t320 t321 t322) else (none))) else (none)) else (none)) = some (r1, r2) := by first | (rw [hji8] at H; exact H) | (simp only [hji8] at H ⊢; exact H)
   (try rw [hji8] at A2)
   (try rw [hji8] at A4)
   (try rw [hji8] at A6)
   (try rw [hji8] at A7)
   have hji8w : (IntKind.i64.wrap ((wrap64 (t325 - t324)) + 1)) = ji8 := (i64_w _).trans hji8
   by_cases c9 : 0 ≤ (ji8)
   ·rw [if_pos c9] at H
    have c9b0 := eq_true c9
    have c9b1 : decide (0 ≤ (ji8)) = true := decide_eq_true c9
    clear c9
    by_cases c10 : (ji8 : Int).toNat ≤ 35184372088832
    ·rw [if_pos c10] at H
     have c10b0 := eq_true c10
     have c10b1 : decide ((ji8 : Int).toNat ≤ 35184372088832) = true := decide_eq_true c10
     clear c10
     obtain ⟨y326, hy326⟩ : ∃ y_ : List Int, y_ = (List.replicate (ji8 : Int).toNat 0) := ⟨_, rfl⟩
     replace H : (if 0 < (y326.length : Int) then (family_Count.l0 k t324 (wrap64 (t325 - t324)) (y326.set (0 : Int).toNat 1) 1 t319 t320 t321 t322) else (none)) = some (r1, r2) := by first | (rw [hy326]; with_reducible exact H) | (have H2_ := (Option.bind_some _ _).symm.trans H; rw [hy326]; with_reducible exact H2_) | (have H2_ := (Option.bind_some _ _).symm.trans H; with_reducible exact H2_) | with_reducible exact H | (rw [hy326]; exact H) | exact H
     have Ny326 := Aside0.mk hy326
     clear hy326
     by_cases c11 : 0 < (y326.length : Int)
     ·rw [if_pos c11] at H
      have c11b0 : decide (0 < (y326.length : Int)) = true := decide_eq_true c11
      have c11b1 : decide (0 < y326.length) = true := decide_eq_true (by omega)
      clear c11
      obtain ⟨y329, hy329⟩ : ∃ y_ : List Int, y_ = (y326.set (0 : Int).toNat 1) := ⟨_, rfl⟩
      replace H : (family_Count.l0 k t324 (wrap64 (t325 - t324)) y329 1 t319 t320 t321 t322) = some (r1, r2) := by first | (rw [hy329]; with_reducible exact H) | (have H2_ := (Option.bind_some _ _).symm.trans H; rw [hy329]; with_reducible exact H2_) | (have H2_ := (Option.bind_some _ _).symm.trans H; with_reducible exact H2_) | with_reducible exact H | (rw [hy329]; exact H) | exact H
      have Ny329 := Aside0.mk hy329
      clear hy329
      have H' := Aside0.mk H
      clear H
      go_enter Try.func20, Try.ntmps20
      go_wp2_with (first | ((with_reducible refine gate_dst (N := 1) rfl ?_); refine box_event ?hg (N := 1) ?hd (cs := #[.slice A0_0 l0_0.length c0_0, .slice A0_1 l0_1.length c0_1, .int .i64 a0_2, .int .i64 a0_3]) (t := 37) ?hr ?_; (case hd => rfl); (case hg => rfl); (case hr => first | (go_simp; done) | (go_simp; rfl)); intro gb312 hg w13 hbox hb; have n0_ := Aside0.mk (below_step bSt_ hb); have n1_ := Aside0.mk (hbox); have n2_ := Aside0.mk ((by rw [hg]; exact (below_size bSt_) : w.heap.size ≤ gb312)); have n3_ := Aside0.mk ((by rw [hg]; exact (below_size bSt_) : w.heap.size ≤ gb312)); clear HB; have HB := n0_; have BK312 := n1_; have GW312 := n2_; have GE312 := n3_; clear n0_ n1_ n2_ n3_; clear hb hbox hg; have hcz14_0 : w13.cell? ⟨gb312, 0, none⟩ = some (.slice A0_0 l0_0.length c0_0) := (blk_cell BK312.out 0).trans rfl; have hcz14_1 : w13.cell? ⟨gb312, 1, none⟩ = some (.slice A0_1 l0_1.length c0_1) := (blk_cell BK312.out 1).trans rfl; have hcz14_2 : w13.cell? ⟨gb312, 2, none⟩ = some (.int .i64 a0_2) := (blk_cell BK312.out 2).trans rfl; have hcz14_3 : w13.cell? ⟨gb312, 3, none⟩ = some (.int .i64 a0_3) := (blk_cell BK312.out 3).trans rfl; have hfz14_0 := blk_frozen BK312.out 0; have hfz14_1 := blk_frozen BK312.out 1; have hfz14_2 := blk_frozen BK312.out 2; have hfz14_3 := blk_frozen BK312.out 3) | ((with_reducible refine gate_callee (f := 36) rfl ?_); refine goesL_ (some 15) rfl rfl Try.func36 (by kernel_rfl) rfl #[.agg #[.slice A0_0 l0_0.length c0_0, .slice A0_1 l0_1.length c0_1, .int .i64 a0_2, .int .i64 a0_3]] rfl (by (try simp only [List.map_toArray, List.map_cons, List.map_nil]); first | done | rfl | (simp only [List.length_drop, List.length_take]; rfl)) ?_; (with_reducible refine (family_open.calls k _ _ l0_0 _ _ l0_1 a0_2 a0_3 t313 t314 t315 t316 true _ ?side1 ?side2 ?side3 ?side4 A2.out).mono ?_); (case side1 => repeat (first | exact (Kd.C_below HR0_0.out HB.out) | (with_reducible refine Kd.C_alloc ?_ _) | (with_reducible refine Kd.C_drewN ?_ _) | (with_reducible refine Kd.C_drew ?_))); (case side2 => exact HC0_0.out); (case side3 => repeat (first | exact (Kd.C_below HR0_1.out HB.out) | (with_reducible refine Kd.C_alloc ?_ _) | (with_reducible refine Kd.C_drewN ?_ _) | (with_reducible refine Kd.C_drew ?_))); (case side4 => exact HC0_1.out); rintro e w15 ⟨rfl, hb⟩; refine ⟨_, rfl, ?_⟩; have n0_ := Aside0.mk (blk_below (bKq_ BK312.out) hb); have n1_ := Aside0.mk (below_step bSt_ hb); clear BK312; clear HB; have BK312 := n0_; have HB := n1_; clear n0_ n1_; (try clear hb); (try clear hb2); (try clear hk); (try clear hi)) | ((with_reducible refine gate_dst (N := 4) rfl ?_); refine box_event ?hg (N := 4) ?hd (cs := #[.int .u64 0, .int .u64 0, .int .i64 0, .int .i64 0]) (t := 59) ?hr ?_; (case hd => rfl); (case hg => rfl); (case hr => first | (go_simp; done) | (go_simp; rfl)); intro gb318 hg w16 hbox hb; have n0_ := Aside0.mk (blk_below (bKq_ BK312.out) hb); have n1_ := Aside0.mk (below_step bSt_ hb); have n2_ := Aside0.mk (hbox); have n3_ := Aside0.mk ((by rw [hg]; exact (below_size bSt_) : w.heap.size ≤ gb318)); have n4_ := Aside0.mk ((by rw [hg]; exact (below_size bSt_) : w.heap.size ≤ gb318)); have n5_ := Aside0.mk ((by rw [hg]; exact Nat.ne_of_lt (blk_lt (bKq_ BK312.out)) : gb312 ≠ gb318)); have n6_ := Aside0.mk ((by rw [hg]; exact Nat.ne_of_gt (blk_lt (bKq_ BK312.out)) : gb318 ≠ gb312)); clear BK312; clear HB; have BK312 := n0_; have HB := n1_; have BK318 := n2_; have GW318 := n3_; have GE318 := n4_; have NB312_318 := n5_; have NB318_312 := n6_; clear n0_ n1_ n2_ n3_ n4_ n5_ n6_; clear hb hbox hg; have hnb17 := NB318_312.out; have hnc17 := NB312_318.out; have hcz18_0 : w16.cell? ⟨gb318, 0, none⟩ = some (.int .u64 0) := (blk_cell BK318.out 0).trans rfl; have hcz18_1 : w16.cell? ⟨gb318, 1, none⟩ = some (.int .u64 0) := (blk_cell BK318.out 1).trans rfl; have hcz18_2 : w16.cell? ⟨gb318, 2, none⟩ = some (.int .i64 0) := (blk_cell BK318.out 2).trans rfl; have hcz18_3 : w16.cell? ⟨gb318, 3, none⟩ = some (.int .i64 0) := (blk_cell BK318.out 3).trans rfl; have hfz18_0 := blk_frozen BK318.out 0; have hfz18_1 := blk_frozen BK318.out 1; have hfz18_2 := blk_frozen BK318.out 2; have hfz18_3 := blk_frozen BK318.out 3) | ((with_reducible refine gate_callee (f := 45) rfl ?_); refine goesL_ (some 22) rfl rfl Try.func45 (by kernel_rfl) rfl #[.agg #[.int .u64 t313, .int .u64 t314, .int .i64 t315, .int .i64 t316]] rfl (by (try simp only [List.map_toArray, List.map_cons, List.map_nil]); first | done | rfl | (simp only [List.length_drop, List.length_take]; rfl)) ?_; (with_reducible refine (family_span_normal.calls k t313 t314 t315 t316 t319 t320 t321 t322 true _ A4.out).mono ?_); rintro e w19 ⟨rfl, hb⟩; refine ⟨_, rfl, ?_⟩; have n0_ := Aside0.mk (blk_below (bKq_ BK312.out) hb); have n1_ := Aside0.mk (blk_below (g := gb318) (o := .cells #[.int .u64 t313, .int .u64 t314, .int .i64 t315, .int .i64 t316] 59 (0, 0)) (bKq_ BK318.out) hb); have n2_ := Aside0.mk (below_step bSt_ hb); clear BK312; clear BK318; clear HB; have BK312 := n0_; have BK318 := n1_; have HB := n2_; clear n0_ n1_ n2_; (try clear hb); (try clear hb2); (try clear hk); (try clear hi); have hcz20_0 : w19.cell? ⟨gb318, 0, none⟩ = some (.int .u64 t313) := (blk_cell BK318.out 0).trans rfl; have hcz20_1 : w19.cell? ⟨gb318, 1, none⟩ = some (.int .u64 t314) := (blk_cell BK318.out 1).trans rfl; have hcz20_2 : w19.cell? ⟨gb318, 2, none⟩ = some (.int .i64 t315) := (blk_cell BK318.out 2).trans rfl; have hcz20_3 : w19.cell? ⟨gb318, 3, none⟩ = some (.int .i64 t316) := (blk_cell BK318.out 3).trans rfl; have hfz20_0 := blk_frozen BK318.out 0; have hfz20_1 := blk_frozen BK318.out 1; have hfz20_2 := blk_frozen BK318.out 2; have hfz20_3 := blk_frozen BK318.out 3) | ((with_reducible refine gate_callee (f := 47) rfl ?_); refine goesL_ (some 29) rfl rfl Try.func47 (by kernel_rfl) rfl #[.int .u64 t319] rfl (by (try simp only [List.map_toArray, List.map_cons, List.map_nil]); first | done | rfl | (simp only [List.length_drop, List.length_take]; rfl)) ?_; (with_reducible refine (bits_OnesCount64.calls t319 t324 _ A6.out).mono ?_); rintro e w' ⟨rfl, ⟨nd, rfl⟩⟩; refine ⟨_, rfl, ?_⟩) | ((with_reducible refine gate_callee (f := 47) rfl ?_); refine goesL_ (some 32) rfl rfl Try.func47 (by kernel_rfl) rfl #[.int .u64 t320] rfl (by (try simp only [List.map_toArray, List.map_cons, List.map_nil]); first | done | rfl | (simp only [List.length_drop, List.length_take]; rfl)) ?_; (with_reducible refine (bits_OnesCount64.calls t320 t325 _ A7.out).mono ?_); rintro e w' ⟨rfl, ⟨nd, rfl⟩⟩; refine ⟨_, rfl, ?_⟩) | ((with_reducible refine gate_dst (N := 37) rfl ?_); refine Kd.R_make (Kd.int .i64) _ 3 rfl (N := 37) rfl 31 _ _ rfl ji8 rfl rfl Try.underlying31 (.int .i64 0) 8 info3 rfl (by decide) (by omega) 0 (ok := fun _ => True) (okp := fun _ => True) rfl (fun _ hk => hk) trivial (of_decide_eq_true (by first | (with_reducible assumption) | assumption)) (Nat.le_trans (Nat.mul_le_mul_right _ (of_decide_eq_true (by first | (with_reducible assumption) | assumption) : ji8.toNat ≤ 35184372088832)) (by omega)) (Below.refl _ _) (Nat.le_refl _) ?_; intro v327 w21 ho22 hb hg_ hnew_; clear hg_ hnew_; (first | rw [← Ny326.out] at ho22 | (simp only [Int.reduceToNat] at ho22; rw [← Ny326.out] at ho22)); have n0_ := Aside0.mk (Kd.R_lower ho22 (below_size bSt_)); have n1_ := Aside0.mk (blk_below (bKq_ BK312.out) hb); have n2_ := Aside0.mk (blk_below (g := gb318) (o := .cells #[.int .u64 t319, .int .u64 t320, .int .i64 t321, .int .i64 t322] 59 (0, 0)) (bKq_ BK318.out) hb); have n3_ := Aside0.mk (below_step bSt_ hb); clear BK312; clear BK318; clear HB; have HO328 := n0_; have BK312 := n1_; have BK318 := n2_; have HB := n3_; clear n0_ n1_ n2_ n3_; clear hb ho22; have p12 : 0 ≤ (0 : Int) := (by omega); have q12 : (0 : Int) < ((y326.length : Int) : Int) := of_decide_eq_true (by first | (with_reducible assumption) | assumption); have qi12 : (0 < y326.length) = True := eq_true (by omega); obtain ⟨go12, co12, eo12, gb12, gl12, cl12, HG12⟩ := Kd.R_form HO328.out (by omega); (first | cases eo12 | (injection eo12 with ea_ en_ ec_; (first | subst ea_ | (injection ea_ with ea_; subst ea_)); subst ec_; clear en_)); have GB12 := Aside0.mk gb12; have GG12 := Aside0.mk HG12; clear gb12 gl12 HG12; obtain ⟨hx12_0, hf12_0⟩ := Kd.R_celln 0 HO328.out (0 : Int) p12 q12; (try rw [show ((0 : Int)).toNat = 0 from rfl] at hx12_0); (try simp only [Nat.reduceMul, Nat.zero_mul, Nat.zero_add, Nat.reduceAdd] at hx12_0); (try rw [show ((0 : Int)).toNat = 0 from rfl] at hf12_0); (try simp only [Nat.reduceMul, Nat.zero_mul, Nat.zero_add, Nat.reduceAdd] at hf12_0); replace p12 := eq_true p12; replace q12 := eq_true q12; obtain ⟨hy23_, hz23_⟩ := Kd.R_celln 0 HO328.out (0 : Int) (by omega) (of_decide_eq_true (by first | (with_reducible assumption) | assumption)); (try simp only [Int.reduceToNat, Int.toNat_zero, Int.toNat_ofNat, Nat.reduceMul, Nat.zero_mul, Nat.zero_add] at hy23_ hz23_); (try rw [show ((0 : Int)).toNat = 0 from rfl] at hy23_); (try rw [show ((0 : Int)).toNat = 0 from rfl] at hz23_); have HP23 := Kd.R_putg HO328.out (0 : Int) 1) | ((with_reducible refine gate_store (t := 3) (p := 39) rfl ?_); refine store_event (t := 3) (p := 39) (v := ?vo_w24) (w1 := (w21.setCell ⟨go12, (0 : Int).toNat, none⟩ (.int .i64 1))) ?hg ?ho ?hn ?hr ?_; (case ho => rfl); (case hg => rfl); (case hn => rfl); (case hr => first | (go_simp; done) | (go_simp; rfl)); intro w24 hw; have hg : w21.grownBy w24 (some go12) := (by rw [hw]; exact HP23.2); have hp_ : Kd.R (Kd.int .i64) 3 w24 w.heap.size (fun _ => True) (.slice (some ⟨go12, 0, none⟩) y326.length co12) y329 := (by rw [hw, Ny329.out]; exact HP23.1); clear HP23; have n0_ := Aside0.mk (blk_grown (g := gb312) (o := .cells #[.slice A0_0 l0_0.length c0_0, .slice A0_1 l0_1.length c0_1, .int .i64 a0_2, .int .i64 a0_3] 37 (0, 0)) (bKq_ BK312.out) hg (Kd.R_ne HO328.out BK312.out (by decide))); have n1_ := Aside0.mk (blk_grown (g := gb318) (o := .cells #[.int .u64 t319, .int .u64 t320, .int .i64 t321, .int .i64 t322] 59 (0, 0)) (bKq_ BK318.out) hg (Kd.R_ne HO328.out BK318.out (by decide))); have n2_ := Aside0.mk (hp_); have n3_ := Aside0.mk ((by rw [hw]; exact below_set (HB.out) GB12.out : Below w.heap.size w w24)); clear BK312; clear BK318; clear HO328; clear HB; have BK312 := n0_; have BK318 := n1_; have HO328 := n2_; have HB := n3_; clear n0_ n1_ n2_ n3_; clear hg hw hp_))
      try simp only [Act.put, List.setIfInBounds_toArray, List.set_cons_zero, List.set_cons_succ]
      go_loopg [9] k (fun kq v9 w' => ∃ (x8_1 : List Int) (x9_1 : Int), v9 = .int .i64 x9_1 ∧ Aside0 (family_Count.l0 kq t324 (wrap64 (t325 - t324)) x8_1 x9_1 t319 t320 t321 t322 = some (r1, r2)) ∧ Aside0 (kq ≤ k) ∧ Aside0 (Kd.R (Kd.int .i64) 3 w' w.heap.size (fun _ => True) (.slice (some ⟨go12, 0, none⟩) y326.length co12) x8_1) ∧ Aside0 (w'.heap[gb312]? = some (.cells #[(.slice A0_0 l0_0.length c0_0), (.slice A0_1 l0_1.length c0_1), .int .i64 a0_2, .int .i64 a0_3] 37 (0, 0))) ∧ Aside0 (w'.heap[gb318]? = some (.cells #[.int .u64 t319, .int .u64 t320, .int .i64 t321, .int .i64 t322] 59 (0, 0))) ∧ Aside0 (Below w.heap.size w w'))
      case atStart => exact ⟨(y329), (1), (by first | rfl | (simp; done) | (simp [*]; done)), H', ⟨Nat.le_refl _⟩, ⟨by (with_reducible repeat (first | apply Kd.R_alloc | apply Kd.R_drewN | apply Kd.R_drew)); exact HO328.out⟩, ⟨bKq_ BK312.out⟩, ⟨bKq_ BK318.out⟩, ⟨bSt_⟩⟩
      case round =>
       clear H'
       try clear c1
       try clear p1
       try clear q1
       try clear hx1
       try clear qi1
       try clear hf1
       try clear c2
       try clear p2
       try clear c3
       try clear c4
       try clear c5
       try clear p6
       try clear c9
       try clear c9b0
       try clear c9b1
       try clear c10
       try clear c10b0
       try clear c10b1
       try clear c11
       try clear c11b0
       try clear c11b1
       try clear p12
       try clear q12
       try clear hx12
       try clear qi12
       try clear hf12
       try clear c17
       try clear c20
       try clear hcz14_0
       try clear hcz14_1
       try clear hcz14_2
       try clear hcz14_3
       try clear hcz18_0
       try clear hcz18_1
       try clear hcz18_2
       try clear hcz18_3
       try clear hcz20_0
       try clear hcz20_1
       try clear hcz20_2
       try clear hcz20_3
       try clear hfz14_0
       try clear hfz14_1
       try clear hfz14_2
       try clear hfz14_3
       try clear hfz18_0
       try clear hfz18_1
       try clear hfz18_2
       try clear hfz18_3
       try clear hfz20_0
       try clear hfz20_1
       try clear hfz20_2
       try clear hfz20_3
       try clear hx12_0
       try clear p12
       try clear q12
       obtain ⟨x8_1, x9_1, rfl, HA, HK1, HO_8, BK312, BK318, HB⟩ := hrel
       have hl8_1 := (Kd.R_reads' HO_8.out).1
       rw [hl8_1] at HO_8
       (try simp only [hl8_1])
       (try simp only [hl8_1] at BK312)
       (try simp only [hl8_1] at BK318)
       cases gk with
       | zero => exact absurd HA.out (by simp [family_Count.l0])
       | succ k1 =>
        have H := HA.out
        clear HA
        simp only [family_Count.l0] at H
        by_cases c25 : x9_1 ≤ (wrap64 (t325 - t324))
        ·rw [if_pos c25] at H
         have c25b0 : decide (x9_1 ≤ (wrap64 (t325 - t324))) = true := decide_eq_true c25
         clear c25
         have H' := Aside0.mk H
         clear H
         go_wp2
         go_loopg [10] k1 (fun kq v10 w' => ∃ (x8_2 : List Int) (x10_2 : Int), v10 = .int .i64 x10_2 ∧ Aside0 (family_Count.l1 kq t324 (wrap64 (t325 - t324)) x8_2 x9_1 x10_2 t319 t320 t321 t322 = some (r1, r2)) ∧ Aside0 (kq ≤ k1) ∧ Aside0 (Kd.R (Kd.int .i64) 3 w' w.heap.size (fun _ => True) (.slice (some ⟨go12, 0, none⟩) x8_1.length co12) x8_2) ∧ Aside0 (w'.heap[gb312]? = some (.cells #[(.slice A0_0 l0_0.length c0_0), (.slice A0_1 l0_1.length c0_1), .int .i64 a0_2, .int .i64 a0_3] 37 (0, 0))) ∧ Aside0 (w'.heap[gb318]? = some (.cells #[.int .u64 t319, .int .u64 t320, .int .i64 t321, .int .i64 t322] 59 (0, 0))) ∧ Aside0 (Below w.heap.size w w'))
         case atStart => exact ⟨(x8_1), (x9_1), (by first | rfl | (simp; done) | (simp [*]; done)), H', ⟨Nat.le_refl _⟩, ⟨by (try simp only [hl8_1]); (with_reducible repeat (first | apply Kd.R_alloc | apply Kd.R_drewN | apply Kd.R_drew)); exact HO_8.out⟩, ⟨by (try simp only [hl8_1]); (with_reducible repeat (first | refine blk_drewN ?_ _ | refine blk_drew ?_ | refine blk_alloc ?_ _)); exact BK312.out⟩, ⟨by (try simp only [hl8_1]); (with_reducible repeat (first | refine blk_drewN ?_ _ | refine blk_drew ?_ | refine blk_alloc ?_ _)); exact BK318.out⟩, ⟨bSt_⟩⟩
         case round =>
          clear H'
          try clear c1
          try clear p1
          try clear q1
          try clear hx1
          try clear qi1
          try clear hf1
          try clear c2
          try clear p2
          try clear c3
          try clear c4
          try clear c5
          try clear p6
          try clear c9
          try clear c9b0
          try clear c9b1
          try clear c10
          try clear c10b0
          try clear c10b1
          try clear c11
          try clear c11b0
          try clear c11b1
          try clear p12
          try clear q12
          try clear hx12
          try clear qi12
          try clear hf12
          try clear c17
          try clear c20
          try clear c25
          try clear c25b0
          try clear hcz14_0
          try clear hcz14_1
          try clear hcz14_2
          try clear hcz14_3
          try clear hcz18_0
          try clear hcz18_1
          try clear hcz18_2
          try clear hcz18_3
          try clear hcz20_0
          try clear hcz20_1
          try clear hcz20_2
          try clear hcz20_3
          try clear hfz14_0
          try clear hfz14_1
          try clear hfz14_2
          try clear hfz14_3
          try clear hfz18_0
          try clear hfz18_1
          try clear hfz18_2
          try clear hfz18_3
          try clear hfz20_0
          try clear hfz20_1
          try clear hfz20_2
          try clear hfz20_3
          try clear hx12_0
          try clear p1
          try clear p12
          try clear p2
          try clear p6
          try clear q1
          try clear q12
          obtain ⟨x8_2, x10_2, rfl, HA, HK2, HO_8, BK312, BK318, HB⟩ := hrel
          have hl8_2 := (Kd.R_reads' HO_8.out).1
          rw [hl8_2] at HO_8
          (try simp only [hl8_2])
          (try simp only [hl8_2] at BK312)
          (try simp only [hl8_2] at BK318)
          cases gk with
          | zero => exact absurd HA.out (by simp [family_Count.l1])
          | succ k2 =>
           have H := HA.out
           clear HA
           simp only [family_Count.l1] at H
           by_cases c26 : x10_2 > 0
           ·rw [if_pos c26] at H
            have c26b0 : decide (0 < x10_2) = true := decide_eq_true c26
            clear c26
            by_cases c27 : 0 ≤ x10_2
            ·rw [if_pos c27] at H
             have c27b0 : decide (0 ≤ x10_2) = true := decide_eq_true c27
             clear c27
             by_cases c28 : x10_2 < (x8_2.length : Int)
             ·rw [if_pos c28] at H
              have c28b0 : decide (x10_2 < (x8_2.length : Int)) = true := decide_eq_true c28
              clear c28
              obtain ⟨ji29, hji29⟩ : ∃ j_ : Int, (wrap64 (x10_2 - 1)) = j_ := ⟨_, rfl⟩
              replace H : (if 0 ≤ (ji29) then (if (ji29) < (x8_2.length : Int) then (family_Count.l1 k2 t324 (wrap64 (t325 - t324)) (x8_2.set (x10_2 : Int).toNat (wrap64 ((rd x8_2 x10_2) + (rd x8_2 (ji29))))) x9_1 ji29 t319 t320 t321 t322) else (none)) else (none)) = some (r1, r2) := by first | (rw [hji29] at H; exact H) | (simp only [hji29] at H ⊢; exact H)
              have hji29w : (IntKind.i64.wrap (x10_2 - 1)) = ji29 := (i64_w _).trans hji29
              by_cases c30 : 0 ≤ (ji29)
              ·rw [if_pos c30] at H
               have c30b0 : decide (0 ≤ (ji29)) = true := decide_eq_true c30
               clear c30
               by_cases c31 : (ji29) < (x8_2.length : Int)
               ·rw [if_pos c31] at H
                have c31b0 : decide ((ji29) < (x8_2.length : Int)) = true := decide_eq_true c31
                clear c31
                obtain ⟨y332, hy332⟩ : ∃ y_ : List Int, y_ = (x8_2.set (x10_2 : Int).toNat (wrap64 ((rd x8_2 x10_2) + (rd x8_2 (ji29))))) := ⟨_, rfl⟩
                replace H : (family_Count.l1 k2 t324 (wrap64 (t325 - t324)) y332 x9_1 ji29 t319 t320 t321 t322) = some (r1, r2) := by first | (rw [hy332]; with_reducible exact H) | (have H2_ := (Option.bind_some _ _).symm.trans H; rw [hy332]; with_reducible exact H2_) | (have H2_ := (Option.bind_some _ _).symm.trans H; with_reducible exact H2_) | with_reducible exact H | (rw [hy332]; exact H) | exact H
                have Ny332 := Aside0.mk hy332
                clear hy332
                have H' := Aside0.mk H
                clear H
                try go_wp2
                have n0_ := Aside0.mk (Kd.R_drew HO_8.out)
                have n1_ := Aside0.mk (blk_drew BK312.out)
                have n2_ := Aside0.mk (blk_drew BK318.out)
                have n3_ := Aside0.mk (below_drew1 HB.out)
                clear HO_8
                clear BK312
                clear BK318
                clear HB
                have HO_8 := n0_
                have BK312 := n1_
                have BK318 := n2_
                have HB := n3_
                clear n0_ n1_ n2_ n3_
                have p330 : 0 ≤ (x10_2 : Int) := of_decide_eq_true (by first | (with_reducible assumption) | assumption)
                have q330 : x10_2 < (x8_2.length : Int) := of_decide_eq_true (by first | (with_reducible assumption) | assumption)
                obtain ⟨ad330, e330, hx330_0⟩ := Kd.at_int (Kd.R_reads' HO_8.out).2.2 x10_2 p330 q330
                obtain rfl : (⟨go12, 0, none⟩ : Addr) = ad330 := (by injection e330)
                (first | simp only [add_plain] at hx330_0 | simp only [add_at] at hx330_0 | simp only [Addr.add, Nat.zero_add] at hx330_0 | skip)
                replace p330 := eq_true p330
                replace q330 := eq_true q330
                have p331 : 0 ≤ ((ji29) : Int) := of_decide_eq_true (by first | (with_reducible assumption) | assumption)
                have q331 : (ji29) < (x8_2.length : Int) := of_decide_eq_true (by first | (with_reducible assumption) | assumption)
                obtain ⟨ad331, e331, hx331_0⟩ := Kd.at_int (Kd.R_reads' HO_8.out).2.2 (ji29) p331 q331
                obtain rfl : (⟨go12, 0, none⟩ : Addr) = ad331 := (by injection e331)
                (first | simp only [add_plain] at hx331_0 | simp only [add_at] at hx331_0 | simp only [Addr.add, Nat.zero_add] at hx331_0 | skip)
                replace p331 := eq_true p331
                replace q331 := eq_true q331
                have p32 : 0 ≤ (x10_2 : Int) := of_decide_eq_true (by first | (with_reducible assumption) | assumption)
                have q32 : (x10_2 : Int) < ((x8_2.length : Int) : Int) := of_decide_eq_true (by first | (with_reducible assumption) | assumption)
                obtain ⟨hx32_0, hf32_0⟩ := Kd.R_celln 0 HO_8.out (x10_2 : Int) p32 q32
                replace p32 := eq_true p32
                replace q32 := eq_true q32
                have HP34 := Kd.R_putn HO_8.out (x10_2 : Int) (wrap64 ((rd x8_2 x10_2) + (rd x8_2 (ji29))))
                rw [← Ny332.out] at HP34
                have HQ34 := Aside0.mk HP34
                clear HP34
                refine start_ (n := 12) (S := fun w' => w'.cell? ⟨go12, (x10_2).toNat, none⟩ = some (.int .i64 (rd x8_2 x10_2)) ∧ w'.cell? ⟨go12, ((ji29)).toNat, none⟩ = some (.int .i64 (rd x8_2 (ji29)))) (ds := [11]) #[false, false, false, false, false, false, false, false, false, false, false, false] (by kernel_rfl) rfl rfl ⟨hx330_0, hx331_0⟩ (fun hHeld => ?_); refine with_tabW family_Count.tab17 family_Count.bits17 (fun HT_ HW_ => ?_)
                generalize wr.drew = w33 at HO_8 BK312 BK318 HB HQ34 hf32_0 hx32_0 hx330_0 hx331_0 hHeld ⊢
                refine pure_ (i := 0) (N := some 50) (v := ?_) (a' := ?_) #[true, false, false, false, false, false, false, false, false, false, false, false] rfl rfl (any_of HT_.out (by kernel_rfl)) (fun _ _ _ h => h) (Or.inl ⟨by rfl, ?_⟩) ?_ ?_
                rotate_left
                ·intro w'
                 go_simp
                 with_reducible rfl
                rotate_left
                ·simp only [Act.put, List.setIfInBounds_toArray, List.set_cons_zero, List.set_cons_succ, i64_w, i32_w]
                 rfl
                refine pure_ (i := 1) (N := some 51) (v := ?_) (a' := ?_) #[true, true, false, false, false, false, false, false, false, false, false, false] rfl rfl (any_of HT_.out (by kernel_rfl)) (fun _ _ _ h => h) (Or.inl ⟨by rfl, ?_⟩) ?_ ?_
                rotate_left
                ·intro w'
                 go_simp
                 with_reducible rfl
                rotate_left
                ·simp only [Act.put, List.setIfInBounds_toArray, List.set_cons_zero, List.set_cons_succ, i64_w, i32_w]
                 rfl
                refine pure_ (i := 2) (N := some 52) (v := ?_) (a' := ?_) #[true, true, true, false, false, false, false, false, false, false, false, false] rfl rfl (any_of HT_.out (by kernel_rfl)) (fun _ _ _ h => h) (Or.inl ⟨by rfl, ?_⟩) ?_ ?_
                rotate_left
                ·intro w'
                 go_simp
                 with_reducible rfl
                rotate_left
                ·simp only [Act.put, List.setIfInBounds_toArray, List.set_cons_zero, List.set_cons_succ, i64_w, i32_w]
                 rfl
                refine pure_ (i := 4) (N := some 54) (v := ?_) (a' := ?_) #[true, true, true, false, true, false, false, false, false, false, false, false] rfl rfl (any_of HT_.out (by kernel_rfl)) (fun _ _ _ h => h) (Or.inl ⟨by rfl, ?_⟩) ?_ ?_
                rotate_left
                ·intro w'
                 go_simp
                 with_reducible rfl
                rotate_left
                ·simp only [Act.put, List.setIfInBounds_toArray, List.set_cons_zero, List.set_cons_succ, i64_w, i32_w]
                 rfl
                refine pure_ (i := 5) (N := some 55) (v := ?_) (a' := ?_) #[true, true, true, false, true, true, false, false, false, false, false, false] rfl rfl (any_of HT_.out (by kernel_rfl)) (fun _ _ _ h => h) (Or.inl ⟨by rfl, ?_⟩) ?_ ?_
                rotate_left
                ·intro w'
                 go_simp
                 with_reducible rfl
                rotate_left
                ·simp only [Act.put, List.setIfInBounds_toArray, List.set_cons_zero, List.set_cons_succ, i64_w, i32_w]
                 rfl
                refine pure_ (i := 6) (N := some 56) (v := ?_) (a' := ?_) #[true, true, true, false, true, true, true, false, false, false, false, false] rfl rfl (any_of HT_.out (by kernel_rfl)) (fun _ _ _ h => h) (Or.inl ⟨by rfl, ?_⟩) ?_ ?_
                rotate_left
                ·intro w'
                 go_simp
                 with_reducible rfl
                rotate_left
                ·simp only [Act.put, List.setIfInBounds_toArray, List.set_cons_zero, List.set_cons_succ, i64_w, i32_w]
                 rfl
                refine pure_ (i := 7) (N := some 57) (v := ?_) (a' := ?_) #[true, true, true, false, true, true, true, true, false, false, false, false] rfl rfl (any_of HT_.out (by kernel_rfl)) (fun _ _ _ h => h) (Or.inl ⟨by rfl, ?_⟩) ?_ ?_
                rotate_left
                ·intro w'
                 go_simp
                 with_reducible rfl
                rotate_left
                ·simp only [Act.put, List.setIfInBounds_toArray, List.set_cons_zero, List.set_cons_succ, i64_w, i32_w]
                 rfl
                refine take_ (i := 3) (N := some 53) (v := ?_) (a' := ?_) #[true, true, true, true, true, true, true, true, false, false, false, false] rfl rfl (take_ofW HT_.out HW_.out (by kernel_rfl)) (fun _ _ _ h => h) (Or.inl ⟨by rfl, ?_⟩) hHeld ?_ ?_
                rotate_left
                ·rintro w' ⟨s0, s1⟩
                 go_simp
                 with_reducible rfl
                rotate_left
                ·simp only [Act.put, List.setIfInBounds_toArray, List.set_cons_zero, List.set_cons_succ, i64_w, i32_w]
                 rfl
                refine take_ (i := 8) (N := some 58) (v := ?_) (a' := ?_) #[true, true, true, true, true, true, true, true, true, false, false, false] rfl rfl (take_ofW HT_.out HW_.out (by kernel_rfl)) (fun _ _ _ h => h) (Or.inl ⟨by rfl, ?_⟩) hHeld ?_ ?_
                rotate_left
                ·rintro w' ⟨s0, s1⟩
                 go_simp
                 with_reducible rfl
                rotate_left
                ·simp only [Act.put, List.setIfInBounds_toArray, List.set_cons_zero, List.set_cons_succ, i64_w, i32_w]
                 rfl
                refine pure_ (i := 9) (N := some 59) (v := ?_) (a' := ?_) #[true, true, true, true, true, true, true, true, true, true, false, false] rfl rfl (any_of HT_.out (by kernel_rfl)) (fun _ _ _ h => h) (Or.inl ⟨by rfl, ?_⟩) ?_ ?_
                rotate_left
                ·intro w'
                 go_simp
                 with_reducible rfl
                rotate_left
                ·simp only [Act.put, List.setIfInBounds_toArray, List.set_cons_zero, List.set_cons_succ, i64_w, i32_w]
                 rfl
                refine pure_ (i := 10) (N := some 60) (v := ?_) (a' := ?_) #[true, true, true, true, true, true, true, true, true, true, true, false] rfl rfl (any_of HT_.out (by kernel_rfl)) (fun _ _ _ h => h) (Or.inl ⟨by rfl, ?_⟩) ?_ ?_
                rotate_left
                ·intro w'
                 go_simp
                 with_reducible rfl
                rotate_left
                ·simp only [Act.put, List.setIfInBounds_toArray, List.set_cons_zero, List.set_cons_succ, i64_w, i32_w]
                 rfl
                refine last_ (i := 11) (N := none) #[true, true, true, true, true, true, true, true, true, true, true, true] rfl rfl (one_of HT_.out (by kernel_rfl)) (by decide) (fun K hK => ?_)
                refine skip_ (w1 := ?_) (by rfl) rfl ?_ ?_
                rotate_left
                ·go_simp
                 rfl
                refine hK.out _ _ ?_
                clear hK K
                refine done_ (done_of HT_.out (by kernel_rfl)) ?_
                try go_wp2
                (try simp only [← hl8_2])
                go_roundg k2
                case measure => have := HK1.out; have := HK2.out; omega
                case rel => exact ⟨(y332), (ji29), (by first | rfl | (simp; done) | (simp only [← hji29] <;> (first | rfl | simp); done) | (simp [*]; done)), H', ⟨by have := HK1.out; have := HK2.out; omega⟩, ⟨by (try simp only [hl8_1]); (try simp only [hl8_2]); (with_reducible repeat (first | apply Kd.R_alloc | apply Kd.R_drewN | apply Kd.R_drew)); exact HQ34.out⟩, ⟨by (try simp only [hl8_1]); (try simp only [hl8_2]); (with_reducible repeat (first | refine blk_drewN ?_ _ | refine blk_drew ?_ | refine blk_alloc ?_ _)); refine blk_far ?_ (by have h_ := Kd.R_ne HO_8.out BK312.out (by decide); intro e_; exact h_ (by rw [e_]; rfl)) _; (with_reducible repeat (first | refine blk_drewN ?_ _ | refine blk_drew ?_ | refine blk_alloc ?_ _)); exact BK312.out⟩, ⟨by (try simp only [hl8_1]); (try simp only [hl8_2]); (with_reducible repeat (first | refine blk_drewN ?_ _ | refine blk_drew ?_ | refine blk_alloc ?_ _)); refine blk_far ?_ (by have h_ := Kd.R_ne HO_8.out BK318.out (by decide); intro e_; exact h_ (by rw [e_]; rfl)) _; (with_reducible repeat (first | refine blk_drewN ?_ _ | refine blk_drew ?_ | refine blk_alloc ?_ _)); exact BK318.out⟩, ⟨by repeat (first | (with_reducible first | exact HB.out | apply below_alloc | apply pw_below_drewN | apply below_drew1 | refine below_set ?_ GB12.out | refine below_set ?_ GE312.out | refine below_set ?_ GE318.out) | exact HB.out)⟩⟩
               ·rw [if_neg c31] at H
                exact absurd H (by simp)
              ·rw [if_neg c30] at H
               exact absurd H (by simp)
             ·rw [if_neg c28] at H
              exact absurd H (by simp)
            ·rw [if_neg c27] at H
             exact absurd H (by simp)
           ·rw [if_neg c26] at H
            have c26b0 : decide (0 < x10_2) = false := decide_eq_false c26
            clear c26
            have H' := Aside0.mk H
            clear H
            go_wp2
            (try simp only [← hl8_1, ← hl8_2])
            go_roundg k2
            case measure => have := HK1.out; have := HK2.out; omega
            case rel => exact ⟨(x8_2), (wrap64 (x9_1 + 1)), (by first | rfl | (simp; done) | (simp [*]; done)), H', ⟨by have := HK1.out; have := HK2.out; omega⟩, ⟨by (try simp only [hl8_1]); (try simp only [hl8_2]); (with_reducible repeat (first | apply Kd.R_alloc | apply Kd.R_drewN | apply Kd.R_drew)); exact HO_8.out⟩, ⟨by (try simp only [hl8_1]); (try simp only [hl8_2]); (with_reducible repeat (first | refine blk_drewN ?_ _ | refine blk_drew ?_ | refine blk_alloc ?_ _)); exact BK312.out⟩, ⟨by (try simp only [hl8_1]); (try simp only [hl8_2]); (with_reducible repeat (first | refine blk_drewN ?_ _ | refine blk_drew ?_ | refine blk_alloc ?_ _)); exact BK318.out⟩, ⟨bSt_⟩⟩
        ·rw [if_neg c25] at H
         have c25b0 : decide (x9_1 ≤ (wrap64 (t325 - t324))) = false := decide_eq_false c25
         clear c25
         have H' := Aside0.mk H
         clear H
         have hnb35 := NB318_312.out
         have hnc35 := NB312_318.out
         have hcz36_0 : wr.cell? ⟨gb318, 0, none⟩ = some (.int .u64 t319) := (blk_cell BK318.out 0).trans rfl
         have hcz36_1 : wr.cell? ⟨gb318, 1, none⟩ = some (.int .u64 t320) := (blk_cell BK318.out 1).trans rfl
         have hcz36_2 : wr.cell? ⟨gb318, 2, none⟩ = some (.int .i64 t321) := (blk_cell BK318.out 2).trans rfl
         have hcz36_3 : wr.cell? ⟨gb318, 3, none⟩ = some (.int .i64 t322) := (blk_cell BK318.out 3).trans rfl
         have hfz36_0 := blk_frozen BK318.out 0
         have hfz36_1 := blk_frozen BK318.out 1
         have hfz36_2 := blk_frozen BK318.out 2
         have hfz36_3 := blk_frozen BK318.out 3
         go_wp2
         go_loopg [11, 12] k1 (fun kq v11 v12 w' => ∃ (x11_2 : Int) (x12_2 : Int), v11 = .int .i64 x11_2 ∧ v12 = .int .i64 x12_2 ∧ Aside0 (family_Count.l2 kq t324 x8_1 x11_2 x12_2 t319 t320 t321 t322 = some (r1, r2)) ∧ Aside0 (kq ≤ k1) ∧ Aside0 (Kd.R (Kd.int .i64) 3 w' w.heap.size (fun _ => True) (.slice (some ⟨go12, 0, none⟩) x8_1.length co12) x8_1) ∧ Aside0 (w'.heap[gb312]? = some (.cells #[(.slice A0_0 l0_0.length c0_0), (.slice A0_1 l0_1.length c0_1), .int .i64 a0_2, .int .i64 a0_3] 37 (0, 0))) ∧ Aside0 (w'.heap[gb318]? = some (.cells #[.int .u64 t319, .int .u64 t320, .int .i64 t321, .int .i64 t322] 59 (0, 0))) ∧ Aside0 (Below w.heap.size w w'))
         case atStart => exact ⟨(0), (wrap64 (t321 - t324)), (by first | rfl | (simp; done) | (simp [*]; done)), (by first | rfl | (simp; done) | (simp [*]; done)), H', ⟨Nat.le_refl _⟩, ⟨by (try simp only [hl8_1]); (with_reducible repeat (first | apply Kd.R_alloc | apply Kd.R_drewN | apply Kd.R_drew)); exact HO_8.out⟩, ⟨by (try simp only [hl8_1]); (with_reducible repeat (first | refine blk_drewN ?_ _ | refine blk_drew ?_ | refine blk_alloc ?_ _)); exact BK312.out⟩, ⟨by (try simp only [hl8_1]); (with_reducible repeat (first | refine blk_drewN ?_ _ | refine blk_drew ?_ | refine blk_alloc ?_ _)); exact BK318.out⟩, ⟨bSt_⟩⟩
         case round =>
          clear H'
          try clear c1
          try clear p1
          try clear q1
          try clear hx1
          try clear qi1
          try clear hf1
          try clear c2
          try clear p2
          try clear c3
          try clear p3
          try clear q3
          try clear hx3
          try clear hf3
          try clear c4
          try clear c5
          try clear p6
          try clear c9
          try clear c9b0
          try clear c9b1
          try clear c10
          try clear c10b0
          try clear c10b1
          try clear c11
          try clear c11b0
          try clear c11b1
          try clear p12
          try clear q12
          try clear hx12
          try clear qi12
          try clear hf12
          try clear c17
          try clear c20
          try clear c25
          try clear c25b0
          try clear c26
          try clear c26b0
          try clear c27
          try clear c27b0
          try clear c28
          try clear c28b0
          try clear c30
          try clear c30b0
          try clear c31
          try clear c31b0
          try clear p32
          try clear q32
          try clear hx32
          try clear hf32
          try clear p33
          try clear q33
          try clear hx33
          try clear c35
          try clear c36
          try clear hcz14_0
          try clear hcz14_1
          try clear hcz14_2
          try clear hcz14_3
          try clear hcz18_0
          try clear hcz18_1
          try clear hcz18_2
          try clear hcz18_3
          try clear hcz20_0
          try clear hcz20_1
          try clear hcz20_2
          try clear hcz20_3
          try clear hcz36_0
          try clear hcz36_1
          try clear hcz36_2
          try clear hcz36_3
          try clear hfz14_0
          try clear hfz14_1
          try clear hfz14_2
          try clear hfz14_3
          try clear hfz18_0
          try clear hfz18_1
          try clear hfz18_2
          try clear hfz18_3
          try clear hfz20_0
          try clear hfz20_1
          try clear hfz20_2
          try clear hfz20_3
          try clear hfz36_0
          try clear hfz36_1
          try clear hfz36_2
          try clear hfz36_3
          try clear hx12_0
          try clear hx32_0
          try clear hx330_0
          try clear hx331_0
          try clear p1
          try clear p12
          try clear p2
          try clear p32
          try clear p330
          try clear p331
          try clear p6
          try clear q1
          try clear q12
          try clear q32
          try clear q330
          try clear q331
          obtain ⟨x11_2, x12_2, rfl, rfl, HA, HK2, HO_8, BK312, BK318, HB⟩ := hrel
          cases gk with
          | zero => exact absurd HA.out (by simp [family_Count.l2])
          | succ k2 =>
           have H := HA.out
           clear HA
           simp only [family_Count.l2] at H
           by_cases c37 : x12_2 ≤ (wrap64 (t322 - t324))
           ·rw [if_pos c37] at H
            have c37b0 : decide (x12_2 ≤ (wrap64 (t322 - t324))) = true := decide_eq_true c37
            clear c37
            by_cases c38 : 0 ≤ x12_2
            ·rw [if_pos c38] at H
             have c38b0 : decide (0 ≤ x12_2) = true := decide_eq_true c38
             clear c38
             by_cases c39 : x12_2 < (x8_1.length : Int)
             ·rw [if_pos c39] at H
              have c39b0 : decide (x12_2 < (x8_1.length : Int)) = true := decide_eq_true c39
              clear c39
              by_cases c40 : (wrap64 (x11_2 + (rd x8_1 x12_2))) > 4611686018427387904
              ·rw [if_pos c40] at H
               have c40b0 : decide (4611686018427387904 < (wrap64 (x11_2 + (rd x8_1 x12_2)))) = true := decide_eq_true c40
               clear c40
               simp only [Option.some.injEq, Prod.mk.injEq] at H
               obtain ⟨rfl, rfl⟩ := H
               have hnb41 := NB318_312.out
               have hnc41 := NB312_318.out
               have hcz42_0 : wr.cell? ⟨gb318, 0, none⟩ = some (.int .u64 t319) := (blk_cell BK318.out 0).trans rfl
               have hcz42_1 : wr.cell? ⟨gb318, 1, none⟩ = some (.int .u64 t320) := (blk_cell BK318.out 1).trans rfl
               have hcz42_2 : wr.cell? ⟨gb318, 2, none⟩ = some (.int .i64 t321) := (blk_cell BK318.out 2).trans rfl
               have hcz42_3 : wr.cell? ⟨gb318, 3, none⟩ = some (.int .i64 t322) := (blk_cell BK318.out 3).trans rfl
               have hfz42_0 := blk_frozen BK318.out 0
               have hfz42_1 := blk_frozen BK318.out 1
               have hfz42_2 := blk_frozen BK318.out 2
               have hfz42_3 := blk_frozen BK318.out 3
               have p333 : 0 ≤ (x12_2 : Int) := of_decide_eq_true (by first | (with_reducible assumption) | assumption)
               have q333 : x12_2 < (x8_1.length : Int) := of_decide_eq_true (by first | (with_reducible assumption) | assumption)
               obtain ⟨ad333, e333, hx333_0⟩ := Kd.at_int (Kd.R_reads' HO_8.out).2.2 x12_2 p333 q333
               obtain rfl : (⟨go12, 0, none⟩ : Addr) = ad333 := (by injection e333)
               (first | simp only [add_plain] at hx333_0 | simp only [add_at] at hx333_0 | simp only [Addr.add, Nat.zero_add] at hx333_0 | skip)
               replace p333 := eq_true p333
               replace q333 := eq_true q333
               go_wp2
               go_ret2
               exact ⟨by first | rfl | (simp [errW_none, errW_some] <;> rfl) | (simp only [← hji8]; first | rfl | (simp [errW_none, errW_some] <;> rfl)) | (simp [*, errW_none, errW_some] <;> rfl) | (simp [errW_none, errW_some]; exact Go.Proofs.YtgfbgfbnmiainaaW.OwnWords.isEmpty_bne _), bSt_⟩
              ·rw [if_neg c40] at H
               have c40b0 : decide (4611686018427387904 < (wrap64 (x11_2 + (rd x8_1 x12_2)))) = false := decide_eq_false c40
               clear c40
               have H' := Aside0.mk H
               clear H
               have hnb43 := NB318_312.out
               have hnc43 := NB312_318.out
               have hcz44_0 : wr.cell? ⟨gb318, 0, none⟩ = some (.int .u64 t319) := (blk_cell BK318.out 0).trans rfl
               have hcz44_1 : wr.cell? ⟨gb318, 1, none⟩ = some (.int .u64 t320) := (blk_cell BK318.out 1).trans rfl
               have hcz44_2 : wr.cell? ⟨gb318, 2, none⟩ = some (.int .i64 t321) := (blk_cell BK318.out 2).trans rfl
               have hcz44_3 : wr.cell? ⟨gb318, 3, none⟩ = some (.int .i64 t322) := (blk_cell BK318.out 3).trans rfl
               have hfz44_0 := blk_frozen BK318.out 0
               have hfz44_1 := blk_frozen BK318.out 1
               have hfz44_2 := blk_frozen BK318.out 2
               have hfz44_3 := blk_frozen BK318.out 3
               have p333 : 0 ≤ (x12_2 : Int) := of_decide_eq_true (by first | (with_reducible assumption) | assumption)
               have q333 : x12_2 < (x8_1.length : Int) := of_decide_eq_true (by first | (with_reducible assumption) | assumption)
               obtain ⟨ad333, e333, hx333_0⟩ := Kd.at_int (Kd.R_reads' HO_8.out).2.2 x12_2 p333 q333
               obtain rfl : (⟨go12, 0, none⟩ : Addr) = ad333 := (by injection e333)
               (first | simp only [add_plain] at hx333_0 | simp only [add_at] at hx333_0 | simp only [Addr.add, Nat.zero_add] at hx333_0 | skip)
               replace p333 := eq_true p333
               replace q333 := eq_true q333
               go_wp2
               go_roundg k2
               case measure => have := HK1.out; have := HK2.out; omega
               case rel => exact ⟨(wrap64 (x11_2 + (rd x8_1 x12_2))), (wrap64 (x12_2 + 1)), (by first | rfl | (simp; done) | (simp [*]; done)), (by first | rfl | (simp; done) | (simp [*]; done)), H', ⟨by have := HK1.out; have := HK2.out; omega⟩, ⟨by (try simp only [hl8_1]); (with_reducible repeat (first | apply Kd.R_alloc | apply Kd.R_drewN | apply Kd.R_drew)); exact HO_8.out⟩, ⟨by (try simp only [hl8_1]); (with_reducible repeat (first | refine blk_drewN ?_ _ | refine blk_drew ?_ | refine blk_alloc ?_ _)); exact BK312.out⟩, ⟨by (try simp only [hl8_1]); (with_reducible repeat (first | refine blk_drewN ?_ _ | refine blk_drew ?_ | refine blk_alloc ?_ _)); exact BK318.out⟩, ⟨bSt_⟩⟩
             ·rw [if_neg c39] at H
              exact absurd H (by simp)
            ·rw [if_neg c38] at H
             exact absurd H (by simp)
           ·rw [if_neg c37] at H
            have c37b0 : decide (x12_2 ≤ (wrap64 (t322 - t324))) = false := decide_eq_false c37
            clear c37
            simp only [Option.some.injEq, Prod.mk.injEq] at H
            obtain ⟨rfl, rfl⟩ := H
            have hnb45 := NB318_312.out
            have hnc45 := NB312_318.out
            have hcz46_0 : wr.cell? ⟨gb318, 0, none⟩ = some (.int .u64 t319) := (blk_cell BK318.out 0).trans rfl
            have hcz46_1 : wr.cell? ⟨gb318, 1, none⟩ = some (.int .u64 t320) := (blk_cell BK318.out 1).trans rfl
            have hcz46_2 : wr.cell? ⟨gb318, 2, none⟩ = some (.int .i64 t321) := (blk_cell BK318.out 2).trans rfl
            have hcz46_3 : wr.cell? ⟨gb318, 3, none⟩ = some (.int .i64 t322) := (blk_cell BK318.out 3).trans rfl
            have hfz46_0 := blk_frozen BK318.out 0
            have hfz46_1 := blk_frozen BK318.out 1
            have hfz46_2 := blk_frozen BK318.out 2
            have hfz46_3 := blk_frozen BK318.out 3
            go_wp2
            go_ret2
            exact ⟨by first | rfl | (simp [errW_none, errW_some] <;> rfl) | (simp only [← hji8]; first | rfl | (simp [errW_none, errW_some] <;> rfl)) | (simp [*, errW_none, errW_some] <;> rfl) | (simp [errW_none, errW_some]; exact Go.Proofs.YtgfbgfbnmiainaaW.OwnWords.isEmpty_bne _), bSt_⟩
     ·rw [if_neg c11] at H
      exact absurd H (by simp)
    ·rw [if_neg c10] at H
     exact absurd H (by simp)
   ·rw [if_neg c9] at H
    exact absurd H (by simp)
  ·replace c5 := Bool.eq_false_iff.mpr c5
   subst c5
   have H1 : (some (0, 0)) = some (r1, r2) := by rw [if_neg (show ¬ (false = true) by decide)] at H; exact H
   clear H
   have H := H1
   clear H1
   simp only [Option.some.injEq, Prod.mk.injEq] at H
   obtain ⟨rfl, rfl⟩ := H
   go_enter Try.func20, Try.ntmps20
   go_wp2_with (first | ((with_reducible refine gate_dst (N := 1) rfl ?_); refine box_event ?hg (N := 1) ?hd (cs := #[.slice A0_0 l0_0.length c0_0, .slice A0_1 l0_1.length c0_1, .int .i64 a0_2, .int .i64 a0_3]) (t := 37) ?hr ?_; (case hd => rfl); (case hg => rfl); (case hr => first | (go_simp; done) | (go_simp; rfl)); intro gb312 hg w47 hbox hb; have n0_ := Aside0.mk (below_step bSt_ hb); have n1_ := Aside0.mk (hbox); have n2_ := Aside0.mk ((by rw [hg]; exact (below_size bSt_) : w.heap.size ≤ gb312)); have n3_ := Aside0.mk ((by rw [hg]; exact (below_size bSt_) : w.heap.size ≤ gb312)); clear HB; have HB := n0_; have BK312 := n1_; have GW312 := n2_; have GE312 := n3_; clear n0_ n1_ n2_ n3_; clear hb hbox hg; have hcz48_0 : w47.cell? ⟨gb312, 0, none⟩ = some (.slice A0_0 l0_0.length c0_0) := (blk_cell BK312.out 0).trans rfl; have hcz48_1 : w47.cell? ⟨gb312, 1, none⟩ = some (.slice A0_1 l0_1.length c0_1) := (blk_cell BK312.out 1).trans rfl; have hcz48_2 : w47.cell? ⟨gb312, 2, none⟩ = some (.int .i64 a0_2) := (blk_cell BK312.out 2).trans rfl; have hcz48_3 : w47.cell? ⟨gb312, 3, none⟩ = some (.int .i64 a0_3) := (blk_cell BK312.out 3).trans rfl; have hfz48_0 := blk_frozen BK312.out 0; have hfz48_1 := blk_frozen BK312.out 1; have hfz48_2 := blk_frozen BK312.out 2; have hfz48_3 := blk_frozen BK312.out 3) | ((with_reducible refine gate_callee (f := 36) rfl ?_); refine goesL_ (some 15) rfl rfl Try.func36 (by kernel_rfl) rfl #[.agg #[.slice A0_0 l0_0.length c0_0, .slice A0_1 l0_1.length c0_1, .int .i64 a0_2, .int .i64 a0_3]] rfl (by (try simp only [List.map_toArray, List.map_cons, List.map_nil]); first | done | rfl | (simp only [List.length_drop, List.length_take]; rfl)) ?_; (with_reducible refine (family_open.calls k _ _ l0_0 _ _ l0_1 a0_2 a0_3 t313 t314 t315 t316 true _ ?side1 ?side2 ?side3 ?side4 A2.out).mono ?_); (case side1 => repeat (first | exact (Kd.C_below HR0_0.out HB.out) | (with_reducible refine Kd.C_alloc ?_ _) | (with_reducible refine Kd.C_drewN ?_ _) | (with_reducible refine Kd.C_drew ?_))); (case side2 => exact HC0_0.out); (case side3 => repeat (first | exact (Kd.C_below HR0_1.out HB.out) | (with_reducible refine Kd.C_alloc ?_ _) | (with_reducible refine Kd.C_drewN ?_ _) | (with_reducible refine Kd.C_drew ?_))); (case side4 => exact HC0_1.out); rintro e w49 ⟨rfl, hb⟩; refine ⟨_, rfl, ?_⟩; have n0_ := Aside0.mk (blk_below (bKq_ BK312.out) hb); have n1_ := Aside0.mk (below_step bSt_ hb); clear BK312; clear HB; have BK312 := n0_; have HB := n1_; clear n0_ n1_; (try clear hb); (try clear hb2); (try clear hk); (try clear hi)) | ((with_reducible refine gate_dst (N := 4) rfl ?_); refine box_event ?hg (N := 4) ?hd (cs := #[.int .u64 0, .int .u64 0, .int .i64 0, .int .i64 0]) (t := 59) ?hr ?_; (case hd => rfl); (case hg => rfl); (case hr => first | (go_simp; done) | (go_simp; rfl)); intro gb318 hg w50 hbox hb; have n0_ := Aside0.mk (blk_below (bKq_ BK312.out) hb); have n1_ := Aside0.mk (below_step bSt_ hb); have n2_ := Aside0.mk (hbox); have n3_ := Aside0.mk ((by rw [hg]; exact (below_size bSt_) : w.heap.size ≤ gb318)); have n4_ := Aside0.mk ((by rw [hg]; exact (below_size bSt_) : w.heap.size ≤ gb318)); have n5_ := Aside0.mk ((by rw [hg]; exact Nat.ne_of_lt (blk_lt (bKq_ BK312.out)) : gb312 ≠ gb318)); have n6_ := Aside0.mk ((by rw [hg]; exact Nat.ne_of_gt (blk_lt (bKq_ BK312.out)) : gb318 ≠ gb312)); clear BK312; clear HB; have BK312 := n0_; have HB := n1_; have BK318 := n2_; have GW318 := n3_; have GE318 := n4_; have NB312_318 := n5_; have NB318_312 := n6_; clear n0_ n1_ n2_ n3_ n4_ n5_ n6_; clear hb hbox hg; have hnb51 := NB318_312.out; have hnc51 := NB312_318.out; have hcz52_0 : w50.cell? ⟨gb318, 0, none⟩ = some (.int .u64 0) := (blk_cell BK318.out 0).trans rfl; have hcz52_1 : w50.cell? ⟨gb318, 1, none⟩ = some (.int .u64 0) := (blk_cell BK318.out 1).trans rfl; have hcz52_2 : w50.cell? ⟨gb318, 2, none⟩ = some (.int .i64 0) := (blk_cell BK318.out 2).trans rfl; have hcz52_3 : w50.cell? ⟨gb318, 3, none⟩ = some (.int .i64 0) := (blk_cell BK318.out 3).trans rfl; have hfz52_0 := blk_frozen BK318.out 0; have hfz52_1 := blk_frozen BK318.out 1; have hfz52_2 := blk_frozen BK318.out 2; have hfz52_3 := blk_frozen BK318.out 3) | ((with_reducible refine gate_callee (f := 45) rfl ?_); refine goesL_ (some 22) rfl rfl Try.func45 (by kernel_rfl) rfl #[.agg #[.int .u64 t313, .int .u64 t314, .int .i64 t315, .int .i64 t316]] rfl (by (try simp only [List.map_toArray, List.map_cons, List.map_nil]); first | done | rfl | (simp only [List.length_drop, List.length_take]; rfl)) ?_; (with_reducible refine (family_span_normal.calls k t313 t314 t315 t316 t319 t320 t321 t322 false _ A4.out).mono ?_); rintro e w53 ⟨rfl, hb⟩; refine ⟨_, rfl, ?_⟩; have n0_ := Aside0.mk (blk_below (bKq_ BK312.out) hb); have n1_ := Aside0.mk (blk_below (g := gb318) (o := .cells #[.int .u64 t313, .int .u64 t314, .int .i64 t315, .int .i64 t316] 59 (0, 0)) (bKq_ BK318.out) hb); have n2_ := Aside0.mk (below_step bSt_ hb); clear BK312; clear BK318; clear HB; have BK312 := n0_; have BK318 := n1_; have HB := n2_; clear n0_ n1_ n2_; (try clear hb); (try clear hb2); (try clear hk); (try clear hi); have hcz54_0 : w53.cell? ⟨gb318, 0, none⟩ = some (.int .u64 t313) := (blk_cell BK318.out 0).trans rfl; have hcz54_1 : w53.cell? ⟨gb318, 1, none⟩ = some (.int .u64 t314) := (blk_cell BK318.out 1).trans rfl; have hcz54_2 : w53.cell? ⟨gb318, 2, none⟩ = some (.int .i64 t315) := (blk_cell BK318.out 2).trans rfl; have hcz54_3 : w53.cell? ⟨gb318, 3, none⟩ = some (.int .i64 t316) := (blk_cell BK318.out 3).trans rfl; have hfz54_0 := blk_frozen BK318.out 0; have hfz54_1 := blk_frozen BK318.out 1; have hfz54_2 := blk_frozen BK318.out 2; have hfz54_3 := blk_frozen BK318.out 3))
   go_ret2
   exact ⟨by first | rfl | (simp [errW_none, errW_some] <;> rfl) | (simp [*, errW_none, errW_some] <;> rfl) | (simp [errW_none, errW_some]; exact Go.Proofs.YtgfbgfbnmiainaaW.OwnWords.isEmpty_bne _), bSt_⟩
 ·replace c3 := Bool.eq_false_iff.mpr c3
  subst c3
  have H1 : (some (0, 2)) = some (r1, r2) := by rw [if_neg (show ¬ (false = true) by decide)] at H; exact H
  clear H
  have H := H1
  clear H1
  simp only [Option.some.injEq, Prod.mk.injEq] at H
  obtain ⟨rfl, rfl⟩ := H
  go_enter Try.func20, Try.ntmps20
  go_wp2_with (first | ((with_reducible refine gate_dst (N := 1) rfl ?_); refine box_event ?hg (N := 1) ?hd (cs := #[.slice A0_0 l0_0.length c0_0, .slice A0_1 l0_1.length c0_1, .int .i64 a0_2, .int .i64 a0_3]) (t := 37) ?hr ?_; (case hd => rfl); (case hg => rfl); (case hr => first | (go_simp; done) | (go_simp; rfl)); intro gb312 hg w55 hbox hb; have n0_ := Aside0.mk (below_step bSt_ hb); have n1_ := Aside0.mk (hbox); have n2_ := Aside0.mk ((by rw [hg]; exact (below_size bSt_) : w.heap.size ≤ gb312)); have n3_ := Aside0.mk ((by rw [hg]; exact (below_size bSt_) : w.heap.size ≤ gb312)); clear HB; have HB := n0_; have BK312 := n1_; have GW312 := n2_; have GE312 := n3_; clear n0_ n1_ n2_ n3_; clear hb hbox hg; have hcz56_0 : w55.cell? ⟨gb312, 0, none⟩ = some (.slice A0_0 l0_0.length c0_0) := (blk_cell BK312.out 0).trans rfl; have hcz56_1 : w55.cell? ⟨gb312, 1, none⟩ = some (.slice A0_1 l0_1.length c0_1) := (blk_cell BK312.out 1).trans rfl; have hcz56_2 : w55.cell? ⟨gb312, 2, none⟩ = some (.int .i64 a0_2) := (blk_cell BK312.out 2).trans rfl; have hcz56_3 : w55.cell? ⟨gb312, 3, none⟩ = some (.int .i64 a0_3) := (blk_cell BK312.out 3).trans rfl; have hfz56_0 := blk_frozen BK312.out 0; have hfz56_1 := blk_frozen BK312.out 1; have hfz56_2 := blk_frozen BK312.out 2; have hfz56_3 := blk_frozen BK312.out 3) | ((with_reducible refine gate_callee (f := 36) rfl ?_); refine goesL_ (some 15) rfl rfl Try.func36 (by kernel_rfl) rfl #[.agg #[.slice A0_0 l0_0.length c0_0, .slice A0_1 l0_1.length c0_1, .int .i64 a0_2, .int .i64 a0_3]] rfl (by (try simp only [List.map_toArray, List.map_cons, List.map_nil]); first | done | rfl | (simp only [List.length_drop, List.length_take]; rfl)) ?_; (with_reducible refine (family_open.calls k _ _ l0_0 _ _ l0_1 a0_2 a0_3 t313 t314 t315 t316 false _ ?side1 ?side2 ?side3 ?side4 A2.out).mono ?_); (case side1 => repeat (first | exact (Kd.C_below HR0_0.out HB.out) | (with_reducible refine Kd.C_alloc ?_ _) | (with_reducible refine Kd.C_drewN ?_ _) | (with_reducible refine Kd.C_drew ?_))); (case side2 => exact HC0_0.out); (case side3 => repeat (first | exact (Kd.C_below HR0_1.out HB.out) | (with_reducible refine Kd.C_alloc ?_ _) | (with_reducible refine Kd.C_drewN ?_ _) | (with_reducible refine Kd.C_drew ?_))); (case side4 => exact HC0_1.out); rintro e w57 ⟨rfl, hb⟩; refine ⟨_, rfl, ?_⟩; have n0_ := Aside0.mk (blk_below (bKq_ BK312.out) hb); have n1_ := Aside0.mk (below_step bSt_ hb); clear BK312; clear HB; have BK312 := n0_; have HB := n1_; clear n0_ n1_; (try clear hb); (try clear hb2); (try clear hk); (try clear hi)) | ((with_reducible refine gate_dst (N := 4) rfl ?_); refine box_event ?hg (N := 4) ?hd (cs := #[.int .u64 0, .int .u64 0, .int .i64 0, .int .i64 0]) (t := 59) ?hr ?_; (case hd => rfl); (case hg => rfl); (case hr => first | (go_simp; done) | (go_simp; rfl)); intro gb318 hg w58 hbox hb; have n0_ := Aside0.mk (blk_below (bKq_ BK312.out) hb); have n1_ := Aside0.mk (below_step bSt_ hb); have n2_ := Aside0.mk (hbox); have n3_ := Aside0.mk ((by rw [hg]; exact (below_size bSt_) : w.heap.size ≤ gb318)); have n4_ := Aside0.mk ((by rw [hg]; exact (below_size bSt_) : w.heap.size ≤ gb318)); have n5_ := Aside0.mk ((by rw [hg]; exact Nat.ne_of_lt (blk_lt (bKq_ BK312.out)) : gb312 ≠ gb318)); have n6_ := Aside0.mk ((by rw [hg]; exact Nat.ne_of_gt (blk_lt (bKq_ BK312.out)) : gb318 ≠ gb312)); clear BK312; clear HB; have BK312 := n0_; have HB := n1_; have BK318 := n2_; have GW318 := n3_; have GE318 := n4_; have NB312_318 := n5_; have NB318_312 := n6_; clear n0_ n1_ n2_ n3_ n4_ n5_ n6_; clear hb hbox hg; have hnb59 := NB318_312.out; have hnc59 := NB312_318.out; have hcz60_0 : w58.cell? ⟨gb318, 0, none⟩ = some (.int .u64 0) := (blk_cell BK318.out 0).trans rfl; have hcz60_1 : w58.cell? ⟨gb318, 1, none⟩ = some (.int .u64 0) := (blk_cell BK318.out 1).trans rfl; have hcz60_2 : w58.cell? ⟨gb318, 2, none⟩ = some (.int .i64 0) := (blk_cell BK318.out 2).trans rfl; have hcz60_3 : w58.cell? ⟨gb318, 3, none⟩ = some (.int .i64 0) := (blk_cell BK318.out 3).trans rfl; have hfz60_0 := blk_frozen BK318.out 0; have hfz60_1 := blk_frozen BK318.out 1; have hfz60_2 := blk_frozen BK318.out 2; have hfz60_3 := blk_frozen BK318.out 3))
  go_ret2
  exact ⟨by first | rfl | (simp [errW_none, errW_some] <;> rfl) | (simp [*, errW_none, errW_some] <;> rfl) | (simp [errW_none, errW_some]; exact Go.Proofs.YtgfbgfbnmiainaaW.OwnWords.isEmpty_bne _), bSt_⟩

end Go.Proofs.Ytgfbgfbnmiainaa.Q
end
section
namespace Go.Proofs.Ytgfbgfbnmiainaa.Q
open Go.RowKit Go.Proofs.YtgfbgfbnmiainaaW.PrintWords Go.Proofs.YtgfbgfbnmiainaaW.PrintLast Go.Proofs.YtgfbgfbnmiainaaW.PrintMore Go.Proofs.YtgfbgfbnmiainaaW.OwnWords
attribute [local go_sem] Go.Proofs.YtgfbgfbnmiainaaW.OwnWords.isSome_setCell max2_int min2_int max_two min_two max_three min_three max_four min_four
set_option linter.unusedVariables false
set_option linter.unusedSimpArgs false

/-! ### manystrandref07_Count: function 21 -/
mutual
def manystrandref07_Count.l0 : Nat → Int → List Int → Int → List Int → List Int → Int → Int → Option (Int × Int)
 | 0, _, _, _, _, _, _, _ => none
 | k + 1, x6, x7, x8, x335000, x335001, x335002, x335003 => if x8 < x6 then (if 0 ≤ (wrap64 ((x7.length : Int) + 1)) then (if (wrap64 ((x7.length : Int) + 1) : Int).toNat ≤ 35184372088832 then (manystrandref07_Count.l1 k x6 x7 x8 (List.replicate (wrap64 ((x7.length : Int) + 1) : Int).toNat 0) 0 x335000 x335001 x335002 x335003) else (none)) else (none)) else (manystrandref07_Count.l2 k x6 x7 0 0 x335000 x335001 x335002 x335003)
def manystrandref07_Count.l1 : Nat → Int → List Int → Int → List Int → Int → List Int → List Int → Int → Int → Option (Int × Int)
 | 0, _, _, _, _, _, _, _, _, _ => none
 | k + 1, x6, x7, x8, x9, x10, x335000, x335001, x335002, x335003 => if x10 < (x7.length : Int) then (if 0 ≤ x10 then (if x10 < (x9.length : Int) then ((some (x9.set (x10 : Int).toNat (IntKind.u64.wrap ((rd x9 x10) + (rd x7 x10))) : List Int)).bind fun y347 => (if 0 ≤ (wrap64 (x10 + 1)) then (if (wrap64 (x10 + 1)) < (x9.length : Int) then (manystrandref07_Count.l1 k x6 x7 x8 (y347.set ((wrap64 (x10 + 1)) : Int).toNat (IntKind.u64.wrap ((rd y347 (wrap64 (x10 + 1))) + (rd x7 x10)))) (wrap64 (x10 + 1)) x335000 x335001 x335002 x335003) else (none)) else (none))) else (none)) else (none)) else (manystrandref07_Count.l0 k x6 x9 (wrap64 (x8 + 1)) x335000 x335001 x335002 x335003)
def manystrandref07_Count.l2 : Nat → Int → List Int → Int → Int → List Int → List Int → Int → Int → Option (Int × Int)
 | 0, _, _, _, _, _, _, _, _ => none
 | k + 1, x6, x7, x11, x12, x335000, x335001, x335002, x335003 => if x12 ≤ x6 then (if (wrap64 (x12 + (x335000.length : Int))) ≥ x335002 then (manystrandref07_Count.j3 k x6 x7 x11 x12 (decide ((wrap64 (x12 + (x335000.length : Int))) ≤ x335003)) x335000 x335001 x335002 x335003) else (manystrandref07_Count.j3 k x6 x7 x11 x12 false x335000 x335001 x335002 x335003)) else (some (wrap64 (x11), 0))
def manystrandref07_Count.j3 : Nat → Int → List Int → Int → Int → Bool → List Int → List Int → Int → Int → Option (Int × Int)
 | 0, _, _, _, _, _, _, _, _, _ => none
 | k + 1, x6, x7, x11, x12, x90, x335000, x335001, x335002, x335003 => if x90 = true then (if 0 ≤ x12 then (if x12 < (x7.length : Int) then (if (IntKind.u64.wrap (x11 + (rd x7 x12))) > 4611686018427387904 then (some (0, 4)) else (manystrandref07_Count.l2 k x6 x7 (IntKind.u64.wrap (x11 + (rd x7 x12))) (wrap64 (x12 + 1)) x335000 x335001 x335002 x335003)) else (none)) else (none)) else (if x11 > 4611686018427387904 then (some (0, 4)) else (manystrandref07_Count.l2 k x6 x7 x11 (wrap64 (x12 + 1)) x335000 x335001 x335002 x335003))
end
def manystrandref07_Count.f (k : Nat) (l0_0 : List Int) (l0_1 : List Int) (a0_2 : Int) (a0_3 : Int) : Option (Int × Int) := (manystrandref07_Valid.f k l0_0 l0_1 a0_2 a0_3).bind fun t335 => (if t335 = true then ((manystrandref07_of.f k l0_0).bind fun t336 => ((manystrandref07_of.f k l0_1).bind fun t337 => (if (Go.bits .andNot .u64 t336 t337) = 0 then ((manystrandref07_size.f k (Go.bits .andNot .u64 t337 t336)).bind fun t338 => (manystrandref07_Count.l0 k t338 (([1] : List Int)) 0 l0_0 l0_1 a0_2 a0_3)) else (some (0, 0))))) else (some (0, 2)))
theorem manystrandref07_Count.mono_l : ∀ k, (∀ y0 y1 y2 y3 y4 y5 y6, LeO (manystrandref07_Count.l0 k y0 y1 y2 y3 y4 y5 y6) (manystrandref07_Count.l0 (k + 1) y0 y1 y2 y3 y4 y5 y6)) ∧ (∀ y0 y1 y2 y3 y4 y5 y6 y7 y8, LeO (manystrandref07_Count.l1 k y0 y1 y2 y3 y4 y5 y6 y7 y8) (manystrandref07_Count.l1 (k + 1) y0 y1 y2 y3 y4 y5 y6 y7 y8)) ∧ (∀ y0 y1 y2 y3 y4 y5 y6 y7, LeO (manystrandref07_Count.l2 k y0 y1 y2 y3 y4 y5 y6 y7) (manystrandref07_Count.l2 (k + 1) y0 y1 y2 y3 y4 y5 y6 y7)) ∧ (∀ y0 y1 y2 y3 y4 y5 y6 y7 y8, LeO (manystrandref07_Count.j3 k y0 y1 y2 y3 y4 y5 y6 y7 y8) (manystrandref07_Count.j3 (k + 1) y0 y1 y2 y3 y4 y5 y6 y7 y8))
 | 0 => ⟨fun _ _ _ _ _ _ _ r h => by simp [manystrandref07_Count.l0] at h, fun _ _ _ _ _ _ _ _ _ r h => by simp [manystrandref07_Count.l1] at h, fun _ _ _ _ _ _ _ _ r h => by simp [manystrandref07_Count.l2] at h, fun _ _ _ _ _ _ _ _ _ r h => by simp [manystrandref07_Count.j3] at h⟩
 | k + 1 => by
  obtain ⟨ih0, ih1, ih2, ih3⟩ := manystrandref07_Count.mono_l k
  refine ⟨?_, ?_, ?_, ?_⟩
  ·intro y0 y1 y2 y3 y4 y5 y6
   unfold manystrandref07_Count.l0
   repeat' first
   | (with_reducible exact ih0 _ _ _ _ _ _ _)
   | (with_reducible exact ih1 _ _ _ _ _ _ _ _ _)
   | (with_reducible exact ih2 _ _ _ _ _ _ _ _)
   | (with_reducible exact ih3 _ _ _ _ _ _ _ _ _)
   | (with_reducible exact manystrandref07_Valid.mono _ _ _ _ _)
   | (with_reducible exact manystrandref07_of.mono _ _)
   | (with_reducible exact manystrandref07_size.mono _ _)
   | (with_reducible exact LeO.refl _)
   | (with_reducible exact LeO.none _)
   | (with_reducible refine LeO.ite ?_ ?_)
   | (with_reducible refine LeO.bind ?_ (fun _ => ?_))
   | exact ih0 _ _ _ _ _ _ _
   | exact ih1 _ _ _ _ _ _ _ _ _
   | exact ih2 _ _ _ _ _ _ _ _
   | exact ih3 _ _ _ _ _ _ _ _ _
   | exact manystrandref07_Valid.mono _ _ _ _ _
   | exact manystrandref07_of.mono _ _
   | exact manystrandref07_size.mono _ _
   | exact LeO.none _
   | refine LeO.ite ?_ ?_
   | refine LeO.bind ?_ (fun _ => ?_)
  ·intro y0 y1 y2 y3 y4 y5 y6 y7 y8
   unfold manystrandref07_Count.l1
   repeat' first
   | (with_reducible exact ih0 _ _ _ _ _ _ _)
   | (with_reducible exact ih1 _ _ _ _ _ _ _ _ _)
   | (with_reducible exact ih2 _ _ _ _ _ _ _ _)
   | (with_reducible exact ih3 _ _ _ _ _ _ _ _ _)
   | (with_reducible exact manystrandref07_Valid.mono _ _ _ _ _)
   | (with_reducible exact manystrandref07_of.mono _ _)
   | (with_reducible exact manystrandref07_size.mono _ _)
   | (with_reducible exact LeO.refl _)
   | (with_reducible exact LeO.none _)
   | (with_reducible refine LeO.ite ?_ ?_)
   | (with_reducible refine LeO.bind ?_ (fun _ => ?_))
   | exact ih0 _ _ _ _ _ _ _
   | exact ih1 _ _ _ _ _ _ _ _ _
   | exact ih2 _ _ _ _ _ _ _ _
   | exact ih3 _ _ _ _ _ _ _ _ _
   | exact manystrandref07_Valid.mono _ _ _ _ _
   | exact manystrandref07_of.mono _ _
   | exact manystrandref07_size.mono _ _
   | exact LeO.none _
   | refine LeO.ite ?_ ?_
   | refine LeO.bind ?_ (fun _ => ?_)
  ·intro y0 y1 y2 y3 y4 y5 y6 y7
   unfold manystrandref07_Count.l2
   repeat' first
   | (with_reducible exact ih0 _ _ _ _ _ _ _)
   | (with_reducible exact ih1 _ _ _ _ _ _ _ _ _)
   | (with_reducible exact ih2 _ _ _ _ _ _ _ _)
   | (with_reducible exact ih3 _ _ _ _ _ _ _ _ _)
   | (with_reducible exact manystrandref07_Valid.mono _ _ _ _ _)
   | (with_reducible exact manystrandref07_of.mono _ _)
   | (with_reducible exact manystrandref07_size.mono _ _)
   | (with_reducible exact LeO.refl _)
   | (with_reducible exact LeO.none _)
   | (with_reducible refine LeO.ite ?_ ?_)
   | (with_reducible refine LeO.bind ?_ (fun _ => ?_))
   | exact ih0 _ _ _ _ _ _ _
   | exact ih1 _ _ _ _ _ _ _ _ _
   | exact ih2 _ _ _ _ _ _ _ _
   | exact ih3 _ _ _ _ _ _ _ _ _
   | exact manystrandref07_Valid.mono _ _ _ _ _
   | exact manystrandref07_of.mono _ _
   | exact manystrandref07_size.mono _ _
   | exact LeO.none _
   | refine LeO.ite ?_ ?_
   | refine LeO.bind ?_ (fun _ => ?_)
  ·intro y0 y1 y2 y3 y4 y5 y6 y7 y8
   unfold manystrandref07_Count.j3
   repeat' first
   | (with_reducible exact ih0 _ _ _ _ _ _ _)
   | (with_reducible exact ih1 _ _ _ _ _ _ _ _ _)
   | (with_reducible exact ih2 _ _ _ _ _ _ _ _)
   | (with_reducible exact ih3 _ _ _ _ _ _ _ _ _)
   | (with_reducible exact manystrandref07_Valid.mono _ _ _ _ _)
   | (with_reducible exact manystrandref07_of.mono _ _)
   | (with_reducible exact manystrandref07_size.mono _ _)
   | (with_reducible exact LeO.refl _)
   | (with_reducible exact LeO.none _)
   | (with_reducible refine LeO.ite ?_ ?_)
   | (with_reducible refine LeO.bind ?_ (fun _ => ?_))
   | exact ih0 _ _ _ _ _ _ _
   | exact ih1 _ _ _ _ _ _ _ _ _
   | exact ih2 _ _ _ _ _ _ _ _
   | exact ih3 _ _ _ _ _ _ _ _ _
   | exact manystrandref07_Valid.mono _ _ _ _ _
   | exact manystrandref07_of.mono _ _
   | exact manystrandref07_size.mono _ _
   | exact LeO.none _
   | refine LeO.ite ?_ ?_
   | refine LeO.bind ?_ (fun _ => ?_)
theorem manystrandref07_Count.mono : ∀ a0 a1 a2 a3 k, LeO (manystrandref07_Count.f k a0 a1 a2 a3) (manystrandref07_Count.f (k + 1) a0 a1 a2 a3) := by
 intro a0 a1 a2 a3 k
 obtain ⟨ih0, ih1, ih2, ih3⟩ := manystrandref07_Count.mono_l k
 unfold manystrandref07_Count.f
 repeat' first
   | (with_reducible exact ih0 _ _ _ _ _ _ _)
   | (with_reducible exact ih1 _ _ _ _ _ _ _ _ _)
   | (with_reducible exact ih2 _ _ _ _ _ _ _ _)
   | (with_reducible exact ih3 _ _ _ _ _ _ _ _ _)
   | (with_reducible exact manystrandref07_Valid.mono _ _ _ _ _)
   | (with_reducible exact manystrandref07_of.mono _ _)
   | (with_reducible exact manystrandref07_size.mono _ _)
   | (with_reducible exact LeO.refl _)
   | (with_reducible exact LeO.none _)
   | (with_reducible refine LeO.ite ?_ ?_)
   | (with_reducible refine LeO.bind ?_ (fun _ => ?_))
   | exact ih0 _ _ _ _ _ _ _
   | exact ih1 _ _ _ _ _ _ _ _ _
   | exact ih2 _ _ _ _ _ _ _ _
   | exact ih3 _ _ _ _ _ _ _ _ _
   | exact manystrandref07_Valid.mono _ _ _ _ _
   | exact manystrandref07_of.mono _ _
   | exact manystrandref07_size.mono _ _
   | exact LeO.none _
   | refine LeO.ite ?_ ?_
   | refine LeO.bind ?_ (fun _ => ?_)
def manystrandref07_Count.T3 : Bool × List (List Nat × List Nat) := (true, [([], []), ([0], [0]), ([1], [1]), ([], []), ([3], [3]), ([4, 2], [4]), ([2, 5, 0, 1, 2], [2]), ([5, 6, 0, 1, 2, 3, 4, 5, 6], [5])])
def manystrandref07_Count.B3 : List Nat := [0, 1, 3, 0, 8, 31, 63, 127]
theorem manystrandref07_Count.tab3 : rtab .any (opsOf Try.f21 3) = manystrandref07_Count.T3 := by kernel_rfl
theorem manystrandref07_Count.bits3 : waitsOk manystrandref07_Count.T3.2 manystrandref07_Count.B3 = true := by kernel_rfl
def manystrandref07_Count.T15 : Bool × List (List Nat × List Nat) := (true, [([], []), ([], []), ([0, 1], [0, 1]), ([2], [2]), ([], []), ([], []), ([4, 5], [4, 5]), ([6], [6]), ([3, 7], [3, 7]), ([0, 1, 0, 1, 2, 3, 4, 5, 6, 7, 8], [0, 1]), ([9, 8, 0, 1, 2, 3, 4, 5, 6, 7, 8], [8, 9])])
def manystrandref07_Count.B15 : List Nat := [0, 0, 3, 7, 0, 0, 48, 112, 255, 511, 1023]
theorem manystrandref07_Count.tab15 : rtab .any (opsOf Try.f21 15) = manystrandref07_Count.T15 := by kernel_rfl
theorem manystrandref07_Count.bits15 : waitsOk manystrandref07_Count.T15.2 manystrandref07_Count.B15 = true := by kernel_rfl
def manystrandref07_Count.T16 : Bool × List (List Nat × List Nat) := (true, [([], []), ([], []), ([1], [1]), ([0, 2], [0, 2]), ([3], [3]), ([], []), ([], []), ([5, 6], [5, 6]), ([7], [7]), ([4, 8], [4, 8]), ([0, 2, 0, 1, 2, 3, 4, 5, 6, 7, 8, 9], [0, 2]), ([10, 9, 0, 1, 2, 3, 4, 5, 6, 7, 8, 9], [9, 10])])
def manystrandref07_Count.B16 : List Nat := [0, 0, 2, 7, 15, 0, 0, 96, 224, 511, 1023, 2047]
theorem manystrandref07_Count.tab16 : rtab .any (opsOf Try.f21 16) = manystrandref07_Count.T16 := by kernel_rfl
theorem manystrandref07_Count.bits16 : waitsOk manystrandref07_Count.T16.2 manystrandref07_Count.B16 = true := by kernel_rfl
set_option maxHeartbeats 8000000 in
set_option maxRecDepth 100000 in
theorem manystrandref07_Count.calls (k : Nat) (A0_0 : Option Addr) (c0_0 : Nat) (l0_0 : List Int) (A0_1 : Option Addr) (c0_1 : Nat) (l0_1 : List Int) (a0_2 : Int) (a0_3 : Int) (r1 : Int) (r2 : Int) (w : World) (hr0_0 : Kd.C (Kd.int .i64) w A0_0 l0_0.length l0_0) (hc0_0 : l0_0.length ≤ c0_0) (hr0_1 : Kd.C (Kd.int .i64) w A0_1 l0_1.length l0_1) (hc0_1 : l0_1.length ≤ c0_1) (h : manystrandref07_Count.f k l0_0 l0_1 a0_2 a0_3 = some (r1, r2)) :
  Calls Try.prog 21 #[.agg #[.slice A0_0 l0_0.length c0_0, .slice A0_1 l0_1.length c0_1, .int .i64 a0_2, .int .i64 a0_3]] w fun e w' => e = .returned (.tuple #[.int .i64 r1, .int .i64 r2]) ∧ Below w.heap.size w w' := by
 have hu37 := Try.underlying37
 have HR0_0 := Aside0.mk hr0_0
 have HC0_0 := Aside0.mk hc0_0
 clear hr0_0 hc0_0
 have HR0_1 := Aside0.mk hr0_1
 have HC0_1 := Aside0.mk hc0_1
 clear hr0_1 hc0_1
 have HB := Aside0.mk (Below.refl w.heap.size w)
 have H : ((manystrandref07_Valid.f k l0_0 l0_1 a0_2 a0_3).bind fun t335 => (if t335 = true then ((manystrandref07_of.f k l0_0).bind fun t336 => ((manystrandref07_of.f k l0_1).bind fun t337 => (if (Go.bits .andNot .u64 t336 t337) = 0 then ((manystrandref07_size.f k (Go.bits .andNot .u64 t337 t336)).bind fun t338 => (manystrandref07_Count.l0 k t338 (([1] : List Int)) 0 l0_0 l0_1 a0_2 a0_3)) else (some (0, 0))))) else (some (0, 2)))) = some (r1, r2) := h
 clear h
 replace H := Option.bind_eq_some_iff.mp H
 obtain ⟨t335, A20, H⟩ := H
 replace H : (if t335 = true then ((manystrandref07_of.f k l0_0).bind fun t336 => ((manystrandref07_of.f k l0_1).bind fun t337 => (if (Go.bits .andNot .u64 t336 t337) = 0 then ((manystrandref07_size.f k (Go.bits .andNot .u64 t337 t336)).bind fun t338 => (manystrandref07_Count.l0 k t338 (([1] : List Int)) 0 l0_0 l0_1 a0_2 a0_3)) else (some (0, 0))))) else (some (0, 2))) = some (r1, r2) := H
 have A2 := Aside0.mk A20
 clear A20
 by_cases c3 : t335 = true
 ·subst c3
  have H1 : ((manystrandref07_of.f k l0_0).bind fun t336 => ((manystrandref07_of.f k l0_1).bind fun t337 => (if (Go.bits .andNot .u64 t336 t337) = 0 then ((manystrandref07_size.f k (Go.bits .andNot .u64 t337 t336)).bind fun t338 => (manystrandref07_Count.l0 k t338 (([1] : List Int)) 0 l0_0 l0_1 a0_2 a0_3)) else (some (0, 0))))) = some (r1, r2) := by rw [if_pos rfl] at H; exact H
  clear H
  have H := H1
  clear H1
  replace H := Option.bind_eq_some_iff.mp H
  obtain ⟨t336, A40, H⟩ := H
  replace H : ((manystrandref07_of.f k l0_1).bind fun t337 => (if (Go.bits .andNot .u64 t336 t337) = 0 then ((manystrandref07_size.f k (Go.bits .andNot .u64 t337 t336)).bind fun t338 => (manystrandref07_Count.l0 k t338 (([1] : List Int)) 0 l0_0 l0_1 a0_2 a0_3)) else (some (0, 0)))) = some (r1, r2) := H
  have A4 := Aside0.mk A40
  clear A40
  replace H := Option.bind_eq_some_iff.mp H
  obtain ⟨t337, A50, H⟩ := H
  replace H : (if (Go.bits .andNot .u64 t336 t337) = 0 then ((manystrandref07_size.f k (Go.bits .andNot .u64 t337 t336)).bind fun t338 => (manystrandref07_Count.l0 k t338 (([1] : List Int)) 0 l0_0 l0_1 a0_2 a0_3)) else (some (0, 0))) = some (r1, r2) := H
  have A5 := Aside0.mk A50
  clear A50
  by_cases c6 : (Go.bits .andNot .u64 t336 t337) = 0
  ·rw [if_pos c6] at H
   have c6b0 : ((Go.bits .andNot .u64 t336 t337) == 0) = true := beq_iff_eq.mpr c6
   have c6b1 : ((Go.bits .andNot .u64 t336 t337) != 0) = false := bne_eq_false_iff_eq.mpr c6
   clear c6
   replace H := Option.bind_eq_some_iff.mp H
   obtain ⟨t338, A70, H⟩ := H
   replace H : (manystrandref07_Count.l0 k t338 (([1] : List Int)) 0 l0_0 l0_1 a0_2 a0_3) = some (r1, r2) := H
   have A7 := Aside0.mk A70
   clear A70
   obtain ⟨y339, hy339⟩ : ∃ y_ : List Int, y_ = (([1] : List Int)) := ⟨_, rfl⟩
   replace H : (manystrandref07_Count.l0 k t338 y339 0 l0_0 l0_1 a0_2 a0_3) = some (r1, r2) := by first | (rw [hy339]; with_reducible exact H) | (have H2_ := (Option.bind_some _ _).symm.trans H; rw [hy339]; with_reducible exact H2_) | (have H2_ := (Option.bind_some _ _).symm.trans H; with_reducible exact H2_) | with_reducible exact H | (rw [hy339]; exact H) | exact H
   have Ny339 := Aside0.mk hy339
   clear hy339
   have H' := Aside0.mk H
   clear H
   go_enter Try.func21, Try.ntmps21
   try go_wp2_with (first | ((with_reducible refine gate_dst (N := 1) rfl ?_); (try (refine gate_guard (by rfl) ?_; dsimp only)); refine box_event ?hg (N := 1) ?hd (cs := #[.slice A0_0 l0_0.length c0_0, .slice A0_1 l0_1.length c0_1, .int .i64 a0_2, .int .i64 a0_3]) (t := 37) ?hr ?_; (case hd => rfl); (case hg => rfl); (case hr => first | (go_simp; done) | (go_simp; rfl)); intro gb334 hg w8 hbox hb; have n0_ := Aside0.mk (below_step bSt_ hb); have n1_ := Aside0.mk (hbox); have n2_ := Aside0.mk ((by rw [hg]; exact (below_size bSt_) : w.heap.size ≤ gb334)); have n3_ := Aside0.mk ((by rw [hg]; exact (below_size bSt_) : w.heap.size ≤ gb334)); clear HB; have HB := n0_; have BK334 := n1_; have GW334 := n2_; have GE334 := n3_; clear n0_ n1_ n2_ n3_; clear hb hbox hg; have hcz9_0 : w8.cell? ⟨gb334, 0, none⟩ = some (.slice A0_0 l0_0.length c0_0) := (blk_cell BK334.out 0).trans rfl; have hcz9_1 : w8.cell? ⟨gb334, 1, none⟩ = some (.slice A0_1 l0_1.length c0_1) := (blk_cell BK334.out 1).trans rfl; have hcz9_2 : w8.cell? ⟨gb334, 2, none⟩ = some (.int .i64 a0_2) := (blk_cell BK334.out 2).trans rfl; have hcz9_3 : w8.cell? ⟨gb334, 3, none⟩ = some (.int .i64 a0_3) := (blk_cell BK334.out 3).trans rfl; have hfz9_0 := blk_frozen BK334.out 0; have hfz9_1 := blk_frozen BK334.out 1; have hfz9_2 := blk_frozen BK334.out 2; have hfz9_3 := blk_frozen BK334.out 3) | ((with_reducible refine gate_callee (f := 23) rfl ?_); refine goesL_ (some 14) rfl rfl Try.func23 (by kernel_rfl) rfl #[.agg #[.slice A0_0 l0_0.length c0_0, .slice A0_1 l0_1.length c0_1, .int .i64 a0_2, .int .i64 a0_3]] rfl (by (try simp only [List.map_toArray, List.map_cons, List.map_nil]); first | done | rfl | (simp only [List.length_drop, List.length_take]; rfl)) ?_; (with_reducible refine (manystrandref07_Valid.calls k _ _ l0_0 _ _ l0_1 a0_2 a0_3 true _ ?side1 ?side2 ?side3 ?side4 A2.out).mono ?_); (case side1 => repeat (first | exact (Kd.C_below HR0_0.out HB.out) | (with_reducible refine Kd.C_alloc ?_ _) | (with_reducible refine Kd.C_drewN ?_ _) | (with_reducible refine Kd.C_drew ?_))); (case side2 => exact HC0_0.out); (case side3 => repeat (first | exact (Kd.C_below HR0_1.out HB.out) | (with_reducible refine Kd.C_alloc ?_ _) | (with_reducible refine Kd.C_drewN ?_ _) | (with_reducible refine Kd.C_drew ?_))); (case side4 => exact HC0_1.out); rintro e w10 ⟨rfl, hb⟩; refine ⟨_, rfl, ?_⟩; have n0_ := Aside0.mk (blk_below (bKq_ BK334.out) hb); have n1_ := Aside0.mk (below_step bSt_ hb); clear BK334; clear HB; have BK334 := n0_; have HB := n1_; clear n0_ n1_; (try clear hb); (try clear hb2); (try clear hk); (try clear hi)))
   have n0_ := Aside0.mk (blk_drew BK334.out)
   have n1_ := Aside0.mk (below_drew1 HB.out)
   clear BK334
   clear HB
   have BK334 := n0_
   have HB := n1_
   clear n0_ n1_
   refine start_ (n := 8) (S := fun w' => w'.cell? ⟨gb334, 0, none⟩ = some (.slice A0_0 l0_0.length c0_0) ∧ w'.cell? ⟨gb334, 1, none⟩ = some (.slice A0_1 l0_1.length c0_1) ∧ w'.cell? ⟨gb334, 2, none⟩ = some (.int .i64 a0_2) ∧ w'.cell? ⟨gb334, 3, none⟩ = some (.int .i64 a0_3)) (ds := []) #[false, false, false, false, false, false, false, false] (by kernel_rfl) rfl rfl ⟨(blk_cell BK334.out 0).trans rfl, (blk_cell BK334.out 1).trans rfl, (blk_cell BK334.out 2).trans rfl, (blk_cell BK334.out 3).trans rfl⟩ (fun hHeld => ?_); refine with_tabW manystrandref07_Count.tab3 manystrandref07_Count.bits3 (fun HT_ HW_ => ?_)
   generalize w10.drew = w11 at BK334 HB hHeld ⊢
   refine pure_ (i := 0) (N := some 16) (v := ?_) (a' := ?_) #[true, false, false, false, false, false, false, false] rfl rfl (any_of HT_.out (by kernel_rfl)) (fun _ _ _ h => h) (Or.inl ⟨by rfl, ?_⟩) ?_ ?_
   rotate_left
   ·intro w'
    go_simp
    with_reducible rfl
   rotate_left
   ·simp only [Act.put, List.setIfInBounds_toArray, List.set_cons_zero, List.set_cons_succ, i64_w, i32_w]
    rfl
   refine pure_ (i := 3) (N := some 19) (v := ?_) (a' := ?_) #[true, false, false, true, false, false, false, false] rfl rfl (any_of HT_.out (by kernel_rfl)) (fun _ _ _ h => h) (Or.inl ⟨by rfl, ?_⟩) ?_ ?_
   rotate_left
   ·intro w'
    go_simp
    with_reducible rfl
   rotate_left
   ·simp only [Act.put, List.setIfInBounds_toArray, List.set_cons_zero, List.set_cons_succ, i64_w, i32_w]
    rfl
   refine take_ (i := 1) (N := some 17) (v := ?_) (a' := ?_) #[true, true, false, true, false, false, false, false] rfl rfl (take_ofW HT_.out HW_.out (by kernel_rfl)) (fun _ _ _ h => h) (Or.inl ⟨by rfl, ?_⟩) hHeld ?_ ?_
   rotate_left
   ·rintro w' ⟨s0, s1, s2, s3⟩
    go_simp
    with_reducible rfl
   rotate_left
   ·simp only [Act.put, List.setIfInBounds_toArray, List.set_cons_zero, List.set_cons_succ, i64_w, i32_w]
    rfl
   refine take_ (i := 4) (N := some 20) (v := ?_) (a' := ?_) #[true, true, false, true, true, false, false, false] rfl rfl (take_ofW HT_.out HW_.out (by kernel_rfl)) (fun _ _ _ h => h) (Or.inl ⟨by rfl, ?_⟩) hHeld ?_ ?_
   rotate_left
   ·rintro w' ⟨s0, s1, s2, s3⟩
    go_simp
    with_reducible rfl
   rotate_left
   ·simp only [Act.put, List.setIfInBounds_toArray, List.set_cons_zero, List.set_cons_succ, i64_w, i32_w]
    rfl
   refine one_ (i := 2) (N := some 18) #[true, true, true, true, true, false, false, false] rfl rfl (one_of HT_.out (by kernel_rfl)) (by decide) (fun K hK => ?_)
   refine goes_ Try.func46 (by kernel_rfl) rfl #[.slice A0_0 l0_0.length c0_0] (by rfl) rfl rfl (by (try simp only [List.map_toArray, List.map_cons, List.map_nil]); first | done | rfl | (simp only [List.length_drop, List.length_take]; rfl)) ?_
   with_reducible refine (manystrandref07_of.calls k _ _ l0_0 t336 _ ?side1 ?side2 A4.out).mono ?_
   (case side1 => repeat (first | exact (Kd.C_below HR0_0.out HB.out) | (with_reducible refine Kd.C_alloc ?_ _) | (with_reducible refine Kd.C_drewN ?_ _) | (with_reducible refine Kd.C_drew ?_)))
   (case side2 => exact HC0_0.out)
   rintro e w' ⟨rfl, ⟨nd, rfl⟩⟩
   refine ⟨_, rfl, ?_⟩
   refine hK.out _ _ ⟨(blk_cell BK334.out 0).trans rfl, (blk_cell BK334.out 1).trans rfl, (blk_cell BK334.out 2).trans rfl, (blk_cell BK334.out 3).trans rfl⟩ (fun hHeld => ?_)
   clear hK K
   refine norm_ (a' := ?_) ?_ ?_
   rotate_left
   ·show Act.put _ (some 18) _ = _
    simp only [Act.put, List.setIfInBounds_toArray, List.set_cons_zero, List.set_cons_succ, i64_w, i32_w]
    rfl
   refine one_ (i := 5) (N := some 21) #[true, true, true, true, true, true, false, false] rfl rfl (one_of HT_.out (by kernel_rfl)) (by decide) (fun K hK => ?_)
   refine goes_ Try.func46 (by kernel_rfl) rfl #[.slice A0_1 l0_1.length c0_1] (by rfl) rfl rfl (by (try simp only [List.map_toArray, List.map_cons, List.map_nil]); first | done | rfl | (simp only [List.length_drop, List.length_take]; rfl)) ?_
   with_reducible refine (manystrandref07_of.calls k _ _ l0_1 t337 _ ?side1 ?side2 A5.out).mono ?_
   (case side1 => repeat (first | exact (Kd.C_below HR0_1.out bSt_) | (with_reducible refine Kd.C_alloc ?_ _) | (with_reducible refine Kd.C_drewN ?_ _) | (with_reducible refine Kd.C_drew ?_)))
   (case side2 => exact HC0_1.out)
   rintro e w' ⟨rfl, ⟨nd, rfl⟩⟩
   refine ⟨_, rfl, ?_⟩
   refine hK.out _ _ ⟨(blk_cell BK334.out 0).trans rfl, (blk_cell BK334.out 1).trans rfl, (blk_cell BK334.out 2).trans rfl, (blk_cell BK334.out 3).trans rfl⟩ (fun hHeld => ?_)
   clear hK K
   refine norm_ (a' := ?_) ?_ ?_
   rotate_left
   ·show Act.put _ (some 21) _ = _
    simp only [Act.put, List.setIfInBounds_toArray, List.set_cons_zero, List.set_cons_succ, i64_w, i32_w]
    rfl
   refine pure_ (i := 6) (N := some 4) (v := ?_) (a' := ?_) #[true, true, true, true, true, true, true, false] rfl rfl (any_of HT_.out (by kernel_rfl)) (fun _ _ _ h => h) (Or.inl ⟨by rfl, ?_⟩) ?_ ?_
   rotate_left
   ·intro w'
    go_simp
    with_reducible rfl
   rotate_left
   ·simp only [Act.put, List.setIfInBounds_toArray, List.set_cons_zero, List.set_cons_succ, i64_w, i32_w]
    rfl
   refine pure_ (i := 7) (N := some 5) (v := ?_) (a' := ?_) #[true, true, true, true, true, true, true, true] rfl rfl (any_of HT_.out (by kernel_rfl)) (fun _ _ _ h => h) (Or.inl ⟨by rfl, ?_⟩) ?_ ?_
   rotate_left
   ·intro w'
    go_simp
    with_reducible rfl
   rotate_left
   ·simp only [Act.put, List.setIfInBounds_toArray, List.set_cons_zero, List.set_cons_succ, i64_w, i32_w]
    rfl
   refine done_ (done_of HT_.out (by kernel_rfl)) ?_
   try go_wp2_with (first | ((with_reducible refine gate_callee (f := 48) rfl ?_); refine goesL_ (some 29) rfl rfl Try.func48 (by kernel_rfl) rfl #[.int .u64 (Go.bits .andNot .u64 t337 t336)] rfl (by (try simp only [List.map_toArray, List.map_cons, List.map_nil]); first | done | rfl | (simp only [List.length_drop, List.length_take]; rfl)) ?_; (with_reducible refine (manystrandref07_size.calls k (Go.bits .andNot .u64 t337 t336) t338 _ A7.out).mono ?_); rintro e w12 ⟨rfl, hb⟩; refine ⟨_, rfl, ?_⟩; have n0_ := Aside0.mk (blk_below (bKq_ BK334.out) hb); have n1_ := Aside0.mk (below_step bSt_ hb); clear BK334; clear HB; have BK334 := n0_; have HB := n1_; clear n0_ n1_; (try clear hb); (try clear hb2); (try clear hk); (try clear hi)) | ((with_reducible refine gate_dst (N := 30) rfl ?_); (try (refine gate_guard (by rfl) ?_; dsimp only)); refine Kd.R_lit (Kd.int .u64) _ 57 ?hg (N := 30) ?hd (xs := ([1] : List Int)) (inner := [.int .u64 1]) (ok := fun _ => True) (okp := fun _ => True) ?hr ?hp (fun _ hk => hk) trivial (Below.refl _ _) (Nat.le_refl _) (by simp) ?_; (case hd => rfl); (case hg => rfl); (case hr => first | (go_simp; done) | (go_simp; rfl)); (case hp => exact (Reps.one (show Kd.M (Kd.int .u64) _ _ _ 1 [.int .u64 1] from rfl) (Reps.none _ _))); intro v340 w13 ho14 hb hg_ hnew_; clear hg_ hnew_; (first | rw [← Ny339.out] at ho14 | (simp only [Int.reduceToNat] at ho14; rw [← Ny339.out] at ho14)); have n0_ := Aside0.mk (Kd.R_lower ho14 (below_size bSt_)); have n1_ := Aside0.mk (blk_below (bKq_ BK334.out) hb); have n2_ := Aside0.mk (below_step bSt_ hb); clear BK334; clear HB; have HO341 := n0_; have BK334 := n1_; have HB := n2_; clear n0_ n1_ n2_; clear hb ho14))
   go_loopg [7, 8] k (fun kq v7 v8 w' => ∃ (x7_1 : List Int) (x8_1 : Int), v8 = .int .i64 x8_1 ∧ Aside0 (manystrandref07_Count.l0 kq t338 x7_1 x8_1 l0_0 l0_1 a0_2 a0_3 = some (r1, r2)) ∧ Aside0 (kq ≤ k) ∧ Aside0 (Kd.R (Kd.int .u64) 57 w' w.heap.size (fun _ => True) v7 x7_1) ∧ Aside0 (w'.heap[gb334]? = some (.cells #[(.slice A0_0 l0_0.length c0_0), (.slice A0_1 l0_1.length c0_1), .int .i64 a0_2, .int .i64 a0_3] 37 (0, 0))) ∧ Aside0 (Below w.heap.size w w'))
   case atStart => exact ⟨(y339), (0), (by first | rfl | (simp; done) | (simp [*]; done)), H', ⟨Nat.le_refl _⟩, ⟨by (with_reducible repeat (first | apply Kd.R_alloc | apply Kd.R_drewN | apply Kd.R_drew)); exact HO341.out⟩, ⟨bKq_ BK334.out⟩, ⟨bSt_⟩⟩
   case round =>
    clear H'
    try clear c2
    try clear p2
    try clear c3
    try clear c4
    try clear c6
    try clear c6b0
    try clear c6b1
    try clear hcz9_0
    try clear hcz9_1
    try clear hcz9_2
    try clear hcz9_3
    try clear hfz9_0
    try clear hfz9_1
    try clear hfz9_2
    try clear hfz9_3
    obtain ⟨x7_1, x8_1, rfl, HA, HK1, HO_7, BK334, HB⟩ := hrel
    cases gk with
    | zero => exact absurd HA.out (by simp [manystrandref07_Count.l0])
    | succ k1 =>
     have H := HA.out
     clear HA
     simp only [manystrandref07_Count.l0] at H
     by_cases c15 : x8_1 < t338
     ·rw [if_pos c15] at H
      have c15b0 : decide (x8_1 < t338) = true := decide_eq_true c15
      clear c15
      obtain ⟨ji16, hji16⟩ : ∃ j_ : Int, (wrap64 ((x7_1.length : Int) + 1)) = j_ := ⟨_, rfl⟩
      replace H : (if 0 ≤ (ji16) then (if (ji16 : Int).toNat ≤ 35184372088832 then (manystrandref07_Count.l1 k1 t338 x7_1 x8_1 (List.replicate (ji16 : Int).toNat 0) 0 l0_0 l0_1 a0_2 a0_3) else (none)) else (none)) = some (r1, r2) := by first | (rw [hji16] at H; exact H) | (simp only [hji16] at H ⊢; exact H)
      have hji16w : (IntKind.i64.wrap ((x7_1.length : Int) + 1)) = ji16 := (i64_w _).trans hji16
      by_cases c17 : 0 ≤ (ji16)
      ·rw [if_pos c17] at H
       have c17b0 := eq_true c17
       have c17b1 : decide (0 ≤ (ji16)) = true := decide_eq_true c17
       clear c17
       by_cases c18 : (ji16 : Int).toNat ≤ 35184372088832
       ·rw [if_pos c18] at H
        have c18b0 := eq_true c18
        have c18b1 : decide ((ji16 : Int).toNat ≤ 35184372088832) = true := decide_eq_true c18
        clear c18
        obtain ⟨y342, hy342⟩ : ∃ y_ : List Int, y_ = (List.replicate (ji16 : Int).toNat 0) := ⟨_, rfl⟩
        replace H : (manystrandref07_Count.l1 k1 t338 x7_1 x8_1 y342 0 l0_0 l0_1 a0_2 a0_3) = some (r1, r2) := by first | (rw [hy342]; with_reducible exact H) | (have H2_ := (Option.bind_some _ _).symm.trans H; rw [hy342]; with_reducible exact H2_) | (have H2_ := (Option.bind_some _ _).symm.trans H; with_reducible exact H2_) | with_reducible exact H | (rw [hy342]; exact H) | exact H
        have Ny342 := Aside0.mk hy342
        clear hy342
        have H' := Aside0.mk H
        clear H
        obtain ⟨Ao19, co19, eo19⟩ := Kd.R_slice HO_7.out
        subst eo19
        go_wp2_with (first | ((with_reducible refine gate_dst (N := 39) rfl ?_); (try (refine gate_guard (by rfl) ?_; dsimp only)); refine Kd.R_make (Kd.int .u64) _ 57 rfl (N := 39) rfl 78 _ _ rfl ji16 rfl rfl Try.underlying78 (.int .u64 0) 8 info57 rfl (by decide) (by omega) 0 (ok := fun _ => True) (okp := fun _ => True) rfl (fun _ hk => hk) trivial (of_decide_eq_true (by first | (with_reducible assumption) | assumption)) (Nat.le_trans (Nat.mul_le_mul_right _ (of_decide_eq_true (by first | (with_reducible assumption) | assumption) : ji16.toNat ≤ 35184372088832)) (by omega)) (Below.refl _ _) (Nat.le_refl _) ?_; intro v343 w20 ho21 hb hg_ hnew_; clear hg_ hnew_; (first | rw [← Ny342.out] at ho21 | (simp only [Int.reduceToNat] at ho21; rw [← Ny342.out] at ho21)); have n0_ := Aside0.mk (Kd.R_elder' (by (with_reducible repeat (first | apply Kd.R_alloc | apply Kd.R_drewN | apply Kd.R_drew)); exact HO_7.out) (Kd.R_base ho21) hb); have n1_ := Aside0.mk (Kd.R_lower (Kd.R_new' ho21 (Kd.R_lt (by (with_reducible repeat (first | apply Kd.R_alloc | apply Kd.R_drewN | apply Kd.R_drew)); exact HO_7.out))) (below_size bSt_)); have n2_ := Aside0.mk (blk_below (bKq_ BK334.out) hb); have n3_ := Aside0.mk (below_step bSt_ hb); clear HO_7; clear BK334; clear HB; have HO_7 := n0_; have HO344 := n1_; have BK334 := n2_; have HB := n3_; clear n0_ n1_ n2_ n3_; clear hb ho21))
        try simp only [Act.put, List.setIfInBounds_toArray, List.set_cons_zero, List.set_cons_succ]
        go_loopg [10] k1 (fun kq v10 w' => ∃ (x9_2 : List Int) (x10_2 : Int), v10 = .int .i64 x10_2 ∧ Aside0 (manystrandref07_Count.l1 kq t338 x7_1 x8_1 x9_2 x10_2 l0_0 l0_1 a0_2 a0_3 = some (r1, r2)) ∧ Aside0 (kq ≤ k1) ∧ Aside0 (Kd.R (Kd.int .u64) 57 w' w.heap.size (fun k_ => some k_ ≠ (v343 : Value).ownBlock) (.slice Ao19 x7_1.length co19) x7_1) ∧ Aside0 (Kd.R (Kd.int .u64) 57 w' w.heap.size (fun k_ => some k_ ≠ ((.slice Ao19 x7_1.length co19) : Value).ownBlock) v343 x9_2) ∧ Aside0 (w'.heap[gb334]? = some (.cells #[(.slice A0_0 l0_0.length c0_0), (.slice A0_1 l0_1.length c0_1), .int .i64 a0_2, .int .i64 a0_3] 37 (0, 0))) ∧ Aside0 (Below w.heap.size w w'))
        case atStart => exact ⟨(y342), (0), (by first | rfl | (simp; done) | (simp [*]; done)), H', ⟨Nat.le_refl _⟩, ⟨by (with_reducible repeat (first | apply Kd.R_alloc | apply Kd.R_drewN | apply Kd.R_drew)); exact Kd.R_mono HO_7.out (fun _ hk => hk.2)⟩, ⟨by (with_reducible repeat (first | apply Kd.R_alloc | apply Kd.R_drewN | apply Kd.R_drew)); exact Kd.R_mono HO344.out (fun _ hk => hk.2)⟩, ⟨bKq_ BK334.out⟩, ⟨bSt_⟩⟩
        case round =>
         clear H'
         try clear c1
         try clear c2
         try clear p2
         try clear c3
         try clear c4
         try clear c6
         try clear c6b0
         try clear c6b1
         try clear p6
         try clear c15
         try clear c15b0
         try clear c17
         try clear c17b0
         try clear c17b1
         try clear c18
         try clear c18b0
         try clear c18b1
         try clear c21
         try clear hcz9_0
         try clear hcz9_1
         try clear hcz9_2
         try clear hcz9_3
         try clear hfz9_0
         try clear hfz9_1
         try clear hfz9_2
         try clear hfz9_3
         try clear p2
         obtain ⟨x9_2, x10_2, rfl, HA, HK2, HO_7, HO_9, BK334, HB⟩ := hrel
         cases gk with
         | zero => exact absurd HA.out (by simp [manystrandref07_Count.l1])
         | succ k2 =>
          have H := HA.out
          clear HA
          simp only [manystrandref07_Count.l1] at H
          by_cases c22 : x10_2 < (x7_1.length : Int)
          ·rw [if_pos c22] at H
           have c22b0 : decide (x10_2 < (x7_1.length : Int)) = true := decide_eq_true c22
           clear c22
           by_cases c23 : 0 ≤ x10_2
           ·rw [if_pos c23] at H
            have c23b0 : decide (0 ≤ x10_2) = true := decide_eq_true c23
            clear c23
            by_cases c24 : x10_2 < (x9_2.length : Int)
            ·rw [if_pos c24] at H
             have c24b0 : decide (x10_2 < (x9_2.length : Int)) = true := decide_eq_true c24
             clear c24
             obtain ⟨y347, hy347⟩ : ∃ y_ : List Int, y_ = (x9_2.set (x10_2 : Int).toNat (IntKind.u64.wrap ((rd x9_2 x10_2) + (rd x7_1 x10_2)))) := ⟨_, rfl⟩
             replace H : (if 0 ≤ (wrap64 (x10_2 + 1)) then (if (wrap64 (x10_2 + 1)) < (x9_2.length : Int) then (manystrandref07_Count.l1 k2 t338 x7_1 x8_1 (y347.set ((wrap64 (x10_2 + 1)) : Int).toNat (IntKind.u64.wrap ((rd y347 (wrap64 (x10_2 + 1))) + (rd x7_1 x10_2)))) (wrap64 (x10_2 + 1)) l0_0 l0_1 a0_2 a0_3) else (none)) else (none)) = some (r1, r2) := by first | (rw [hy347]; with_reducible exact H) | (have H2_ := (Option.bind_some _ _).symm.trans H; rw [hy347]; with_reducible exact H2_) | (have H2_ := (Option.bind_some _ _).symm.trans H; with_reducible exact H2_) | with_reducible exact H | (rw [hy347]; exact H) | exact H
             have Ny347 := Aside0.mk hy347
             clear hy347
             obtain ⟨ji26, hji26⟩ : ∃ j_ : Int, (wrap64 (x10_2 + 1)) = j_ := ⟨_, rfl⟩
             replace H : (if 0 ≤ (ji26) then (if (ji26) < (x9_2.length : Int) then (manystrandref07_Count.l1 k2 t338 x7_1 x8_1 (y347.set ((ji26) : Int).toNat (IntKind.u64.wrap ((rd y347 (ji26)) + (rd x7_1 x10_2)))) ji26 l0_0 l0_1 a0_2 a0_3) else (none)) else (none)) = some (r1, r2) := by first | (rw [hji26] at H; exact H) | (simp only [hji26] at H ⊢; exact H)
             have hji26w : (IntKind.i64.wrap (x10_2 + 1)) = ji26 := (i64_w _).trans hji26
             by_cases c27 : 0 ≤ (ji26)
             ·rw [if_pos c27] at H
              have c27b0 : decide (0 ≤ (ji26)) = true := decide_eq_true c27
              clear c27
              by_cases c28 : (ji26) < (x9_2.length : Int)
              ·rw [if_pos c28] at H
               have c28b0 : decide ((ji26) < (x9_2.length : Int)) = true := decide_eq_true c28
               clear c28
               obtain ⟨y350, hy350⟩ : ∃ y_ : List Int, y_ = (y347.set ((ji26) : Int).toNat (IntKind.u64.wrap ((rd y347 (ji26)) + (rd x7_1 x10_2)))) := ⟨_, rfl⟩
               replace H : (manystrandref07_Count.l1 k2 t338 x7_1 x8_1 y350 ji26 l0_0 l0_1 a0_2 a0_3) = some (r1, r2) := by first | (rw [hy350]; with_reducible exact H) | (have H2_ := (Option.bind_some _ _).symm.trans H; rw [hy350]; with_reducible exact H2_) | (have H2_ := (Option.bind_some _ _).symm.trans H; with_reducible exact H2_) | with_reducible exact H | (rw [hy350]; exact H) | exact H
               have Ny350 := Aside0.mk hy350
               clear hy350
               have H' := Aside0.mk H
               clear H
               try go_wp2
               have n0_ := Aside0.mk (Kd.R_drew HO_7.out)
               have n1_ := Aside0.mk (Kd.R_drew HO_9.out)
               have n2_ := Aside0.mk (blk_drew BK334.out)
               have n3_ := Aside0.mk (below_drew1 HB.out)
               clear HO_7
               clear HO_9
               clear BK334
               clear HB
               have HO_7 := n0_
               have HO_9 := n1_
               have BK334 := n2_
               have HB := n3_
               clear n0_ n1_ n2_ n3_
               obtain ⟨Ao31, co31, eo31⟩ := Kd.R_slice HO_9.out
               (first | subst eo31 | (injection eo31 with f1_ f2_ f3_; have f4_ := f1_.symm; have f5_ := f3_.symm; clear f1_ f2_ f3_; subst f4_; subst f5_))
               have p345 : 0 ≤ (x10_2 : Int) := of_decide_eq_true (by first | (with_reducible assumption) | assumption)
               have q345 : x10_2 < (x9_2.length : Int) := of_decide_eq_true (by first | (with_reducible assumption) | assumption)
               obtain ⟨ad345, e345, hx345_0⟩ := Kd.at_int (Kd.R_reads' HO_9.out).2.2 x10_2 p345 q345
               cases e345
               replace p345 := eq_true p345
               replace q345 := eq_true q345
               have p346 : 0 ≤ (x10_2 : Int) := of_decide_eq_true (by first | (with_reducible assumption) | assumption)
               have q346 : x10_2 < (x7_1.length : Int) := of_decide_eq_true (by first | (with_reducible assumption) | assumption)
               obtain ⟨ad346, e346, hx346_0⟩ := Kd.at_int (Kd.R_reads' HO_7.out).2.2 x10_2 p346 q346
               cases e346
               replace p346 := eq_true p346
               replace q346 := eq_true q346
               have p25 : 0 ≤ (x10_2 : Int) := of_decide_eq_true (by first | (with_reducible assumption) | assumption)
               have q25 : (x10_2 : Int) < ((x9_2.length : Int) : Int) := of_decide_eq_true (by first | (with_reducible assumption) | assumption)
               obtain ⟨go25, co25, eo25, gb25, gl25, cl25, HG25⟩ := Kd.R_form HO_9.out (by omega)
               (first | cases eo25 | (injection eo25 with ea_ en_ ec_; (first | subst ea_ | (injection ea_ with ea_; subst ea_)); subst ec_; clear en_))
               have GB25 := Aside0.mk gb25
               have GG25 := Aside0.mk HG25
               clear gb25 gl25 HG25
               (first | simp only [add_plain] at hx345_0 | skip)
               obtain ⟨hx25_0, hf25_0⟩ := Kd.R_celln 0 HO_9.out (x10_2 : Int) p25 q25
               replace p25 := eq_true p25
               replace q25 := eq_true q25
               have HP32 := Kd.R_putn HO_9.out (x10_2 : Int) (IntKind.u64.wrap ((rd x9_2 x10_2) + (rd x7_1 x10_2)))
               rw [← Ny347.out] at HP32
               have HQ32 := Aside0.mk HP32
               clear HP32
               refine start_ (n := 11) (S := fun w' => w'.cell? ⟨go25, (x10_2).toNat, none⟩ = some (.int .u64 (rd x9_2 x10_2)) ∧ w'.cell? (ad346.add (x10_2).toNat) = some (.int .u64 (rd x7_1 x10_2))) (ds := [10]) #[false, false, false, false, false, false, false, false, false, false, false] (by kernel_rfl) rfl rfl ⟨hx345_0, hx346_0⟩ (fun hHeld => ?_); refine with_tabW manystrandref07_Count.tab15 manystrandref07_Count.bits15 (fun HT_ HW_ => ?_)
               generalize wr.drew = w30 at HO_7 HO_9 BK334 HB GG25 HQ32 hf25_0 hx25_0 hx345_0 hx346_0 hHeld ⊢
               refine pure_ (i := 0) (N := some 46) (v := ?_) (a' := ?_) #[true, false, false, false, false, false, false, false, false, false, false] rfl rfl (any_of HT_.out (by kernel_rfl)) (fun _ _ _ h => h) (Or.inl ⟨by rfl, ?_⟩) ?_ ?_
               rotate_left
               ·intro w'
                go_simp
                with_reducible rfl
               rotate_left
               ·simp only [Act.put, List.setIfInBounds_toArray, List.set_cons_zero, List.set_cons_succ, i64_w, i32_w]
                rfl
               refine pure_ (i := 1) (N := some 47) (v := ?_) (a' := ?_) #[true, true, false, false, false, false, false, false, false, false, false] rfl rfl (any_of HT_.out (by kernel_rfl)) (fun _ _ _ h => h) (Or.inl ⟨by rfl, ?_⟩) ?_ ?_
               rotate_left
               ·intro w'
                go_simp
                with_reducible rfl
               rotate_left
               ·simp only [Act.put, List.setIfInBounds_toArray, List.set_cons_zero, List.set_cons_succ, i64_w, i32_w]
                rfl
               refine pure_ (i := 2) (N := some 48) (v := ?_) (a' := ?_) #[true, true, true, false, false, false, false, false, false, false, false] rfl rfl (any_of HT_.out (by kernel_rfl)) (fun _ _ _ h => h) (Or.inl ⟨by rfl, ?_⟩) ?_ ?_
               rotate_left
               ·intro w'
                go_simp
                with_reducible rfl
               rotate_left
               ·simp only [Act.put, List.setIfInBounds_toArray, List.set_cons_zero, List.set_cons_succ, i64_w, i32_w]
                rfl
               refine pure_ (i := 4) (N := some 50) (v := ?_) (a' := ?_) #[true, true, true, false, true, false, false, false, false, false, false] rfl rfl (any_of HT_.out (by kernel_rfl)) (fun _ _ _ h => h) (Or.inl ⟨by rfl, ?_⟩) ?_ ?_
               rotate_left
               ·intro w'
                go_simp
                with_reducible rfl
               rotate_left
               ·simp only [Act.put, List.setIfInBounds_toArray, List.set_cons_zero, List.set_cons_succ, i64_w, i32_w]
                rfl
               refine pure_ (i := 5) (N := some 51) (v := ?_) (a' := ?_) #[true, true, true, false, true, true, false, false, false, false, false] rfl rfl (any_of HT_.out (by kernel_rfl)) (fun _ _ _ h => h) (Or.inl ⟨by rfl, ?_⟩) ?_ ?_
               rotate_left
               ·intro w'
                go_simp
                with_reducible rfl
               rotate_left
               ·simp only [Act.put, List.setIfInBounds_toArray, List.set_cons_zero, List.set_cons_succ, i64_w, i32_w]
                rfl
               refine pure_ (i := 6) (N := some 52) (v := ?_) (a' := ?_) #[true, true, true, false, true, true, true, false, false, false, false] rfl rfl (any_of HT_.out (by kernel_rfl)) (fun _ _ _ h => h) (Or.inl ⟨by rfl, ?_⟩) ?_ ?_
               rotate_left
               ·intro w'
                go_simp
                with_reducible rfl
               rotate_left
               ·simp only [Act.put, List.setIfInBounds_toArray, List.set_cons_zero, List.set_cons_succ, i64_w, i32_w]
                rfl
               refine take_ (i := 3) (N := some 49) (v := ?_) (a' := ?_) #[true, true, true, true, true, true, true, false, false, false, false] rfl rfl (take_ofW HT_.out HW_.out (by kernel_rfl)) (fun _ _ _ h => h) (Or.inl ⟨by rfl, ?_⟩) hHeld ?_ ?_
               rotate_left
               ·rintro w' ⟨s0, s1⟩
                go_simp
                with_reducible rfl
               rotate_left
               ·simp only [Act.put, List.setIfInBounds_toArray, List.set_cons_zero, List.set_cons_succ, i64_w, i32_w]
                rfl
               refine take_ (i := 7) (N := some 53) (v := ?_) (a' := ?_) #[true, true, true, true, true, true, true, true, false, false, false] rfl rfl (take_ofW HT_.out HW_.out (by kernel_rfl)) (fun _ _ _ h => h) (Or.inl ⟨by rfl, ?_⟩) hHeld ?_ ?_
               rotate_left
               ·rintro w' ⟨s0, s1⟩
                go_simp
                with_reducible rfl
               rotate_left
               ·simp only [Act.put, List.setIfInBounds_toArray, List.set_cons_zero, List.set_cons_succ, i64_w, i32_w]
                rfl
               refine pure_ (i := 8) (N := some 54) (v := ?_) (a' := ?_) #[true, true, true, true, true, true, true, true, true, false, false] rfl rfl (any_of HT_.out (by kernel_rfl)) (fun _ _ _ h => h) (Or.inl ⟨by rfl, ?_⟩) ?_ ?_
               rotate_left
               ·intro w'
                go_simp
                with_reducible rfl
               rotate_left
               ·simp only [Act.put, List.setIfInBounds_toArray, List.set_cons_zero, List.set_cons_succ, i64_w, i32_w]
                rfl
               refine pure_ (i := 9) (N := some 55) (v := ?_) (a' := ?_) #[true, true, true, true, true, true, true, true, true, true, false] rfl rfl (any_of HT_.out (by kernel_rfl)) (fun _ _ _ h => h) (Or.inl ⟨by rfl, ?_⟩) ?_ ?_
               rotate_left
               ·intro w'
                go_simp
                with_reducible rfl
               rotate_left
               ·simp only [Act.put, List.setIfInBounds_toArray, List.set_cons_zero, List.set_cons_succ, i64_w, i32_w]
                rfl
               refine last_ (i := 10) (N := none) #[true, true, true, true, true, true, true, true, true, true, true] rfl rfl (one_of HT_.out (by kernel_rfl)) (by decide) (fun K hK => ?_)
               refine skip_ (w1 := ?_) (by rfl) rfl ?_ ?_
               rotate_left
               ·go_simp
                rfl
               refine hK.out _ _ ?_
               clear hK K
               refine done_ (done_of HT_.out (by kernel_rfl)) ?_
               try go_wp2
               have n0_ : Aside0 (Kd.R (Kd.int .u64) 57 (w30.setCell ⟨go25, (x10_2 : Int).toNat, none⟩ (.int .u64 (IntKind.u64.wrap ((rd x9_2 x10_2) + (rd x7_1 x10_2))))) w.heap.size (fun k_ => some k_ ≠ (.slice (some ⟨go25, 0, none⟩) x9_2.length co31 : Value).ownBlock) (.slice (some ad346) x7_1.length co19) x7_1) := ⟨by (with_reducible repeat (first | apply Kd.R_alloc | apply Kd.R_drewN | apply Kd.R_drew)); exact Kd.R_mono (Kd.R_far (p := ⟨go25, (x10_2 : Int).toNat, none⟩) (Kd.R_mono HO_7.out (fun k_ hk => (⟨hk, fun e_ => hk (by rw [e_]; rfl)⟩ : _ ∧ k_ ≠ go25))) (fun _ hk => hk.2) (.int .u64 (IntKind.u64.wrap ((rd x9_2 x10_2) + (rd x7_1 x10_2))))) (fun _ hk => hk.1)⟩
               have n1_ : Aside0 (Kd.R (Kd.int .u64) 57 (w30.setCell ⟨go25, (x10_2 : Int).toNat, none⟩ (.int .u64 (IntKind.u64.wrap ((rd x9_2 x10_2) + (rd x7_1 x10_2))))) w.heap.size (fun k_ => some k_ ≠ (.slice (some ad346) x7_1.length co19 : Value).ownBlock) (.slice (some ⟨go25, 0, none⟩) x9_2.length co31) y347) := ⟨by (with_reducible repeat (first | apply Kd.R_alloc | apply Kd.R_drewN | apply Kd.R_drew)); exact HQ32.out⟩
               have n2_ : Aside0 ((w30.setCell ⟨go25, (x10_2 : Int).toNat, none⟩ (.int .u64 (IntKind.u64.wrap ((rd x9_2 x10_2) + (rd x7_1 x10_2))))).heap[gb334]? = some (.cells #[.slice A0_0 l0_0.length c0_0, .slice A0_1 l0_1.length c0_1, .int .i64 a0_2, .int .i64 a0_3] 37 (0, 0))) := ⟨by (with_reducible repeat (first | refine blk_drewN ?_ _ | refine blk_drew ?_ | refine blk_alloc ?_ _)); refine blk_far ?_ (by have h_ := Kd.R_ne HO_9.out BK334.out (by decide); intro e_; exact h_ (by rw [e_]; rfl)) _; (with_reducible repeat (first | refine blk_drewN ?_ _ | refine blk_drew ?_ | refine blk_alloc ?_ _)); exact BK334.out⟩
               have n3_ : Aside0 (Below w.heap.size w (w30.setCell ⟨go25, (x10_2 : Int).toNat, none⟩ (.int .u64 (IntKind.u64.wrap ((rd x9_2 x10_2) + (rd x7_1 x10_2)))))) := ⟨by repeat (first | (with_reducible first | exact HB.out | apply below_alloc | apply pw_below_drewN | apply below_drew1 | refine below_set ?_ GB25.out | refine below_set ?_ GE334.out) | exact HB.out)⟩
               (try clear HO_7)
               (try clear HO_9)
               (try clear BK334)
               (try clear HB)
               generalize (w30.setCell ⟨go25, (x10_2 : Int).toNat, none⟩ (.int .u64 (IntKind.u64.wrap ((rd x9_2 x10_2) + (rd x7_1 x10_2))))) = w33 at n0_ n1_ n2_ n3_ ⊢
               have HO_7 := n0_
               have HO_9 := n1_
               have BK334 := n2_
               have HB := n3_
               clear n0_ n1_ n2_ n3_
               have n0_ := Aside0.mk (Kd.R_drew HO_7.out)
               have n1_ := Aside0.mk (Kd.R_drew HO_9.out)
               have n2_ := Aside0.mk (blk_drew BK334.out)
               have n3_ := Aside0.mk (below_drew1 HB.out)
               clear HO_7
               clear HO_9
               clear BK334
               clear HB
               have HO_7 := n0_
               have HO_9 := n1_
               have BK334 := n2_
               have HB := n3_
               clear n0_ n1_ n2_ n3_
               have p348 : 0 ≤ ((ji26) : Int) := of_decide_eq_true (by first | (with_reducible assumption) | assumption)
               have q348 : (ji26) < (y347.length : Int) := (by have h_ : ((ji26) : Int) < ((x9_2.length : Int) : Int) := of_decide_eq_true (by first | (with_reducible assumption) | assumption); first | (have e_ := (Kd.R_reads' HO_9.out).1; omega) | simpa only [Ny347.out, List.length_set] using h_)
               have ql348 : (((ji26) : Int) < ((x9_2.length : Int) : Int)) = True := eq_true (of_decide_eq_true (by first | (with_reducible assumption) | assumption))
               obtain ⟨ad348, e348, hx348_0⟩ := Kd.at_int (Kd.R_reads' HO_9.out).2.2 (ji26) p348 q348
               obtain rfl : (⟨go25, 0, none⟩ : Addr) = ad348 := (by injection e348)
               (first | simp only [add_plain] at hx348_0 | simp only [add_at] at hx348_0 | simp only [Addr.add, Nat.zero_add] at hx348_0 | skip)
               replace p348 := eq_true p348
               replace q348 := eq_true q348
               have p349 : 0 ≤ (x10_2 : Int) := of_decide_eq_true (by first | (with_reducible assumption) | assumption)
               have q349 : x10_2 < (x7_1.length : Int) := of_decide_eq_true (by first | (with_reducible assumption) | assumption)
               obtain ⟨ad349, e349, hx349_0⟩ := Kd.at_int (Kd.R_reads' HO_7.out).2.2 x10_2 p349 q349
               obtain rfl : ad346 = ad349 := (by injection e349)
               replace p349 := eq_true p349
               replace q349 := eq_true q349
               have p29 : 0 ≤ ((ji26) : Int) := of_decide_eq_true (by first | (with_reducible assumption) | assumption)
               have q29 : ((ji26) : Int) < ((x9_2.length : Int) : Int) := of_decide_eq_true (by first | (with_reducible assumption) | assumption)
               obtain ⟨hx29_0, hf29_0⟩ := Kd.R_celln 0 HO_9.out ((ji26) : Int) p29 q29
               replace p29 := eq_true p29
               replace q29 := eq_true q29
               have HP35 := Kd.R_putn HO_9.out ((ji26) : Int) (IntKind.u64.wrap ((rd y347 (ji26)) + (rd x7_1 x10_2)))
               rw [← Ny350.out] at HP35
               have HQ35 := Aside0.mk HP35
               clear HP35
               refine start_ (n := 12) (S := fun w' => w'.cell? ⟨go25, ((ji26)).toNat, none⟩ = some (.int .u64 (rd y347 (ji26))) ∧ w'.cell? (ad346.add (x10_2).toNat) = some (.int .u64 (rd x7_1 x10_2))) (ds := [11]) #[false, false, false, false, false, false, false, false, false, false, false, false] (by kernel_rfl) rfl rfl ⟨hx348_0, hx349_0⟩ (fun hHeld => ?_); refine with_tabW manystrandref07_Count.tab16 manystrandref07_Count.bits16 (fun HT_ HW_ => ?_)
               generalize w33.drew = w34 at HO_7 HO_9 BK334 HB HQ32 HQ35 hf29_0 hx29_0 hx348_0 hx349_0 hHeld ⊢
               refine pure_ (i := 0) (N := some 56) (v := ?_) (a' := ?_) #[true, false, false, false, false, false, false, false, false, false, false, false] rfl rfl (any_of HT_.out (by kernel_rfl)) (fun _ _ _ h => h) (Or.inl ⟨by rfl, ?_⟩) ?_ ?_
               rotate_left
               ·intro w'
                go_simp
                with_reducible rfl
               rotate_left
               ·simp only [Act.put, List.setIfInBounds_toArray, List.set_cons_zero, List.set_cons_succ, i64_w, i32_w]
                rfl
               refine pure_ (i := 1) (N := some 57) (v := ?_) (a' := ?_) #[true, true, false, false, false, false, false, false, false, false, false, false] rfl rfl (any_of HT_.out (by kernel_rfl)) (fun _ _ _ h => h) (Or.inl ⟨by rfl, ?_⟩) ?_ ?_
               rotate_left
               ·intro w'
                go_simp
                with_reducible rfl
               rotate_left
               ·simp only [Act.put, List.setIfInBounds_toArray, List.set_cons_zero, List.set_cons_succ, i64_w, i32_w]
                rfl
               refine pure_ (i := 2) (N := some 58) (v := ?_) (a' := ?_) #[true, true, true, false, false, false, false, false, false, false, false, false] rfl rfl (any_of HT_.out (by kernel_rfl)) (fun _ _ _ h => h) (Or.inl ⟨by rfl, ?_⟩) ?_ ?_
               rotate_left
               ·intro w'
                go_simp
                with_reducible rfl
               rotate_left
               ·simp only [Act.put, List.setIfInBounds_toArray, List.set_cons_zero, List.set_cons_succ, i64_w, i32_w]
                rfl
               refine pure_ (i := 3) (N := some 59) (v := ?_) (a' := ?_) #[true, true, true, true, false, false, false, false, false, false, false, false] rfl rfl (any_of HT_.out (by kernel_rfl)) (fun _ _ _ h => h) (Or.inl ⟨by rfl, ?_⟩) ?_ ?_
               rotate_left
               ·intro w'
                go_simp
                with_reducible rfl
               rotate_left
               ·simp only [Act.put, List.setIfInBounds_toArray, List.set_cons_zero, List.set_cons_succ, i64_w, i32_w]
                rfl
               refine pure_ (i := 5) (N := some 61) (v := ?_) (a' := ?_) #[true, true, true, true, false, true, false, false, false, false, false, false] rfl rfl (any_of HT_.out (by kernel_rfl)) (fun _ _ _ h => h) (Or.inl ⟨by rfl, ?_⟩) ?_ ?_
               rotate_left
               ·intro w'
                go_simp
                with_reducible rfl
               rotate_left
               ·simp only [Act.put, List.setIfInBounds_toArray, List.set_cons_zero, List.set_cons_succ, i64_w, i32_w]
                rfl
               refine pure_ (i := 6) (N := some 62) (v := ?_) (a' := ?_) #[true, true, true, true, false, true, true, false, false, false, false, false] rfl rfl (any_of HT_.out (by kernel_rfl)) (fun _ _ _ h => h) (Or.inl ⟨by rfl, ?_⟩) ?_ ?_
               rotate_left
               ·intro w'
                go_simp
                with_reducible rfl
               rotate_left
               ·simp only [Act.put, List.setIfInBounds_toArray, List.set_cons_zero, List.set_cons_succ, i64_w, i32_w]
                rfl
               refine pure_ (i := 7) (N := some 63) (v := ?_) (a' := ?_) #[true, true, true, true, false, true, true, true, false, false, false, false] rfl rfl (any_of HT_.out (by kernel_rfl)) (fun _ _ _ h => h) (Or.inl ⟨by rfl, ?_⟩) ?_ ?_
               rotate_left
               ·intro w'
                go_simp
                with_reducible rfl
               rotate_left
               ·simp only [Act.put, List.setIfInBounds_toArray, List.set_cons_zero, List.set_cons_succ, i64_w, i32_w]
                rfl
               refine take_ (i := 4) (N := some 60) (v := ?_) (a' := ?_) #[true, true, true, true, true, true, true, true, false, false, false, false] rfl rfl (take_ofW HT_.out HW_.out (by kernel_rfl)) (fun _ _ _ h => h) (Or.inl ⟨by rfl, ?_⟩) hHeld ?_ ?_
               rotate_left
               ·rintro w' ⟨s0, s1⟩
                go_simp
                with_reducible rfl
               rotate_left
               ·simp only [Act.put, List.setIfInBounds_toArray, List.set_cons_zero, List.set_cons_succ, i64_w, i32_w]
                rfl
               refine take_ (i := 8) (N := some 64) (v := ?_) (a' := ?_) #[true, true, true, true, true, true, true, true, true, false, false, false] rfl rfl (take_ofW HT_.out HW_.out (by kernel_rfl)) (fun _ _ _ h => h) (Or.inl ⟨by rfl, ?_⟩) hHeld ?_ ?_
               rotate_left
               ·rintro w' ⟨s0, s1⟩
                go_simp
                with_reducible rfl
               rotate_left
               ·simp only [Act.put, List.setIfInBounds_toArray, List.set_cons_zero, List.set_cons_succ, i64_w, i32_w]
                rfl
               refine pure_ (i := 9) (N := some 65) (v := ?_) (a' := ?_) #[true, true, true, true, true, true, true, true, true, true, false, false] rfl rfl (any_of HT_.out (by kernel_rfl)) (fun _ _ _ h => h) (Or.inl ⟨by rfl, ?_⟩) ?_ ?_
               rotate_left
               ·intro w'
                go_simp
                with_reducible rfl
               rotate_left
               ·simp only [Act.put, List.setIfInBounds_toArray, List.set_cons_zero, List.set_cons_succ, i64_w, i32_w]
                rfl
               refine pure_ (i := 10) (N := some 66) (v := ?_) (a' := ?_) #[true, true, true, true, true, true, true, true, true, true, true, false] rfl rfl (any_of HT_.out (by kernel_rfl)) (fun _ _ _ h => h) (Or.inl ⟨by rfl, ?_⟩) ?_ ?_
               rotate_left
               ·intro w'
                go_simp
                with_reducible rfl
               rotate_left
               ·simp only [Act.put, List.setIfInBounds_toArray, List.set_cons_zero, List.set_cons_succ, i64_w, i32_w]
                rfl
               refine last_ (i := 11) (N := none) #[true, true, true, true, true, true, true, true, true, true, true, true] rfl rfl (one_of HT_.out (by kernel_rfl)) (by decide) (fun K hK => ?_)
               refine skip_ (w1 := ?_) (by rfl) rfl ?_ ?_
               rotate_left
               ·go_simp
                rfl
               refine hK.out _ _ ?_
               clear hK K
               refine done_ (done_of HT_.out (by kernel_rfl)) ?_
               try go_wp2
               go_roundg k2
               case measure => have := HK1.out; have := HK2.out; omega
               case rel => exact ⟨(y350), (ji26), (by first | rfl | (simp; done) | (simp only [← hji26] <;> (first | rfl | simp); done) | (simp [*]; done)), H', ⟨by have := HK1.out; have := HK2.out; omega⟩, ⟨by (with_reducible repeat (first | apply Kd.R_alloc | apply Kd.R_drewN | apply Kd.R_drew)); exact Kd.R_mono (Kd.R_far (p := ⟨go25, ((ji26) : Int).toNat, none⟩) (Kd.R_mono HO_7.out (fun k_ hk => (⟨hk, fun e_ => hk (by rw [e_]; rfl)⟩ : _ ∧ k_ ≠ go25))) (fun _ hk => hk.2) (.int .u64 (IntKind.u64.wrap ((rd y347 (ji26)) + (rd x7_1 x10_2))))) (fun _ hk => hk.1)⟩, ⟨by (with_reducible repeat (first | apply Kd.R_alloc | apply Kd.R_drewN | apply Kd.R_drew)); exact HQ35.out⟩, ⟨by (with_reducible repeat (first | refine blk_drewN ?_ _ | refine blk_drew ?_ | refine blk_alloc ?_ _)); refine blk_far ?_ (by have h_ := Kd.R_ne HO_9.out BK334.out (by decide); intro e_; exact h_ (by rw [e_]; rfl)) _; (with_reducible repeat (first | refine blk_drewN ?_ _ | refine blk_drew ?_ | refine blk_alloc ?_ _)); exact BK334.out⟩, ⟨by repeat (first | (with_reducible first | exact HB.out | apply below_alloc | apply pw_below_drewN | apply below_drew1 | refine below_set ?_ GB25.out | refine below_set ?_ GE334.out) | exact HB.out)⟩⟩
              ·rw [if_neg c28] at H
               exact absurd H (by simp)
             ·rw [if_neg c27] at H
              exact absurd H (by simp)
            ·rw [if_neg c24] at H
             exact absurd H (by simp)
           ·rw [if_neg c23] at H
            exact absurd H (by simp)
          ·rw [if_neg c22] at H
           have c22b0 : decide (x10_2 < (x7_1.length : Int)) = false := decide_eq_false c22
           clear c22
           have H' := Aside0.mk H
           clear H
           go_wp2
           go_roundg k2
           case measure => have := HK1.out; have := HK2.out; omega
           case rel => exact ⟨(x9_2), (wrap64 (x8_1 + 1)), (by first | rfl | (simp; done) | (simp [*]; done)), H', ⟨by have := HK1.out; have := HK2.out; omega⟩, ⟨by (with_reducible repeat (first | apply Kd.R_alloc | apply Kd.R_drewN | apply Kd.R_drew)); exact Kd.R_mono HO_9.out (fun _ hk => trivial)⟩, ⟨bKq_ BK334.out⟩, ⟨bSt_⟩⟩
       ·rw [if_neg c18] at H
        exact absurd H (by simp)
      ·rw [if_neg c17] at H
       exact absurd H (by simp)
     ·rw [if_neg c15] at H
      have c15b0 : decide (x8_1 < t338) = false := decide_eq_false c15
      clear c15
      have H' := Aside0.mk H
      clear H
      go_wp2
      go_loopg [11, 12] k1 (fun kq v11 v12 w' => ∃ (x11_2 : Int) (x12_2 : Int), v11 = .int .u64 x11_2 ∧ v12 = .int .i64 x12_2 ∧ Aside0 (manystrandref07_Count.l2 kq t338 x7_1 x11_2 x12_2 l0_0 l0_1 a0_2 a0_3 = some (r1, r2)) ∧ Aside0 (kq ≤ k1) ∧ Aside0 (Kd.R (Kd.int .u64) 57 w' w.heap.size (fun _ => True) u7 x7_1) ∧ Aside0 (w'.heap[gb334]? = some (.cells #[(.slice A0_0 l0_0.length c0_0), (.slice A0_1 l0_1.length c0_1), .int .i64 a0_2, .int .i64 a0_3] 37 (0, 0))) ∧ Aside0 (Below w.heap.size w w'))
      case atStart => exact ⟨(0), (0), (by first | rfl | (simp; done) | (simp [*]; done)), (by first | rfl | (simp; done) | (simp [*]; done)), H', ⟨Nat.le_refl _⟩, ⟨by (with_reducible repeat (first | apply Kd.R_alloc | apply Kd.R_drewN | apply Kd.R_drew)); exact HO_7.out⟩, ⟨bKq_ BK334.out⟩, ⟨bSt_⟩⟩
      case round =>
       clear H'
       try clear c1
       try clear c2
       try clear p2
       try clear q2
       try clear hx2
       try clear hf2
       try clear c3
       try clear p3
       try clear q3
       try clear hx3
       try clear c4
       try clear c6
       try clear c6b0
       try clear c6b1
       try clear p6
       try clear c15
       try clear c15b0
       try clear c17
       try clear c17b0
       try clear c17b1
       try clear c18
       try clear c18b0
       try clear c18b1
       try clear c21
       try clear c22
       try clear c22b0
       try clear c23
       try clear c23b0
       try clear c24
       try clear c24b0
       try clear p25
       try clear q25
       try clear hx25
       try clear hf25
       try clear c27
       try clear c27b0
       try clear c28
       try clear c28b0
       try clear p29
       try clear q29
       try clear hx29
       try clear hf29
       try clear p34
       try clear q34
       try clear hx34
       try clear hcz9_0
       try clear hcz9_1
       try clear hcz9_2
       try clear hcz9_3
       try clear hfz9_0
       try clear hfz9_1
       try clear hfz9_2
       try clear hfz9_3
       try clear hx25_0
       try clear hx29_0
       try clear hx345_0
       try clear hx346_0
       try clear hx348_0
       try clear hx349_0
       try clear p2
       try clear p25
       try clear p29
       try clear p345
       try clear p346
       try clear p348
       try clear p349
       try clear p6
       try clear q25
       try clear q29
       try clear q345
       try clear q346
       try clear q348
       try clear q349
       obtain ⟨x11_2, x12_2, rfl, rfl, HA, HK2, HO_7, BK334, HB⟩ := hrel
       cases gk with
       | zero => exact absurd HA.out (by simp [manystrandref07_Count.l2])
       | succ k2 =>
        have H := HA.out
        clear HA
        simp only [manystrandref07_Count.l2] at H
        by_cases c36 : x12_2 ≤ t338
        ·rw [if_pos c36] at H
         have c36b0 : decide (x12_2 ≤ t338) = true := decide_eq_true c36
         clear c36
         have HC37 := Aside0.mk H
         clear H
         go_upto_region 22 with (fail)
         go_cut [90] (fun v90 wc => ∃ (kq : Nat) (x90_36 : Bool), v90 = .bool x90_36 ∧ Aside0 (manystrandref07_Count.j3 kq t338 x7_1 x11_2 x12_2 x90_36 l0_0 l0_1 a0_2 a0_3 = some (r1, r2)) ∧ Aside0 (kq ≤ k2) ∧ Aside0 (Kd.R (Kd.int .u64) 57 wc w.heap.size (fun _ => True) u7 x7_1) ∧ Aside0 (wc.heap[gb334]? = some (.cells #[(.slice A0_0 l0_0.length c0_0), (.slice A0_1 l0_1.length c0_1), .int .i64 a0_2, .int .i64 a0_3] 37 (0, 0))) ∧ Aside0 (Below w.heap.size w wc))
         case first =>
          have H := HC37.out
          clear HC37
          by_cases c38 : (wrap64 (x12_2 + (l0_0.length : Int))) ≥ a0_2
          ·rw [if_pos c38] at H
           have c38b0 : decide (a0_2 ≤ (wrap64 (x12_2 + (l0_0.length : Int)))) = true := decide_eq_true c38
           clear c38
           (first | rw [c38b0] | (simp only [i64_w, i32_w]; rw [c38b0]) | skip)
           have H' := Aside0.mk H
           clear H
           have hcz39_0 : wr.cell? ⟨gb334, 0, none⟩ = some (.slice A0_0 l0_0.length c0_0) := (blk_cell BK334.out 0).trans rfl
           have hcz39_1 : wr.cell? ⟨gb334, 1, none⟩ = some (.slice A0_1 l0_1.length c0_1) := (blk_cell BK334.out 1).trans rfl
           have hcz39_2 : wr.cell? ⟨gb334, 2, none⟩ = some (.int .i64 a0_2) := (blk_cell BK334.out 2).trans rfl
           have hcz39_3 : wr.cell? ⟨gb334, 3, none⟩ = some (.int .i64 a0_3) := (blk_cell BK334.out 3).trans rfl
           have hfz39_0 := blk_frozen BK334.out 0
           have hfz39_1 := blk_frozen BK334.out 1
           have hfz39_2 := blk_frozen BK334.out 2
           have hfz39_3 := blk_frozen BK334.out 3
           go_wp2
           go_meet
           case rel => exact ⟨_, (decide ((wrap64 (x12_2 + (l0_0.length : Int))) ≤ a0_3)), (by first | rfl | (simp; done) | (simp [*]; done)), H', ⟨by have := HK1.out; have := HK2.out; first | omega | exact Nat.le_refl _⟩, ⟨by (with_reducible repeat (first | apply Kd.R_alloc | apply Kd.R_drewN | apply Kd.R_drew)); exact HO_7.out⟩, ⟨bKq_ BK334.out⟩, ⟨bSt_⟩⟩
          ·rw [if_neg c38] at H
           have c38b0 : decide (a0_2 ≤ (wrap64 (x12_2 + (l0_0.length : Int)))) = false := decide_eq_false c38
           clear c38
           (first | rw [c38b0] | (simp only [i64_w, i32_w]; rw [c38b0]) | skip)
           have H' := Aside0.mk H
           clear H
           have hcz40_0 : wr.cell? ⟨gb334, 0, none⟩ = some (.slice A0_0 l0_0.length c0_0) := (blk_cell BK334.out 0).trans rfl
           have hcz40_1 : wr.cell? ⟨gb334, 1, none⟩ = some (.slice A0_1 l0_1.length c0_1) := (blk_cell BK334.out 1).trans rfl
           have hcz40_2 : wr.cell? ⟨gb334, 2, none⟩ = some (.int .i64 a0_2) := (blk_cell BK334.out 2).trans rfl
           have hcz40_3 : wr.cell? ⟨gb334, 3, none⟩ = some (.int .i64 a0_3) := (blk_cell BK334.out 3).trans rfl
           have hfz40_0 := blk_frozen BK334.out 0
           have hfz40_1 := blk_frozen BK334.out 1
           have hfz40_2 := blk_frozen BK334.out 2
           have hfz40_3 := blk_frozen BK334.out 3
           go_wp2
           go_meet
           case rel => exact ⟨_, (false), (by first | rfl | (simp; done) | (simp [*]; done)), H', ⟨by have := HK1.out; have := HK2.out; first | omega | exact Nat.le_refl _⟩, ⟨by (with_reducible repeat (first | apply Kd.R_alloc | apply Kd.R_drewN | apply Kd.R_drew)); exact HO_7.out⟩, ⟨bKq_ BK334.out⟩, ⟨bSt_⟩⟩
         case rest =>
          clear HC37
          try clear c1
          try clear c2
          try clear p2
          try clear q2
          try clear hx2
          try clear hf2
          try clear c3
          try clear p3
          try clear q3
          try clear hx3
          try clear c4
          try clear c6
          try clear c6b0
          try clear c6b1
          try clear p6
          try clear c15
          try clear c15b0
          try clear c17
          try clear c17b0
          try clear c17b1
          try clear c18
          try clear c18b0
          try clear c18b1
          try clear c21
          try clear c22
          try clear c22b0
          try clear c23
          try clear c23b0
          try clear c24
          try clear c24b0
          try clear p25
          try clear q25
          try clear hx25
          try clear hf25
          try clear c27
          try clear c27b0
          try clear c28
          try clear c28b0
          try clear p29
          try clear q29
          try clear hx29
          try clear hf29
          try clear p34
          try clear q34
          try clear hx34
          try clear c36
          try clear c36b0
          try clear c38
          try clear c38b0
          try clear hcz39_0
          try clear hcz39_1
          try clear hcz39_2
          try clear hcz39_3
          try clear hcz40_0
          try clear hcz40_1
          try clear hcz40_2
          try clear hcz40_3
          try clear hcz9_0
          try clear hcz9_1
          try clear hcz9_2
          try clear hcz9_3
          try clear hfz39_0
          try clear hfz39_1
          try clear hfz39_2
          try clear hfz39_3
          try clear hfz40_0
          try clear hfz40_1
          try clear hfz40_2
          try clear hfz40_3
          try clear hfz9_0
          try clear hfz9_1
          try clear hfz9_2
          try clear hfz9_3
          try clear hx25_0
          try clear hx29_0
          try clear hx345_0
          try clear hx346_0
          try clear hx348_0
          try clear hx349_0
          try clear p2
          try clear p25
          try clear p29
          try clear p3
          try clear p34
          try clear p345
          try clear p346
          try clear p348
          try clear p349
          try clear p6
          try clear q2
          try clear q25
          try clear q29
          try clear q3
          try clear q34
          try clear q345
          try clear q346
          try clear q348
          try clear q349
          obtain ⟨kq, x90_36, rfl, HA, HJ36, HO_7, BK334, HB⟩ := hcut
          cases kq with
          | zero => exact absurd HA.out (by simp [manystrandref07_Count.j3])
          | succ kj36 =>
           have H := HA.out
           clear HA
           simp only [manystrandref07_Count.j3] at H
           by_cases c41 : x90_36 = true
           ·subst c41
            have H1 : (if 0 ≤ x12_2 then (if x12_2 < (x7_1.length : Int) then (if (IntKind.u64.wrap (x11_2 + (rd x7_1 x12_2))) > 4611686018427387904 then (some (0, 4)) else (manystrandref07_Count.l2 kj36 t338 x7_1 (IntKind.u64.wrap (x11_2 + (rd x7_1 x12_2))) (wrap64 (x12_2 + 1)) l0_0 l0_1 a0_2 a0_3)) else (none)) else (none)) = some (r1, r2) := by rw [if_pos rfl] at H; exact H
            clear H
            have H := H1
            clear H1
            by_cases c42 : 0 ≤ x12_2
            ·rw [if_pos c42] at H
             have c42b0 : decide (0 ≤ x12_2) = true := decide_eq_true c42
             clear c42
             by_cases c43 : x12_2 < (x7_1.length : Int)
             ·rw [if_pos c43] at H
              have c43b0 : decide (x12_2 < (x7_1.length : Int)) = true := decide_eq_true c43
              clear c43
              by_cases c44 : (IntKind.u64.wrap (x11_2 + (rd x7_1 x12_2))) > 4611686018427387904
              ·rw [if_pos c44] at H
               have c44b0 : decide (4611686018427387904 < (IntKind.u64.wrap (x11_2 + (rd x7_1 x12_2)))) = true := decide_eq_true c44
               clear c44
               simp only [Option.some.injEq, Prod.mk.injEq] at H
               obtain ⟨rfl, rfl⟩ := H
               obtain ⟨Ao45, co45, eo45⟩ := Kd.R_slice HO_7.out
               subst eo45
               have p351 : 0 ≤ (x12_2 : Int) := of_decide_eq_true (by first | (with_reducible assumption) | assumption)
               have q351 : x12_2 < (x7_1.length : Int) := of_decide_eq_true (by first | (with_reducible assumption) | assumption)
               obtain ⟨ad351, e351, hx351_0⟩ := Kd.at_int (Kd.R_reads' HO_7.out).2.2 x12_2 p351 q351
               cases e351
               replace p351 := eq_true p351
               replace q351 := eq_true q351
               go_wp2
               go_ret2
               exact ⟨by first | rfl | (simp [errW_none, errW_some] <;> rfl) | (simp [*, errW_none, errW_some] <;> rfl) | (simp [errW_none, errW_some]; exact Go.Proofs.YtgfbgfbnmiainaaW.OwnWords.isEmpty_bne _), bSt_⟩
              ·rw [if_neg c44] at H
               have c44b0 : decide (4611686018427387904 < (IntKind.u64.wrap (x11_2 + (rd x7_1 x12_2)))) = false := decide_eq_false c44
               clear c44
               have H' := Aside0.mk H
               clear H
               obtain ⟨Ao46, co46, eo46⟩ := Kd.R_slice HO_7.out
               subst eo46
               have p351 : 0 ≤ (x12_2 : Int) := of_decide_eq_true (by first | (with_reducible assumption) | assumption)
               have q351 : x12_2 < (x7_1.length : Int) := of_decide_eq_true (by first | (with_reducible assumption) | assumption)
               obtain ⟨ad351, e351, hx351_0⟩ := Kd.at_int (Kd.R_reads' HO_7.out).2.2 x12_2 p351 q351
               cases e351
               replace p351 := eq_true p351
               replace q351 := eq_true q351
               go_wp2
               go_roundg kj36
               case measure => have := HK1.out; have := HK2.out; have := HJ36.out; omega
               case rel => exact ⟨(IntKind.u64.wrap (x11_2 + (rd x7_1 x12_2))), (wrap64 (x12_2 + 1)), (by first | rfl | (simp; done) | (simp [*]; done)), (by first | rfl | (simp; done) | (simp [*]; done)), H', ⟨by have := HK1.out; have := HK2.out; have := HJ36.out; omega⟩, ⟨by (with_reducible repeat (first | apply Kd.R_alloc | apply Kd.R_drewN | apply Kd.R_drew)); exact HO_7.out⟩, ⟨bKq_ BK334.out⟩, ⟨bSt_⟩⟩
             ·rw [if_neg c43] at H
              exact absurd H (by simp)
            ·rw [if_neg c42] at H
             exact absurd H (by simp)
           ·replace c41 := Bool.eq_false_iff.mpr c41
            subst c41
            have H1 : (if x11_2 > 4611686018427387904 then (some (0, 4)) else (manystrandref07_Count.l2 kj36 t338 x7_1 x11_2 (wrap64 (x12_2 + 1)) l0_0 l0_1 a0_2 a0_3)) = some (r1, r2) := by rw [if_neg (show ¬ (false = true) by decide)] at H; exact H
            clear H
            have H := H1
            clear H1
            by_cases c47 : x11_2 > 4611686018427387904
            ·rw [if_pos c47] at H
             have c47b0 : decide (4611686018427387904 < x11_2) = true := decide_eq_true c47
             clear c47
             simp only [Option.some.injEq, Prod.mk.injEq] at H
             obtain ⟨rfl, rfl⟩ := H
             go_wp2
             go_ret2
             exact ⟨by first | rfl | (simp [errW_none, errW_some] <;> rfl) | (simp [*, errW_none, errW_some] <;> rfl) | (simp [errW_none, errW_some]; exact Go.Proofs.YtgfbgfbnmiainaaW.OwnWords.isEmpty_bne _), bSt_⟩
            ·rw [if_neg c47] at H
             have c47b0 : decide (4611686018427387904 < x11_2) = false := decide_eq_false c47
             clear c47
             have H' := Aside0.mk H
             clear H
             go_wp2
             go_roundg kj36
             case measure => have := HK1.out; have := HK2.out; have := HJ36.out; omega
             case rel => exact ⟨(x11_2), (wrap64 (x12_2 + 1)), (by first | rfl | (simp; done) | (simp [*]; done)), (by first | rfl | (simp; done) | (simp [*]; done)), H', ⟨by have := HK1.out; have := HK2.out; have := HJ36.out; omega⟩, ⟨by (with_reducible repeat (first | apply Kd.R_alloc | apply Kd.R_drewN | apply Kd.R_drew)); exact HO_7.out⟩, ⟨bKq_ BK334.out⟩, ⟨bSt_⟩⟩
        ·rw [if_neg c36] at H
         have c36b0 : decide (x12_2 ≤ t338) = false := decide_eq_false c36
         clear c36
         simp only [Option.some.injEq, Prod.mk.injEq] at H
         obtain ⟨rfl, rfl⟩ := H
         go_wp2
         go_ret2
         exact ⟨by first | rfl | (simp [errW_none, errW_some] <;> rfl) | (simp [*, errW_none, errW_some] <;> rfl) | (simp [errW_none, errW_some]; exact Go.Proofs.YtgfbgfbnmiainaaW.OwnWords.isEmpty_bne _), bSt_⟩
  ·rw [if_neg c6] at H
   have c6b0 : ((Go.bits .andNot .u64 t336 t337) == 0) = false := beq_eq_false_iff_ne.mpr c6
   have c6b1 : ((Go.bits .andNot .u64 t336 t337) != 0) = true := bne_iff_ne.mpr c6
   simp only [Option.some.injEq, Prod.mk.injEq] at H
   obtain ⟨rfl, rfl⟩ := H
   go_enter Try.func21, Try.ntmps21
   try go_wp2_with (first | ((with_reducible refine gate_dst (N := 1) rfl ?_); (try (refine gate_guard (by rfl) ?_; dsimp only)); refine box_event ?hg (N := 1) ?hd (cs := #[.slice A0_0 l0_0.length c0_0, .slice A0_1 l0_1.length c0_1, .int .i64 a0_2, .int .i64 a0_3]) (t := 37) ?hr ?_; (case hd => rfl); (case hg => rfl); (case hr => first | (go_simp; done) | (go_simp; rfl)); intro gb334 hg w48 hbox hb; have n0_ := Aside0.mk (below_step bSt_ hb); have n1_ := Aside0.mk (hbox); have n2_ := Aside0.mk ((by rw [hg]; exact (below_size bSt_) : w.heap.size ≤ gb334)); have n3_ := Aside0.mk ((by rw [hg]; exact (below_size bSt_) : w.heap.size ≤ gb334)); clear HB; have HB := n0_; have BK334 := n1_; have GW334 := n2_; have GE334 := n3_; clear n0_ n1_ n2_ n3_; clear hb hbox hg; have hcz49_0 : w48.cell? ⟨gb334, 0, none⟩ = some (.slice A0_0 l0_0.length c0_0) := (blk_cell BK334.out 0).trans rfl; have hcz49_1 : w48.cell? ⟨gb334, 1, none⟩ = some (.slice A0_1 l0_1.length c0_1) := (blk_cell BK334.out 1).trans rfl; have hcz49_2 : w48.cell? ⟨gb334, 2, none⟩ = some (.int .i64 a0_2) := (blk_cell BK334.out 2).trans rfl; have hcz49_3 : w48.cell? ⟨gb334, 3, none⟩ = some (.int .i64 a0_3) := (blk_cell BK334.out 3).trans rfl; have hfz49_0 := blk_frozen BK334.out 0; have hfz49_1 := blk_frozen BK334.out 1; have hfz49_2 := blk_frozen BK334.out 2; have hfz49_3 := blk_frozen BK334.out 3) | ((with_reducible refine gate_callee (f := 23) rfl ?_); refine goesL_ (some 14) rfl rfl Try.func23 (by kernel_rfl) rfl #[.agg #[.slice A0_0 l0_0.length c0_0, .slice A0_1 l0_1.length c0_1, .int .i64 a0_2, .int .i64 a0_3]] rfl (by (try simp only [List.map_toArray, List.map_cons, List.map_nil]); first | done | rfl | (simp only [List.length_drop, List.length_take]; rfl)) ?_; (with_reducible refine (manystrandref07_Valid.calls k _ _ l0_0 _ _ l0_1 a0_2 a0_3 true _ ?side1 ?side2 ?side3 ?side4 A2.out).mono ?_); (case side1 => repeat (first | exact (Kd.C_below HR0_0.out HB.out) | (with_reducible refine Kd.C_alloc ?_ _) | (with_reducible refine Kd.C_drewN ?_ _) | (with_reducible refine Kd.C_drew ?_))); (case side2 => exact HC0_0.out); (case side3 => repeat (first | exact (Kd.C_below HR0_1.out HB.out) | (with_reducible refine Kd.C_alloc ?_ _) | (with_reducible refine Kd.C_drewN ?_ _) | (with_reducible refine Kd.C_drew ?_))); (case side4 => exact HC0_1.out); rintro e w50 ⟨rfl, hb⟩; refine ⟨_, rfl, ?_⟩; have n0_ := Aside0.mk (blk_below (bKq_ BK334.out) hb); have n1_ := Aside0.mk (below_step bSt_ hb); clear BK334; clear HB; have BK334 := n0_; have HB := n1_; clear n0_ n1_; (try clear hb); (try clear hb2); (try clear hk); (try clear hi)))
   have n0_ := Aside0.mk (blk_drew BK334.out)
   have n1_ := Aside0.mk (below_drew1 HB.out)
   clear BK334
   clear HB
   have BK334 := n0_
   have HB := n1_
   clear n0_ n1_
   refine start_ (n := 8) (S := fun w' => w'.cell? ⟨gb334, 0, none⟩ = some (.slice A0_0 l0_0.length c0_0) ∧ w'.cell? ⟨gb334, 1, none⟩ = some (.slice A0_1 l0_1.length c0_1) ∧ w'.cell? ⟨gb334, 2, none⟩ = some (.int .i64 a0_2) ∧ w'.cell? ⟨gb334, 3, none⟩ = some (.int .i64 a0_3)) (ds := []) #[false, false, false, false, false, false, false, false] (by kernel_rfl) rfl rfl ⟨(blk_cell BK334.out 0).trans rfl, (blk_cell BK334.out 1).trans rfl, (blk_cell BK334.out 2).trans rfl, (blk_cell BK334.out 3).trans rfl⟩ (fun hHeld => ?_); refine with_tabW manystrandref07_Count.tab3 manystrandref07_Count.bits3 (fun HT_ HW_ => ?_)
   generalize w50.drew = w51 at BK334 HB hHeld ⊢
   refine pure_ (i := 0) (N := some 16) (v := ?_) (a' := ?_) #[true, false, false, false, false, false, false, false] rfl rfl (any_of HT_.out (by kernel_rfl)) (fun _ _ _ h => h) (Or.inl ⟨by rfl, ?_⟩) ?_ ?_
   rotate_left
   ·intro w'
    go_simp
    with_reducible rfl
   rotate_left
   ·simp only [Act.put, List.setIfInBounds_toArray, List.set_cons_zero, List.set_cons_succ, i64_w, i32_w]
    rfl
   refine pure_ (i := 3) (N := some 19) (v := ?_) (a' := ?_) #[true, false, false, true, false, false, false, false] rfl rfl (any_of HT_.out (by kernel_rfl)) (fun _ _ _ h => h) (Or.inl ⟨by rfl, ?_⟩) ?_ ?_
   rotate_left
   ·intro w'
    go_simp
    with_reducible rfl
   rotate_left
   ·simp only [Act.put, List.setIfInBounds_toArray, List.set_cons_zero, List.set_cons_succ, i64_w, i32_w]
    rfl
   refine take_ (i := 1) (N := some 17) (v := ?_) (a' := ?_) #[true, true, false, true, false, false, false, false] rfl rfl (take_ofW HT_.out HW_.out (by kernel_rfl)) (fun _ _ _ h => h) (Or.inl ⟨by rfl, ?_⟩) hHeld ?_ ?_
   rotate_left
   ·rintro w' ⟨s0, s1, s2, s3⟩
    go_simp
    with_reducible rfl
   rotate_left
   ·simp only [Act.put, List.setIfInBounds_toArray, List.set_cons_zero, List.set_cons_succ, i64_w, i32_w]
    rfl
   refine take_ (i := 4) (N := some 20) (v := ?_) (a' := ?_) #[true, true, false, true, true, false, false, false] rfl rfl (take_ofW HT_.out HW_.out (by kernel_rfl)) (fun _ _ _ h => h) (Or.inl ⟨by rfl, ?_⟩) hHeld ?_ ?_
   rotate_left
   ·rintro w' ⟨s0, s1, s2, s3⟩
    go_simp
    with_reducible rfl
   rotate_left
   ·simp only [Act.put, List.setIfInBounds_toArray, List.set_cons_zero, List.set_cons_succ, i64_w, i32_w]
    rfl
   refine one_ (i := 2) (N := some 18) #[true, true, true, true, true, false, false, false] rfl rfl (one_of HT_.out (by kernel_rfl)) (by decide) (fun K hK => ?_)
   refine goes_ Try.func46 (by kernel_rfl) rfl #[.slice A0_0 l0_0.length c0_0] (by rfl) rfl rfl (by (try simp only [List.map_toArray, List.map_cons, List.map_nil]); first | done | rfl | (simp only [List.length_drop, List.length_take]; rfl)) ?_
   with_reducible refine (manystrandref07_of.calls k _ _ l0_0 t336 _ ?side1 ?side2 A4.out).mono ?_
   (case side1 => repeat (first | exact (Kd.C_below HR0_0.out HB.out) | (with_reducible refine Kd.C_alloc ?_ _) | (with_reducible refine Kd.C_drewN ?_ _) | (with_reducible refine Kd.C_drew ?_)))
   (case side2 => exact HC0_0.out)
   rintro e w' ⟨rfl, ⟨nd, rfl⟩⟩
   refine ⟨_, rfl, ?_⟩
   refine hK.out _ _ ⟨(blk_cell BK334.out 0).trans rfl, (blk_cell BK334.out 1).trans rfl, (blk_cell BK334.out 2).trans rfl, (blk_cell BK334.out 3).trans rfl⟩ (fun hHeld => ?_)
   clear hK K
   refine norm_ (a' := ?_) ?_ ?_
   rotate_left
   ·show Act.put _ (some 18) _ = _
    simp only [Act.put, List.setIfInBounds_toArray, List.set_cons_zero, List.set_cons_succ, i64_w, i32_w]
    rfl
   refine one_ (i := 5) (N := some 21) #[true, true, true, true, true, true, false, false] rfl rfl (one_of HT_.out (by kernel_rfl)) (by decide) (fun K hK => ?_)
   refine goes_ Try.func46 (by kernel_rfl) rfl #[.slice A0_1 l0_1.length c0_1] (by rfl) rfl rfl (by (try simp only [List.map_toArray, List.map_cons, List.map_nil]); first | done | rfl | (simp only [List.length_drop, List.length_take]; rfl)) ?_
   with_reducible refine (manystrandref07_of.calls k _ _ l0_1 t337 _ ?side1 ?side2 A5.out).mono ?_
   (case side1 => repeat (first | exact (Kd.C_below HR0_1.out bSt_) | (with_reducible refine Kd.C_alloc ?_ _) | (with_reducible refine Kd.C_drewN ?_ _) | (with_reducible refine Kd.C_drew ?_)))
   (case side2 => exact HC0_1.out)
   rintro e w' ⟨rfl, ⟨nd, rfl⟩⟩
   refine ⟨_, rfl, ?_⟩
   refine hK.out _ _ ⟨(blk_cell BK334.out 0).trans rfl, (blk_cell BK334.out 1).trans rfl, (blk_cell BK334.out 2).trans rfl, (blk_cell BK334.out 3).trans rfl⟩ (fun hHeld => ?_)
   clear hK K
   refine norm_ (a' := ?_) ?_ ?_
   rotate_left
   ·show Act.put _ (some 21) _ = _
    simp only [Act.put, List.setIfInBounds_toArray, List.set_cons_zero, List.set_cons_succ, i64_w, i32_w]
    rfl
   refine pure_ (i := 6) (N := some 4) (v := ?_) (a' := ?_) #[true, true, true, true, true, true, true, false] rfl rfl (any_of HT_.out (by kernel_rfl)) (fun _ _ _ h => h) (Or.inl ⟨by rfl, ?_⟩) ?_ ?_
   rotate_left
   ·intro w'
    go_simp
    with_reducible rfl
   rotate_left
   ·simp only [Act.put, List.setIfInBounds_toArray, List.set_cons_zero, List.set_cons_succ, i64_w, i32_w]
    rfl
   refine pure_ (i := 7) (N := some 5) (v := ?_) (a' := ?_) #[true, true, true, true, true, true, true, true] rfl rfl (any_of HT_.out (by kernel_rfl)) (fun _ _ _ h => h) (Or.inl ⟨by rfl, ?_⟩) ?_ ?_
   rotate_left
   ·intro w'
    go_simp
    with_reducible rfl
   rotate_left
   ·simp only [Act.put, List.setIfInBounds_toArray, List.set_cons_zero, List.set_cons_succ, i64_w, i32_w]
    rfl
   refine done_ (done_of HT_.out (by kernel_rfl)) ?_
   try go_wp2
   go_ret2
   exact ⟨by first | rfl | (simp [errW_none, errW_some] <;> rfl) | (simp [*, errW_none, errW_some] <;> rfl) | (simp [errW_none, errW_some]; exact Go.Proofs.YtgfbgfbnmiainaaW.OwnWords.isEmpty_bne _), bSt_⟩
 ·replace c3 := Bool.eq_false_iff.mpr c3
  subst c3
  have H1 : (some (0, 2)) = some (r1, r2) := by rw [if_neg (show ¬ (false = true) by decide)] at H; exact H
  clear H
  have H := H1
  clear H1
  simp only [Option.some.injEq, Prod.mk.injEq] at H
  obtain ⟨rfl, rfl⟩ := H
  go_enter Try.func21, Try.ntmps21
  go_wp2_with (first | ((with_reducible refine gate_dst (N := 1) rfl ?_); (try (refine gate_guard (by rfl) ?_; dsimp only)); refine box_event ?hg (N := 1) ?hd (cs := #[.slice A0_0 l0_0.length c0_0, .slice A0_1 l0_1.length c0_1, .int .i64 a0_2, .int .i64 a0_3]) (t := 37) ?hr ?_; (case hd => rfl); (case hg => rfl); (case hr => first | (go_simp; done) | (go_simp; rfl)); intro gb334 hg w52 hbox hb; have n0_ := Aside0.mk (below_step bSt_ hb); have n1_ := Aside0.mk (hbox); have n2_ := Aside0.mk ((by rw [hg]; exact (below_size bSt_) : w.heap.size ≤ gb334)); have n3_ := Aside0.mk ((by rw [hg]; exact (below_size bSt_) : w.heap.size ≤ gb334)); clear HB; have HB := n0_; have BK334 := n1_; have GW334 := n2_; have GE334 := n3_; clear n0_ n1_ n2_ n3_; clear hb hbox hg; have hcz53_0 : w52.cell? ⟨gb334, 0, none⟩ = some (.slice A0_0 l0_0.length c0_0) := (blk_cell BK334.out 0).trans rfl; have hcz53_1 : w52.cell? ⟨gb334, 1, none⟩ = some (.slice A0_1 l0_1.length c0_1) := (blk_cell BK334.out 1).trans rfl; have hcz53_2 : w52.cell? ⟨gb334, 2, none⟩ = some (.int .i64 a0_2) := (blk_cell BK334.out 2).trans rfl; have hcz53_3 : w52.cell? ⟨gb334, 3, none⟩ = some (.int .i64 a0_3) := (blk_cell BK334.out 3).trans rfl; have hfz53_0 := blk_frozen BK334.out 0; have hfz53_1 := blk_frozen BK334.out 1; have hfz53_2 := blk_frozen BK334.out 2; have hfz53_3 := blk_frozen BK334.out 3) | ((with_reducible refine gate_callee (f := 23) rfl ?_); refine goesL_ (some 14) rfl rfl Try.func23 (by kernel_rfl) rfl #[.agg #[.slice A0_0 l0_0.length c0_0, .slice A0_1 l0_1.length c0_1, .int .i64 a0_2, .int .i64 a0_3]] rfl (by (try simp only [List.map_toArray, List.map_cons, List.map_nil]); first | done | rfl | (simp only [List.length_drop, List.length_take]; rfl)) ?_; (with_reducible refine (manystrandref07_Valid.calls k _ _ l0_0 _ _ l0_1 a0_2 a0_3 false _ ?side1 ?side2 ?side3 ?side4 A2.out).mono ?_); (case side1 => repeat (first | exact (Kd.C_below HR0_0.out HB.out) | (with_reducible refine Kd.C_alloc ?_ _) | (with_reducible refine Kd.C_drewN ?_ _) | (with_reducible refine Kd.C_drew ?_))); (case side2 => exact HC0_0.out); (case side3 => repeat (first | exact (Kd.C_below HR0_1.out HB.out) | (with_reducible refine Kd.C_alloc ?_ _) | (with_reducible refine Kd.C_drewN ?_ _) | (with_reducible refine Kd.C_drew ?_))); (case side4 => exact HC0_1.out); rintro e w54 ⟨rfl, hb⟩; refine ⟨_, rfl, ?_⟩; have n0_ := Aside0.mk (blk_below (bKq_ BK334.out) hb); have n1_ := Aside0.mk (below_step bSt_ hb); clear BK334; clear HB; have BK334 := n0_; have HB := n1_; clear n0_ n1_; (try clear hb); (try clear hb2); (try clear hk); (try clear hi)))
  go_ret2
  exact ⟨by first | rfl | (simp [errW_none, errW_some] <;> rfl) | (simp [*, errW_none, errW_some] <;> rfl) | (simp [errW_none, errW_some]; exact Go.Proofs.YtgfbgfbnmiainaaW.OwnWords.isEmpty_bne _), bSt_⟩

end Go.Proofs.Ytgfbgfbnmiainaa.Q
end
section
namespace Go.Proofs.Ytgfbgfbnmiainaa.Q
open Go.RowKit Go.Proofs.YtgfbgfbnmiainaaW.PrintWords Go.Proofs.YtgfbgfbnmiainaaW.PrintLast Go.Proofs.YtgfbgfbnmiainaaW.PrintMore Go.Proofs.YtgfbgfbnmiainaaW.OwnWords
attribute [local go_sem] Go.Proofs.YtgfbgfbnmiainaaW.OwnWords.isSome_setCell max2_int min2_int max_two min_two max_three min_three max_four min_four
set_option linter.unusedVariables false
set_option linter.unusedSimpArgs false

/-! ### manystrandlaw07_zero: function 19 -/
def manystrandlaw07_zero.f (l0_0 : List Int) (l0_1 : List Int) (a0_2 : Int) (a0_3 : Int) : Option (Bool) := if (l0_0.length : Int) = 0 then (if (l0_1.length : Int) = 0 then (if a0_2 = 0 then (some (a0_3 == 0)) else (some false)) else (some false)) else (some false)
set_option maxHeartbeats 8000000 in
set_option maxRecDepth 100000 in
theorem manystrandlaw07_zero.calls (A0_0 : Option Addr) (c0_0 : Nat) (l0_0 : List Int) (A0_1 : Option Addr) (c0_1 : Nat) (l0_1 : List Int) (a0_2 : Int) (a0_3 : Int) (r : Bool) (w : World) (hr0_0 : Kd.C (Kd.int .i64) w A0_0 l0_0.length l0_0) (hc0_0 : l0_0.length ≤ c0_0) (hr0_1 : Kd.C (Kd.int .i64) w A0_1 l0_1.length l0_1) (hc0_1 : l0_1.length ≤ c0_1) (h : manystrandlaw07_zero.f l0_0 l0_1 a0_2 a0_3 = some r) :
  Calls Try.prog 19 #[.agg #[.slice A0_0 l0_0.length c0_0, .slice A0_1 l0_1.length c0_1, .int .i64 a0_2, .int .i64 a0_3]] w fun e w' => e = .returned (.bool r) ∧ Below w.heap.size w w' := by
 have hu37 := Try.underlying37
 have HR0_0 := Aside0.mk hr0_0
 have HC0_0 := Aside0.mk hc0_0
 clear hr0_0 hc0_0
 have HR0_1 := Aside0.mk hr0_1
 have HC0_1 := Aside0.mk hc0_1
 clear hr0_1 hc0_1
 have HB := Aside0.mk (Below.refl w.heap.size w)
 have H : (if (l0_0.length : Int) = 0 then (if (l0_1.length : Int) = 0 then (if a0_2 = 0 then (some (a0_3 == 0)) else (some false)) else (some false)) else (some false)) = some r := h
 clear h
 by_cases c2 : (l0_0.length : Int) = 0
 ·rw [if_pos c2] at H
  have c2b0 : ((l0_0.length : Int) == 0) = true := beq_iff_eq.mpr c2
  have c2b1 : ((l0_0.length : Int) != 0) = false := bne_eq_false_iff_eq.mpr c2
  clear c2
  by_cases c3 : (l0_1.length : Int) = 0
  ·rw [if_pos c3] at H
   have c3b0 : ((l0_1.length : Int) == 0) = true := beq_iff_eq.mpr c3
   have c3b1 : ((l0_1.length : Int) != 0) = false := bne_eq_false_iff_eq.mpr c3
   clear c3
   by_cases c4 : a0_2 = 0
   ·rw [if_pos c4] at H
    have c4b0 : (a0_2 == 0) = true := beq_iff_eq.mpr c4
    have c4b1 : (a0_2 != 0) = false := bne_eq_false_iff_eq.mpr c4
    clear c4
    obtain rfl := Option.some.inj H
    go_enter Try.func19, Try.ntmps19
    go_wp2_with (first | ((with_reducible refine gate_dst (N := 1) rfl ?_); (try (refine gate_guard (by rfl) ?_; dsimp only)); refine box_event ?hg (N := 1) ?hd (cs := #[.slice A0_0 l0_0.length c0_0, .slice A0_1 l0_1.length c0_1, .int .i64 a0_2, .int .i64 a0_3]) (t := 37) ?hr ?_; (case hd => rfl); (case hg => rfl); (case hr => first | (go_simp; done) | (go_simp; rfl)); intro gb311 hg w5 hbox hb; have n0_ := Aside0.mk (below_step bSt_ hb); have n1_ := Aside0.mk (hbox); have n2_ := Aside0.mk ((by rw [hg]; exact (below_size bSt_) : w.heap.size ≤ gb311)); have n3_ := Aside0.mk ((by rw [hg]; exact (below_size bSt_) : w.heap.size ≤ gb311)); clear HB; have HB := n0_; have BK311 := n1_; have GW311 := n2_; have GE311 := n3_; clear n0_ n1_ n2_ n3_; clear hb hbox hg; have hcz6_0 : w5.cell? ⟨gb311, 0, none⟩ = some (.slice A0_0 l0_0.length c0_0) := (blk_cell BK311.out 0).trans rfl; have hcz6_1 : w5.cell? ⟨gb311, 1, none⟩ = some (.slice A0_1 l0_1.length c0_1) := (blk_cell BK311.out 1).trans rfl; have hcz6_2 : w5.cell? ⟨gb311, 2, none⟩ = some (.int .i64 a0_2) := (blk_cell BK311.out 2).trans rfl; have hcz6_3 : w5.cell? ⟨gb311, 3, none⟩ = some (.int .i64 a0_3) := (blk_cell BK311.out 3).trans rfl; have hfz6_0 := blk_frozen BK311.out 0; have hfz6_1 := blk_frozen BK311.out 1; have hfz6_2 := blk_frozen BK311.out 2; have hfz6_3 := blk_frozen BK311.out 3))
    go_ret
    exact ⟨by first | rfl | (simp [errW_none, errW_some] <;> rfl) | (simp [*, errW_none, errW_some] <;> rfl) | (simp [errW_none, errW_some]; exact Go.Proofs.YtgfbgfbnmiainaaW.OwnWords.isEmpty_bne _), bSt_⟩
   ·rw [if_neg c4] at H
    have c4b0 : (a0_2 == 0) = false := beq_eq_false_iff_ne.mpr c4
    have c4b1 : (a0_2 != 0) = true := bne_iff_ne.mpr c4
    obtain rfl := Option.some.inj H
    go_enter Try.func19, Try.ntmps19
    go_wp2_with (first | ((with_reducible refine gate_dst (N := 1) rfl ?_); (try (refine gate_guard (by rfl) ?_; dsimp only)); refine box_event ?hg (N := 1) ?hd (cs := #[.slice A0_0 l0_0.length c0_0, .slice A0_1 l0_1.length c0_1, .int .i64 a0_2, .int .i64 a0_3]) (t := 37) ?hr ?_; (case hd => rfl); (case hg => rfl); (case hr => first | (go_simp; done) | (go_simp; rfl)); intro gb311 hg w7 hbox hb; have n0_ := Aside0.mk (below_step bSt_ hb); have n1_ := Aside0.mk (hbox); have n2_ := Aside0.mk ((by rw [hg]; exact (below_size bSt_) : w.heap.size ≤ gb311)); have n3_ := Aside0.mk ((by rw [hg]; exact (below_size bSt_) : w.heap.size ≤ gb311)); clear HB; have HB := n0_; have BK311 := n1_; have GW311 := n2_; have GE311 := n3_; clear n0_ n1_ n2_ n3_; clear hb hbox hg; have hcz8_0 : w7.cell? ⟨gb311, 0, none⟩ = some (.slice A0_0 l0_0.length c0_0) := (blk_cell BK311.out 0).trans rfl; have hcz8_1 : w7.cell? ⟨gb311, 1, none⟩ = some (.slice A0_1 l0_1.length c0_1) := (blk_cell BK311.out 1).trans rfl; have hcz8_2 : w7.cell? ⟨gb311, 2, none⟩ = some (.int .i64 a0_2) := (blk_cell BK311.out 2).trans rfl; have hcz8_3 : w7.cell? ⟨gb311, 3, none⟩ = some (.int .i64 a0_3) := (blk_cell BK311.out 3).trans rfl; have hfz8_0 := blk_frozen BK311.out 0; have hfz8_1 := blk_frozen BK311.out 1; have hfz8_2 := blk_frozen BK311.out 2; have hfz8_3 := blk_frozen BK311.out 3))
    go_ret
    exact ⟨by first | rfl | (simp [errW_none, errW_some] <;> rfl) | (simp [*, errW_none, errW_some] <;> rfl) | (simp [errW_none, errW_some]; exact Go.Proofs.YtgfbgfbnmiainaaW.OwnWords.isEmpty_bne _), bSt_⟩
  ·rw [if_neg c3] at H
   have c3b0 : ((l0_1.length : Int) == 0) = false := beq_eq_false_iff_ne.mpr c3
   have c3b1 : ((l0_1.length : Int) != 0) = true := bne_iff_ne.mpr c3
   have c3b2 : ¬ (l0_1 = []) := fun h_ => c3 (by rw [h_]; rfl)
   obtain rfl := Option.some.inj H
   go_enter Try.func19, Try.ntmps19
   go_wp2_with (first | ((with_reducible refine gate_dst (N := 1) rfl ?_); (try (refine gate_guard (by rfl) ?_; dsimp only)); refine box_event ?hg (N := 1) ?hd (cs := #[.slice A0_0 l0_0.length c0_0, .slice A0_1 l0_1.length c0_1, .int .i64 a0_2, .int .i64 a0_3]) (t := 37) ?hr ?_; (case hd => rfl); (case hg => rfl); (case hr => first | (go_simp; done) | (go_simp; rfl)); intro gb311 hg w9 hbox hb; have n0_ := Aside0.mk (below_step bSt_ hb); have n1_ := Aside0.mk (hbox); have n2_ := Aside0.mk ((by rw [hg]; exact (below_size bSt_) : w.heap.size ≤ gb311)); have n3_ := Aside0.mk ((by rw [hg]; exact (below_size bSt_) : w.heap.size ≤ gb311)); clear HB; have HB := n0_; have BK311 := n1_; have GW311 := n2_; have GE311 := n3_; clear n0_ n1_ n2_ n3_; clear hb hbox hg; have hcz10_0 : w9.cell? ⟨gb311, 0, none⟩ = some (.slice A0_0 l0_0.length c0_0) := (blk_cell BK311.out 0).trans rfl; have hcz10_1 : w9.cell? ⟨gb311, 1, none⟩ = some (.slice A0_1 l0_1.length c0_1) := (blk_cell BK311.out 1).trans rfl; have hcz10_2 : w9.cell? ⟨gb311, 2, none⟩ = some (.int .i64 a0_2) := (blk_cell BK311.out 2).trans rfl; have hcz10_3 : w9.cell? ⟨gb311, 3, none⟩ = some (.int .i64 a0_3) := (blk_cell BK311.out 3).trans rfl; have hfz10_0 := blk_frozen BK311.out 0; have hfz10_1 := blk_frozen BK311.out 1; have hfz10_2 := blk_frozen BK311.out 2; have hfz10_3 := blk_frozen BK311.out 3))
   go_ret
   exact ⟨by first | rfl | (simp [errW_none, errW_some] <;> rfl) | (simp [*, errW_none, errW_some] <;> rfl) | (simp [errW_none, errW_some]; exact Go.Proofs.YtgfbgfbnmiainaaW.OwnWords.isEmpty_bne _), bSt_⟩
 ·rw [if_neg c2] at H
  have c2b0 : ((l0_0.length : Int) == 0) = false := beq_eq_false_iff_ne.mpr c2
  have c2b1 : ((l0_0.length : Int) != 0) = true := bne_iff_ne.mpr c2
  have c2b2 : ¬ (l0_0 = []) := fun h_ => c2 (by rw [h_]; rfl)
  obtain rfl := Option.some.inj H
  go_enter Try.func19, Try.ntmps19
  go_wp2_with (first | ((with_reducible refine gate_dst (N := 1) rfl ?_); (try (refine gate_guard (by rfl) ?_; dsimp only)); refine box_event ?hg (N := 1) ?hd (cs := #[.slice A0_0 l0_0.length c0_0, .slice A0_1 l0_1.length c0_1, .int .i64 a0_2, .int .i64 a0_3]) (t := 37) ?hr ?_; (case hd => rfl); (case hg => rfl); (case hr => first | (go_simp; done) | (go_simp; rfl)); intro gb311 hg w11 hbox hb; have n0_ := Aside0.mk (below_step bSt_ hb); have n1_ := Aside0.mk (hbox); have n2_ := Aside0.mk ((by rw [hg]; exact (below_size bSt_) : w.heap.size ≤ gb311)); have n3_ := Aside0.mk ((by rw [hg]; exact (below_size bSt_) : w.heap.size ≤ gb311)); clear HB; have HB := n0_; have BK311 := n1_; have GW311 := n2_; have GE311 := n3_; clear n0_ n1_ n2_ n3_; clear hb hbox hg; have hcz12_0 : w11.cell? ⟨gb311, 0, none⟩ = some (.slice A0_0 l0_0.length c0_0) := (blk_cell BK311.out 0).trans rfl; have hcz12_1 : w11.cell? ⟨gb311, 1, none⟩ = some (.slice A0_1 l0_1.length c0_1) := (blk_cell BK311.out 1).trans rfl; have hcz12_2 : w11.cell? ⟨gb311, 2, none⟩ = some (.int .i64 a0_2) := (blk_cell BK311.out 2).trans rfl; have hcz12_3 : w11.cell? ⟨gb311, 3, none⟩ = some (.int .i64 a0_3) := (blk_cell BK311.out 3).trans rfl; have hfz12_0 := blk_frozen BK311.out 0; have hfz12_1 := blk_frozen BK311.out 1; have hfz12_2 := blk_frozen BK311.out 2; have hfz12_3 := blk_frozen BK311.out 3))
  go_ret
  exact ⟨by first | rfl | (simp [errW_none, errW_some] <;> rfl) | (simp [*, errW_none, errW_some] <;> rfl) | (simp [errW_none, errW_some]; exact Go.Proofs.YtgfbgfbnmiainaaW.OwnWords.isEmpty_bne _), bSt_⟩

end Go.Proofs.Ytgfbgfbnmiainaa.Q
end
