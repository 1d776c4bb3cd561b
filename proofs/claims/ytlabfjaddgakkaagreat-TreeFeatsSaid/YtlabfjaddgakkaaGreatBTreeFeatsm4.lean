/- Which features there are, and their order (strict, total and transitive), are as the reference says; for every three features with texts of at most 1,000 bytes in all. -/
-- Walks of Go functions; written by own_print.py of this repo (see NOTES.md).
import Derived.Test.YtlabfjaddgakkaaGreatBTreeFeatsm0
import Derived.Test.YtlabfjaddgakkaaGreatBTreeFeatsm1
import Derived.Test.YtlabfjaddgakkaaGreatBTreeFeatsm3
section
namespace Go.Proofs.YtlabfjaddgakkaaGreat.Q
open Go.RowKit Go.Proofs.YtlabfjaddgakkaaGreatW.PrintWords Go.Proofs.YtlabfjaddgakkaaGreatW.PrintLast Go.Proofs.YtlabfjaddgakkaaGreatW.PrintMore Go.Proofs.YtlabfjaddgakkaaGreatW.OwnWords
attribute [local go_sem] Go.Proofs.YtlabfjaddgakkaaGreatW.OwnWords.isSome_setCell max2_int min2_int max_two min_two max_three min_three max_four min_four
set_option linter.unusedVariables false
set_option linter.unusedSimpArgs false

attribute [local go_sem high] eqA23
/-! ### manystrandlaw02_TreeFeats: function 3 -/
mutual
def manystrandlaw02_TreeFeats.j0 : Nat → Bool → Int → ByteArray → Int → ByteArray → Int → ByteArray → Option (Bool)
 | 0, _, _, _, _, _, _, _ => none
 | k + 1, x35, x303000, x303001, x304000, x304001, x305000, x305001 => if x35 = true then (some false) else ((tree_IsFeat.f k x303000 x303001).bind fun t310 => (if t310 = true then ((tree_IsFeat.f k x304000 x304001).bind fun t311 => (if t311 = true then ((tree_IsFeat.f k x305000 x305001).bind fun t312 => (manystrandlaw02_TreeFeats.j1 k (!t312) x303000 x303001 x304000 x304001 x305000 x305001)) else (manystrandlaw02_TreeFeats.j1 k true x303000 x303001 x304000 x304001 x305000 x305001))) else (manystrandlaw02_TreeFeats.j1 k true x303000 x303001 x304000 x304001 x305000 x305001)))
def manystrandlaw02_TreeFeats.j1 : Nat → Bool → Int → ByteArray → Int → ByteArray → Int → ByteArray → Option (Bool)
 | 0, _, _, _, _, _, _, _ => none
 | k + 1, x48, x303000, x303001, x304000, x304001, x305000, x305001 => if x48 = true then ((manystrandlaw02_awake.f).bind fun t313 => (some t313)) else ((tree_Less.f k x303000 x303001 x304000 x304001).bind fun t314 => ((tree_Less.f k x304000 x304001 x303000 x303001).bind fun t315 => ((tree_Less.f k x304000 x304001 x305000 x305001).bind fun t316 => ((tree_Less.f k x303000 x303001 x305000 x305001).bind fun t317 => ((manystrandref02_Less.f k x303000 x303001 x304000 x304001).bind fun t318 => (if (t314 == t318) = true then (if t314 = true then (if t315 = true then (some false) else (if (true == (!(x303000 == x304000) || (!(x303001.toList == x304001.toList)))) = true then (if t316 = true then (if t317 = true then ((manystrandlaw02_awake.f).bind fun t319 => (some t319)) else (some false)) else ((manystrandlaw02_awake.f).bind fun t320 => (some t320))) else (some false))) else (if (t315 == (!(x303000 == x304000) || (!(x303001.toList == x304001.toList)))) = true then ((manystrandlaw02_awake.f).bind fun t321 => (some t321)) else (some false))) else (some false)))))))
end
def manystrandlaw02_TreeFeats.f (k : Nat) (a0_0 : Int) (a0_1 : ByteArray) (a1_0 : Int) (a1_1 : ByteArray) (a2_0 : Int) (a2_1 : ByteArray) : Option (Bool) := if (wrap64 ((wrap64 ((a0_1.size : Int) + (a1_1.size : Int))) + (a2_1.size : Int))) > 1000 then ((manystrandlaw02_awake.f).bind fun t305 => (some t305)) else ((tree_IsFeat.f k a0_0 a0_1).bind fun t306 => ((manystrandref02_IsFeat.f k a0_0 a0_1).bind fun t307 => (if (t306 != t307) = true then (manystrandlaw02_TreeFeats.j0 k true a0_0 a0_1 a1_0 a1_1 a2_0 a2_1) else ((tree_IsFeat.f k a1_0 a1_1).bind fun t308 => ((manystrandref02_IsFeat.f k a1_0 a1_1).bind fun t309 => (manystrandlaw02_TreeFeats.j0 k (t308 != t309) a0_0 a0_1 a1_0 a1_1 a2_0 a2_1))))))
theorem manystrandlaw02_TreeFeats.mono_l : ∀ k, (∀ y0 y1 y2 y3 y4 y5 y6, LeO (manystrandlaw02_TreeFeats.j0 k y0 y1 y2 y3 y4 y5 y6) (manystrandlaw02_TreeFeats.j0 (k + 1) y0 y1 y2 y3 y4 y5 y6)) ∧ (∀ y0 y1 y2 y3 y4 y5 y6, LeO (manystrandlaw02_TreeFeats.j1 k y0 y1 y2 y3 y4 y5 y6) (manystrandlaw02_TreeFeats.j1 (k + 1) y0 y1 y2 y3 y4 y5 y6))
 | 0 => ⟨fun _ _ _ _ _ _ _ r h => by simp [manystrandlaw02_TreeFeats.j0] at h, fun _ _ _ _ _ _ _ r h => by simp [manystrandlaw02_TreeFeats.j1] at h⟩
 | k + 1 => by
  obtain ⟨ih0, ih1⟩ := manystrandlaw02_TreeFeats.mono_l k
  refine ⟨?_, ?_⟩
  ·intro y0 y1 y2 y3 y4 y5 y6
   unfold manystrandlaw02_TreeFeats.j0
   repeat' first
   | (with_reducible exact ih0 _ _ _ _ _ _ _)
   | (with_reducible exact ih1 _ _ _ _ _ _ _)
   | (with_reducible exact manystrandref02_IsFeat.mono _ _ _)
   | (with_reducible exact manystrandref02_Less.mono _ _ _ _ _)
   | (with_reducible exact tree_IsFeat.mono _ _ _)
   | (with_reducible exact tree_Less.mono _ _ _ _ _)
   | (with_reducible exact LeO.refl _)
   | (with_reducible exact LeO.none _)
   | (with_reducible refine LeO.ite ?_ ?_)
   | (with_reducible refine LeO.bind ?_ (fun _ => ?_))
   | exact ih0 _ _ _ _ _ _ _
   | exact ih1 _ _ _ _ _ _ _
   | exact manystrandref02_IsFeat.mono _ _ _
   | exact manystrandref02_Less.mono _ _ _ _ _
   | exact tree_IsFeat.mono _ _ _
   | exact tree_Less.mono _ _ _ _ _
   | exact LeO.none _
   | refine LeO.ite ?_ ?_
   | refine LeO.bind ?_ (fun _ => ?_)
  ·intro y0 y1 y2 y3 y4 y5 y6
   unfold manystrandlaw02_TreeFeats.j1
   repeat' first
   | (with_reducible exact ih0 _ _ _ _ _ _ _)
   | (with_reducible exact ih1 _ _ _ _ _ _ _)
   | (with_reducible exact manystrandref02_IsFeat.mono _ _ _)
   | (with_reducible exact manystrandref02_Less.mono _ _ _ _ _)
   | (with_reducible exact tree_IsFeat.mono _ _ _)
   | (with_reducible exact tree_Less.mono _ _ _ _ _)
   | (with_reducible exact LeO.refl _)
   | (with_reducible exact LeO.none _)
   | (with_reducible refine LeO.ite ?_ ?_)
   | (with_reducible refine LeO.bind ?_ (fun _ => ?_))
   | exact ih0 _ _ _ _ _ _ _
   | exact ih1 _ _ _ _ _ _ _
   | exact manystrandref02_IsFeat.mono _ _ _
   | exact manystrandref02_Less.mono _ _ _ _ _
   | exact tree_IsFeat.mono _ _ _
   | exact tree_Less.mono _ _ _ _ _
   | exact LeO.none _
   | refine LeO.ite ?_ ?_
   | refine LeO.bind ?_ (fun _ => ?_)
theorem manystrandlaw02_TreeFeats.mono : ∀ a0 a1 a2 a3 a4 a5 k, LeO (manystrandlaw02_TreeFeats.f k a0 a1 a2 a3 a4 a5) (manystrandlaw02_TreeFeats.f (k + 1) a0 a1 a2 a3 a4 a5) := by
 intro a0 a1 a2 a3 a4 a5 k
 obtain ⟨ih0, ih1⟩ := manystrandlaw02_TreeFeats.mono_l k
 unfold manystrandlaw02_TreeFeats.f
 repeat' first
   | (with_reducible exact ih0 _ _ _ _ _ _ _)
   | (with_reducible exact ih1 _ _ _ _ _ _ _)
   | (with_reducible exact manystrandref02_IsFeat.mono _ _ _)
   | (with_reducible exact manystrandref02_Less.mono _ _ _ _ _)
   | (with_reducible exact tree_IsFeat.mono _ _ _)
   | (with_reducible exact tree_Less.mono _ _ _ _ _)
   | (with_reducible exact LeO.refl _)
   | (with_reducible exact LeO.none _)
   | (with_reducible refine LeO.ite ?_ ?_)
   | (with_reducible refine LeO.bind ?_ (fun _ => ?_))
   | exact ih0 _ _ _ _ _ _ _
   | exact ih1 _ _ _ _ _ _ _
   | exact manystrandref02_IsFeat.mono _ _ _
   | exact manystrandref02_Less.mono _ _ _ _ _
   | exact tree_IsFeat.mono _ _ _
   | exact tree_Less.mono _ _ _ _ _
   | exact LeO.none _
   | refine LeO.ite ?_ ?_
   | refine LeO.bind ?_ (fun _ => ?_)
def manystrandlaw02_TreeFeats.T3 : Bool × List (List Nat × List Nat) := (true, [([], []), ([0], [0]), ([], []), ([2, 1], [2]), ([1, 3], [1, 3]), ([4, 3], [4]), ([5], [5]), ([6, 5, 5], [5, 6]), ([5], [5]), ([8, 7, 5], [5, 8]), ([7, 9, 5], [5, 7, 9]), ([5, 10], [5, 10])])
def manystrandlaw02_TreeFeats.B3 : List Nat := [0, 1, 0, 7, 15, 31, 63, 127, 63, 511, 1023, 2047]
theorem manystrandlaw02_TreeFeats.tab3 : rtab .any (opsOf Tryz.f3 3) = manystrandlaw02_TreeFeats.T3 := by kernel_rfl
theorem manystrandlaw02_TreeFeats.bits3 : waitsOk manystrandlaw02_TreeFeats.T3.2 manystrandlaw02_TreeFeats.B3 = true := by kernel_rfl
def manystrandlaw02_TreeFeats.T7 : Bool × List (List Nat × List Nat) := (true, [([], []), ([], []), ([0, 1], [0, 1]), ([], []), ([], []), ([3, 4, 2], [3, 4]), ([], []), ([], []), ([6, 7, 5], [6, 7]), ([], []), ([], []), ([9, 10, 8], [9, 10]), ([2, 11, 0, 1, 2], [2]), ([5, 12, 0, 1, 2, 3, 4, 5, 12], [5]), ([8, 13, 0, 1, 2, 3, 4, 5, 6, 7, 8, 12, 13], [8]), ([11, 14, 0, 1, 2, 3, 4, 5, 6, 7, 8, 9, 10, 11, 12, 13, 14], [11])])
def manystrandlaw02_TreeFeats.B7 : List Nat := [0, 0, 3, 0, 0, 31, 0, 0, 255, 0, 0, 2047, 4095, 8191, 16383, 32767]
theorem manystrandlaw02_TreeFeats.tab7 : rtab .any (opsOf Tryz.f3 7) = manystrandlaw02_TreeFeats.T7 := by kernel_rfl
theorem manystrandlaw02_TreeFeats.bits7 : waitsOk manystrandlaw02_TreeFeats.T7.2 manystrandlaw02_TreeFeats.B7 = true := by kernel_rfl
set_option maxHeartbeats 8000000 in
set_option maxRecDepth 100000 in
theorem manystrandlaw02_TreeFeats.calls (k : Nat) (a0_0 : Int) (a0_1 : ByteArray) (a1_0 : Int) (a1_1 : ByteArray) (a2_0 : Int) (a2_1 : ByteArray) (r : Bool) (w : World) (h : manystrandlaw02_TreeFeats.f k a0_0 a0_1 a1_0 a1_1 a2_0 a2_1 = some r) :
  Calls Tryz.prog 3 #[.agg #[.int .i64 a0_0, .string a0_1], .agg #[.int .i64 a1_0, .string a1_1], .agg #[.int .i64 a2_0, .string a2_1]] w fun e w' => e = .returned (.bool r) ∧ Below w.heap.size w w' := by
 have hu23 := Tryz.underlying23
 have HB := Aside0.mk (Below.refl w.heap.size w)
 have H : (if (wrap64 ((wrap64 ((a0_1.size : Int) + (a1_1.size : Int))) + (a2_1.size : Int))) > 1000 then ((manystrandlaw02_awake.f).bind fun t305 => (some t305)) else ((tree_IsFeat.f k a0_0 a0_1).bind fun t306 => ((manystrandref02_IsFeat.f k a0_0 a0_1).bind fun t307 => (if (t306 != t307) = true then (manystrandlaw02_TreeFeats.j0 k true a0_0 a0_1 a1_0 a1_1 a2_0 a2_1) else ((tree_IsFeat.f k a1_0 a1_1).bind fun t308 => ((manystrandref02_IsFeat.f k a1_0 a1_1).bind fun t309 => (manystrandlaw02_TreeFeats.j0 k (t308 != t309) a0_0 a0_1 a1_0 a1_1 a2_0 a2_1))))))) = some r := h
 clear h
 by_cases c4 : (wrap64 ((wrap64 ((a0_1.size : Int) + (a1_1.size : Int))) + (a2_1.size : Int))) > 1000
 ·rw [if_pos c4] at H
  have c4b0 : decide (1000 < (wrap64 ((wrap64 ((a0_1.size : Int) + (a1_1.size : Int))) + (a2_1.size : Int)))) = true := decide_eq_true c4
  clear c4
  replace H := Option.bind_eq_some_iff.mp H
  obtain ⟨t305, A50, H⟩ := H
  replace H : (some t305) = some r := H
  have A5 := Aside0.mk A50
  clear A50
  obtain rfl := Option.some.inj H
  go_enter Tryz.func3, Tryz.ntmps3
  go_wp2_with (first | ((with_reducible refine gate_dst (N := 3) rfl ?_); refine box_event ?hg (N := 3) ?hd (cs := #[.int .i64 a0_0, .string a0_1]) (t := 23) ?hr ?_; (case hd => rfl); (case hg => rfl); (case hr => first | (go_simp; done) | (go_simp; rfl)); intro gb302 hg w6 hbox hb; have n0_ := Aside0.mk (below_step bSt_ hb); have n1_ := Aside0.mk (hbox); have n2_ := Aside0.mk ((by rw [hg]; exact (below_size bSt_) : w.heap.size ≤ gb302)); have n3_ := Aside0.mk ((by rw [hg]; exact (below_size bSt_) : w.heap.size ≤ gb302)); clear HB; have HB := n0_; have BK302 := n1_; have GW302 := n2_; have GE302 := n3_; clear n0_ n1_ n2_ n3_; clear hb hbox hg) | ((with_reducible refine gate_dst (N := 4) rfl ?_); refine box_event ?hg (N := 4) ?hd (cs := #[.int .i64 a1_0, .string a1_1]) (t := 23) ?hr ?_; (case hd => rfl); (case hg => rfl); (case hr => first | (go_simp; done) | (go_simp; rfl)); intro gb303 hg w7 hbox hb; have n0_ := Aside0.mk (blk_below (bKq_ BK302.out) hb); have n1_ := Aside0.mk (below_step bSt_ hb); have n2_ := Aside0.mk (hbox); have n3_ := Aside0.mk ((by rw [hg]; exact (below_size bSt_) : w.heap.size ≤ gb303)); have n4_ := Aside0.mk ((by rw [hg]; exact (below_size bSt_) : w.heap.size ≤ gb303)); have n5_ := Aside0.mk ((by rw [hg]; exact Nat.ne_of_lt (blk_lt (bKq_ BK302.out)) : gb302 ≠ gb303)); have n6_ := Aside0.mk ((by rw [hg]; exact Nat.ne_of_gt (blk_lt (bKq_ BK302.out)) : gb303 ≠ gb302)); clear BK302; clear HB; have BK302 := n0_; have HB := n1_; have BK303 := n2_; have GW303 := n3_; have GE303 := n4_; have NB302_303 := n5_; have NB303_302 := n6_; clear n0_ n1_ n2_ n3_ n4_ n5_ n6_; clear hb hbox hg) | ((with_reducible refine gate_dst (N := 5) rfl ?_); refine box_event ?hg (N := 5) ?hd (cs := #[.int .i64 a2_0, .string a2_1]) (t := 23) ?hr ?_; (case hd => rfl); (case hg => rfl); (case hr => first | (go_simp; done) | (go_simp; rfl)); intro gb304 hg w8 hbox hb; have n0_ := Aside0.mk (blk_below (bKq_ BK302.out) hb); have n1_ := Aside0.mk (blk_below (bKq_ BK303.out) hb); have n2_ := Aside0.mk (below_step bSt_ hb); have n3_ := Aside0.mk (hbox); have n4_ := Aside0.mk ((by rw [hg]; exact (below_size bSt_) : w.heap.size ≤ gb304)); have n5_ := Aside0.mk ((by rw [hg]; exact (below_size bSt_) : w.heap.size ≤ gb304)); have n6_ := Aside0.mk ((by rw [hg]; exact Nat.ne_of_lt (blk_lt (bKq_ BK302.out)) : gb302 ≠ gb304)); have n7_ := Aside0.mk ((by rw [hg]; exact Nat.ne_of_gt (blk_lt (bKq_ BK302.out)) : gb304 ≠ gb302)); have n8_ := Aside0.mk ((by rw [hg]; exact Nat.ne_of_lt (blk_lt (bKq_ BK303.out)) : gb303 ≠ gb304)); have n9_ := Aside0.mk ((by rw [hg]; exact Nat.ne_of_gt (blk_lt (bKq_ BK303.out)) : gb304 ≠ gb303)); clear BK302; clear BK303; clear HB; have BK302 := n0_; have BK303 := n1_; have HB := n2_; have BK304 := n3_; have GW304 := n4_; have GE304 := n5_; have NB302_304 := n6_; have NB304_302 := n7_; have NB303_304 := n8_; have NB304_303 := n9_; clear n0_ n1_ n2_ n3_ n4_ n5_ n6_ n7_ n8_ n9_; clear hb hbox hg; have hnb9 := NB302_303.out; have hnc9 := NB303_302.out; have hnb10 := NB302_304.out; have hnc10 := NB304_302.out; have hcz11_0 : w8.cell? ⟨gb302, 0, none⟩ = some (.int .i64 a0_0) := (blk_cell BK302.out 0).trans rfl; have hcz11_1 : w8.cell? ⟨gb302, 1, none⟩ = some (.string a0_1) := (blk_cell BK302.out 1).trans rfl; have hfz11_0 := blk_frozen BK302.out 0; have hfz11_1 := blk_frozen BK302.out 1; have hnb12 := NB303_304.out; have hnc12 := NB304_303.out; have hcz13_0 : w8.cell? ⟨gb303, 0, none⟩ = some (.int .i64 a1_0) := (blk_cell BK303.out 0).trans rfl; have hcz13_1 : w8.cell? ⟨gb303, 1, none⟩ = some (.string a1_1) := (blk_cell BK303.out 1).trans rfl; have hfz13_0 := blk_frozen BK303.out 0; have hfz13_1 := blk_frozen BK303.out 1; have hcz14_0 : w8.cell? ⟨gb304, 0, none⟩ = some (.int .i64 a2_0) := (blk_cell BK304.out 0).trans rfl; have hcz14_1 : w8.cell? ⟨gb304, 1, none⟩ = some (.string a2_1) := (blk_cell BK304.out 1).trans rfl; have hfz14_0 := blk_frozen BK304.out 0; have hfz14_1 := blk_frozen BK304.out 1) | ((with_reducible refine gate_callee (f := 7) rfl ?_); refine goesL_ (some 23) rfl rfl Tryz.func7 (by kernel_rfl) rfl #[] rfl (by (try simp only [List.map_toArray, List.map_cons, List.map_nil]); first | done | rfl | (simp only [List.length_drop, List.length_take]; rfl)) ?_; (with_reducible refine (manystrandlaw02_awake.calls  t305 _ A5.out).mono ?_); rintro e w15 ⟨rfl, hb⟩; refine ⟨_, rfl, ?_⟩; have n0_ := Aside0.mk (blk_below (bKq_ BK302.out) hb); have n1_ := Aside0.mk (blk_below (bKq_ BK303.out) hb); have n2_ := Aside0.mk (blk_below (bKq_ BK304.out) hb); have n3_ := Aside0.mk (below_step bSt_ hb); clear BK302; clear BK303; clear BK304; clear HB; have BK302 := n0_; have BK303 := n1_; have BK304 := n2_; have HB := n3_; clear n0_ n1_ n2_ n3_; (try clear hb); (try clear hb2); (try clear hk); (try clear hi)))
  go_ret
  exact ⟨by first | rfl | (simp [errW_none, errW_some] <;> rfl) | (simp [*, errW_none, errW_some] <;> rfl) | (simp [errW_none, errW_some]; exact Go.Proofs.YtlabfjaddgakkaaGreatW.OwnWords.isEmpty_bne _), bSt_⟩
 ·rw [if_neg c4] at H
  have c4b0 : decide (1000 < (wrap64 ((wrap64 ((a0_1.size : Int) + (a1_1.size : Int))) + (a2_1.size : Int)))) = false := decide_eq_false c4
  clear c4
  have HC16 := Aside0.mk H
  clear H
  go_enter Tryz.func3, Tryz.ntmps3
  go_upto_region 3 with (first | ((with_reducible refine gate_dst (N := 3) rfl ?_); refine box_event ?hg (N := 3) ?hd (cs := #[.int .i64 a0_0, .string a0_1]) (t := 23) ?hr ?_; (case hd => rfl); (case hg => rfl); (case hr => first | (go_simp; done) | (go_simp; rfl)); intro gb302 hg w17 hbox hb; have n0_ := Aside0.mk (below_step bSt_ hb); have n1_ := Aside0.mk (hbox); have n2_ := Aside0.mk ((by rw [hg]; exact (below_size bSt_) : w.heap.size ≤ gb302)); have n3_ := Aside0.mk ((by rw [hg]; exact (below_size bSt_) : w.heap.size ≤ gb302)); clear HB; have HB := n0_; have BK302 := n1_; have GW302 := n2_; have GE302 := n3_; clear n0_ n1_ n2_ n3_; clear hb hbox hg) | ((with_reducible refine gate_dst (N := 4) rfl ?_); refine box_event ?hg (N := 4) ?hd (cs := #[.int .i64 a1_0, .string a1_1]) (t := 23) ?hr ?_; (case hd => rfl); (case hg => rfl); (case hr => first | (go_simp; done) | (go_simp; rfl)); intro gb303 hg w18 hbox hb; have n0_ := Aside0.mk (blk_below (bKq_ BK302.out) hb); have n1_ := Aside0.mk (below_step bSt_ hb); have n2_ := Aside0.mk (hbox); have n3_ := Aside0.mk ((by rw [hg]; exact (below_size bSt_) : w.heap.size ≤ gb303)); have n4_ := Aside0.mk ((by rw [hg]; exact (below_size bSt_) : w.heap.size ≤ gb303)); have n5_ := Aside0.mk ((by rw [hg]; exact Nat.ne_of_lt (blk_lt (bKq_ BK302.out)) : gb302 ≠ gb303)); have n6_ := Aside0.mk ((by rw [hg]; exact Nat.ne_of_gt (blk_lt (bKq_ BK302.out)) : gb303 ≠ gb302)); clear BK302; clear HB; have BK302 := n0_; have HB := n1_; have BK303 := n2_; have GW303 := n3_; have GE303 := n4_; have NB302_303 := n5_; have NB303_302 := n6_; clear n0_ n1_ n2_ n3_ n4_ n5_ n6_; clear hb hbox hg) | ((with_reducible refine gate_dst (N := 5) rfl ?_); refine box_event ?hg (N := 5) ?hd (cs := #[.int .i64 a2_0, .string a2_1]) (t := 23) ?hr ?_; (case hd => rfl); (case hg => rfl); (case hr => first | (go_simp; done) | (go_simp; rfl)); intro gb304 hg w19 hbox hb; have n0_ := Aside0.mk (blk_below (bKq_ BK302.out) hb); have n1_ := Aside0.mk (blk_below (bKq_ BK303.out) hb); have n2_ := Aside0.mk (below_step bSt_ hb); have n3_ := Aside0.mk (hbox); have n4_ := Aside0.mk ((by rw [hg]; exact (below_size bSt_) : w.heap.size ≤ gb304)); have n5_ := Aside0.mk ((by rw [hg]; exact (below_size bSt_) : w.heap.size ≤ gb304)); have n6_ := Aside0.mk ((by rw [hg]; exact Nat.ne_of_lt (blk_lt (bKq_ BK302.out)) : gb302 ≠ gb304)); have n7_ := Aside0.mk ((by rw [hg]; exact Nat.ne_of_gt (blk_lt (bKq_ BK302.out)) : gb304 ≠ gb302)); have n8_ := Aside0.mk ((by rw [hg]; exact Nat.ne_of_lt (blk_lt (bKq_ BK303.out)) : gb303 ≠ gb304)); have n9_ := Aside0.mk ((by rw [hg]; exact Nat.ne_of_gt (blk_lt (bKq_ BK303.out)) : gb304 ≠ gb303)); clear BK302; clear BK303; clear HB; have BK302 := n0_; have BK303 := n1_; have HB := n2_; have BK304 := n3_; have GW304 := n4_; have GE304 := n5_; have NB302_304 := n6_; have NB304_302 := n7_; have NB303_304 := n8_; have NB304_303 := n9_; clear n0_ n1_ n2_ n3_ n4_ n5_ n6_ n7_ n8_ n9_; clear hb hbox hg; have hnb20 := NB302_303.out; have hnc20 := NB303_302.out; have hnb21 := NB302_304.out; have hnc21 := NB304_302.out; have hcz22_0 : w19.cell? ⟨gb302, 0, none⟩ = some (.int .i64 a0_0) := (blk_cell BK302.out 0).trans rfl; have hcz22_1 : w19.cell? ⟨gb302, 1, none⟩ = some (.string a0_1) := (blk_cell BK302.out 1).trans rfl; have hfz22_0 := blk_frozen BK302.out 0; have hfz22_1 := blk_frozen BK302.out 1; have hnb23 := NB303_304.out; have hnc23 := NB304_303.out; have hcz24_0 : w19.cell? ⟨gb303, 0, none⟩ = some (.int .i64 a1_0) := (blk_cell BK303.out 0).trans rfl; have hcz24_1 : w19.cell? ⟨gb303, 1, none⟩ = some (.string a1_1) := (blk_cell BK303.out 1).trans rfl; have hfz24_0 := blk_frozen BK303.out 0; have hfz24_1 := blk_frozen BK303.out 1; have hcz25_0 : w19.cell? ⟨gb304, 0, none⟩ = some (.int .i64 a2_0) := (blk_cell BK304.out 0).trans rfl; have hcz25_1 : w19.cell? ⟨gb304, 1, none⟩ = some (.string a2_1) := (blk_cell BK304.out 1).trans rfl; have hfz25_0 := blk_frozen BK304.out 0; have hfz25_1 := blk_frozen BK304.out 1))
  (try simp only [Act.put, List.setIfInBounds_toArray, List.set_cons_zero, List.set_cons_succ])
  go_cut [35] (fun v35 wc => ∃ (kq : Nat) (x35_15 : Bool), v35 = .bool x35_15 ∧ Aside0 (manystrandlaw02_TreeFeats.j0 kq x35_15 a0_0 a0_1 a1_0 a1_1 a2_0 a2_1 = some r) ∧ Aside0 (kq ≤ k) ∧ Aside0 (wc.heap[gb302]? = some (.cells #[.int .i64 a0_0, .string a0_1] 23 (0, 0))) ∧ Aside0 (wc.heap[gb303]? = some (.cells #[.int .i64 a1_0, .string a1_1] 23 (0, 0))) ∧ Aside0 (wc.heap[gb304]? = some (.cells #[.int .i64 a2_0, .string a2_1] 23 (0, 0))) ∧ Aside0 (Below w.heap.size w wc))
  case first =>
   have H := HC16.out
   clear HC16
   replace H := Option.bind_eq_some_iff.mp H
   obtain ⟨t306, A260, H⟩ := H
   replace H : ((manystrandref02_IsFeat.f k a0_0 a0_1).bind fun t307 => (if (t306 != t307) = true then (manystrandlaw02_TreeFeats.j0 k true a0_0 a0_1 a1_0 a1_1 a2_0 a2_1) else ((tree_IsFeat.f k a1_0 a1_1).bind fun t308 => ((manystrandref02_IsFeat.f k a1_0 a1_1).bind fun t309 => (manystrandlaw02_TreeFeats.j0 k (t308 != t309) a0_0 a0_1 a1_0 a1_1 a2_0 a2_1))))) = some r := H
   have A26 := Aside0.mk A260
   clear A260
   replace H := Option.bind_eq_some_iff.mp H
   obtain ⟨t307, A270, H⟩ := H
   replace H : (if (t306 != t307) = true then (manystrandlaw02_TreeFeats.j0 k true a0_0 a0_1 a1_0 a1_1 a2_0 a2_1) else ((tree_IsFeat.f k a1_0 a1_1).bind fun t308 => ((manystrandref02_IsFeat.f k a1_0 a1_1).bind fun t309 => (manystrandlaw02_TreeFeats.j0 k (t308 != t309) a0_0 a0_1 a1_0 a1_1 a2_0 a2_1)))) = some r := H
   have A27 := Aside0.mk A270
   clear A270
   by_cases c28 : (t306 != t307) = true
   ·rw [if_pos c28] at H
    have c28b0 : (t306 != t307) = true := c28
    (try (have c28b1 : decide (t306 = t307) = false := by simpa using c28))
    (try (have c28b2 : (t306 == t307) = false := by simpa using c28))
    (try (have c28b3 : ¬ (t306 = t307) := by simpa using c28))
    clear c28
    (first | rw [c28b0] | (simp only [i64_w, i32_w]; rw [c28b0]) | skip)
    have H' := Aside0.mk H
    clear H
    try go_wp2
    have n0_ := Aside0.mk (blk_drew BK302.out)
    have n1_ := Aside0.mk (blk_drew BK303.out)
    have n2_ := Aside0.mk (blk_drew BK304.out)
    have n3_ := Aside0.mk (below_drew1 HB.out)
    clear BK302
    clear BK303
    clear BK304
    clear HB
    have BK302 := n0_
    have BK303 := n1_
    have BK304 := n2_
    have HB := n3_
    clear n0_ n1_ n2_ n3_
    refine start_ (n := 12) (S := fun w' => w'.cell? ⟨gb302, 0, none⟩ = some (.int .i64 a0_0) ∧ w'.cell? ⟨gb302, 1, none⟩ = some (.string a0_1)) (ds := []) #[false, false, false, false, false, false, false, false, false, false, false, false] (by kernel_rfl) rfl rfl ⟨(blk_cell BK302.out 0).trans rfl, (blk_cell BK302.out 1).trans rfl⟩ (fun hHeld => ?_); refine with_tabW manystrandlaw02_TreeFeats.tab3 manystrandlaw02_TreeFeats.bits3 (fun HT_ HW_ => ?_)
    generalize w19.drew = w29 at BK302 BK303 BK304 HB hHeld ⊢
    refine take_ (i := 0) (N := some 24) (v := ?_) (a' := ?_) #[true, false, false, false, false, false, false, false, false, false, false, false] rfl rfl (take_ofW HT_.out HW_.out (by kernel_rfl)) (fun _ _ _ h => h) (Or.inl ⟨by rfl, ?_⟩) hHeld ?_ ?_
    rotate_left
    ·rintro w' ⟨s0, s1⟩
     go_simp
     with_reducible rfl
    rotate_left
    ·simp only [Act.put, List.setIfInBounds_toArray, List.set_cons_zero, List.set_cons_succ, i64_w, i32_w]
     rfl
    refine take_ (i := 2) (N := some 26) (v := ?_) (a' := ?_) #[true, false, true, false, false, false, false, false, false, false, false, false] rfl rfl (take_ofW HT_.out HW_.out (by kernel_rfl)) (fun _ _ _ h => h) (Or.inl ⟨by rfl, ?_⟩) hHeld ?_ ?_
    rotate_left
    ·rintro w' ⟨s0, s1⟩
     go_simp
     with_reducible rfl
    rotate_left
    ·simp only [Act.put, List.setIfInBounds_toArray, List.set_cons_zero, List.set_cons_succ, i64_w, i32_w]
     rfl
    refine one_ (i := 1) (N := some 25) #[true, true, true, false, false, false, false, false, false, false, false, false] rfl rfl (one_of HT_.out (by kernel_rfl)) (by decide) (fun K hK => ?_)
    refine goes_ Tryz.func8 (by kernel_rfl) rfl #[.agg #[.int .i64 a0_0, .string a0_1]] (by rfl) rfl rfl (by (try simp only [List.map_toArray, List.map_cons, List.map_nil]); first | done | rfl | (simp only [List.length_drop, List.length_take]; rfl)) ?_
    with_reducible refine (tree_IsFeat.calls k a0_0 a0_1 t306 _ A26.out).mono ?_
    rintro e w30 ⟨rfl, hb⟩
    refine ⟨_, rfl, ?_⟩
    have n0_ := Aside0.mk (blk_below (bKq_ BK302.out) hb)
    have n1_ := Aside0.mk (blk_below (bKq_ BK303.out) hb)
    have n2_ := Aside0.mk (blk_below (bKq_ BK304.out) hb)
    have n3_ := Aside0.mk (below_step bSt_ hb)
    clear BK302
    clear BK303
    clear BK304
    clear HB
    have BK302 := n0_
    have BK303 := n1_
    have BK304 := n2_
    have HB := n3_
    clear n0_ n1_ n2_ n3_
    (try clear hb)
    (try clear hb2)
    (try clear hk)
    (try clear hi)
    refine hK.out _ _ ⟨(blk_cell BK302.out 0).trans rfl, (blk_cell BK302.out 1).trans rfl⟩ (fun hHeld => ?_)
    clear hK K
    refine norm_ (a' := ?_) ?_ ?_
    rotate_left
    ·show Act.put _ (some 25) _ = _
     simp only [Act.put, List.setIfInBounds_toArray, List.set_cons_zero, List.set_cons_succ, i64_w, i32_w]
     rfl
    refine one_ (i := 3) (N := some 27) #[true, true, true, true, false, false, false, false, false, false, false, false] rfl rfl (one_of HT_.out (by kernel_rfl)) (by decide) (fun K hK => ?_)
    refine goes_ Tryz.func9 (by kernel_rfl) rfl #[.agg #[.int .i64 a0_0, .string a0_1]] (by rfl) rfl rfl (by (try simp only [List.map_toArray, List.map_cons, List.map_nil]); first | done | rfl | (simp only [List.length_drop, List.length_take]; rfl)) ?_
    with_reducible refine (manystrandref02_IsFeat.calls k a0_0 a0_1 t307 _ A27.out).mono ?_
    rintro e w31 ⟨rfl, hb⟩
    refine ⟨_, rfl, ?_⟩
    have n0_ := Aside0.mk (blk_below (bKq_ BK302.out) hb)
    have n1_ := Aside0.mk (blk_below (bKq_ BK303.out) hb)
    have n2_ := Aside0.mk (blk_below (bKq_ BK304.out) hb)
    have n3_ := Aside0.mk (below_step bSt_ hb)
    clear BK302
    clear BK303
    clear BK304
    clear HB
    have BK302 := n0_
    have BK303 := n1_
    have BK304 := n2_
    have HB := n3_
    clear n0_ n1_ n2_ n3_
    (try clear hb)
    (try clear hb2)
    (try clear hk)
    (try clear hi)
    refine hK.out _ _ ⟨(blk_cell BK302.out 0).trans rfl, (blk_cell BK302.out 1).trans rfl⟩ (fun hHeld => ?_)
    clear hK K
    refine norm_ (a' := ?_) ?_ ?_
    rotate_left
    ·show Act.put _ (some 27) _ = _
     simp only [Act.put, List.setIfInBounds_toArray, List.set_cons_zero, List.set_cons_succ, i64_w, i32_w]
     rfl
    refine pure_ (i := 4) (N := some 28) (v := ?_) (a' := ?_) #[true, true, true, true, true, false, false, false, false, false, false, false] rfl rfl (any_of HT_.out (by kernel_rfl)) (fun _ _ _ h => h) (Or.inl ⟨by rfl, ?_⟩) ?_ ?_
    rotate_left
    ·intro w'
     go_simp
     with_reducible rfl
    rotate_left
    ·simp only [Act.put, List.setIfInBounds_toArray, List.set_cons_zero, List.set_cons_succ, i64_w, i32_w]
     rfl
    refine pure_ (i := 5) (N := some 29) (v := ?_) (a' := ?_) #[true, true, true, true, true, true, false, false, false, false, false, false] rfl rfl (any_of HT_.out (by kernel_rfl)) (fun _ _ _ h => h) (Or.inl ⟨by rfl, ?_⟩) ?_ ?_
    rotate_left
    ·intro w'
     go_simp
     with_reducible rfl
    rotate_left
    ·simp only [Act.put, List.setIfInBounds_toArray, List.set_cons_zero, List.set_cons_succ, i64_w, i32_w]
     rfl
    refine pure_ (i := 6) (N := some 30) (v := undef) (a' := ?_) #[true, true, true, true, true, true, true, false, false, false, false, false] rfl rfl (any_of HT_.out (by kernel_rfl)) (fun _ _ _ h => h) (Or.inr ⟨by rfl, rfl⟩) ?_ ?_
    rotate_left
    ·simp only [Act.put, List.setIfInBounds_toArray, List.set_cons_zero, List.set_cons_succ, i64_w, i32_w]
     rfl
    refine pure_ (i := 7) (N := some 31) (v := undef) (a' := ?_) #[true, true, true, true, true, true, true, true, false, false, false, false] rfl rfl (any_of HT_.out (by kernel_rfl)) (fun _ _ _ h => h) (Or.inr ⟨by rfl, rfl⟩) ?_ ?_
    rotate_left
    ·simp only [Act.put, List.setIfInBounds_toArray, List.set_cons_zero, List.set_cons_succ, i64_w, i32_w]
     rfl
    refine pure_ (i := 8) (N := some 32) (v := undef) (a' := ?_) #[true, true, true, true, true, true, true, true, true, false, false, false] rfl rfl (any_of HT_.out (by kernel_rfl)) (fun _ _ _ h => h) (Or.inr ⟨by rfl, rfl⟩) ?_ ?_
    rotate_left
    ·simp only [Act.put, List.setIfInBounds_toArray, List.set_cons_zero, List.set_cons_succ, i64_w, i32_w]
     rfl
    refine pure_ (i := 9) (N := some 33) (v := undef) (a' := ?_) #[true, true, true, true, true, true, true, true, true, true, false, false] rfl rfl (any_of HT_.out (by kernel_rfl)) (fun _ _ _ h => h) (Or.inr ⟨by rfl, rfl⟩) ?_ ?_
    rotate_left
    ·simp only [Act.put, List.setIfInBounds_toArray, List.set_cons_zero, List.set_cons_succ, i64_w, i32_w]
     rfl
    refine pure_ (i := 10) (N := some 34) (v := undef) (a' := ?_) #[true, true, true, true, true, true, true, true, true, true, true, false] rfl rfl (any_of HT_.out (by kernel_rfl)) (fun _ _ _ h => h) (Or.inr ⟨by rfl, rfl⟩) ?_ ?_
    rotate_left
    ·simp only [Act.put, List.setIfInBounds_toArray, List.set_cons_zero, List.set_cons_succ, i64_w, i32_w]
     rfl
    refine pure_ (i := 11) (N := some 35) (v := ?_) (a' := ?_) #[true, true, true, true, true, true, true, true, true, true, true, true] rfl rfl (any_of HT_.out (by kernel_rfl)) (fun _ _ _ h => h) (Or.inl ⟨by rfl, ?_⟩) ?_ ?_
    rotate_left
    ·intro w'
     go_simp
     with_reducible rfl
    rotate_left
    ·simp only [Act.put, List.setIfInBounds_toArray, List.set_cons_zero, List.set_cons_succ, i64_w, i32_w]
     rfl
    refine done_ (done_of HT_.out (by kernel_rfl)) ?_
    try go_wp2
    go_meet
    case rel => exact ⟨_, (true), (by first | rfl | (simp; done) | (simp [*]; done)), H', ⟨by first | omega | exact Nat.le_refl _⟩, ⟨bKq_ BK302.out⟩, ⟨bKq_ BK303.out⟩, ⟨bKq_ BK304.out⟩, ⟨bSt_⟩⟩
   ·rw [if_neg c28] at H
    have c28b0 : (t306 != t307) = false := by simpa using c28
    (try (have c28b1 : decide (t306 = t307) = true := by simpa using c28))
    (try (have c28b2 : (t306 == t307) = true := by simpa using c28))
    clear c28
    (first | rw [c28b0] | (simp only [i64_w, i32_w]; rw [c28b0]) | skip)
    replace H := Option.bind_eq_some_iff.mp H
    obtain ⟨t308, A320, H⟩ := H
    replace H : ((manystrandref02_IsFeat.f k a1_0 a1_1).bind fun t309 => (manystrandlaw02_TreeFeats.j0 k (t308 != t309) a0_0 a0_1 a1_0 a1_1 a2_0 a2_1)) = some r := H
    have A32 := Aside0.mk A320
    clear A320
    replace H := Option.bind_eq_some_iff.mp H
    obtain ⟨t309, A330, H⟩ := H
    replace H : (manystrandlaw02_TreeFeats.j0 k (t308 != t309) a0_0 a0_1 a1_0 a1_1 a2_0 a2_1) = some r := H
    have A33 := Aside0.mk A330
    clear A330
    have H' := Aside0.mk H
    clear H
    try go_wp2
    have n0_ := Aside0.mk (blk_drew BK302.out)
    have n1_ := Aside0.mk (blk_drew BK303.out)
    have n2_ := Aside0.mk (blk_drew BK304.out)
    have n3_ := Aside0.mk (below_drew1 HB.out)
    clear BK302
    clear BK303
    clear BK304
    clear HB
    have BK302 := n0_
    have BK303 := n1_
    have BK304 := n2_
    have HB := n3_
    clear n0_ n1_ n2_ n3_
    refine start_ (n := 12) (S := fun w' => w'.cell? ⟨gb302, 0, none⟩ = some (.int .i64 a0_0) ∧ w'.cell? ⟨gb302, 1, none⟩ = some (.string a0_1) ∧ w'.cell? ⟨gb303, 0, none⟩ = some (.int .i64 a1_0) ∧ w'.cell? ⟨gb303, 1, none⟩ = some (.string a1_1)) (ds := []) #[false, false, false, false, false, false, false, false, false, false, false, false] (by kernel_rfl) rfl rfl ⟨(blk_cell BK302.out 0).trans rfl, (blk_cell BK302.out 1).trans rfl, (blk_cell BK303.out 0).trans rfl, (blk_cell BK303.out 1).trans rfl⟩ (fun hHeld => ?_); refine with_tabW manystrandlaw02_TreeFeats.tab3 manystrandlaw02_TreeFeats.bits3 (fun HT_ HW_ => ?_)
    generalize w19.drew = w34 at BK302 BK303 BK304 HB hHeld ⊢
    refine take_ (i := 0) (N := some 24) (v := ?_) (a' := ?_) #[true, false, false, false, false, false, false, false, false, false, false, false] rfl rfl (take_ofW HT_.out HW_.out (by kernel_rfl)) (fun _ _ _ h => h) (Or.inl ⟨by rfl, ?_⟩) hHeld ?_ ?_
    rotate_left
    ·rintro w' ⟨s0, s1, s2, s3⟩
     go_simp
     with_reducible rfl
    rotate_left
    ·simp only [Act.put, List.setIfInBounds_toArray, List.set_cons_zero, List.set_cons_succ, i64_w, i32_w]
     rfl
    refine take_ (i := 2) (N := some 26) (v := ?_) (a' := ?_) #[true, false, true, false, false, false, false, false, false, false, false, false] rfl rfl (take_ofW HT_.out HW_.out (by kernel_rfl)) (fun _ _ _ h => h) (Or.inl ⟨by rfl, ?_⟩) hHeld ?_ ?_
    rotate_left
    ·rintro w' ⟨s0, s1, s2, s3⟩
     go_simp
     with_reducible rfl
    rotate_left
    ·simp only [Act.put, List.setIfInBounds_toArray, List.set_cons_zero, List.set_cons_succ, i64_w, i32_w]
     rfl
    refine one_ (i := 1) (N := some 25) #[true, true, true, false, false, false, false, false, false, false, false, false] rfl rfl (one_of HT_.out (by kernel_rfl)) (by decide) (fun K hK => ?_)
    refine goes_ Tryz.func8 (by kernel_rfl) rfl #[.agg #[.int .i64 a0_0, .string a0_1]] (by rfl) rfl rfl (by (try simp only [List.map_toArray, List.map_cons, List.map_nil]); first | done | rfl | (simp only [List.length_drop, List.length_take]; rfl)) ?_
    with_reducible refine (tree_IsFeat.calls k a0_0 a0_1 t306 _ A26.out).mono ?_
    rintro e w35 ⟨rfl, hb⟩
    refine ⟨_, rfl, ?_⟩
    have n0_ := Aside0.mk (blk_below (bKq_ BK302.out) hb)
    have n1_ := Aside0.mk (blk_below (bKq_ BK303.out) hb)
    have n2_ := Aside0.mk (blk_below (bKq_ BK304.out) hb)
    have n3_ := Aside0.mk (below_step bSt_ hb)
    clear BK302
    clear BK303
    clear BK304
    clear HB
    have BK302 := n0_
    have BK303 := n1_
    have BK304 := n2_
    have HB := n3_
    clear n0_ n1_ n2_ n3_
    (try clear hb)
    (try clear hb2)
    (try clear hk)
    (try clear hi)
    refine hK.out _ _ ⟨(blk_cell BK302.out 0).trans rfl, (blk_cell BK302.out 1).trans rfl, (blk_cell BK303.out 0).trans rfl, (blk_cell BK303.out 1).trans rfl⟩ (fun hHeld => ?_)
    clear hK K
    refine norm_ (a' := ?_) ?_ ?_
    rotate_left
    ·show Act.put _ (some 25) _ = _
     simp only [Act.put, List.setIfInBounds_toArray, List.set_cons_zero, List.set_cons_succ, i64_w, i32_w]
     rfl
    refine one_ (i := 3) (N := some 27) #[true, true, true, true, false, false, false, false, false, false, false, false] rfl rfl (one_of HT_.out (by kernel_rfl)) (by decide) (fun K hK => ?_)
    refine goes_ Tryz.func9 (by kernel_rfl) rfl #[.agg #[.int .i64 a0_0, .string a0_1]] (by rfl) rfl rfl (by (try simp only [List.map_toArray, List.map_cons, List.map_nil]); first | done | rfl | (simp only [List.length_drop, List.length_take]; rfl)) ?_
    with_reducible refine (manystrandref02_IsFeat.calls k a0_0 a0_1 t307 _ A27.out).mono ?_
    rintro e w36 ⟨rfl, hb⟩
    refine ⟨_, rfl, ?_⟩
    have n0_ := Aside0.mk (blk_below (bKq_ BK302.out) hb)
    have n1_ := Aside0.mk (blk_below (bKq_ BK303.out) hb)
    have n2_ := Aside0.mk (blk_below (bKq_ BK304.out) hb)
    have n3_ := Aside0.mk (below_step bSt_ hb)
    clear BK302
    clear BK303
    clear BK304
    clear HB
    have BK302 := n0_
    have BK303 := n1_
    have BK304 := n2_
    have HB := n3_
    clear n0_ n1_ n2_ n3_
    (try clear hb)
    (try clear hb2)
    (try clear hk)
    (try clear hi)
    refine hK.out _ _ ⟨(blk_cell BK302.out 0).trans rfl, (blk_cell BK302.out 1).trans rfl, (blk_cell BK303.out 0).trans rfl, (blk_cell BK303.out 1).trans rfl⟩ (fun hHeld => ?_)
    clear hK K
    refine norm_ (a' := ?_) ?_ ?_
    rotate_left
    ·show Act.put _ (some 27) _ = _
     simp only [Act.put, List.setIfInBounds_toArray, List.set_cons_zero, List.set_cons_succ, i64_w, i32_w]
     rfl
    refine pure_ (i := 4) (N := some 28) (v := ?_) (a' := ?_) #[true, true, true, true, true, false, false, false, false, false, false, false] rfl rfl (any_of HT_.out (by kernel_rfl)) (fun _ _ _ h => h) (Or.inl ⟨by rfl, ?_⟩) ?_ ?_
    rotate_left
    ·intro w'
     go_simp
     with_reducible rfl
    rotate_left
    ·simp only [Act.put, List.setIfInBounds_toArray, List.set_cons_zero, List.set_cons_succ, i64_w, i32_w]
     rfl
    refine pure_ (i := 5) (N := some 29) (v := ?_) (a' := ?_) #[true, true, true, true, true, true, false, false, false, false, false, false] rfl rfl (any_of HT_.out (by kernel_rfl)) (fun _ _ _ h => h) (Or.inl ⟨by rfl, ?_⟩) ?_ ?_
    rotate_left
    ·intro w'
     go_simp
     with_reducible rfl
    rotate_left
    ·simp only [Act.put, List.setIfInBounds_toArray, List.set_cons_zero, List.set_cons_succ, i64_w, i32_w]
     rfl
    refine take_ (i := 6) (N := some 30) (v := ?_) (a' := ?_) #[true, true, true, true, true, true, true, false, false, false, false, false] rfl rfl (take_ofW HT_.out HW_.out (by kernel_rfl)) (fun _ _ _ h => h) (Or.inl ⟨by rfl, ?_⟩) hHeld ?_ ?_
    rotate_left
    ·rintro w' ⟨s0, s1, s2, s3⟩
     go_simp
     with_reducible rfl
    rotate_left
    ·simp only [Act.put, List.setIfInBounds_toArray, List.set_cons_zero, List.set_cons_succ, i64_w, i32_w]
     rfl
    refine take_ (i := 8) (N := some 32) (v := ?_) (a' := ?_) #[true, true, true, true, true, true, true, false, true, false, false, false] rfl rfl (take_ofW HT_.out HW_.out (by kernel_rfl)) (fun _ _ _ h => h) (Or.inl ⟨by rfl, ?_⟩) hHeld ?_ ?_
    rotate_left
    ·rintro w' ⟨s0, s1, s2, s3⟩
     go_simp
     with_reducible rfl
    rotate_left
    ·simp only [Act.put, List.setIfInBounds_toArray, List.set_cons_zero, List.set_cons_succ, i64_w, i32_w]
     rfl
    refine one_ (i := 7) (N := some 31) #[true, true, true, true, true, true, true, true, true, false, false, false] rfl rfl (one_of HT_.out (by kernel_rfl)) (by decide) (fun K hK => ?_)
    refine goes_ Tryz.func8 (by kernel_rfl) rfl #[.agg #[.int .i64 a1_0, .string a1_1]] (by rfl) rfl rfl (by (try simp only [List.map_toArray, List.map_cons, List.map_nil]); first | done | rfl | (simp only [List.length_drop, List.length_take]; rfl)) ?_
    with_reducible refine (tree_IsFeat.calls k a1_0 a1_1 t308 _ A32.out).mono ?_
    rintro e w37 ⟨rfl, hb⟩
    refine ⟨_, rfl, ?_⟩
    have n0_ := Aside0.mk (blk_below (bKq_ BK302.out) hb)
    have n1_ := Aside0.mk (blk_below (bKq_ BK303.out) hb)
    have n2_ := Aside0.mk (blk_below (bKq_ BK304.out) hb)
    have n3_ := Aside0.mk (below_step bSt_ hb)
    clear BK302
    clear BK303
    clear BK304
    clear HB
    have BK302 := n0_
    have BK303 := n1_
    have BK304 := n2_
    have HB := n3_
    clear n0_ n1_ n2_ n3_
    (try clear hb)
    (try clear hb2)
    (try clear hk)
    (try clear hi)
    refine hK.out _ _ ⟨(blk_cell BK302.out 0).trans rfl, (blk_cell BK302.out 1).trans rfl, (blk_cell BK303.out 0).trans rfl, (blk_cell BK303.out 1).trans rfl⟩ (fun hHeld => ?_)
    clear hK K
    refine norm_ (a' := ?_) ?_ ?_
    rotate_left
    ·show Act.put _ (some 31) _ = _
     simp only [Act.put, List.setIfInBounds_toArray, List.set_cons_zero, List.set_cons_succ, i64_w, i32_w]
     rfl
    refine one_ (i := 9) (N := some 33) #[true, true, true, true, true, true, true, true, true, true, false, false] rfl rfl (one_of HT_.out (by kernel_rfl)) (by decide) (fun K hK => ?_)
    refine goes_ Tryz.func9 (by kernel_rfl) rfl #[.agg #[.int .i64 a1_0, .string a1_1]] (by rfl) rfl rfl (by (try simp only [List.map_toArray, List.map_cons, List.map_nil]); first | done | rfl | (simp only [List.length_drop, List.length_take]; rfl)) ?_
    with_reducible refine (manystrandref02_IsFeat.calls k a1_0 a1_1 t309 _ A33.out).mono ?_
    rintro e w38 ⟨rfl, hb⟩
    refine ⟨_, rfl, ?_⟩
    have n0_ := Aside0.mk (blk_below (bKq_ BK302.out) hb)
    have n1_ := Aside0.mk (blk_below (bKq_ BK303.out) hb)
    have n2_ := Aside0.mk (blk_below (bKq_ BK304.out) hb)
    have n3_ := Aside0.mk (below_step bSt_ hb)
    clear BK302
    clear BK303
    clear BK304
    clear HB
    have BK302 := n0_
    have BK303 := n1_
    have BK304 := n2_
    have HB := n3_
    clear n0_ n1_ n2_ n3_
    (try clear hb)
    (try clear hb2)
    (try clear hk)
    (try clear hi)
    refine hK.out _ _ ⟨(blk_cell BK302.out 0).trans rfl, (blk_cell BK302.out 1).trans rfl, (blk_cell BK303.out 0).trans rfl, (blk_cell BK303.out 1).trans rfl⟩ (fun hHeld => ?_)
    clear hK K
    refine norm_ (a' := ?_) ?_ ?_
    rotate_left
    ·show Act.put _ (some 33) _ = _
     simp only [Act.put, List.setIfInBounds_toArray, List.set_cons_zero, List.set_cons_succ, i64_w, i32_w]
     rfl
    refine pure_ (i := 10) (N := some 34) (v := ?_) (a' := ?_) #[true, true, true, true, true, true, true, true, true, true, true, false] rfl rfl (any_of HT_.out (by kernel_rfl)) (fun _ _ _ h => h) (Or.inl ⟨by rfl, ?_⟩) ?_ ?_
    rotate_left
    ·intro w'
     go_simp
     with_reducible rfl
    rotate_left
    ·simp only [Act.put, List.setIfInBounds_toArray, List.set_cons_zero, List.set_cons_succ, i64_w, i32_w]
     rfl
    refine pure_ (i := 11) (N := some 35) (v := ?_) (a' := ?_) #[true, true, true, true, true, true, true, true, true, true, true, true] rfl rfl (any_of HT_.out (by kernel_rfl)) (fun _ _ _ h => h) (Or.inl ⟨by rfl, ?_⟩) ?_ ?_
    rotate_left
    ·intro w'
     go_simp
     with_reducible rfl
    rotate_left
    ·simp only [Act.put, List.setIfInBounds_toArray, List.set_cons_zero, List.set_cons_succ, i64_w, i32_w]
     rfl
    refine done_ (done_of HT_.out (by kernel_rfl)) ?_
    try go_wp2
    go_meet
    case rel => exact ⟨_, ((t308 != t309)), (by first | rfl | (simp; done) | (simp [*]; done)), H', ⟨by first | omega | exact Nat.le_refl _⟩, ⟨bKq_ BK302.out⟩, ⟨bKq_ BK303.out⟩, ⟨bKq_ BK304.out⟩, ⟨bSt_⟩⟩
  case rest =>
   clear HC16
   try clear c1
   try clear c2
   try clear p2
   try clear c3
   try clear c4
   try clear c4b0
   try clear p6
   try clear c7
   try clear c8
   try clear c9
   try clear c10
   try clear c12
   try clear c20
   try clear c21
   try clear c23
   try clear c28
   try clear c28b0
   try clear c28b1
   try clear c28b2
   try clear hcz11_0
   try clear hcz11_1
   try clear hcz13_0
   try clear hcz13_1
   try clear hcz14_0
   try clear hcz14_1
   try clear hcz22_0
   try clear hcz22_1
   try clear hcz24_0
   try clear hcz24_1
   try clear hcz25_0
   try clear hcz25_1
   try clear hfz11_0
   try clear hfz11_1
   try clear hfz13_0
   try clear hfz13_1
   try clear hfz14_0
   try clear hfz14_1
   try clear hfz22_0
   try clear hfz22_1
   try clear hfz24_0
   try clear hfz24_1
   try clear hfz25_0
   try clear hfz25_1
   obtain ⟨kq, x35_15, rfl, HA, HJ15, BK302, BK303, BK304, HB⟩ := hcut
   cases kq with
   | zero => exact absurd HA.out (by simp [manystrandlaw02_TreeFeats.j0])
   | succ kj15 =>
    have H := HA.out
    clear HA
    simp only [manystrandlaw02_TreeFeats.j0] at H
    by_cases c39 : x35_15 = true
    ·subst c39
     have H1 : (some false) = some r := by rw [if_pos rfl] at H; exact H
     clear H
     have H := H1
     clear H1
     obtain rfl := Option.some.inj H
     go_wp2
     go_ret
     exact ⟨by first | rfl | (simp [errW_none, errW_some] <;> rfl) | (simp [*, errW_none, errW_some] <;> rfl) | (simp [errW_none, errW_some]; exact Go.Proofs.YtlabfjaddgakkaaGreatW.OwnWords.isEmpty_bne _), bSt_⟩
    ·replace c39 := Bool.eq_false_iff.mpr c39
     subst c39
     have H1 : ((tree_IsFeat.f kj15 a0_0 a0_1).bind fun t310 => (if t310 = true then ((tree_IsFeat.f kj15 a1_0 a1_1).bind fun t311 => (if t311 = true then ((tree_IsFeat.f kj15 a2_0 a2_1).bind fun t312 => (manystrandlaw02_TreeFeats.j1 kj15 (!t312) a0_0 a0_1 a1_0 a1_1 a2_0 a2_1)) else (manystrandlaw02_TreeFeats.j1 kj15 true a0_0 a0_1 a1_0 a1_1 a2_0 a2_1))) else (manystrandlaw02_TreeFeats.j1 kj15 true a0_0 a0_1 a1_0 a1_1 a2_0 a2_1))) = some r := by rw [if_neg (show ¬ (false = true) by decide)] at H; exact H
     clear H
     have H := H1
     clear H1
     have HC40 := Aside0.mk H
     clear H
     go_upto_region 5 with (fail)
     go_cut [48] (fun v48 wc => ∃ (kq : Nat) (x48_39 : Bool), v48 = .bool x48_39 ∧ Aside0 (manystrandlaw02_TreeFeats.j1 kq x48_39 a0_0 a0_1 a1_0 a1_1 a2_0 a2_1 = some r) ∧ Aside0 (kq ≤ kj15) ∧ Aside0 (wc.heap[gb302]? = some (.cells #[.int .i64 a0_0, .string a0_1] 23 (0, 0))) ∧ Aside0 (wc.heap[gb303]? = some (.cells #[.int .i64 a1_0, .string a1_1] 23 (0, 0))) ∧ Aside0 (wc.heap[gb304]? = some (.cells #[.int .i64 a2_0, .string a2_1] 23 (0, 0))) ∧ Aside0 (Below w.heap.size w wc))
     case first =>
      have H := HC40.out
      clear HC40
      replace H := Option.bind_eq_some_iff.mp H
      obtain ⟨t310, A410, H⟩ := H
      replace H : (if t310 = true then ((tree_IsFeat.f kj15 a1_0 a1_1).bind fun t311 => (if t311 = true then ((tree_IsFeat.f kj15 a2_0 a2_1).bind fun t312 => (manystrandlaw02_TreeFeats.j1 kj15 (!t312) a0_0 a0_1 a1_0 a1_1 a2_0 a2_1)) else (manystrandlaw02_TreeFeats.j1 kj15 true a0_0 a0_1 a1_0 a1_1 a2_0 a2_1))) else (manystrandlaw02_TreeFeats.j1 kj15 true a0_0 a0_1 a1_0 a1_1 a2_0 a2_1)) = some r := H
      have A41 := Aside0.mk A410
      clear A410
      by_cases c42 : t310 = true
      ·subst c42
       have H1 : ((tree_IsFeat.f kj15 a1_0 a1_1).bind fun t311 => (if t311 = true then ((tree_IsFeat.f kj15 a2_0 a2_1).bind fun t312 => (manystrandlaw02_TreeFeats.j1 kj15 (!t312) a0_0 a0_1 a1_0 a1_1 a2_0 a2_1)) else (manystrandlaw02_TreeFeats.j1 kj15 true a0_0 a0_1 a1_0 a1_1 a2_0 a2_1))) = some r := by rw [if_pos rfl] at H; exact H
       clear H
       have H := H1
       clear H1
       replace H := Option.bind_eq_some_iff.mp H
       obtain ⟨t311, A430, H⟩ := H
       replace H : (if t311 = true then ((tree_IsFeat.f kj15 a2_0 a2_1).bind fun t312 => (manystrandlaw02_TreeFeats.j1 kj15 (!t312) a0_0 a0_1 a1_0 a1_1 a2_0 a2_1)) else (manystrandlaw02_TreeFeats.j1 kj15 true a0_0 a0_1 a1_0 a1_1 a2_0 a2_1)) = some r := H
       have A43 := Aside0.mk A430
       clear A430
       by_cases c44 : t311 = true
       ·subst c44
        have H1 : ((tree_IsFeat.f kj15 a2_0 a2_1).bind fun t312 => (manystrandlaw02_TreeFeats.j1 kj15 (!t312) a0_0 a0_1 a1_0 a1_1 a2_0 a2_1)) = some r := by rw [if_pos rfl] at H; exact H
        clear H
        have H := H1
        clear H1
        replace H := Option.bind_eq_some_iff.mp H
        obtain ⟨t312, A450, H⟩ := H
        replace H : (manystrandlaw02_TreeFeats.j1 kj15 (!t312) a0_0 a0_1 a1_0 a1_1 a2_0 a2_1) = some r := H
        have A45 := Aside0.mk A450
        clear A450
        have H' := Aside0.mk H
        clear H
        have hnb46 := NB302_303.out
        have hnc46 := NB303_302.out
        have hnb47 := NB302_304.out
        have hnc47 := NB304_302.out
        have hcz48_0 : wc.cell? ⟨gb302, 0, none⟩ = some (.int .i64 a0_0) := (blk_cell BK302.out 0).trans rfl
        have hcz48_1 : wc.cell? ⟨gb302, 1, none⟩ = some (.string a0_1) := (blk_cell BK302.out 1).trans rfl
        have hfz48_0 := blk_frozen BK302.out 0
        have hfz48_1 := blk_frozen BK302.out 1
        go_wp2_with (first | ((with_reducible refine gate_callee (f := 8) rfl ?_); refine goesL_ (some 37) rfl rfl Tryz.func8 (by kernel_rfl) rfl #[.agg #[.int .i64 a0_0, .string a0_1]] rfl (by (try simp only [List.map_toArray, List.map_cons, List.map_nil]); first | done | rfl | (simp only [List.length_drop, List.length_take]; rfl)) ?_; (with_reducible refine (tree_IsFeat.calls kj15 a0_0 a0_1 true _ A41.out).mono ?_); rintro e w49 ⟨rfl, hb⟩; refine ⟨_, rfl, ?_⟩; have n0_ := Aside0.mk (blk_below (bKq_ BK302.out) hb); have n1_ := Aside0.mk (blk_below (bKq_ BK303.out) hb); have n2_ := Aside0.mk (blk_below (bKq_ BK304.out) hb); have n3_ := Aside0.mk (below_step bSt_ hb); clear BK302; clear BK303; clear BK304; clear HB; have BK302 := n0_; have BK303 := n1_; have BK304 := n2_; have HB := n3_; clear n0_ n1_ n2_ n3_; (try clear hb); (try clear hb2); (try clear hk); (try clear hi); have hnb50 := NB303_304.out; have hnc50 := NB304_303.out; have hcz51_0 : w49.cell? ⟨gb303, 0, none⟩ = some (.int .i64 a1_0) := (blk_cell BK303.out 0).trans rfl; have hcz51_1 : w49.cell? ⟨gb303, 1, none⟩ = some (.string a1_1) := (blk_cell BK303.out 1).trans rfl; have hfz51_0 := blk_frozen BK303.out 0; have hfz51_1 := blk_frozen BK303.out 1) | (go_at_call 8; (with_reducible refine (tree_IsFeat.calls kj15 a1_0 a1_1 true _ A43.out).mono ?_); rintro e w52 ⟨rfl, hb⟩; have n0_ := Aside0.mk (blk_below (bKq_ BK302.out) hb); have n1_ := Aside0.mk (blk_below (bKq_ BK303.out) hb); have n2_ := Aside0.mk (blk_below (bKq_ BK304.out) hb); have n3_ := Aside0.mk (below_step bSt_ hb); clear BK302; clear BK303; clear BK304; clear HB; have BK302 := n0_; have BK303 := n1_; have BK304 := n2_; have HB := n3_; clear n0_ n1_ n2_ n3_; (try clear hb); (try clear hb2); (try clear hk); (try clear hi); have hcz53_0 : w52.cell? ⟨gb304, 0, none⟩ = some (.int .i64 a2_0) := (blk_cell BK304.out 0).trans rfl; have hcz53_1 : w52.cell? ⟨gb304, 1, none⟩ = some (.string a2_1) := (blk_cell BK304.out 1).trans rfl; have hfz53_0 := blk_frozen BK304.out 0; have hfz53_1 := blk_frozen BK304.out 1) | (go_at_call 8; (with_reducible refine (tree_IsFeat.calls kj15 a2_0 a2_1 t312 _ A45.out).mono ?_); rintro e w54 ⟨rfl, hb⟩; have n0_ := Aside0.mk (blk_below (bKq_ BK302.out) hb); have n1_ := Aside0.mk (blk_below (bKq_ BK303.out) hb); have n2_ := Aside0.mk (blk_below (bKq_ BK304.out) hb); have n3_ := Aside0.mk (below_step bSt_ hb); clear BK302; clear BK303; clear BK304; clear HB; have BK302 := n0_; have BK303 := n1_; have BK304 := n2_; have HB := n3_; clear n0_ n1_ n2_ n3_; (try clear hb); (try clear hb2); (try clear hk); (try clear hi)))
        go_meet
        case rel => exact ⟨_, (!t312), (by first | rfl | (simp; done) | (simp [*]; done)), H', ⟨by have := HJ15.out; first | omega | exact Nat.le_refl _⟩, ⟨bKq_ BK302.out⟩, ⟨bKq_ BK303.out⟩, ⟨bKq_ BK304.out⟩, ⟨bSt_⟩⟩
       ·replace c44 := Bool.eq_false_iff.mpr c44
        subst c44
        have H1 : (manystrandlaw02_TreeFeats.j1 kj15 true a0_0 a0_1 a1_0 a1_1 a2_0 a2_1) = some r := by rw [if_neg (show ¬ (false = true) by decide)] at H; exact H
        clear H
        have H := H1
        clear H1
        have H' := Aside0.mk H
        clear H
        have hnb55 := NB302_303.out
        have hnc55 := NB303_302.out
        have hnb56 := NB302_304.out
        have hnc56 := NB304_302.out
        have hcz57_0 : wc.cell? ⟨gb302, 0, none⟩ = some (.int .i64 a0_0) := (blk_cell BK302.out 0).trans rfl
        have hcz57_1 : wc.cell? ⟨gb302, 1, none⟩ = some (.string a0_1) := (blk_cell BK302.out 1).trans rfl
        have hfz57_0 := blk_frozen BK302.out 0
        have hfz57_1 := blk_frozen BK302.out 1
        go_wp2_with (first | ((with_reducible refine gate_callee (f := 8) rfl ?_); refine goesL_ (some 37) rfl rfl Tryz.func8 (by kernel_rfl) rfl #[.agg #[.int .i64 a0_0, .string a0_1]] rfl (by (try simp only [List.map_toArray, List.map_cons, List.map_nil]); first | done | rfl | (simp only [List.length_drop, List.length_take]; rfl)) ?_; (with_reducible refine (tree_IsFeat.calls kj15 a0_0 a0_1 true _ A41.out).mono ?_); rintro e w58 ⟨rfl, hb⟩; refine ⟨_, rfl, ?_⟩; have n0_ := Aside0.mk (blk_below (bKq_ BK302.out) hb); have n1_ := Aside0.mk (blk_below (bKq_ BK303.out) hb); have n2_ := Aside0.mk (blk_below (bKq_ BK304.out) hb); have n3_ := Aside0.mk (below_step bSt_ hb); clear BK302; clear BK303; clear BK304; clear HB; have BK302 := n0_; have BK303 := n1_; have BK304 := n2_; have HB := n3_; clear n0_ n1_ n2_ n3_; (try clear hb); (try clear hb2); (try clear hk); (try clear hi); have hnb59 := NB303_304.out; have hnc59 := NB304_303.out; have hcz60_0 : w58.cell? ⟨gb303, 0, none⟩ = some (.int .i64 a1_0) := (blk_cell BK303.out 0).trans rfl; have hcz60_1 : w58.cell? ⟨gb303, 1, none⟩ = some (.string a1_1) := (blk_cell BK303.out 1).trans rfl; have hfz60_0 := blk_frozen BK303.out 0; have hfz60_1 := blk_frozen BK303.out 1) | (go_at_call 8; (with_reducible refine (tree_IsFeat.calls kj15 a1_0 a1_1 false _ A43.out).mono ?_); rintro e w61 ⟨rfl, hb⟩; have n0_ := Aside0.mk (blk_below (bKq_ BK302.out) hb); have n1_ := Aside0.mk (blk_below (bKq_ BK303.out) hb); have n2_ := Aside0.mk (blk_below (bKq_ BK304.out) hb); have n3_ := Aside0.mk (below_step bSt_ hb); clear BK302; clear BK303; clear BK304; clear HB; have BK302 := n0_; have BK303 := n1_; have BK304 := n2_; have HB := n3_; clear n0_ n1_ n2_ n3_; (try clear hb); (try clear hb2); (try clear hk); (try clear hi)))
        go_meet
        case rel => exact ⟨_, (true), (by first | rfl | (simp; done) | (simp [*]; done)), H', ⟨by have := HJ15.out; first | omega | exact Nat.le_refl _⟩, ⟨bKq_ BK302.out⟩, ⟨bKq_ BK303.out⟩, ⟨bKq_ BK304.out⟩, ⟨bSt_⟩⟩
      ·replace c42 := Bool.eq_false_iff.mpr c42
       subst c42
       have H1 : (manystrandlaw02_TreeFeats.j1 kj15 true a0_0 a0_1 a1_0 a1_1 a2_0 a2_1) = some r := by rw [if_neg (show ¬ (false = true) by decide)] at H; exact H
       clear H
       have H := H1
       clear H1
       have H' := Aside0.mk H
       clear H
       have hnb62 := NB302_303.out
       have hnc62 := NB303_302.out
       have hnb63 := NB302_304.out
       have hnc63 := NB304_302.out
       have hcz64_0 : wc.cell? ⟨gb302, 0, none⟩ = some (.int .i64 a0_0) := (blk_cell BK302.out 0).trans rfl
       have hcz64_1 : wc.cell? ⟨gb302, 1, none⟩ = some (.string a0_1) := (blk_cell BK302.out 1).trans rfl
       have hfz64_0 := blk_frozen BK302.out 0
       have hfz64_1 := blk_frozen BK302.out 1
       go_wp2_with (first | ((with_reducible refine gate_callee (f := 8) rfl ?_); refine goesL_ (some 37) rfl rfl Tryz.func8 (by kernel_rfl) rfl #[.agg #[.int .i64 a0_0, .string a0_1]] rfl (by (try simp only [List.map_toArray, List.map_cons, List.map_nil]); first | done | rfl | (simp only [List.length_drop, List.length_take]; rfl)) ?_; (with_reducible refine (tree_IsFeat.calls kj15 a0_0 a0_1 false _ A41.out).mono ?_); rintro e w65 ⟨rfl, hb⟩; refine ⟨_, rfl, ?_⟩; have n0_ := Aside0.mk (blk_below (bKq_ BK302.out) hb); have n1_ := Aside0.mk (blk_below (bKq_ BK303.out) hb); have n2_ := Aside0.mk (blk_below (bKq_ BK304.out) hb); have n3_ := Aside0.mk (below_step bSt_ hb); clear BK302; clear BK303; clear BK304; clear HB; have BK302 := n0_; have BK303 := n1_; have BK304 := n2_; have HB := n3_; clear n0_ n1_ n2_ n3_; (try clear hb); (try clear hb2); (try clear hk); (try clear hi)))
       go_meet
       case rel => exact ⟨_, (true), (by first | rfl | (simp; done) | (simp [*]; done)), H', ⟨by have := HJ15.out; first | omega | exact Nat.le_refl _⟩, ⟨bKq_ BK302.out⟩, ⟨bKq_ BK303.out⟩, ⟨bKq_ BK304.out⟩, ⟨bSt_⟩⟩
     case rest =>
      clear HC40
      try clear c1
      try clear c2
      try clear p2
      try clear c3
      try clear c4
      try clear c4b0
      try clear c5
      try clear c6
      try clear p6
      try clear c7
      try clear c8
      try clear c9
      try clear c10
      try clear c12
      try clear c20
      try clear c21
      try clear c23
      try clear c28
      try clear c28b0
      try clear c28b1
      try clear c28b2
      try clear c39
      try clear c42
      try clear c44
      try clear c46
      try clear c47
      try clear c50
      try clear c55
      try clear c56
      try clear c59
      try clear c62
      try clear c63
      try clear p64
      try clear hcz11_0
      try clear hcz11_1
      try clear hcz13_0
      try clear hcz13_1
      try clear hcz14_0
      try clear hcz14_1
      try clear hcz22_0
      try clear hcz22_1
      try clear hcz24_0
      try clear hcz24_1
      try clear hcz25_0
      try clear hcz25_1
      try clear hcz48_0
      try clear hcz48_1
      try clear hcz51_0
      try clear hcz51_1
      try clear hcz53_0
      try clear hcz53_1
      try clear hcz57_0
      try clear hcz57_1
      try clear hcz60_0
      try clear hcz60_1
      try clear hcz64_0
      try clear hcz64_1
      try clear hfz11_0
      try clear hfz11_1
      try clear hfz13_0
      try clear hfz13_1
      try clear hfz14_0
      try clear hfz14_1
      try clear hfz22_0
      try clear hfz22_1
      try clear hfz24_0
      try clear hfz24_1
      try clear hfz25_0
      try clear hfz25_1
      try clear hfz48_0
      try clear hfz48_1
      try clear hfz51_0
      try clear hfz51_1
      try clear hfz53_0
      try clear hfz53_1
      try clear hfz57_0
      try clear hfz57_1
      try clear hfz60_0
      try clear hfz60_1
      try clear hfz64_0
      try clear hfz64_1
      try clear p2
      try clear p6
      obtain ⟨kq, x48_39, rfl, HA, HJ39, BK302, BK303, BK304, HB⟩ := hcut
      cases kq with
      | zero => exact absurd HA.out (by simp [manystrandlaw02_TreeFeats.j1])
      | succ kj39 =>
       have H := HA.out
       clear HA
       simp only [manystrandlaw02_TreeFeats.j1] at H
       by_cases c66 : x48_39 = true
       ·subst c66
        have H1 : ((manystrandlaw02_awake.f).bind fun t313 => (some t313)) = some r := by rw [if_pos rfl] at H; exact H
        clear H
        have H := H1
        clear H1
        replace H := Option.bind_eq_some_iff.mp H
        obtain ⟨t313, A670, H⟩ := H
        replace H : (some t313) = some r := H
        have A67 := Aside0.mk A670
        clear A670
        obtain rfl := Option.some.inj H
        go_wp2_with (first | ((with_reducible refine gate_callee (f := 7) rfl ?_); refine goesL_ (some 49) rfl rfl Tryz.func7 (by kernel_rfl) rfl #[] rfl (by (try simp only [List.map_toArray, List.map_cons, List.map_nil]); first | done | rfl | (simp only [List.length_drop, List.length_take]; rfl)) ?_; (with_reducible refine (manystrandlaw02_awake.calls  t313 _ A67.out).mono ?_); rintro e w68 ⟨rfl, hb⟩; refine ⟨_, rfl, ?_⟩; have n0_ := Aside0.mk (blk_below (bKq_ BK302.out) hb); have n1_ := Aside0.mk (blk_below (bKq_ BK303.out) hb); have n2_ := Aside0.mk (blk_below (bKq_ BK304.out) hb); have n3_ := Aside0.mk (below_step bSt_ hb); clear BK302; clear BK303; clear BK304; clear HB; have BK302 := n0_; have BK303 := n1_; have BK304 := n2_; have HB := n3_; clear n0_ n1_ n2_ n3_; (try clear hb); (try clear hb2); (try clear hk); (try clear hi)))
        go_ret
        exact ⟨by first | rfl | (simp [errW_none, errW_some] <;> rfl) | (simp [*, errW_none, errW_some] <;> rfl) | (simp [errW_none, errW_some]; exact Go.Proofs.YtlabfjaddgakkaaGreatW.OwnWords.isEmpty_bne _), bSt_⟩
       ·replace c66 := Bool.eq_false_iff.mpr c66
        subst c66
        have H1 : ((tree_Less.f kj39 a0_0 a0_1 a1_0 a1_1).bind fun t314 => ((tree_Less.f kj39 a1_0 a1_1 a0_0 a0_1).bind fun t315 => ((tree_Less.f kj39 a1_0 a1_1 a2_0 a2_1).bind fun t316 => ((tree_Less.f kj39 a0_0 a0_1 a2_0 a2_1).bind fun t317 => ((manystrandref02_Less.f kj39 a0_0 a0_1 a1_0 a1_1).bind fun t318 => (if (t314 == t318) = true then (if t314 = true then (if t315 = true then (some false) else (if (true == (!(a0_0 == a1_0) || (!(a0_1.toList == a1_1.toList)))) = true then (if t316 = true then (if t317 = true then ((manystrandlaw02_awake.f).bind fun t319 => (some t319)) else (some false)) else ((manystrandlaw02_awake.f).bind fun t320 => (some t320))) else (some false))) else (if (t315 == (!(a0_0 == a1_0) || (!(a0_1.toList == a1_1.toList)))) = true then ((manystrandlaw02_awake.f).bind fun t321 => (some t321)) else (some false))) else (some false))))))) = some r := by rw [if_neg (show ¬ (false = true) by decide)] at H; exact H
        clear H
        have H := H1
        clear H1
        replace H := Option.bind_eq_some_iff.mp H
        obtain ⟨t314, A690, H⟩ := H
        replace H : ((tree_Less.f kj39 a1_0 a1_1 a0_0 a0_1).bind fun t315 => ((tree_Less.f kj39 a1_0 a1_1 a2_0 a2_1).bind fun t316 => ((tree_Less.f kj39 a0_0 a0_1 a2_0 a2_1).bind fun t317 => ((manystrandref02_Less.f kj39 a0_0 a0_1 a1_0 a1_1).bind fun t318 => (if (t314 == t318) = true then (if t314 = true then (if t315 = true then (some false) else (if (true == (!(a0_0 == a1_0) || (!(a0_1.toList == a1_1.toList)))) = true then (if t316 = true then (if t317 = true then ((manystrandlaw02_awake.f).bind fun t319 => (some t319)) else (some false)) else ((manystrandlaw02_awake.f).bind fun t320 => (some t320))) else (some false))) else (if (t315 == (!(a0_0 == a1_0) || (!(a0_1.toList == a1_1.toList)))) = true then ((manystrandlaw02_awake.f).bind fun t321 => (some t321)) else (some false))) else (some false)))))) = some r := H
        have A69 := Aside0.mk A690
        clear A690
        replace H := Option.bind_eq_some_iff.mp H
        obtain ⟨t315, A700, H⟩ := H
        replace H : ((tree_Less.f kj39 a1_0 a1_1 a2_0 a2_1).bind fun t316 => ((tree_Less.f kj39 a0_0 a0_1 a2_0 a2_1).bind fun t317 => ((manystrandref02_Less.f kj39 a0_0 a0_1 a1_0 a1_1).bind fun t318 => (if (t314 == t318) = true then (if t314 = true then (if t315 = true then (some false) else (if (true == (!(a0_0 == a1_0) || (!(a0_1.toList == a1_1.toList)))) = true then (if t316 = true then (if t317 = true then ((manystrandlaw02_awake.f).bind fun t319 => (some t319)) else (some false)) else ((manystrandlaw02_awake.f).bind fun t320 => (some t320))) else (some false))) else (if (t315 == (!(a0_0 == a1_0) || (!(a0_1.toList == a1_1.toList)))) = true then ((manystrandlaw02_awake.f).bind fun t321 => (some t321)) else (some false))) else (some false))))) = some r := H
        have A70 := Aside0.mk A700
        clear A700
        replace H := Option.bind_eq_some_iff.mp H
        obtain ⟨t316, A710, H⟩ := H
        replace H : ((tree_Less.f kj39 a0_0 a0_1 a2_0 a2_1).bind fun t317 => ((manystrandref02_Less.f kj39 a0_0 a0_1 a1_0 a1_1).bind fun t318 => (if (t314 == t318) = true then (if t314 = true then (if t315 = true then (some false) else (if (true == (!(a0_0 == a1_0) || (!(a0_1.toList == a1_1.toList)))) = true then (if t316 = true then (if t317 = true then ((manystrandlaw02_awake.f).bind fun t319 => (some t319)) else (some false)) else ((manystrandlaw02_awake.f).bind fun t320 => (some t320))) else (some false))) else (if (t315 == (!(a0_0 == a1_0) || (!(a0_1.toList == a1_1.toList)))) = true then ((manystrandlaw02_awake.f).bind fun t321 => (some t321)) else (some false))) else (some false)))) = some r := H
        have A71 := Aside0.mk A710
        clear A710
        replace H := Option.bind_eq_some_iff.mp H
        obtain ⟨t317, A720, H⟩ := H
        replace H : ((manystrandref02_Less.f kj39 a0_0 a0_1 a1_0 a1_1).bind fun t318 => (if (t314 == t318) = true then (if t314 = true then (if t315 = true then (some false) else (if (true == (!(a0_0 == a1_0) || (!(a0_1.toList == a1_1.toList)))) = true then (if t316 = true then (if t317 = true then ((manystrandlaw02_awake.f).bind fun t319 => (some t319)) else (some false)) else ((manystrandlaw02_awake.f).bind fun t320 => (some t320))) else (some false))) else (if (t315 == (!(a0_0 == a1_0) || (!(a0_1.toList == a1_1.toList)))) = true then ((manystrandlaw02_awake.f).bind fun t321 => (some t321)) else (some false))) else (some false))) = some r := H
        have A72 := Aside0.mk A720
        clear A720
        replace H := Option.bind_eq_some_iff.mp H
        obtain ⟨t318, A730, H⟩ := H
        replace H : (if (t314 == t318) = true then (if t314 = true then (if t315 = true then (some false) else (if (true == (!(a0_0 == a1_0) || (!(a0_1.toList == a1_1.toList)))) = true then (if t316 = true then (if t317 = true then ((manystrandlaw02_awake.f).bind fun t319 => (some t319)) else (some false)) else ((manystrandlaw02_awake.f).bind fun t320 => (some t320))) else (some false))) else (if (t315 == (!(a0_0 == a1_0) || (!(a0_1.toList == a1_1.toList)))) = true then ((manystrandlaw02_awake.f).bind fun t321 => (some t321)) else (some false))) else (some false)) = some r := H
        have A73 := Aside0.mk A730
        clear A730
        by_cases c74 : (t314 == t318) = true
        ·rw [if_pos c74] at H
         have c74b0 : (t314 == t318) = true := c74
         (try (have c74b1 : decide (t314 = t318) = true := by simpa using c74))
         (try (have c74b2 : (t314 == t318) = true := by simpa using c74))
         clear c74
         by_cases c75 : t314 = true
         ·subst c75
          have H1 : (if t315 = true then (some false) else (if (true == (!(a0_0 == a1_0) || (!(a0_1.toList == a1_1.toList)))) = true then (if t316 = true then (if t317 = true then ((manystrandlaw02_awake.f).bind fun t319 => (some t319)) else (some false)) else ((manystrandlaw02_awake.f).bind fun t320 => (some t320))) else (some false))) = some r := by rw [if_pos rfl] at H; exact H
          clear H
          have H := H1
          clear H1
          by_cases c76 : t315 = true
          ·subst c76
           have H1 : (some false) = some r := by rw [if_pos rfl] at H; exact H
           clear H
           have H := H1
           clear H1
           obtain rfl := Option.some.inj H
           try go_wp2
           have n0_ := Aside0.mk (blk_drew BK302.out)
           have n1_ := Aside0.mk (blk_drew BK303.out)
           have n2_ := Aside0.mk (blk_drew BK304.out)
           have n3_ := Aside0.mk (below_drew1 HB.out)
           clear BK302
           clear BK303
           clear BK304
           clear HB
           have BK302 := n0_
           have BK303 := n1_
           have BK304 := n2_
           have HB := n3_
           clear n0_ n1_ n2_ n3_
           refine start_ (n := 16) (S := fun w' => w'.cell? ⟨gb302, 0, none⟩ = some (.int .i64 a0_0) ∧ w'.cell? ⟨gb302, 1, none⟩ = some (.string a0_1) ∧ w'.cell? ⟨gb303, 0, none⟩ = some (.int .i64 a1_0) ∧ w'.cell? ⟨gb303, 1, none⟩ = some (.string a1_1) ∧ w'.cell? ⟨gb304, 0, none⟩ = some (.int .i64 a2_0) ∧ w'.cell? ⟨gb304, 1, none⟩ = some (.string a2_1)) (ds := []) #[false, false, false, false, false, false, false, false, false, false, false, false, false, false, false, false] (by kernel_rfl) rfl rfl ⟨(blk_cell BK302.out 0).trans rfl, (blk_cell BK302.out 1).trans rfl, (blk_cell BK303.out 0).trans rfl, (blk_cell BK303.out 1).trans rfl, (blk_cell BK304.out 0).trans rfl, (blk_cell BK304.out 1).trans rfl⟩ (fun hHeld => ?_); refine with_tabW manystrandlaw02_TreeFeats.tab7 manystrandlaw02_TreeFeats.bits7 (fun HT_ HW_ => ?_)
           generalize wc.drew = w77 at BK302 BK303 BK304 HB hHeld ⊢
           refine take_ (i := 0) (N := some 50) (v := ?_) (a' := ?_) #[true, false, false, false, false, false, false, false, false, false, false, false, false, false, false, false] rfl rfl (take_ofW HT_.out HW_.out (by kernel_rfl)) (fun _ _ _ h => h) (Or.inl ⟨by rfl, ?_⟩) hHeld ?_ ?_
           rotate_left
           ·rintro w' ⟨s0, s1, s2, s3, s4, s5⟩
            go_simp
            with_reducible rfl
           rotate_left
           ·simp only [Act.put, List.setIfInBounds_toArray, List.set_cons_zero, List.set_cons_succ, i64_w, i32_w]
            rfl
           refine take_ (i := 1) (N := some 51) (v := ?_) (a' := ?_) #[true, true, false, false, false, false, false, false, false, false, false, false, false, false, false, false] rfl rfl (take_ofW HT_.out HW_.out (by kernel_rfl)) (fun _ _ _ h => h) (Or.inl ⟨by rfl, ?_⟩) hHeld ?_ ?_
           rotate_left
           ·rintro w' ⟨s0, s1, s2, s3, s4, s5⟩
            go_simp
            with_reducible rfl
           rotate_left
           ·simp only [Act.put, List.setIfInBounds_toArray, List.set_cons_zero, List.set_cons_succ, i64_w, i32_w]
            rfl
           refine take_ (i := 3) (N := some 53) (v := ?_) (a' := ?_) #[true, true, false, true, false, false, false, false, false, false, false, false, false, false, false, false] rfl rfl (take_ofW HT_.out HW_.out (by kernel_rfl)) (fun _ _ _ h => h) (Or.inl ⟨by rfl, ?_⟩) hHeld ?_ ?_
           rotate_left
           ·rintro w' ⟨s0, s1, s2, s3, s4, s5⟩
            go_simp
            with_reducible rfl
           rotate_left
           ·simp only [Act.put, List.setIfInBounds_toArray, List.set_cons_zero, List.set_cons_succ, i64_w, i32_w]
            rfl
           refine take_ (i := 4) (N := some 54) (v := ?_) (a' := ?_) #[true, true, false, true, true, false, false, false, false, false, false, false, false, false, false, false] rfl rfl (take_ofW HT_.out HW_.out (by kernel_rfl)) (fun _ _ _ h => h) (Or.inl ⟨by rfl, ?_⟩) hHeld ?_ ?_
           rotate_left
           ·rintro w' ⟨s0, s1, s2, s3, s4, s5⟩
            go_simp
            with_reducible rfl
           rotate_left
           ·simp only [Act.put, List.setIfInBounds_toArray, List.set_cons_zero, List.set_cons_succ, i64_w, i32_w]
            rfl
           refine take_ (i := 6) (N := some 56) (v := ?_) (a' := ?_) #[true, true, false, true, true, false, true, false, false, false, false, false, false, false, false, false] rfl rfl (take_ofW HT_.out HW_.out (by kernel_rfl)) (fun _ _ _ h => h) (Or.inl ⟨by rfl, ?_⟩) hHeld ?_ ?_
           rotate_left
           ·rintro w' ⟨s0, s1, s2, s3, s4, s5⟩
            go_simp
            with_reducible rfl
           rotate_left
           ·simp only [Act.put, List.setIfInBounds_toArray, List.set_cons_zero, List.set_cons_succ, i64_w, i32_w]
            rfl
           refine take_ (i := 7) (N := some 57) (v := ?_) (a' := ?_) #[true, true, false, true, true, false, true, true, false, false, false, false, false, false, false, false] rfl rfl (take_ofW HT_.out HW_.out (by kernel_rfl)) (fun _ _ _ h => h) (Or.inl ⟨by rfl, ?_⟩) hHeld ?_ ?_
           rotate_left
           ·rintro w' ⟨s0, s1, s2, s3, s4, s5⟩
            go_simp
            with_reducible rfl
           rotate_left
           ·simp only [Act.put, List.setIfInBounds_toArray, List.set_cons_zero, List.set_cons_succ, i64_w, i32_w]
            rfl
           refine take_ (i := 9) (N := some 59) (v := ?_) (a' := ?_) #[true, true, false, true, true, false, true, true, false, true, false, false, false, false, false, false] rfl rfl (take_ofW HT_.out HW_.out (by kernel_rfl)) (fun _ _ _ h => h) (Or.inl ⟨by rfl, ?_⟩) hHeld ?_ ?_
           rotate_left
           ·rintro w' ⟨s0, s1, s2, s3, s4, s5⟩
            go_simp
            with_reducible rfl
           rotate_left
           ·simp only [Act.put, List.setIfInBounds_toArray, List.set_cons_zero, List.set_cons_succ, i64_w, i32_w]
            rfl
           refine take_ (i := 10) (N := some 60) (v := ?_) (a' := ?_) #[true, true, false, true, true, false, true, true, false, true, true, false, false, false, false, false] rfl rfl (take_ofW HT_.out HW_.out (by kernel_rfl)) (fun _ _ _ h => h) (Or.inl ⟨by rfl, ?_⟩) hHeld ?_ ?_
           rotate_left
           ·rintro w' ⟨s0, s1, s2, s3, s4, s5⟩
            go_simp
            with_reducible rfl
           rotate_left
           ·simp only [Act.put, List.setIfInBounds_toArray, List.set_cons_zero, List.set_cons_succ, i64_w, i32_w]
            rfl
           refine one_ (i := 2) (N := some 52) #[true, true, true, true, true, false, true, true, false, true, true, false, false, false, false, false] rfl rfl (one_of HT_.out (by kernel_rfl)) (by decide) (fun K hK => ?_)
           refine goes_ Tryz.func10 (by kernel_rfl) rfl #[.agg #[.int .i64 a0_0, .string a0_1], .agg #[.int .i64 a1_0, .string a1_1]] (by rfl) rfl rfl (by (try simp only [List.map_toArray, List.map_cons, List.map_nil]); first | done | rfl | (simp only [List.length_drop, List.length_take]; rfl)) ?_
           with_reducible refine (tree_Less.calls kj39 a0_0 a0_1 a1_0 a1_1 true _ A69.out).mono ?_
           rintro e w78 ⟨rfl, hb⟩
           refine ⟨_, rfl, ?_⟩
           have n0_ := Aside0.mk (blk_below (bKq_ BK302.out) hb)
           have n1_ := Aside0.mk (blk_below (bKq_ BK303.out) hb)
           have n2_ := Aside0.mk (blk_below (bKq_ BK304.out) hb)
           have n3_ := Aside0.mk (below_step bSt_ hb)
           clear BK302
           clear BK303
           clear BK304
           clear HB
           have BK302 := n0_
           have BK303 := n1_
           have BK304 := n2_
           have HB := n3_
           clear n0_ n1_ n2_ n3_
           (try clear hb)
           (try clear hb2)
           (try clear hk)
           (try clear hi)
           refine hK.out _ _ ⟨(blk_cell BK302.out 0).trans rfl, (blk_cell BK302.out 1).trans rfl, (blk_cell BK303.out 0).trans rfl, (blk_cell BK303.out 1).trans rfl, (blk_cell BK304.out 0).trans rfl, (blk_cell BK304.out 1).trans rfl⟩ (fun hHeld => ?_)
           clear hK K
           refine norm_ (a' := ?_) ?_ ?_
           rotate_left
           ·show Act.put _ (some 52) _ = _
            simp only [Act.put, List.setIfInBounds_toArray, List.set_cons_zero, List.set_cons_succ, i64_w, i32_w]
            rfl
           refine one_ (i := 5) (N := some 55) #[true, true, true, true, true, true, true, true, false, true, true, false, false, false, false, false] rfl rfl (one_of HT_.out (by kernel_rfl)) (by decide) (fun K hK => ?_)
           refine goes_ Tryz.func10 (by kernel_rfl) rfl #[.agg #[.int .i64 a1_0, .string a1_1], .agg #[.int .i64 a0_0, .string a0_1]] (by rfl) rfl rfl (by (try simp only [List.map_toArray, List.map_cons, List.map_nil]); first | done | rfl | (simp only [List.length_drop, List.length_take]; rfl)) ?_
           with_reducible refine (tree_Less.calls kj39 a1_0 a1_1 a0_0 a0_1 true _ A70.out).mono ?_
           rintro e w79 ⟨rfl, hb⟩
           refine ⟨_, rfl, ?_⟩
           have n0_ := Aside0.mk (blk_below (bKq_ BK302.out) hb)
           have n1_ := Aside0.mk (blk_below (bKq_ BK303.out) hb)
           have n2_ := Aside0.mk (blk_below (bKq_ BK304.out) hb)
           have n3_ := Aside0.mk (below_step bSt_ hb)
           clear BK302
           clear BK303
           clear BK304
           clear HB
           have BK302 := n0_
           have BK303 := n1_
           have BK304 := n2_
           have HB := n3_
           clear n0_ n1_ n2_ n3_
           (try clear hb)
           (try clear hb2)
           (try clear hk)
           (try clear hi)
           refine hK.out _ _ ⟨(blk_cell BK302.out 0).trans rfl, (blk_cell BK302.out 1).trans rfl, (blk_cell BK303.out 0).trans rfl, (blk_cell BK303.out 1).trans rfl, (blk_cell BK304.out 0).trans rfl, (blk_cell BK304.out 1).trans rfl⟩ (fun hHeld => ?_)
           clear hK K
           refine norm_ (a' := ?_) ?_ ?_
           rotate_left
           ·show Act.put _ (some 55) _ = _
            simp only [Act.put, List.setIfInBounds_toArray, List.set_cons_zero, List.set_cons_succ, i64_w, i32_w]
            rfl
           refine one_ (i := 8) (N := some 58) #[true, true, true, true, true, true, true, true, true, true, true, false, false, false, false, false] rfl rfl (one_of HT_.out (by kernel_rfl)) (by decide) (fun K hK => ?_)
           refine goes_ Tryz.func10 (by kernel_rfl) rfl #[.agg #[.int .i64 a1_0, .string a1_1], .agg #[.int .i64 a2_0, .string a2_1]] (by rfl) rfl rfl (by (try simp only [List.map_toArray, List.map_cons, List.map_nil]); first | done | rfl | (simp only [List.length_drop, List.length_take]; rfl)) ?_
           with_reducible refine (tree_Less.calls kj39 a1_0 a1_1 a2_0 a2_1 t316 _ A71.out).mono ?_
           rintro e w80 ⟨rfl, hb⟩
           refine ⟨_, rfl, ?_⟩
           have n0_ := Aside0.mk (blk_below (bKq_ BK302.out) hb)
           have n1_ := Aside0.mk (blk_below (bKq_ BK303.out) hb)
           have n2_ := Aside0.mk (blk_below (bKq_ BK304.out) hb)
           have n3_ := Aside0.mk (below_step bSt_ hb)
           clear BK302
           clear BK303
           clear BK304
           clear HB
           have BK302 := n0_
           have BK303 := n1_
           have BK304 := n2_
           have HB := n3_
           clear n0_ n1_ n2_ n3_
           (try clear hb)
           (try clear hb2)
           (try clear hk)
           (try clear hi)
           refine hK.out _ _ ⟨(blk_cell BK302.out 0).trans rfl, (blk_cell BK302.out 1).trans rfl, (blk_cell BK303.out 0).trans rfl, (blk_cell BK303.out 1).trans rfl, (blk_cell BK304.out 0).trans rfl, (blk_cell BK304.out 1).trans rfl⟩ (fun hHeld => ?_)
           clear hK K
           refine norm_ (a' := ?_) ?_ ?_
           rotate_left
           ·show Act.put _ (some 58) _ = _
            simp only [Act.put, List.setIfInBounds_toArray, List.set_cons_zero, List.set_cons_succ, i64_w, i32_w]
            rfl
           refine one_ (i := 11) (N := some 61) #[true, true, true, true, true, true, true, true, true, true, true, true, false, false, false, false] rfl rfl (one_of HT_.out (by kernel_rfl)) (by decide) (fun K hK => ?_)
           refine goes_ Tryz.func10 (by kernel_rfl) rfl #[.agg #[.int .i64 a0_0, .string a0_1], .agg #[.int .i64 a2_0, .string a2_1]] (by rfl) rfl rfl (by (try simp only [List.map_toArray, List.map_cons, List.map_nil]); first | done | rfl | (simp only [List.length_drop, List.length_take]; rfl)) ?_
           with_reducible refine (tree_Less.calls kj39 a0_0 a0_1 a2_0 a2_1 t317 _ A72.out).mono ?_
           rintro e w81 ⟨rfl, hb⟩
           refine ⟨_, rfl, ?_⟩
           have n0_ := Aside0.mk (blk_below (bKq_ BK302.out) hb)
           have n1_ := Aside0.mk (blk_below (bKq_ BK303.out) hb)
           have n2_ := Aside0.mk (blk_below (bKq_ BK304.out) hb)
           have n3_ := Aside0.mk (below_step bSt_ hb)
           clear BK302
           clear BK303
           clear BK304
           clear HB
           have BK302 := n0_
           have BK303 := n1_
           have BK304 := n2_
           have HB := n3_
           clear n0_ n1_ n2_ n3_
           (try clear hb)
           (try clear hb2)
           (try clear hk)
           (try clear hi)
           refine hK.out _ _ ⟨(blk_cell BK302.out 0).trans rfl, (blk_cell BK302.out 1).trans rfl, (blk_cell BK303.out 0).trans rfl, (blk_cell BK303.out 1).trans rfl, (blk_cell BK304.out 0).trans rfl, (blk_cell BK304.out 1).trans rfl⟩ (fun hHeld => ?_)
           clear hK K
           refine norm_ (a' := ?_) ?_ ?_
           rotate_left
           ·show Act.put _ (some 61) _ = _
            simp only [Act.put, List.setIfInBounds_toArray, List.set_cons_zero, List.set_cons_succ, i64_w, i32_w]
            rfl
           refine pure_ (i := 12) (N := some 7) (v := ?_) (a' := ?_) #[true, true, true, true, true, true, true, true, true, true, true, true, true, false, false, false] rfl rfl (any_of HT_.out (by kernel_rfl)) (fun _ _ _ h => h) (Or.inl ⟨by rfl, ?_⟩) ?_ ?_
           rotate_left
           ·intro w'
            go_simp
            with_reducible rfl
           rotate_left
           ·simp only [Act.put, List.setIfInBounds_toArray, List.set_cons_zero, List.set_cons_succ, i64_w, i32_w]
            rfl
           refine pure_ (i := 13) (N := some 8) (v := ?_) (a' := ?_) #[true, true, true, true, true, true, true, true, true, true, true, true, true, true, false, false] rfl rfl (any_of HT_.out (by kernel_rfl)) (fun _ _ _ h => h) (Or.inl ⟨by rfl, ?_⟩) ?_ ?_
           rotate_left
           ·intro w'
            go_simp
            with_reducible rfl
           rotate_left
           ·simp only [Act.put, List.setIfInBounds_toArray, List.set_cons_zero, List.set_cons_succ, i64_w, i32_w]
            rfl
           refine pure_ (i := 14) (N := some 9) (v := ?_) (a' := ?_) #[true, true, true, true, true, true, true, true, true, true, true, true, true, true, true, false] rfl rfl (any_of HT_.out (by kernel_rfl)) (fun _ _ _ h => h) (Or.inl ⟨by rfl, ?_⟩) ?_ ?_
           rotate_left
           ·intro w'
            go_simp
            with_reducible rfl
           rotate_left
           ·simp only [Act.put, List.setIfInBounds_toArray, List.set_cons_zero, List.set_cons_succ, i64_w, i32_w]
            rfl
           refine pure_ (i := 15) (N := some 10) (v := ?_) (a' := ?_) #[true, true, true, true, true, true, true, true, true, true, true, true, true, true, true, true] rfl rfl (any_of HT_.out (by kernel_rfl)) (fun _ _ _ h => h) (Or.inl ⟨by rfl, ?_⟩) ?_ ?_
           rotate_left
           ·intro w'
            go_simp
            with_reducible rfl
           rotate_left
           ·simp only [Act.put, List.setIfInBounds_toArray, List.set_cons_zero, List.set_cons_succ, i64_w, i32_w]
            rfl
           refine done_ (done_of HT_.out (by kernel_rfl)) ?_
           have hnb82 := NB302_303.out
           have hnc82 := NB303_302.out
           have hnb83 := NB302_304.out
           have hnc83 := NB304_302.out
           have hcz84_0 : w81.cell? ⟨gb302, 0, none⟩ = some (.int .i64 a0_0) := (blk_cell BK302.out 0).trans rfl
           have hcz84_1 : w81.cell? ⟨gb302, 1, none⟩ = some (.string a0_1) := (blk_cell BK302.out 1).trans rfl
           have hfz84_0 := blk_frozen BK302.out 0
           have hfz84_1 := blk_frozen BK302.out 1
           have hnb85 := NB303_304.out
           have hnc85 := NB304_303.out
           have hcz86_0 : w81.cell? ⟨gb303, 0, none⟩ = some (.int .i64 a1_0) := (blk_cell BK303.out 0).trans rfl
           have hcz86_1 : w81.cell? ⟨gb303, 1, none⟩ = some (.string a1_1) := (blk_cell BK303.out 1).trans rfl
           have hfz86_0 := blk_frozen BK303.out 0
           have hfz86_1 := blk_frozen BK303.out 1
           try go_wp2_with (first | ((with_reducible refine gate_callee (f := 11) rfl ?_); refine goesL_ (some 65) rfl rfl Tryz.func11 (by kernel_rfl) rfl #[.agg #[.int .i64 a0_0, .string a0_1], .agg #[.int .i64 a1_0, .string a1_1]] rfl (by (try simp only [List.map_toArray, List.map_cons, List.map_nil]); first | done | rfl | (simp only [List.length_drop, List.length_take]; rfl)) ?_; (with_reducible refine (manystrandref02_Less.calls kj39 a0_0 a0_1 a1_0 a1_1 t318 _ A73.out).mono ?_); rintro e w87 ⟨rfl, hb⟩; refine ⟨_, rfl, ?_⟩; have n0_ := Aside0.mk (blk_below (bKq_ BK302.out) hb); have n1_ := Aside0.mk (blk_below (bKq_ BK303.out) hb); have n2_ := Aside0.mk (blk_below (bKq_ BK304.out) hb); have n3_ := Aside0.mk (below_step bSt_ hb); clear BK302; clear BK303; clear BK304; clear HB; have BK302 := n0_; have BK303 := n1_; have BK304 := n2_; have HB := n3_; clear n0_ n1_ n2_ n3_; (try clear hb); (try clear hb2); (try clear hk); (try clear hi)))
           go_ret
           exact ⟨by first | rfl | (simp [errW_none, errW_some] <;> rfl) | (simp [*, errW_none, errW_some] <;> rfl) | (simp [errW_none, errW_some]; exact Go.Proofs.YtlabfjaddgakkaaGreatW.OwnWords.isEmpty_bne _), bSt_⟩
          ·replace c76 := Bool.eq_false_iff.mpr c76
           subst c76
           have H1 : (if (true == (!(a0_0 == a1_0) || (!(a0_1.toList == a1_1.toList)))) = true then (if t316 = true then (if t317 = true then ((manystrandlaw02_awake.f).bind fun t319 => (some t319)) else (some false)) else ((manystrandlaw02_awake.f).bind fun t320 => (some t320))) else (some false)) = some r := by rw [if_neg (show ¬ (false = true) by decide)] at H; exact H
           clear H
           have H := H1
           clear H1
           by_cases c88 : (true == (!(a0_0 == a1_0) || (!(a0_1.toList == a1_1.toList)))) = true
           ·rw [if_pos c88] at H
            have c88b0 : (true == (!(a0_0 == a1_0) || (!(a0_1.toList == a1_1.toList)))) = true := c88
            (try (have c88b1 : decide (true = (!(a0_0 == a1_0) || (!(a0_1.toList == a1_1.toList)))) = true := by simpa using c88))
            (try (have c88b2 : (true == (!(a0_0 == a1_0) || (!(a0_1.toList == a1_1.toList)))) = true := by simpa using c88))
            clear c88
            by_cases c89 : t316 = true
            ·subst c89
             have H1 : (if t317 = true then ((manystrandlaw02_awake.f).bind fun t319 => (some t319)) else (some false)) = some r := by rw [if_pos rfl] at H; exact H
             clear H
             have H := H1
             clear H1
             by_cases c90 : t317 = true
             ·subst c90
              have H1 : ((manystrandlaw02_awake.f).bind fun t319 => (some t319)) = some r := by rw [if_pos rfl] at H; exact H
              clear H
              have H := H1
              clear H1
              replace H := Option.bind_eq_some_iff.mp H
              obtain ⟨t319, A910, H⟩ := H
              replace H : (some t319) = some r := H
              have A91 := Aside0.mk A910
              clear A910
              obtain rfl := Option.some.inj H
              try go_wp2
              have n0_ := Aside0.mk (blk_drew BK302.out)
              have n1_ := Aside0.mk (blk_drew BK303.out)
              have n2_ := Aside0.mk (blk_drew BK304.out)
              have n3_ := Aside0.mk (below_drew1 HB.out)
              clear BK302
              clear BK303
              clear BK304
              clear HB
              have BK302 := n0_
              have BK303 := n1_
              have BK304 := n2_
              have HB := n3_
              clear n0_ n1_ n2_ n3_
              refine start_ (n := 16) (S := fun w' => w'.cell? ⟨gb302, 0, none⟩ = some (.int .i64 a0_0) ∧ w'.cell? ⟨gb302, 1, none⟩ = some (.string a0_1) ∧ w'.cell? ⟨gb303, 0, none⟩ = some (.int .i64 a1_0) ∧ w'.cell? ⟨gb303, 1, none⟩ = some (.string a1_1) ∧ w'.cell? ⟨gb304, 0, none⟩ = some (.int .i64 a2_0) ∧ w'.cell? ⟨gb304, 1, none⟩ = some (.string a2_1)) (ds := []) #[false, false, false, false, false, false, false, false, false, false, false, false, false, false, false, false] (by kernel_rfl) rfl rfl ⟨(blk_cell BK302.out 0).trans rfl, (blk_cell BK302.out 1).trans rfl, (blk_cell BK303.out 0).trans rfl, (blk_cell BK303.out 1).trans rfl, (blk_cell BK304.out 0).trans rfl, (blk_cell BK304.out 1).trans rfl⟩ (fun hHeld => ?_); refine with_tabW manystrandlaw02_TreeFeats.tab7 manystrandlaw02_TreeFeats.bits7 (fun HT_ HW_ => ?_)
              generalize wc.drew = w92 at BK302 BK303 BK304 HB hHeld ⊢
              refine take_ (i := 0) (N := some 50) (v := ?_) (a' := ?_) #[true, false, false, false, false, false, false, false, false, false, false, false, false, false, false, false] rfl rfl (take_ofW HT_.out HW_.out (by kernel_rfl)) (fun _ _ _ h => h) (Or.inl ⟨by rfl, ?_⟩) hHeld ?_ ?_
              rotate_left
              ·rintro w' ⟨s0, s1, s2, s3, s4, s5⟩
               go_simp
               with_reducible rfl
              rotate_left
              ·simp only [Act.put, List.setIfInBounds_toArray, List.set_cons_zero, List.set_cons_succ, i64_w, i32_w]
               rfl
              refine take_ (i := 1) (N := some 51) (v := ?_) (a' := ?_) #[true, true, false, false, false, false, false, false, false, false, false, false, false, false, false, false] rfl rfl (take_ofW HT_.out HW_.out (by kernel_rfl)) (fun _ _ _ h => h) (Or.inl ⟨by rfl, ?_⟩) hHeld ?_ ?_
              rotate_left
              ·rintro w' ⟨s0, s1, s2, s3, s4, s5⟩
               go_simp
               with_reducible rfl
              rotate_left
              ·simp only [Act.put, List.setIfInBounds_toArray, List.set_cons_zero, List.set_cons_succ, i64_w, i32_w]
               rfl
              refine take_ (i := 3) (N := some 53) (v := ?_) (a' := ?_) #[true, true, false, true, false, false, false, false, false, false, false, false, false, false, false, false] rfl rfl (take_ofW HT_.out HW_.out (by kernel_rfl)) (fun _ _ _ h => h) (Or.inl ⟨by rfl, ?_⟩) hHeld ?_ ?_
              rotate_left
              ·rintro w' ⟨s0, s1, s2, s3, s4, s5⟩
               go_simp
               with_reducible rfl
              rotate_left
              ·simp only [Act.put, List.setIfInBounds_toArray, List.set_cons_zero, List.set_cons_succ, i64_w, i32_w]
               rfl
              refine take_ (i := 4) (N := some 54) (v := ?_) (a' := ?_) #[true, true, false, true, true, false, false, false, false, false, false, false, false, false, false, false] rfl rfl (take_ofW HT_.out HW_.out (by kernel_rfl)) (fun _ _ _ h => h) (Or.inl ⟨by rfl, ?_⟩) hHeld ?_ ?_
              rotate_left
              ·rintro w' ⟨s0, s1, s2, s3, s4, s5⟩
               go_simp
               with_reducible rfl
              rotate_left
              ·simp only [Act.put, List.setIfInBounds_toArray, List.set_cons_zero, List.set_cons_succ, i64_w, i32_w]
               rfl
              refine take_ (i := 6) (N := some 56) (v := ?_) (a' := ?_) #[true, true, false, true, true, false, true, false, false, false, false, false, false, false, false, false] rfl rfl (take_ofW HT_.out HW_.out (by kernel_rfl)) (fun _ _ _ h => h) (Or.inl ⟨by rfl, ?_⟩) hHeld ?_ ?_
              rotate_left
              ·rintro w' ⟨s0, s1, s2, s3, s4, s5⟩
               go_simp
               with_reducible rfl
              rotate_left
              ·simp only [Act.put, List.setIfInBounds_toArray, List.set_cons_zero, List.set_cons_succ, i64_w, i32_w]
               rfl
              refine take_ (i := 7) (N := some 57) (v := ?_) (a' := ?_) #[true, true, false, true, true, false, true, true, false, false, false, false, false, false, false, false] rfl rfl (take_ofW HT_.out HW_.out (by kernel_rfl)) (fun _ _ _ h => h) (Or.inl ⟨by rfl, ?_⟩) hHeld ?_ ?_
              rotate_left
              ·rintro w' ⟨s0, s1, s2, s3, s4, s5⟩
               go_simp
               with_reducible rfl
              rotate_left
              ·simp only [Act.put, List.setIfInBounds_toArray, List.set_cons_zero, List.set_cons_succ, i64_w, i32_w]
               rfl
              refine take_ (i := 9) (N := some 59) (v := ?_) (a' := ?_) #[true, true, false, true, true, false, true, true, false, true, false, false, false, false, false, false] rfl rfl (take_ofW HT_.out HW_.out (by kernel_rfl)) (fun _ _ _ h => h) (Or.inl ⟨by rfl, ?_⟩) hHeld ?_ ?_
              rotate_left
              ·rintro w' ⟨s0, s1, s2, s3, s4, s5⟩
               go_simp
               with_reducible rfl
              rotate_left
              ·simp only [Act.put, List.setIfInBounds_toArray, List.set_cons_zero, List.set_cons_succ, i64_w, i32_w]
               rfl
              refine take_ (i := 10) (N := some 60) (v := ?_) (a' := ?_) #[true, true, false, true, true, false, true, true, false, true, true, false, false, false, false, false] rfl rfl (take_ofW HT_.out HW_.out (by kernel_rfl)) (fun _ _ _ h => h) (Or.inl ⟨by rfl, ?_⟩) hHeld ?_ ?_
              rotate_left
              ·rintro w' ⟨s0, s1, s2, s3, s4, s5⟩
               go_simp
               with_reducible rfl
              rotate_left
              ·simp only [Act.put, List.setIfInBounds_toArray, List.set_cons_zero, List.set_cons_succ, i64_w, i32_w]
               rfl
              refine one_ (i := 2) (N := some 52) #[true, true, true, true, true, false, true, true, false, true, true, false, false, false, false, false] rfl rfl (one_of HT_.out (by kernel_rfl)) (by decide) (fun K hK => ?_)
              refine goes_ Tryz.func10 (by kernel_rfl) rfl #[.agg #[.int .i64 a0_0, .string a0_1], .agg #[.int .i64 a1_0, .string a1_1]] (by rfl) rfl rfl (by (try simp only [List.map_toArray, List.map_cons, List.map_nil]); first | done | rfl | (simp only [List.length_drop, List.length_take]; rfl)) ?_
              with_reducible refine (tree_Less.calls kj39 a0_0 a0_1 a1_0 a1_1 true _ A69.out).mono ?_
              rintro e w93 ⟨rfl, hb⟩
              refine ⟨_, rfl, ?_⟩
              have n0_ := Aside0.mk (blk_below (bKq_ BK302.out) hb)
              have n1_ := Aside0.mk (blk_below (bKq_ BK303.out) hb)
              have n2_ := Aside0.mk (blk_below (bKq_ BK304.out) hb)
              have n3_ := Aside0.mk (below_step bSt_ hb)
              clear BK302
              clear BK303
              clear BK304
              clear HB
              have BK302 := n0_
              have BK303 := n1_
              have BK304 := n2_
              have HB := n3_
              clear n0_ n1_ n2_ n3_
              (try clear hb)
              (try clear hb2)
              (try clear hk)
              (try clear hi)
              refine hK.out _ _ ⟨(blk_cell BK302.out 0).trans rfl, (blk_cell BK302.out 1).trans rfl, (blk_cell BK303.out 0).trans rfl, (blk_cell BK303.out 1).trans rfl, (blk_cell BK304.out 0).trans rfl, (blk_cell BK304.out 1).trans rfl⟩ (fun hHeld => ?_)
              clear hK K
              refine norm_ (a' := ?_) ?_ ?_
              rotate_left
              ·show Act.put _ (some 52) _ = _
               simp only [Act.put, List.setIfInBounds_toArray, List.set_cons_zero, List.set_cons_succ, i64_w, i32_w]
               rfl
              refine one_ (i := 5) (N := some 55) #[true, true, true, true, true, true, true, true, false, true, true, false, false, false, false, false] rfl rfl (one_of HT_.out (by kernel_rfl)) (by decide) (fun K hK => ?_)
              refine goes_ Tryz.func10 (by kernel_rfl) rfl #[.agg #[.int .i64 a1_0, .string a1_1], .agg #[.int .i64 a0_0, .string a0_1]] (by rfl) rfl rfl (by (try simp only [List.map_toArray, List.map_cons, List.map_nil]); first | done | rfl | (simp only [List.length_drop, List.length_take]; rfl)) ?_
              with_reducible refine (tree_Less.calls kj39 a1_0 a1_1 a0_0 a0_1 false _ A70.out).mono ?_
              rintro e w94 ⟨rfl, hb⟩
              refine ⟨_, rfl, ?_⟩
              have n0_ := Aside0.mk (blk_below (bKq_ BK302.out) hb)
              have n1_ := Aside0.mk (blk_below (bKq_ BK303.out) hb)
              have n2_ := Aside0.mk (blk_below (bKq_ BK304.out) hb)
              have n3_ := Aside0.mk (below_step bSt_ hb)
              clear BK302
              clear BK303
              clear BK304
              clear HB
              have BK302 := n0_
              have BK303 := n1_
              have BK304 := n2_
              have HB := n3_
              clear n0_ n1_ n2_ n3_
              (try clear hb)
              (try clear hb2)
              (try clear hk)
              (try clear hi)
              refine hK.out _ _ ⟨(blk_cell BK302.out 0).trans rfl, (blk_cell BK302.out 1).trans rfl, (blk_cell BK303.out 0).trans rfl, (blk_cell BK303.out 1).trans rfl, (blk_cell BK304.out 0).trans rfl, (blk_cell BK304.out 1).trans rfl⟩ (fun hHeld => ?_)
              clear hK K
              refine norm_ (a' := ?_) ?_ ?_
              rotate_left
              ·show Act.put _ (some 55) _ = _
               simp only [Act.put, List.setIfInBounds_toArray, List.set_cons_zero, List.set_cons_succ, i64_w, i32_w]
               rfl
              refine one_ (i := 8) (N := some 58) #[true, true, true, true, true, true, true, true, true, true, true, false, false, false, false, false] rfl rfl (one_of HT_.out (by kernel_rfl)) (by decide) (fun K hK => ?_)
              refine goes_ Tryz.func10 (by kernel_rfl) rfl #[.agg #[.int .i64 a1_0, .string a1_1], .agg #[.int .i64 a2_0, .string a2_1]] (by rfl) rfl rfl (by (try simp only [List.map_toArray, List.map_cons, List.map_nil]); first | done | rfl | (simp only [List.length_drop, List.length_take]; rfl)) ?_
              with_reducible refine (tree_Less.calls kj39 a1_0 a1_1 a2_0 a2_1 true _ A71.out).mono ?_
              rintro e w95 ⟨rfl, hb⟩
              refine ⟨_, rfl, ?_⟩
              have n0_ := Aside0.mk (blk_below (bKq_ BK302.out) hb)
              have n1_ := Aside0.mk (blk_below (bKq_ BK303.out) hb)
              have n2_ := Aside0.mk (blk_below (bKq_ BK304.out) hb)
              have n3_ := Aside0.mk (below_step bSt_ hb)
              clear BK302
              clear BK303
              clear BK304
              clear HB
              have BK302 := n0_
              have BK303 := n1_
              have BK304 := n2_
              have HB := n3_
              clear n0_ n1_ n2_ n3_
              (try clear hb)
              (try clear hb2)
              (try clear hk)
              (try clear hi)
              refine hK.out _ _ ⟨(blk_cell BK302.out 0).trans rfl, (blk_cell BK302.out 1).trans rfl, (blk_cell BK303.out 0).trans rfl, (blk_cell BK303.out 1).trans rfl, (blk_cell BK304.out 0).trans rfl, (blk_cell BK304.out 1).trans rfl⟩ (fun hHeld => ?_)
              clear hK K
              refine norm_ (a' := ?_) ?_ ?_
              rotate_left
              ·show Act.put _ (some 58) _ = _
               simp only [Act.put, List.setIfInBounds_toArray, List.set_cons_zero, List.set_cons_succ, i64_w, i32_w]
               rfl
              refine one_ (i := 11) (N := some 61) #[true, true, true, true, true, true, true, true, true, true, true, true, false, false, false, false] rfl rfl (one_of HT_.out (by kernel_rfl)) (by decide) (fun K hK => ?_)
              refine goes_ Tryz.func10 (by kernel_rfl) rfl #[.agg #[.int .i64 a0_0, .string a0_1], .agg #[.int .i64 a2_0, .string a2_1]] (by rfl) rfl rfl (by (try simp only [List.map_toArray, List.map_cons, List.map_nil]); first | done | rfl | (simp only [List.length_drop, List.length_take]; rfl)) ?_
              with_reducible refine (tree_Less.calls kj39 a0_0 a0_1 a2_0 a2_1 true _ A72.out).mono ?_
              rintro e w96 ⟨rfl, hb⟩
              refine ⟨_, rfl, ?_⟩
              have n0_ := Aside0.mk (blk_below (bKq_ BK302.out) hb)
              have n1_ := Aside0.mk (blk_below (bKq_ BK303.out) hb)
              have n2_ := Aside0.mk (blk_below (bKq_ BK304.out) hb)
              have n3_ := Aside0.mk (below_step bSt_ hb)
              clear BK302
              clear BK303
              clear BK304
              clear HB
              have BK302 := n0_
              have BK303 := n1_
              have BK304 := n2_
              have HB := n3_
              clear n0_ n1_ n2_ n3_
              (try clear hb)
              (try clear hb2)
              (try clear hk)
              (try clear hi)
              refine hK.out _ _ ⟨(blk_cell BK302.out 0).trans rfl, (blk_cell BK302.out 1).trans rfl, (blk_cell BK303.out 0).trans rfl, (blk_cell BK303.out 1).trans rfl, (blk_cell BK304.out 0).trans rfl, (blk_cell BK304.out 1).trans rfl⟩ (fun hHeld => ?_)
              clear hK K
              refine norm_ (a' := ?_) ?_ ?_
              rotate_left
              ·show Act.put _ (some 61) _ = _
               simp only [Act.put, List.setIfInBounds_toArray, List.set_cons_zero, List.set_cons_succ, i64_w, i32_w]
               rfl
              refine pure_ (i := 12) (N := some 7) (v := ?_) (a' := ?_) #[true, true, true, true, true, true, true, true, true, true, true, true, true, false, false, false] rfl rfl (any_of HT_.out (by kernel_rfl)) (fun _ _ _ h => h) (Or.inl ⟨by rfl, ?_⟩) ?_ ?_
              rotate_left
              ·intro w'
               go_simp
               with_reducible rfl
              rotate_left
              ·simp only [Act.put, List.setIfInBounds_toArray, List.set_cons_zero, List.set_cons_succ, i64_w, i32_w]
               rfl
              refine pure_ (i := 13) (N := some 8) (v := ?_) (a' := ?_) #[true, true, true, true, true, true, true, true, true, true, true, true, true, true, false, false] rfl rfl (any_of HT_.out (by kernel_rfl)) (fun _ _ _ h => h) (Or.inl ⟨by rfl, ?_⟩) ?_ ?_
              rotate_left
              ·intro w'
               go_simp
               with_reducible rfl
              rotate_left
              ·simp only [Act.put, List.setIfInBounds_toArray, List.set_cons_zero, List.set_cons_succ, i64_w, i32_w]
               rfl
              refine pure_ (i := 14) (N := some 9) (v := ?_) (a' := ?_) #[true, true, true, true, true, true, true, true, true, true, true, true, true, true, true, false] rfl rfl (any_of HT_.out (by kernel_rfl)) (fun _ _ _ h => h) (Or.inl ⟨by rfl, ?_⟩) ?_ ?_
              rotate_left
              ·intro w'
               go_simp
               with_reducible rfl
              rotate_left
              ·simp only [Act.put, List.setIfInBounds_toArray, List.set_cons_zero, List.set_cons_succ, i64_w, i32_w]
               rfl
              refine pure_ (i := 15) (N := some 10) (v := ?_) (a' := ?_) #[true, true, true, true, true, true, true, true, true, true, true, true, true, true, true, true] rfl rfl (any_of HT_.out (by kernel_rfl)) (fun _ _ _ h => h) (Or.inl ⟨by rfl, ?_⟩) ?_ ?_
              rotate_left
              ·intro w'
               go_simp
               with_reducible rfl
              rotate_left
              ·simp only [Act.put, List.setIfInBounds_toArray, List.set_cons_zero, List.set_cons_succ, i64_w, i32_w]
               rfl
              refine done_ (done_of HT_.out (by kernel_rfl)) ?_
              have hnb97 := NB302_303.out
              have hnc97 := NB303_302.out
              have hnb98 := NB302_304.out
              have hnc98 := NB304_302.out
              have hcz99_0 : w96.cell? ⟨gb302, 0, none⟩ = some (.int .i64 a0_0) := (blk_cell BK302.out 0).trans rfl
              have hcz99_1 : w96.cell? ⟨gb302, 1, none⟩ = some (.string a0_1) := (blk_cell BK302.out 1).trans rfl
              have hfz99_0 := blk_frozen BK302.out 0
              have hfz99_1 := blk_frozen BK302.out 1
              have hnb100 := NB303_304.out
              have hnc100 := NB304_303.out
              have hcz101_0 : w96.cell? ⟨gb303, 0, none⟩ = some (.int .i64 a1_0) := (blk_cell BK303.out 0).trans rfl
              have hcz101_1 : w96.cell? ⟨gb303, 1, none⟩ = some (.string a1_1) := (blk_cell BK303.out 1).trans rfl
              have hfz101_0 := blk_frozen BK303.out 0
              have hfz101_1 := blk_frozen BK303.out 1
              try go_wp2_with (first | ((with_reducible refine gate_callee (f := 11) rfl ?_); refine goesL_ (some 65) rfl rfl Tryz.func11 (by kernel_rfl) rfl #[.agg #[.int .i64 a0_0, .string a0_1], .agg #[.int .i64 a1_0, .string a1_1]] rfl (by (try simp only [List.map_toArray, List.map_cons, List.map_nil]); first | done | rfl | (simp only [List.length_drop, List.length_take]; rfl)) ?_; (with_reducible refine (manystrandref02_Less.calls kj39 a0_0 a0_1 a1_0 a1_1 t318 _ A73.out).mono ?_); rintro e w102 ⟨rfl, hb⟩; refine ⟨_, rfl, ?_⟩; have n0_ := Aside0.mk (blk_below (bKq_ BK302.out) hb); have n1_ := Aside0.mk (blk_below (bKq_ BK303.out) hb); have n2_ := Aside0.mk (blk_below (bKq_ BK304.out) hb); have n3_ := Aside0.mk (below_step bSt_ hb); clear BK302; clear BK303; clear BK304; clear HB; have BK302 := n0_; have BK303 := n1_; have BK304 := n2_; have HB := n3_; clear n0_ n1_ n2_ n3_; (try clear hb); (try clear hb2); (try clear hk); (try clear hi); have hcz103_0 : w102.cell? ⟨gb302, 0, none⟩ = some (.int .i64 a0_0) := (blk_cell BK302.out 0).trans rfl; have hcz103_1 : w102.cell? ⟨gb302, 1, none⟩ = some (.string a0_1) := (blk_cell BK302.out 1).trans rfl; have hfz103_0 := blk_frozen BK302.out 0; have hfz103_1 := blk_frozen BK302.out 1; have hcz104_0 : w102.cell? ⟨gb303, 0, none⟩ = some (.int .i64 a1_0) := (blk_cell BK303.out 0).trans rfl; have hcz104_1 : w102.cell? ⟨gb303, 1, none⟩ = some (.string a1_1) := (blk_cell BK303.out 1).trans rfl; have hfz104_0 := blk_frozen BK303.out 0; have hfz104_1 := blk_frozen BK303.out 1) | (go_at_call 7; (with_reducible refine (manystrandlaw02_awake.calls  t319 _ A91.out).mono ?_); rintro e w105 ⟨rfl, hb⟩; have n0_ := Aside0.mk (blk_below (bKq_ BK302.out) hb); have n1_ := Aside0.mk (blk_below (bKq_ BK303.out) hb); have n2_ := Aside0.mk (blk_below (bKq_ BK304.out) hb); have n3_ := Aside0.mk (below_step bSt_ hb); clear BK302; clear BK303; clear BK304; clear HB; have BK302 := n0_; have BK303 := n1_; have BK304 := n2_; have HB := n3_; clear n0_ n1_ n2_ n3_; (try clear hb); (try clear hb2); (try clear hk); (try clear hi)))
              go_ret
              exact ⟨by first | rfl | (simp [errW_none, errW_some] <;> rfl) | (simp [*, errW_none, errW_some] <;> rfl) | (simp [errW_none, errW_some]; exact Go.Proofs.YtlabfjaddgakkaaGreatW.OwnWords.isEmpty_bne _), bSt_⟩
             ·replace c90 := Bool.eq_false_iff.mpr c90
              subst c90
              have H1 : (some false) = some r := by rw [if_neg (show ¬ (false = true) by decide)] at H; exact H
              clear H
              have H := H1
              clear H1
              obtain rfl := Option.some.inj H
              try go_wp2
              have n0_ := Aside0.mk (blk_drew BK302.out)
              have n1_ := Aside0.mk (blk_drew BK303.out)
              have n2_ := Aside0.mk (blk_drew BK304.out)
              have n3_ := Aside0.mk (below_drew1 HB.out)
              clear BK302
              clear BK303
              clear BK304
              clear HB
              have BK302 := n0_
              have BK303 := n1_
              have BK304 := n2_
              have HB := n3_
              clear n0_ n1_ n2_ n3_
              refine start_ (n := 16) (S := fun w' => w'.cell? ⟨gb302, 0, none⟩ = some (.int .i64 a0_0) ∧ w'.cell? ⟨gb302, 1, none⟩ = some (.string a0_1) ∧ w'.cell? ⟨gb303, 0, none⟩ = some (.int .i64 a1_0) ∧ w'.cell? ⟨gb303, 1, none⟩ = some (.string a1_1) ∧ w'.cell? ⟨gb304, 0, none⟩ = some (.int .i64 a2_0) ∧ w'.cell? ⟨gb304, 1, none⟩ = some (.string a2_1)) (ds := []) #[false, false, false, false, false, false, false, false, false, false, false, false, false, false, false, false] (by kernel_rfl) rfl rfl ⟨(blk_cell BK302.out 0).trans rfl, (blk_cell BK302.out 1).trans rfl, (blk_cell BK303.out 0).trans rfl, (blk_cell BK303.out 1).trans rfl, (blk_cell BK304.out 0).trans rfl, (blk_cell BK304.out 1).trans rfl⟩ (fun hHeld => ?_); refine with_tabW manystrandlaw02_TreeFeats.tab7 manystrandlaw02_TreeFeats.bits7 (fun HT_ HW_ => ?_)
              generalize wc.drew = w106 at BK302 BK303 BK304 HB hHeld ⊢
              refine take_ (i := 0) (N := some 50) (v := ?_) (a' := ?_) #[true, false, false, false, false, false, false, false, false, false, false, false, false, false, false, false] rfl rfl (take_ofW HT_.out HW_.out (by kernel_rfl)) (fun _ _ _ h => h) (Or.inl ⟨by rfl, ?_⟩) hHeld ?_ ?_
              rotate_left
              ·rintro w' ⟨s0, s1, s2, s3, s4, s5⟩
               go_simp
               with_reducible rfl
              rotate_left
              ·simp only [Act.put, List.setIfInBounds_toArray, List.set_cons_zero, List.set_cons_succ, i64_w, i32_w]
               rfl
              refine take_ (i := 1) (N := some 51) (v := ?_) (a' := ?_) #[true, true, false, false, false, false, false, false, false, false, false, false, false, false, false, false] rfl rfl (take_ofW HT_.out HW_.out (by kernel_rfl)) (fun _ _ _ h => h) (Or.inl ⟨by rfl, ?_⟩) hHeld ?_ ?_
              rotate_left
              ·rintro w' ⟨s0, s1, s2, s3, s4, s5⟩
               go_simp
               with_reducible rfl
              rotate_left
              ·simp only [Act.put, List.setIfInBounds_toArray, List.set_cons_zero, List.set_cons_succ, i64_w, i32_w]
               rfl
              refine take_ (i := 3) (N := some 53) (v := ?_) (a' := ?_) #[true, true, false, true, false, false, false, false, false, false, false, false, false, false, false, false] rfl rfl (take_ofW HT_.out HW_.out (by kernel_rfl)) (fun _ _ _ h => h) (Or.inl ⟨by rfl, ?_⟩) hHeld ?_ ?_
              rotate_left
              ·rintro w' ⟨s0, s1, s2, s3, s4, s5⟩
               go_simp
               with_reducible rfl
              rotate_left
              ·simp only [Act.put, List.setIfInBounds_toArray, List.set_cons_zero, List.set_cons_succ, i64_w, i32_w]
               rfl
              refine take_ (i := 4) (N := some 54) (v := ?_) (a' := ?_) #[true, true, false, true, true, false, false, false, false, false, false, false, false, false, false, false] rfl rfl (take_ofW HT_.out HW_.out (by kernel_rfl)) (fun _ _ _ h => h) (Or.inl ⟨by rfl, ?_⟩) hHeld ?_ ?_
              rotate_left
              ·rintro w' ⟨s0, s1, s2, s3, s4, s5⟩
               go_simp
               with_reducible rfl
              rotate_left
              ·simp only [Act.put, List.setIfInBounds_toArray, List.set_cons_zero, List.set_cons_succ, i64_w, i32_w]
               rfl
              refine take_ (i := 6) (N := some 56) (v := ?_) (a' := ?_) #[true, true, false, true, true, false, true, false, false, false, false, false, false, false, false, false] rfl rfl (take_ofW HT_.out HW_.out (by kernel_rfl)) (fun _ _ _ h => h) (Or.inl ⟨by rfl, ?_⟩) hHeld ?_ ?_
              rotate_left
              ·rintro w' ⟨s0, s1, s2, s3, s4, s5⟩
               go_simp
               with_reducible rfl
              rotate_left
              ·simp only [Act.put, List.setIfInBounds_toArray, List.set_cons_zero, List.set_cons_succ, i64_w, i32_w]
               rfl
              refine take_ (i := 7) (N := some 57) (v := ?_) (a' := ?_) #[true, true, false, true, true, false, true, true, false, false, false, false, false, false, false, false] rfl rfl (take_ofW HT_.out HW_.out (by kernel_rfl)) (fun _ _ _ h => h) (Or.inl ⟨by rfl, ?_⟩) hHeld ?_ ?_
              rotate_left
              ·rintro w' ⟨s0, s1, s2, s3, s4, s5⟩
               go_simp
               with_reducible rfl
              rotate_left
              ·simp only [Act.put, List.setIfInBounds_toArray, List.set_cons_zero, List.set_cons_succ, i64_w, i32_w]
               rfl
              refine take_ (i := 9) (N := some 59) (v := ?_) (a' := ?_) #[true, true, false, true, true, false, true, true, false, true, false, false, false, false, false, false] rfl rfl (take_ofW HT_.out HW_.out (by kernel_rfl)) (fun _ _ _ h => h) (Or.inl ⟨by rfl, ?_⟩) hHeld ?_ ?_
              rotate_left
              ·rintro w' ⟨s0, s1, s2, s3, s4, s5⟩
               go_simp
               with_reducible rfl
              rotate_left
              ·simp only [Act.put, List.setIfInBounds_toArray, List.set_cons_zero, List.set_cons_succ, i64_w, i32_w]
               rfl
              refine take_ (i := 10) (N := some 60) (v := ?_) (a' := ?_) #[true, true, false, true, true, false, true, true, false, true, true, false, false, false, false, false] rfl rfl (take_ofW HT_.out HW_.out (by kernel_rfl)) (fun _ _ _ h => h) (Or.inl ⟨by rfl, ?_⟩) hHeld ?_ ?_
              rotate_left
              ·rintro w' ⟨s0, s1, s2, s3, s4, s5⟩
               go_simp
               with_reducible rfl
              rotate_left
              ·simp only [Act.put, List.setIfInBounds_toArray, List.set_cons_zero, List.set_cons_succ, i64_w, i32_w]
               rfl
              refine one_ (i := 2) (N := some 52) #[true, true, true, true, true, false, true, true, false, true, true, false, false, false, false, false] rfl rfl (one_of HT_.out (by kernel_rfl)) (by decide) (fun K hK => ?_)
              refine goes_ Tryz.func10 (by kernel_rfl) rfl #[.agg #[.int .i64 a0_0, .string a0_1], .agg #[.int .i64 a1_0, .string a1_1]] (by rfl) rfl rfl (by (try simp only [List.map_toArray, List.map_cons, List.map_nil]); first | done | rfl | (simp only [List.length_drop, List.length_take]; rfl)) ?_
              with_reducible refine (tree_Less.calls kj39 a0_0 a0_1 a1_0 a1_1 true _ A69.out).mono ?_
              rintro e w107 ⟨rfl, hb⟩
              refine ⟨_, rfl, ?_⟩
              have n0_ := Aside0.mk (blk_below (bKq_ BK302.out) hb)
              have n1_ := Aside0.mk (blk_below (bKq_ BK303.out) hb)
              have n2_ := Aside0.mk (blk_below (bKq_ BK304.out) hb)
              have n3_ := Aside0.mk (below_step bSt_ hb)
              clear BK302
              clear BK303
              clear BK304
              clear HB
              have BK302 := n0_
              have BK303 := n1_
              have BK304 := n2_
              have HB := n3_
              clear n0_ n1_ n2_ n3_
              (try clear hb)
              (try clear hb2)
              (try clear hk)
              (try clear hi)
              refine hK.out _ _ ⟨(blk_cell BK302.out 0).trans rfl, (blk_cell BK302.out 1).trans rfl, (blk_cell BK303.out 0).trans rfl, (blk_cell BK303.out 1).trans rfl, (blk_cell BK304.out 0).trans rfl, (blk_cell BK304.out 1).trans rfl⟩ (fun hHeld => ?_)
              clear hK K
              refine norm_ (a' := ?_) ?_ ?_
              rotate_left
              ·show Act.put _ (some 52) _ = _
               simp only [Act.put, List.setIfInBounds_toArray, List.set_cons_zero, List.set_cons_succ, i64_w, i32_w]
               rfl
              refine one_ (i := 5) (N := some 55) #[true, true, true, true, true, true, true, true, false, true, true, false, false, false, false, false] rfl rfl (one_of HT_.out (by kernel_rfl)) (by decide) (fun K hK => ?_)
              refine goes_ Tryz.func10 (by kernel_rfl) rfl #[.agg #[.int .i64 a1_0, .string a1_1], .agg #[.int .i64 a0_0, .string a0_1]] (by rfl) rfl rfl (by (try simp only [List.map_toArray, List.map_cons, List.map_nil]); first | done | rfl | (simp only [List.length_drop, List.length_take]; rfl)) ?_
              with_reducible refine (tree_Less.calls kj39 a1_0 a1_1 a0_0 a0_1 false _ A70.out).mono ?_
              rintro e w108 ⟨rfl, hb⟩
              refine ⟨_, rfl, ?_⟩
              have n0_ := Aside0.mk (blk_below (bKq_ BK302.out) hb)
              have n1_ := Aside0.mk (blk_below (bKq_ BK303.out) hb)
              have n2_ := Aside0.mk (blk_below (bKq_ BK304.out) hb)
              have n3_ := Aside0.mk (below_step bSt_ hb)
              clear BK302
              clear BK303
              clear BK304
              clear HB
              have BK302 := n0_
              have BK303 := n1_
              have BK304 := n2_
              have HB := n3_
              clear n0_ n1_ n2_ n3_
              (try clear hb)
              (try clear hb2)
              (try clear hk)
              (try clear hi)
              refine hK.out _ _ ⟨(blk_cell BK302.out 0).trans rfl, (blk_cell BK302.out 1).trans rfl, (blk_cell BK303.out 0).trans rfl, (blk_cell BK303.out 1).trans rfl, (blk_cell BK304.out 0).trans rfl, (blk_cell BK304.out 1).trans rfl⟩ (fun hHeld => ?_)
              clear hK K
              refine norm_ (a' := ?_) ?_ ?_
              rotate_left
              ·show Act.put _ (some 55) _ = _
               simp only [Act.put, List.setIfInBounds_toArray, List.set_cons_zero, List.set_cons_succ, i64_w, i32_w]
               rfl
              refine one_ (i := 8) (N := some 58) #[true, true, true, true, true, true, true, true, true, true, true, false, false, false, false, false] rfl rfl (one_of HT_.out (by kernel_rfl)) (by decide) (fun K hK => ?_)
              refine goes_ Tryz.func10 (by kernel_rfl) rfl #[.agg #[.int .i64 a1_0, .string a1_1], .agg #[.int .i64 a2_0, .string a2_1]] (by rfl) rfl rfl (by (try simp only [List.map_toArray, List.map_cons, List.map_nil]); first | done | rfl | (simp only [List.length_drop, List.length_take]; rfl)) ?_
              with_reducible refine (tree_Less.calls kj39 a1_0 a1_1 a2_0 a2_1 true _ A71.out).mono ?_
              rintro e w109 ⟨rfl, hb⟩
              refine ⟨_, rfl, ?_⟩
              have n0_ := Aside0.mk (blk_below (bKq_ BK302.out) hb)
              have n1_ := Aside0.mk (blk_below (bKq_ BK303.out) hb)
              have n2_ := Aside0.mk (blk_below (bKq_ BK304.out) hb)
              have n3_ := Aside0.mk (below_step bSt_ hb)
              clear BK302
              clear BK303
              clear BK304
              clear HB
              have BK302 := n0_
              have BK303 := n1_
              have BK304 := n2_
              have HB := n3_
              clear n0_ n1_ n2_ n3_
              (try clear hb)
              (try clear hb2)
              (try clear hk)
              (try clear hi)
              refine hK.out _ _ ⟨(blk_cell BK302.out 0).trans rfl, (blk_cell BK302.out 1).trans rfl, (blk_cell BK303.out 0).trans rfl, (blk_cell BK303.out 1).trans rfl, (blk_cell BK304.out 0).trans rfl, (blk_cell BK304.out 1).trans rfl⟩ (fun hHeld => ?_)
              clear hK K
              refine norm_ (a' := ?_) ?_ ?_
              rotate_left
              ·show Act.put _ (some 58) _ = _
               simp only [Act.put, List.setIfInBounds_toArray, List.set_cons_zero, List.set_cons_succ, i64_w, i32_w]
               rfl
              refine one_ (i := 11) (N := some 61) #[true, true, true, true, true, true, true, true, true, true, true, true, false, false, false, false] rfl rfl (one_of HT_.out (by kernel_rfl)) (by decide) (fun K hK => ?_)
              refine goes_ Tryz.func10 (by kernel_rfl) rfl #[.agg #[.int .i64 a0_0, .string a0_1], .agg #[.int .i64 a2_0, .string a2_1]] (by rfl) rfl rfl (by (try simp only [List.map_toArray, List.map_cons, List.map_nil]); first | done | rfl | (simp only [List.length_drop, List.length_take]; rfl)) ?_
              with_reducible refine (tree_Less.calls kj39 a0_0 a0_1 a2_0 a2_1 false _ A72.out).mono ?_
              rintro e w110 ⟨rfl, hb⟩
              refine ⟨_, rfl, ?_⟩
              have n0_ := Aside0.mk (blk_below (bKq_ BK302.out) hb)
              have n1_ := Aside0.mk (blk_below (bKq_ BK303.out) hb)
              have n2_ := Aside0.mk (blk_below (bKq_ BK304.out) hb)
              have n3_ := Aside0.mk (below_step bSt_ hb)
              clear BK302
              clear BK303
              clear BK304
              clear HB
              have BK302 := n0_
              have BK303 := n1_
              have BK304 := n2_
              have HB := n3_
              clear n0_ n1_ n2_ n3_
              (try clear hb)
              (try clear hb2)
              (try clear hk)
              (try clear hi)
              refine hK.out _ _ ⟨(blk_cell BK302.out 0).trans rfl, (blk_cell BK302.out 1).trans rfl, (blk_cell BK303.out 0).trans rfl, (blk_cell BK303.out 1).trans rfl, (blk_cell BK304.out 0).trans rfl, (blk_cell BK304.out 1).trans rfl⟩ (fun hHeld => ?_)
              clear hK K
              refine norm_ (a' := ?_) ?_ ?_
              rotate_left
              ·show Act.put _ (some 61) _ = _
               simp only [Act.put, List.setIfInBounds_toArray, List.set_cons_zero, List.set_cons_succ, i64_w, i32_w]
               rfl
              refine pure_ (i := 12) (N := some 7) (v := ?_) (a' := ?_) #[true, true, true, true, true, true, true, true, true, true, true, true, true, false, false, false] rfl rfl (any_of HT_.out (by kernel_rfl)) (fun _ _ _ h => h) (Or.inl ⟨by rfl, ?_⟩) ?_ ?_
              rotate_left
              ·intro w'
               go_simp
               with_reducible rfl
              rotate_left
              ·simp only [Act.put, List.setIfInBounds_toArray, List.set_cons_zero, List.set_cons_succ, i64_w, i32_w]
               rfl
              refine pure_ (i := 13) (N := some 8) (v := ?_) (a' := ?_) #[true, true, true, true, true, true, true, true, true, true, true, true, true, true, false, false] rfl rfl (any_of HT_.out (by kernel_rfl)) (fun _ _ _ h => h) (Or.inl ⟨by rfl, ?_⟩) ?_ ?_
              rotate_left
              ·intro w'
               go_simp
               with_reducible rfl
              rotate_left
              ·simp only [Act.put, List.setIfInBounds_toArray, List.set_cons_zero, List.set_cons_succ, i64_w, i32_w]
               rfl
              refine pure_ (i := 14) (N := some 9) (v := ?_) (a' := ?_) #[true, true, true, true, true, true, true, true, true, true, true, true, true, true, true, false] rfl rfl (any_of HT_.out (by kernel_rfl)) (fun _ _ _ h => h) (Or.inl ⟨by rfl, ?_⟩) ?_ ?_
              rotate_left
              ·intro w'
               go_simp
               with_reducible rfl
              rotate_left
              ·simp only [Act.put, List.setIfInBounds_toArray, List.set_cons_zero, List.set_cons_succ, i64_w, i32_w]
               rfl
              refine pure_ (i := 15) (N := some 10) (v := ?_) (a' := ?_) #[true, true, true, true, true, true, true, true, true, true, true, true, true, true, true, true] rfl rfl (any_of HT_.out (by kernel_rfl)) (fun _ _ _ h => h) (Or.inl ⟨by rfl, ?_⟩) ?_ ?_
              rotate_left
              ·intro w'
               go_simp
               with_reducible rfl
              rotate_left
              ·simp only [Act.put, List.setIfInBounds_toArray, List.set_cons_zero, List.set_cons_succ, i64_w, i32_w]
               rfl
              refine done_ (done_of HT_.out (by kernel_rfl)) ?_
              have hnb111 := NB302_303.out
              have hnc111 := NB303_302.out
              have hnb112 := NB302_304.out
              have hnc112 := NB304_302.out
              have hcz113_0 : w110.cell? ⟨gb302, 0, none⟩ = some (.int .i64 a0_0) := (blk_cell BK302.out 0).trans rfl
              have hcz113_1 : w110.cell? ⟨gb302, 1, none⟩ = some (.string a0_1) := (blk_cell BK302.out 1).trans rfl
              have hfz113_0 := blk_frozen BK302.out 0
              have hfz113_1 := blk_frozen BK302.out 1
              have hnb114 := NB303_304.out
              have hnc114 := NB304_303.out
              have hcz115_0 : w110.cell? ⟨gb303, 0, none⟩ = some (.int .i64 a1_0) := (blk_cell BK303.out 0).trans rfl
              have hcz115_1 : w110.cell? ⟨gb303, 1, none⟩ = some (.string a1_1) := (blk_cell BK303.out 1).trans rfl
              have hfz115_0 := blk_frozen BK303.out 0
              have hfz115_1 := blk_frozen BK303.out 1
              try go_wp2_with (first | ((with_reducible refine gate_callee (f := 11) rfl ?_); refine goesL_ (some 65) rfl rfl Tryz.func11 (by kernel_rfl) rfl #[.agg #[.int .i64 a0_0, .string a0_1], .agg #[.int .i64 a1_0, .string a1_1]] rfl (by (try simp only [List.map_toArray, List.map_cons, List.map_nil]); first | done | rfl | (simp only [List.length_drop, List.length_take]; rfl)) ?_; (with_reducible refine (manystrandref02_Less.calls kj39 a0_0 a0_1 a1_0 a1_1 t318 _ A73.out).mono ?_); rintro e w116 ⟨rfl, hb⟩; refine ⟨_, rfl, ?_⟩; have n0_ := Aside0.mk (blk_below (bKq_ BK302.out) hb); have n1_ := Aside0.mk (blk_below (bKq_ BK303.out) hb); have n2_ := Aside0.mk (blk_below (bKq_ BK304.out) hb); have n3_ := Aside0.mk (below_step bSt_ hb); clear BK302; clear BK303; clear BK304; clear HB; have BK302 := n0_; have BK303 := n1_; have BK304 := n2_; have HB := n3_; clear n0_ n1_ n2_ n3_; (try clear hb); (try clear hb2); (try clear hk); (try clear hi); have hcz117_0 : w116.cell? ⟨gb302, 0, none⟩ = some (.int .i64 a0_0) := (blk_cell BK302.out 0).trans rfl; have hcz117_1 : w116.cell? ⟨gb302, 1, none⟩ = some (.string a0_1) := (blk_cell BK302.out 1).trans rfl; have hfz117_0 := blk_frozen BK302.out 0; have hfz117_1 := blk_frozen BK302.out 1; have hcz118_0 : w116.cell? ⟨gb303, 0, none⟩ = some (.int .i64 a1_0) := (blk_cell BK303.out 0).trans rfl; have hcz118_1 : w116.cell? ⟨gb303, 1, none⟩ = some (.string a1_1) := (blk_cell BK303.out 1).trans rfl; have hfz118_0 := blk_frozen BK303.out 0; have hfz118_1 := blk_frozen BK303.out 1))
              go_ret
              exact ⟨by first | rfl | (simp [errW_none, errW_some] <;> rfl) | (simp [*, errW_none, errW_some] <;> rfl) | (simp [errW_none, errW_some]; exact Go.Proofs.YtlabfjaddgakkaaGreatW.OwnWords.isEmpty_bne _), bSt_⟩
            ·replace c89 := Bool.eq_false_iff.mpr c89
             subst c89
             have H1 : ((manystrandlaw02_awake.f).bind fun t320 => (some t320)) = some r := by rw [if_neg (show ¬ (false = true) by decide)] at H; exact H
             clear H
             have H := H1
             clear H1
             replace H := Option.bind_eq_some_iff.mp H
             obtain ⟨t320, A1190, H⟩ := H
             replace H : (some t320) = some r := H
             have A119 := Aside0.mk A1190
             clear A1190
             obtain rfl := Option.some.inj H
             try go_wp2
             have n0_ := Aside0.mk (blk_drew BK302.out)
             have n1_ := Aside0.mk (blk_drew BK303.out)
             have n2_ := Aside0.mk (blk_drew BK304.out)
             have n3_ := Aside0.mk (below_drew1 HB.out)
             clear BK302
             clear BK303
             clear BK304
             clear HB
             have BK302 := n0_
             have BK303 := n1_
             have BK304 := n2_
             have HB := n3_
             clear n0_ n1_ n2_ n3_
             refine start_ (n := 16) (S := fun w' => w'.cell? ⟨gb302, 0, none⟩ = some (.int .i64 a0_0) ∧ w'.cell? ⟨gb302, 1, none⟩ = some (.string a0_1) ∧ w'.cell? ⟨gb303, 0, none⟩ = some (.int .i64 a1_0) ∧ w'.cell? ⟨gb303, 1, none⟩ = some (.string a1_1) ∧ w'.cell? ⟨gb304, 0, none⟩ = some (.int .i64 a2_0) ∧ w'.cell? ⟨gb304, 1, none⟩ = some (.string a2_1)) (ds := []) #[false, false, false, false, false, false, false, false, false, false, false, false, false, false, false, false] (by kernel_rfl) rfl rfl ⟨(blk_cell BK302.out 0).trans rfl, (blk_cell BK302.out 1).trans rfl, (blk_cell BK303.out 0).trans rfl, (blk_cell BK303.out 1).trans rfl, (blk_cell BK304.out 0).trans rfl, (blk_cell BK304.out 1).trans rfl⟩ (fun hHeld => ?_); refine with_tabW manystrandlaw02_TreeFeats.tab7 manystrandlaw02_TreeFeats.bits7 (fun HT_ HW_ => ?_)
             generalize wc.drew = w120 at BK302 BK303 BK304 HB hHeld ⊢
             refine take_ (i := 0) (N := some 50) (v := ?_) (a' := ?_) #[true, false, false, false, false, false, false, false, false, false, false, false, false, false, false, false] rfl rfl (take_ofW HT_.out HW_.out (by kernel_rfl)) (fun _ _ _ h => h) (Or.inl ⟨by rfl, ?_⟩) hHeld ?_ ?_
             rotate_left
             ·rintro w' ⟨s0, s1, s2, s3, s4, s5⟩
              go_simp
              with_reducible rfl
             rotate_left
             ·simp only [Act.put, List.setIfInBounds_toArray, List.set_cons_zero, List.set_cons_succ, i64_w, i32_w]
              rfl
             refine take_ (i := 1) (N := some 51) (v := ?_) (a' := ?_) #[true, true, false, false, false, false, false, false, false, false, false, false, false, false, false, false] rfl rfl (take_ofW HT_.out HW_.out (by kernel_rfl)) (fun _ _ _ h => h) (Or.inl ⟨by rfl, ?_⟩) hHeld ?_ ?_
             rotate_left
             ·rintro w' ⟨s0, s1, s2, s3, s4, s5⟩
              go_simp
              with_reducible rfl
             rotate_left
             ·simp only [Act.put, List.setIfInBounds_toArray, List.set_cons_zero, List.set_cons_succ, i64_w, i32_w]
              rfl
             refine take_ (i := 3) (N := some 53) (v := ?_) (a' := ?_) #[true, true, false, true, false, false, false, false, false, false, false, false, false, false, false, false] rfl rfl (take_ofW HT_.out HW_.out (by kernel_rfl)) (fun _ _ _ h => h) (Or.inl ⟨by rfl, ?_⟩) hHeld ?_ ?_
             rotate_left
             ·rintro w' ⟨s0, s1, s2, s3, s4, s5⟩
              go_simp
              with_reducible rfl
             rotate_left
             ·simp only [Act.put, List.setIfInBounds_toArray, List.set_cons_zero, List.set_cons_succ, i64_w, i32_w]
              rfl
             refine take_ (i := 4) (N := some 54) (v := ?_) (a' := ?_) #[true, true, false, true, true, false, false, false, false, false, false, false, false, false, false, false] rfl rfl (take_ofW HT_.out HW_.out (by kernel_rfl)) (fun _ _ _ h => h) (Or.inl ⟨by rfl, ?_⟩) hHeld ?_ ?_
             rotate_left
             ·rintro w' ⟨s0, s1, s2, s3, s4, s5⟩
              go_simp
              with_reducible rfl
             rotate_left
             ·simp only [Act.put, List.setIfInBounds_toArray, List.set_cons_zero, List.set_cons_succ, i64_w, i32_w]
              rfl
             refine take_ (i := 6) (N := some 56) (v := ?_) (a' := ?_) #[true, true, false, true, true, false, true, false, false, false, false, false, false, false, false, false] rfl rfl (take_ofW HT_.out HW_.out (by kernel_rfl)) (fun _ _ _ h => h) (Or.inl ⟨by rfl, ?_⟩) hHeld ?_ ?_
             rotate_left
             ·rintro w' ⟨s0, s1, s2, s3, s4, s5⟩
              go_simp
              with_reducible rfl
             rotate_left
             ·simp only [Act.put, List.setIfInBounds_toArray, List.set_cons_zero, List.set_cons_succ, i64_w, i32_w]
              rfl
             refine take_ (i := 7) (N := some 57) (v := ?_) (a' := ?_) #[true, true, false, true, true, false, true, true, false, false, false, false, false, false, false, false] rfl rfl (take_ofW HT_.out HW_.out (by kernel_rfl)) (fun _ _ _ h => h) (Or.inl ⟨by rfl, ?_⟩) hHeld ?_ ?_
             rotate_left
             ·rintro w' ⟨s0, s1, s2, s3, s4, s5⟩
              go_simp
              with_reducible rfl
             rotate_left
             ·simp only [Act.put, List.setIfInBounds_toArray, List.set_cons_zero, List.set_cons_succ, i64_w, i32_w]
              rfl
             refine take_ (i := 9) (N := some 59) (v := ?_) (a' := ?_) #[true, true, false, true, true, false, true, true, false, true, false, false, false, false, false, false] rfl rfl (take_ofW HT_.out HW_.out (by kernel_rfl)) (fun _ _ _ h => h) (Or.inl ⟨by rfl, ?_⟩) hHeld ?_ ?_
             rotate_left
             ·rintro w' ⟨s0, s1, s2, s3, s4, s5⟩
              go_simp
              with_reducible rfl
             rotate_left
             ·simp only [Act.put, List.setIfInBounds_toArray, List.set_cons_zero, List.set_cons_succ, i64_w, i32_w]
              rfl
             refine take_ (i := 10) (N := some 60) (v := ?_) (a' := ?_) #[true, true, false, true, true, false, true, true, false, true, true, false, false, false, false, false] rfl rfl (take_ofW HT_.out HW_.out (by kernel_rfl)) (fun _ _ _ h => h) (Or.inl ⟨by rfl, ?_⟩) hHeld ?_ ?_
             rotate_left
             ·rintro w' ⟨s0, s1, s2, s3, s4, s5⟩
              go_simp
              with_reducible rfl
             rotate_left
             ·simp only [Act.put, List.setIfInBounds_toArray, List.set_cons_zero, List.set_cons_succ, i64_w, i32_w]
              rfl
             refine one_ (i := 2) (N := some 52) #[true, true, true, true, true, false, true, true, false, true, true, false, false, false, false, false] rfl rfl (one_of HT_.out (by kernel_rfl)) (by decide) (fun K hK => ?_)
             refine goes_ Tryz.func10 (by kernel_rfl) rfl #[.agg #[.int .i64 a0_0, .string a0_1], .agg #[.int .i64 a1_0, .string a1_1]] (by rfl) rfl rfl (by (try simp only [List.map_toArray, List.map_cons, List.map_nil]); first | done | rfl | (simp only [List.length_drop, List.length_take]; rfl)) ?_
             with_reducible refine (tree_Less.calls kj39 a0_0 a0_1 a1_0 a1_1 true _ A69.out).mono ?_
             rintro e w121 ⟨rfl, hb⟩
             refine ⟨_, rfl, ?_⟩
             have n0_ := Aside0.mk (blk_below (bKq_ BK302.out) hb)
             have n1_ := Aside0.mk (blk_below (bKq_ BK303.out) hb)
             have n2_ := Aside0.mk (blk_below (bKq_ BK304.out) hb)
             have n3_ := Aside0.mk (below_step bSt_ hb)
             clear BK302
             clear BK303
             clear BK304
             clear HB
             have BK302 := n0_
             have BK303 := n1_
             have BK304 := n2_
             have HB := n3_
             clear n0_ n1_ n2_ n3_
             (try clear hb)
             (try clear hb2)
             (try clear hk)
             (try clear hi)
             refine hK.out _ _ ⟨(blk_cell BK302.out 0).trans rfl, (blk_cell BK302.out 1).trans rfl, (blk_cell BK303.out 0).trans rfl, (blk_cell BK303.out 1).trans rfl, (blk_cell BK304.out 0).trans rfl, (blk_cell BK304.out 1).trans rfl⟩ (fun hHeld => ?_)
             clear hK K
             refine norm_ (a' := ?_) ?_ ?_
             rotate_left
             ·show Act.put _ (some 52) _ = _
              simp only [Act.put, List.setIfInBounds_toArray, List.set_cons_zero, List.set_cons_succ, i64_w, i32_w]
              rfl
             refine one_ (i := 5) (N := some 55) #[true, true, true, true, true, true, true, true, false, true, true, false, false, false, false, false] rfl rfl (one_of HT_.out (by kernel_rfl)) (by decide) (fun K hK => ?_)
             refine goes_ Tryz.func10 (by kernel_rfl) rfl #[.agg #[.int .i64 a1_0, .string a1_1], .agg #[.int .i64 a0_0, .string a0_1]] (by rfl) rfl rfl (by (try simp only [List.map_toArray, List.map_cons, List.map_nil]); first | done | rfl | (simp only [List.length_drop, List.length_take]; rfl)) ?_
             with_reducible refine (tree_Less.calls kj39 a1_0 a1_1 a0_0 a0_1 false _ A70.out).mono ?_
             rintro e w122 ⟨rfl, hb⟩
             refine ⟨_, rfl, ?_⟩
             have n0_ := Aside0.mk (blk_below (bKq_ BK302.out) hb)
             have n1_ := Aside0.mk (blk_below (bKq_ BK303.out) hb)
             have n2_ := Aside0.mk (blk_below (bKq_ BK304.out) hb)
             have n3_ := Aside0.mk (below_step bSt_ hb)
             clear BK302
             clear BK303
             clear BK304
             clear HB
             have BK302 := n0_
             have BK303 := n1_
             have BK304 := n2_
             have HB := n3_
             clear n0_ n1_ n2_ n3_
             (try clear hb)
             (try clear hb2)
             (try clear hk)
             (try clear hi)
             refine hK.out _ _ ⟨(blk_cell BK302.out 0).trans rfl, (blk_cell BK302.out 1).trans rfl, (blk_cell BK303.out 0).trans rfl, (blk_cell BK303.out 1).trans rfl, (blk_cell BK304.out 0).trans rfl, (blk_cell BK304.out 1).trans rfl⟩ (fun hHeld => ?_)
             clear hK K
             refine norm_ (a' := ?_) ?_ ?_
             rotate_left
             ·show Act.put _ (some 55) _ = _
              simp only [Act.put, List.setIfInBounds_toArray, List.set_cons_zero, List.set_cons_succ, i64_w, i32_w]
              rfl
             refine one_ (i := 8) (N := some 58) #[true, true, true, true, true, true, true, true, true, true, true, false, false, false, false, false] rfl rfl (one_of HT_.out (by kernel_rfl)) (by decide) (fun K hK => ?_)
             refine goes_ Tryz.func10 (by kernel_rfl) rfl #[.agg #[.int .i64 a1_0, .string a1_1], .agg #[.int .i64 a2_0, .string a2_1]] (by rfl) rfl rfl (by (try simp only [List.map_toArray, List.map_cons, List.map_nil]); first | done | rfl | (simp only [List.length_drop, List.length_take]; rfl)) ?_
             with_reducible refine (tree_Less.calls kj39 a1_0 a1_1 a2_0 a2_1 false _ A71.out).mono ?_
             rintro e w123 ⟨rfl, hb⟩
             refine ⟨_, rfl, ?_⟩
             have n0_ := Aside0.mk (blk_below (bKq_ BK302.out) hb)
             have n1_ := Aside0.mk (blk_below (bKq_ BK303.out) hb)
             have n2_ := Aside0.mk (blk_below (bKq_ BK304.out) hb)
             have n3_ := Aside0.mk (below_step bSt_ hb)
             clear BK302
             clear BK303
             clear BK304
             clear HB
             have BK302 := n0_
             have BK303 := n1_
             have BK304 := n2_
             have HB := n3_
             clear n0_ n1_ n2_ n3_
             (try clear hb)
             (try clear hb2)
             (try clear hk)
             (try clear hi)
             refine hK.out _ _ ⟨(blk_cell BK302.out 0).trans rfl, (blk_cell BK302.out 1).trans rfl, (blk_cell BK303.out 0).trans rfl, (blk_cell BK303.out 1).trans rfl, (blk_cell BK304.out 0).trans rfl, (blk_cell BK304.out 1).trans rfl⟩ (fun hHeld => ?_)
             clear hK K
             refine norm_ (a' := ?_) ?_ ?_
             rotate_left
             ·show Act.put _ (some 58) _ = _
              simp only [Act.put, List.setIfInBounds_toArray, List.set_cons_zero, List.set_cons_succ, i64_w, i32_w]
              rfl
             refine one_ (i := 11) (N := some 61) #[true, true, true, true, true, true, true, true, true, true, true, true, false, false, false, false] rfl rfl (one_of HT_.out (by kernel_rfl)) (by decide) (fun K hK => ?_)
             refine goes_ Tryz.func10 (by kernel_rfl) rfl #[.agg #[.int .i64 a0_0, .string a0_1], .agg #[.int .i64 a2_0, .string a2_1]] (by rfl) rfl rfl (by (try simp only [List.map_toArray, List.map_cons, List.map_nil]); first | done | rfl | (simp only [List.length_drop, List.length_take]; rfl)) ?_
             with_reducible refine (tree_Less.calls kj39 a0_0 a0_1 a2_0 a2_1 t317 _ A72.out).mono ?_
             rintro e w124 ⟨rfl, hb⟩
             refine ⟨_, rfl, ?_⟩
             have n0_ := Aside0.mk (blk_below (bKq_ BK302.out) hb)
             have n1_ := Aside0.mk (blk_below (bKq_ BK303.out) hb)
             have n2_ := Aside0.mk (blk_below (bKq_ BK304.out) hb)
             have n3_ := Aside0.mk (below_step bSt_ hb)
             clear BK302
             clear BK303
             clear BK304
             clear HB
             have BK302 := n0_
             have BK303 := n1_
             have BK304 := n2_
             have HB := n3_
             clear n0_ n1_ n2_ n3_
             (try clear hb)
             (try clear hb2)
             (try clear hk)
             (try clear hi)
             refine hK.out _ _ ⟨(blk_cell BK302.out 0).trans rfl, (blk_cell BK302.out 1).trans rfl, (blk_cell BK303.out 0).trans rfl, (blk_cell BK303.out 1).trans rfl, (blk_cell BK304.out 0).trans rfl, (blk_cell BK304.out 1).trans rfl⟩ (fun hHeld => ?_)
             clear hK K
             refine norm_ (a' := ?_) ?_ ?_
             rotate_left
             ·show Act.put _ (some 61) _ = _
              simp only [Act.put, List.setIfInBounds_toArray, List.set_cons_zero, List.set_cons_succ, i64_w, i32_w]
              rfl
             refine pure_ (i := 12) (N := some 7) (v := ?_) (a' := ?_) #[true, true, true, true, true, true, true, true, true, true, true, true, true, false, false, false] rfl rfl (any_of HT_.out (by kernel_rfl)) (fun _ _ _ h => h) (Or.inl ⟨by rfl, ?_⟩) ?_ ?_
             rotate_left
             ·intro w'
              go_simp
              with_reducible rfl
             rotate_left
             ·simp only [Act.put, List.setIfInBounds_toArray, List.set_cons_zero, List.set_cons_succ, i64_w, i32_w]
              rfl
             refine pure_ (i := 13) (N := some 8) (v := ?_) (a' := ?_) #[true, true, true, true, true, true, true, true, true, true, true, true, true, true, false, false] rfl rfl (any_of HT_.out (by kernel_rfl)) (fun _ _ _ h => h) (Or.inl ⟨by rfl, ?_⟩) ?_ ?_
             rotate_left
             ·intro w'
              go_simp
              with_reducible rfl
             rotate_left
             ·simp only [Act.put, List.setIfInBounds_toArray, List.set_cons_zero, List.set_cons_succ, i64_w, i32_w]
              rfl
             refine pure_ (i := 14) (N := some 9) (v := ?_) (a' := ?_) #[true, true, true, true, true, true, true, true, true, true, true, true, true, true, true, false] rfl rfl (any_of HT_.out (by kernel_rfl)) (fun _ _ _ h => h) (Or.inl ⟨by rfl, ?_⟩) ?_ ?_
             rotate_left
             ·intro w'
              go_simp
              with_reducible rfl
             rotate_left
             ·simp only [Act.put, List.setIfInBounds_toArray, List.set_cons_zero, List.set_cons_succ, i64_w, i32_w]
              rfl
             refine pure_ (i := 15) (N := some 10) (v := ?_) (a' := ?_) #[true, true, true, true, true, true, true, true, true, true, true, true, true, true, true, true] rfl rfl (any_of HT_.out (by kernel_rfl)) (fun _ _ _ h => h) (Or.inl ⟨by rfl, ?_⟩) ?_ ?_
             rotate_left
             ·intro w'
              go_simp
              with_reducible rfl
             rotate_left
             ·simp only [Act.put, List.setIfInBounds_toArray, List.set_cons_zero, List.set_cons_succ, i64_w, i32_w]
              rfl
             refine done_ (done_of HT_.out (by kernel_rfl)) ?_
             have hnb125 := NB302_303.out
             have hnc125 := NB303_302.out
             have hnb126 := NB302_304.out
             have hnc126 := NB304_302.out
             have hcz127_0 : w124.cell? ⟨gb302, 0, none⟩ = some (.int .i64 a0_0) := (blk_cell BK302.out 0).trans rfl
             have hcz127_1 : w124.cell? ⟨gb302, 1, none⟩ = some (.string a0_1) := (blk_cell BK302.out 1).trans rfl
             have hfz127_0 := blk_frozen BK302.out 0
             have hfz127_1 := blk_frozen BK302.out 1
             have hnb128 := NB303_304.out
             have hnc128 := NB304_303.out
             have hcz129_0 : w124.cell? ⟨gb303, 0, none⟩ = some (.int .i64 a1_0) := (blk_cell BK303.out 0).trans rfl
             have hcz129_1 : w124.cell? ⟨gb303, 1, none⟩ = some (.string a1_1) := (blk_cell BK303.out 1).trans rfl
             have hfz129_0 := blk_frozen BK303.out 0
             have hfz129_1 := blk_frozen BK303.out 1
             try go_wp2_with (first | ((with_reducible refine gate_callee (f := 11) rfl ?_); refine goesL_ (some 65) rfl rfl Tryz.func11 (by kernel_rfl) rfl #[.agg #[.int .i64 a0_0, .string a0_1], .agg #[.int .i64 a1_0, .string a1_1]] rfl (by (try simp only [List.map_toArray, List.map_cons, List.map_nil]); first | done | rfl | (simp only [List.length_drop, List.length_take]; rfl)) ?_; (with_reducible refine (manystrandref02_Less.calls kj39 a0_0 a0_1 a1_0 a1_1 t318 _ A73.out).mono ?_); rintro e w130 ⟨rfl, hb⟩; refine ⟨_, rfl, ?_⟩; have n0_ := Aside0.mk (blk_below (bKq_ BK302.out) hb); have n1_ := Aside0.mk (blk_below (bKq_ BK303.out) hb); have n2_ := Aside0.mk (blk_below (bKq_ BK304.out) hb); have n3_ := Aside0.mk (below_step bSt_ hb); clear BK302; clear BK303; clear BK304; clear HB; have BK302 := n0_; have BK303 := n1_; have BK304 := n2_; have HB := n3_; clear n0_ n1_ n2_ n3_; (try clear hb); (try clear hb2); (try clear hk); (try clear hi); have hcz131_0 : w130.cell? ⟨gb302, 0, none⟩ = some (.int .i64 a0_0) := (blk_cell BK302.out 0).trans rfl; have hcz131_1 : w130.cell? ⟨gb302, 1, none⟩ = some (.string a0_1) := (blk_cell BK302.out 1).trans rfl; have hfz131_0 := blk_frozen BK302.out 0; have hfz131_1 := blk_frozen BK302.out 1; have hcz132_0 : w130.cell? ⟨gb303, 0, none⟩ = some (.int .i64 a1_0) := (blk_cell BK303.out 0).trans rfl; have hcz132_1 : w130.cell? ⟨gb303, 1, none⟩ = some (.string a1_1) := (blk_cell BK303.out 1).trans rfl; have hfz132_0 := blk_frozen BK303.out 0; have hfz132_1 := blk_frozen BK303.out 1) | (go_at_call 7; (with_reducible refine (manystrandlaw02_awake.calls  t320 _ A119.out).mono ?_); rintro e w133 ⟨rfl, hb⟩; have n0_ := Aside0.mk (blk_below (bKq_ BK302.out) hb); have n1_ := Aside0.mk (blk_below (bKq_ BK303.out) hb); have n2_ := Aside0.mk (blk_below (bKq_ BK304.out) hb); have n3_ := Aside0.mk (below_step bSt_ hb); clear BK302; clear BK303; clear BK304; clear HB; have BK302 := n0_; have BK303 := n1_; have BK304 := n2_; have HB := n3_; clear n0_ n1_ n2_ n3_; (try clear hb); (try clear hb2); (try clear hk); (try clear hi)))
             go_ret
             exact ⟨by first | rfl | (simp [errW_none, errW_some] <;> rfl) | (simp [*, errW_none, errW_some] <;> rfl) | (simp [errW_none, errW_some]; exact Go.Proofs.YtlabfjaddgakkaaGreatW.OwnWords.isEmpty_bne _), bSt_⟩
           ·rw [if_neg c88] at H
            have c88b0 : (true == (!(a0_0 == a1_0) || (!(a0_1.toList == a1_1.toList)))) = false := by simpa using c88
            (try (have c88b1 : decide (true = (!(a0_0 == a1_0) || (!(a0_1.toList == a1_1.toList)))) = false := by simpa using c88))
            (try (have c88b2 : (true == (!(a0_0 == a1_0) || (!(a0_1.toList == a1_1.toList)))) = false := by simpa using c88))
            (try (have c88b3 : ¬ (true = (!(a0_0 == a1_0) || (!(a0_1.toList == a1_1.toList)))) := by simpa using c88))
            clear c88
            obtain rfl := Option.some.inj H
            try go_wp2
            have n0_ := Aside0.mk (blk_drew BK302.out)
            have n1_ := Aside0.mk (blk_drew BK303.out)
            have n2_ := Aside0.mk (blk_drew BK304.out)
            have n3_ := Aside0.mk (below_drew1 HB.out)
            clear BK302
            clear BK303
            clear BK304
            clear HB
            have BK302 := n0_
            have BK303 := n1_
            have BK304 := n2_
            have HB := n3_
            clear n0_ n1_ n2_ n3_
            refine start_ (n := 16) (S := fun w' => w'.cell? ⟨gb302, 0, none⟩ = some (.int .i64 a0_0) ∧ w'.cell? ⟨gb302, 1, none⟩ = some (.string a0_1) ∧ w'.cell? ⟨gb303, 0, none⟩ = some (.int .i64 a1_0) ∧ w'.cell? ⟨gb303, 1, none⟩ = some (.string a1_1) ∧ w'.cell? ⟨gb304, 0, none⟩ = some (.int .i64 a2_0) ∧ w'.cell? ⟨gb304, 1, none⟩ = some (.string a2_1)) (ds := []) #[false, false, false, false, false, false, false, false, false, false, false, false, false, false, false, false] (by kernel_rfl) rfl rfl ⟨(blk_cell BK302.out 0).trans rfl, (blk_cell BK302.out 1).trans rfl, (blk_cell BK303.out 0).trans rfl, (blk_cell BK303.out 1).trans rfl, (blk_cell BK304.out 0).trans rfl, (blk_cell BK304.out 1).trans rfl⟩ (fun hHeld => ?_); refine with_tabW manystrandlaw02_TreeFeats.tab7 manystrandlaw02_TreeFeats.bits7 (fun HT_ HW_ => ?_)
            generalize wc.drew = w134 at BK302 BK303 BK304 HB hHeld ⊢
            refine take_ (i := 0) (N := some 50) (v := ?_) (a' := ?_) #[true, false, false, false, false, false, false, false, false, false, false, false, false, false, false, false] rfl rfl (take_ofW HT_.out HW_.out (by kernel_rfl)) (fun _ _ _ h => h) (Or.inl ⟨by rfl, ?_⟩) hHeld ?_ ?_
            rotate_left
            ·rintro w' ⟨s0, s1, s2, s3, s4, s5⟩
             go_simp
             with_reducible rfl
            rotate_left
            ·simp only [Act.put, List.setIfInBounds_toArray, List.set_cons_zero, List.set_cons_succ, i64_w, i32_w]
             rfl
            refine take_ (i := 1) (N := some 51) (v := ?_) (a' := ?_) #[true, true, false, false, false, false, false, false, false, false, false, false, false, false, false, false] rfl rfl (take_ofW HT_.out HW_.out (by kernel_rfl)) (fun _ _ _ h => h) (Or.inl ⟨by rfl, ?_⟩) hHeld ?_ ?_
            rotate_left
            ·rintro w' ⟨s0, s1, s2, s3, s4, s5⟩
             go_simp
             with_reducible rfl
            rotate_left
            ·simp only [Act.put, List.setIfInBounds_toArray, List.set_cons_zero, List.set_cons_succ, i64_w, i32_w]
             rfl
            refine take_ (i := 3) (N := some 53) (v := ?_) (a' := ?_) #[true, true, false, true, false, false, false, false, false, false, false, false, false, false, false, false] rfl rfl (take_ofW HT_.out HW_.out (by kernel_rfl)) (fun _ _ _ h => h) (Or.inl ⟨by rfl, ?_⟩) hHeld ?_ ?_
            rotate_left
            ·rintro w' ⟨s0, s1, s2, s3, s4, s5⟩
             go_simp
             with_reducible rfl
            rotate_left
            ·simp only [Act.put, List.setIfInBounds_toArray, List.set_cons_zero, List.set_cons_succ, i64_w, i32_w]
             rfl
            refine take_ (i := 4) (N := some 54) (v := ?_) (a' := ?_) #[true, true, false, true, true, false, false, false, false, false, false, false, false, false, false, false] rfl rfl (take_ofW HT_.out HW_.out (by kernel_rfl)) (fun _ _ _ h => h) (Or.inl ⟨by rfl, ?_⟩) hHeld ?_ ?_
            rotate_left
            ·rintro w' ⟨s0, s1, s2, s3, s4, s5⟩
             go_simp
             with_reducible rfl
            rotate_left
            ·simp only [Act.put, List.setIfInBounds_toArray, List.set_cons_zero, List.set_cons_succ, i64_w, i32_w]
             rfl
            refine take_ (i := 6) (N := some 56) (v := ?_) (a' := ?_) #[true, true, false, true, true, false, true, false, false, false, false, false, false, false, false, false] rfl rfl (take_ofW HT_.out HW_.out (by kernel_rfl)) (fun _ _ _ h => h) (Or.inl ⟨by rfl, ?_⟩) hHeld ?_ ?_
            rotate_left
            ·rintro w' ⟨s0, s1, s2, s3, s4, s5⟩
             go_simp
             with_reducible rfl
            rotate_left
            ·simp only [Act.put, List.setIfInBounds_toArray, List.set_cons_zero, List.set_cons_succ, i64_w, i32_w]
             rfl
            refine take_ (i := 7) (N := some 57) (v := ?_) (a' := ?_) #[true, true, false, true, true, false, true, true, false, false, false, false, false, false, false, false] rfl rfl (take_ofW HT_.out HW_.out (by kernel_rfl)) (fun _ _ _ h => h) (Or.inl ⟨by rfl, ?_⟩) hHeld ?_ ?_
            rotate_left
            ·rintro w' ⟨s0, s1, s2, s3, s4, s5⟩
             go_simp
             with_reducible rfl
            rotate_left
            ·simp only [Act.put, List.setIfInBounds_toArray, List.set_cons_zero, List.set_cons_succ, i64_w, i32_w]
             rfl
            refine take_ (i := 9) (N := some 59) (v := ?_) (a' := ?_) #[true, true, false, true, true, false, true, true, false, true, false, false, false, false, false, false] rfl rfl (take_ofW HT_.out HW_.out (by kernel_rfl)) (fun _ _ _ h => h) (Or.inl ⟨by rfl, ?_⟩) hHeld ?_ ?_
            rotate_left
            ·rintro w' ⟨s0, s1, s2, s3, s4, s5⟩
             go_simp
             with_reducible rfl
            rotate_left
            ·simp only [Act.put, List.setIfInBounds_toArray, List.set_cons_zero, List.set_cons_succ, i64_w, i32_w]
             rfl
            refine take_ (i := 10) (N := some 60) (v := ?_) (a' := ?_) #[true, true, false, true, true, false, true, true, false, true, true, false, false, false, false, false] rfl rfl (take_ofW HT_.out HW_.out (by kernel_rfl)) (fun _ _ _ h => h) (Or.inl ⟨by rfl, ?_⟩) hHeld ?_ ?_
            rotate_left
            ·rintro w' ⟨s0, s1, s2, s3, s4, s5⟩
             go_simp
             with_reducible rfl
            rotate_left
            ·simp only [Act.put, List.setIfInBounds_toArray, List.set_cons_zero, List.set_cons_succ, i64_w, i32_w]
             rfl
            refine one_ (i := 2) (N := some 52) #[true, true, true, true, true, false, true, true, false, true, true, false, false, false, false, false] rfl rfl (one_of HT_.out (by kernel_rfl)) (by decide) (fun K hK => ?_)
            refine goes_ Tryz.func10 (by kernel_rfl) rfl #[.agg #[.int .i64 a0_0, .string a0_1], .agg #[.int .i64 a1_0, .string a1_1]] (by rfl) rfl rfl (by (try simp only [List.map_toArray, List.map_cons, List.map_nil]); first | done | rfl | (simp only [List.length_drop, List.length_take]; rfl)) ?_
            with_reducible refine (tree_Less.calls kj39 a0_0 a0_1 a1_0 a1_1 true _ A69.out).mono ?_
            rintro e w135 ⟨rfl, hb⟩
            refine ⟨_, rfl, ?_⟩
            have n0_ := Aside0.mk (blk_below (bKq_ BK302.out) hb)
            have n1_ := Aside0.mk (blk_below (bKq_ BK303.out) hb)
            have n2_ := Aside0.mk (blk_below (bKq_ BK304.out) hb)
            have n3_ := Aside0.mk (below_step bSt_ hb)
            clear BK302
            clear BK303
            clear BK304
            clear HB
            have BK302 := n0_
            have BK303 := n1_
            have BK304 := n2_
            have HB := n3_
            clear n0_ n1_ n2_ n3_
            (try clear hb)
            (try clear hb2)
            (try clear hk)
            (try clear hi)
            refine hK.out _ _ ⟨(blk_cell BK302.out 0).trans rfl, (blk_cell BK302.out 1).trans rfl, (blk_cell BK303.out 0).trans rfl, (blk_cell BK303.out 1).trans rfl, (blk_cell BK304.out 0).trans rfl, (blk_cell BK304.out 1).trans rfl⟩ (fun hHeld => ?_)
            clear hK K
            refine norm_ (a' := ?_) ?_ ?_
            rotate_left
            ·show Act.put _ (some 52) _ = _
             simp only [Act.put, List.setIfInBounds_toArray, List.set_cons_zero, List.set_cons_succ, i64_w, i32_w]
             rfl
            refine one_ (i := 5) (N := some 55) #[true, true, true, true, true, true, true, true, false, true, true, false, false, false, false, false] rfl rfl (one_of HT_.out (by kernel_rfl)) (by decide) (fun K hK => ?_)
            refine goes_ Tryz.func10 (by kernel_rfl) rfl #[.agg #[.int .i64 a1_0, .string a1_1], .agg #[.int .i64 a0_0, .string a0_1]] (by rfl) rfl rfl (by (try simp only [List.map_toArray, List.map_cons, List.map_nil]); first | done | rfl | (simp only [List.length_drop, List.length_take]; rfl)) ?_
            with_reducible refine (tree_Less.calls kj39 a1_0 a1_1 a0_0 a0_1 false _ A70.out).mono ?_
            rintro e w136 ⟨rfl, hb⟩
            refine ⟨_, rfl, ?_⟩
            have n0_ := Aside0.mk (blk_below (bKq_ BK302.out) hb)
            have n1_ := Aside0.mk (blk_below (bKq_ BK303.out) hb)
            have n2_ := Aside0.mk (blk_below (bKq_ BK304.out) hb)
            have n3_ := Aside0.mk (below_step bSt_ hb)
            clear BK302
            clear BK303
            clear BK304
            clear HB
            have BK302 := n0_
            have BK303 := n1_
            have BK304 := n2_
            have HB := n3_
            clear n0_ n1_ n2_ n3_
            (try clear hb)
            (try clear hb2)
            (try clear hk)
            (try clear hi)
            refine hK.out _ _ ⟨(blk_cell BK302.out 0).trans rfl, (blk_cell BK302.out 1).trans rfl, (blk_cell BK303.out 0).trans rfl, (blk_cell BK303.out 1).trans rfl, (blk_cell BK304.out 0).trans rfl, (blk_cell BK304.out 1).trans rfl⟩ (fun hHeld => ?_)
            clear hK K
            refine norm_ (a' := ?_) ?_ ?_
            rotate_left
            ·show Act.put _ (some 55) _ = _
             simp only [Act.put, List.setIfInBounds_toArray, List.set_cons_zero, List.set_cons_succ, i64_w, i32_w]
             rfl
            refine one_ (i := 8) (N := some 58) #[true, true, true, true, true, true, true, true, true, true, true, false, false, false, false, false] rfl rfl (one_of HT_.out (by kernel_rfl)) (by decide) (fun K hK => ?_)
            refine goes_ Tryz.func10 (by kernel_rfl) rfl #[.agg #[.int .i64 a1_0, .string a1_1], .agg #[.int .i64 a2_0, .string a2_1]] (by rfl) rfl rfl (by (try simp only [List.map_toArray, List.map_cons, List.map_nil]); first | done | rfl | (simp only [List.length_drop, List.length_take]; rfl)) ?_
            with_reducible refine (tree_Less.calls kj39 a1_0 a1_1 a2_0 a2_1 t316 _ A71.out).mono ?_
            rintro e w137 ⟨rfl, hb⟩
            refine ⟨_, rfl, ?_⟩
            have n0_ := Aside0.mk (blk_below (bKq_ BK302.out) hb)
            have n1_ := Aside0.mk (blk_below (bKq_ BK303.out) hb)
            have n2_ := Aside0.mk (blk_below (bKq_ BK304.out) hb)
            have n3_ := Aside0.mk (below_step bSt_ hb)
            clear BK302
            clear BK303
            clear BK304
            clear HB
            have BK302 := n0_
            have BK303 := n1_
            have BK304 := n2_
            have HB := n3_
            clear n0_ n1_ n2_ n3_
            (try clear hb)
            (try clear hb2)
            (try clear hk)
            (try clear hi)
            refine hK.out _ _ ⟨(blk_cell BK302.out 0).trans rfl, (blk_cell BK302.out 1).trans rfl, (blk_cell BK303.out 0).trans rfl, (blk_cell BK303.out 1).trans rfl, (blk_cell BK304.out 0).trans rfl, (blk_cell BK304.out 1).trans rfl⟩ (fun hHeld => ?_)
            clear hK K
            refine norm_ (a' := ?_) ?_ ?_
            rotate_left
            ·show Act.put _ (some 58) _ = _
             simp only [Act.put, List.setIfInBounds_toArray, List.set_cons_zero, List.set_cons_succ, i64_w, i32_w]
             rfl
            refine one_ (i := 11) (N := some 61) #[true, true, true, true, true, true, true, true, true, true, true, true, false, false, false, false] rfl rfl (one_of HT_.out (by kernel_rfl)) (by decide) (fun K hK => ?_)
            refine goes_ Tryz.func10 (by kernel_rfl) rfl #[.agg #[.int .i64 a0_0, .string a0_1], .agg #[.int .i64 a2_0, .string a2_1]] (by rfl) rfl rfl (by (try simp only [List.map_toArray, List.map_cons, List.map_nil]); first | done | rfl | (simp only [List.length_drop, List.length_take]; rfl)) ?_
            with_reducible refine (tree_Less.calls kj39 a0_0 a0_1 a2_0 a2_1 t317 _ A72.out).mono ?_
            rintro e w138 ⟨rfl, hb⟩
            refine ⟨_, rfl, ?_⟩
            have n0_ := Aside0.mk (blk_below (bKq_ BK302.out) hb)
            have n1_ := Aside0.mk (blk_below (bKq_ BK303.out) hb)
            have n2_ := Aside0.mk (blk_below (bKq_ BK304.out) hb)
            have n3_ := Aside0.mk (below_step bSt_ hb)
            clear BK302
            clear BK303
            clear BK304
            clear HB
            have BK302 := n0_
            have BK303 := n1_
            have BK304 := n2_
            have HB := n3_
            clear n0_ n1_ n2_ n3_
            (try clear hb)
            (try clear hb2)
            (try clear hk)
            (try clear hi)
            refine hK.out _ _ ⟨(blk_cell BK302.out 0).trans rfl, (blk_cell BK302.out 1).trans rfl, (blk_cell BK303.out 0).trans rfl, (blk_cell BK303.out 1).trans rfl, (blk_cell BK304.out 0).trans rfl, (blk_cell BK304.out 1).trans rfl⟩ (fun hHeld => ?_)
            clear hK K
            refine norm_ (a' := ?_) ?_ ?_
            rotate_left
            ·show Act.put _ (some 61) _ = _
             simp only [Act.put, List.setIfInBounds_toArray, List.set_cons_zero, List.set_cons_succ, i64_w, i32_w]
             rfl
            refine pure_ (i := 12) (N := some 7) (v := ?_) (a' := ?_) #[true, true, true, true, true, true, true, true, true, true, true, true, true, false, false, false] rfl rfl (any_of HT_.out (by kernel_rfl)) (fun _ _ _ h => h) (Or.inl ⟨by rfl, ?_⟩) ?_ ?_
            rotate_left
            ·intro w'
             go_simp
             with_reducible rfl
            rotate_left
            ·simp only [Act.put, List.setIfInBounds_toArray, List.set_cons_zero, List.set_cons_succ, i64_w, i32_w]
             rfl
            refine pure_ (i := 13) (N := some 8) (v := ?_) (a' := ?_) #[true, true, true, true, true, true, true, true, true, true, true, true, true, true, false, false] rfl rfl (any_of HT_.out (by kernel_rfl)) (fun _ _ _ h => h) (Or.inl ⟨by rfl, ?_⟩) ?_ ?_
            rotate_left
            ·intro w'
             go_simp
             with_reducible rfl
            rotate_left
            ·simp only [Act.put, List.setIfInBounds_toArray, List.set_cons_zero, List.set_cons_succ, i64_w, i32_w]
             rfl
            refine pure_ (i := 14) (N := some 9) (v := ?_) (a' := ?_) #[true, true, true, true, true, true, true, true, true, true, true, true, true, true, true, false] rfl rfl (any_of HT_.out (by kernel_rfl)) (fun _ _ _ h => h) (Or.inl ⟨by rfl, ?_⟩) ?_ ?_
            rotate_left
            ·intro w'
             go_simp
             with_reducible rfl
            rotate_left
            ·simp only [Act.put, List.setIfInBounds_toArray, List.set_cons_zero, List.set_cons_succ, i64_w, i32_w]
             rfl
            refine pure_ (i := 15) (N := some 10) (v := ?_) (a' := ?_) #[true, true, true, true, true, true, true, true, true, true, true, true, true, true, true, true] rfl rfl (any_of HT_.out (by kernel_rfl)) (fun _ _ _ h => h) (Or.inl ⟨by rfl, ?_⟩) ?_ ?_
            rotate_left
            ·intro w'
             go_simp
             with_reducible rfl
            rotate_left
            ·simp only [Act.put, List.setIfInBounds_toArray, List.set_cons_zero, List.set_cons_succ, i64_w, i32_w]
             rfl
            refine done_ (done_of HT_.out (by kernel_rfl)) ?_
            have hnb139 := NB302_303.out
            have hnc139 := NB303_302.out
            have hnb140 := NB302_304.out
            have hnc140 := NB304_302.out
            have hcz141_0 : w138.cell? ⟨gb302, 0, none⟩ = some (.int .i64 a0_0) := (blk_cell BK302.out 0).trans rfl
            have hcz141_1 : w138.cell? ⟨gb302, 1, none⟩ = some (.string a0_1) := (blk_cell BK302.out 1).trans rfl
            have hfz141_0 := blk_frozen BK302.out 0
            have hfz141_1 := blk_frozen BK302.out 1
            have hnb142 := NB303_304.out
            have hnc142 := NB304_303.out
            have hcz143_0 : w138.cell? ⟨gb303, 0, none⟩ = some (.int .i64 a1_0) := (blk_cell BK303.out 0).trans rfl
            have hcz143_1 : w138.cell? ⟨gb303, 1, none⟩ = some (.string a1_1) := (blk_cell BK303.out 1).trans rfl
            have hfz143_0 := blk_frozen BK303.out 0
            have hfz143_1 := blk_frozen BK303.out 1
            try go_wp2_with (first | ((with_reducible refine gate_callee (f := 11) rfl ?_); refine goesL_ (some 65) rfl rfl Tryz.func11 (by kernel_rfl) rfl #[.agg #[.int .i64 a0_0, .string a0_1], .agg #[.int .i64 a1_0, .string a1_1]] rfl (by (try simp only [List.map_toArray, List.map_cons, List.map_nil]); first | done | rfl | (simp only [List.length_drop, List.length_take]; rfl)) ?_; (with_reducible refine (manystrandref02_Less.calls kj39 a0_0 a0_1 a1_0 a1_1 t318 _ A73.out).mono ?_); rintro e w144 ⟨rfl, hb⟩; refine ⟨_, rfl, ?_⟩; have n0_ := Aside0.mk (blk_below (bKq_ BK302.out) hb); have n1_ := Aside0.mk (blk_below (bKq_ BK303.out) hb); have n2_ := Aside0.mk (blk_below (bKq_ BK304.out) hb); have n3_ := Aside0.mk (below_step bSt_ hb); clear BK302; clear BK303; clear BK304; clear HB; have BK302 := n0_; have BK303 := n1_; have BK304 := n2_; have HB := n3_; clear n0_ n1_ n2_ n3_; (try clear hb); (try clear hb2); (try clear hk); (try clear hi); have hcz145_0 : w144.cell? ⟨gb302, 0, none⟩ = some (.int .i64 a0_0) := (blk_cell BK302.out 0).trans rfl; have hcz145_1 : w144.cell? ⟨gb302, 1, none⟩ = some (.string a0_1) := (blk_cell BK302.out 1).trans rfl; have hfz145_0 := blk_frozen BK302.out 0; have hfz145_1 := blk_frozen BK302.out 1; have hcz146_0 : w144.cell? ⟨gb303, 0, none⟩ = some (.int .i64 a1_0) := (blk_cell BK303.out 0).trans rfl; have hcz146_1 : w144.cell? ⟨gb303, 1, none⟩ = some (.string a1_1) := (blk_cell BK303.out 1).trans rfl; have hfz146_0 := blk_frozen BK303.out 0; have hfz146_1 := blk_frozen BK303.out 1))
            go_ret
            exact ⟨by first | rfl | (simp [errW_none, errW_some] <;> rfl) | (simp [*, errW_none, errW_some] <;> rfl) | (simp [errW_none, errW_some]; exact Go.Proofs.YtlabfjaddgakkaaGreatW.OwnWords.isEmpty_bne _), bSt_⟩
         ·replace c75 := Bool.eq_false_iff.mpr c75
          subst c75
          have H1 : (if (t315 == (!(a0_0 == a1_0) || (!(a0_1.toList == a1_1.toList)))) = true then ((manystrandlaw02_awake.f).bind fun t321 => (some t321)) else (some false)) = some r := by rw [if_neg (show ¬ (false = true) by decide)] at H; exact H
          clear H
          have H := H1
          clear H1
          by_cases c147 : (t315 == (!(a0_0 == a1_0) || (!(a0_1.toList == a1_1.toList)))) = true
          ·rw [if_pos c147] at H
           have c147b0 : (t315 == (!(a0_0 == a1_0) || (!(a0_1.toList == a1_1.toList)))) = true := c147
           (try (have c147b1 : decide (t315 = (!(a0_0 == a1_0) || (!(a0_1.toList == a1_1.toList)))) = true := by simpa using c147))
           (try (have c147b2 : (t315 == (!(a0_0 == a1_0) || (!(a0_1.toList == a1_1.toList)))) = true := by simpa using c147))
           clear c147
           replace H := Option.bind_eq_some_iff.mp H
           obtain ⟨t321, A1480, H⟩ := H
           replace H : (some t321) = some r := H
           have A148 := Aside0.mk A1480
           clear A1480
           obtain rfl := Option.some.inj H
           try go_wp2
           have n0_ := Aside0.mk (blk_drew BK302.out)
           have n1_ := Aside0.mk (blk_drew BK303.out)
           have n2_ := Aside0.mk (blk_drew BK304.out)
           have n3_ := Aside0.mk (below_drew1 HB.out)
           clear BK302
           clear BK303
           clear BK304
           clear HB
           have BK302 := n0_
           have BK303 := n1_
           have BK304 := n2_
           have HB := n3_
           clear n0_ n1_ n2_ n3_
           refine start_ (n := 16) (S := fun w' => w'.cell? ⟨gb302, 0, none⟩ = some (.int .i64 a0_0) ∧ w'.cell? ⟨gb302, 1, none⟩ = some (.string a0_1) ∧ w'.cell? ⟨gb303, 0, none⟩ = some (.int .i64 a1_0) ∧ w'.cell? ⟨gb303, 1, none⟩ = some (.string a1_1) ∧ w'.cell? ⟨gb304, 0, none⟩ = some (.int .i64 a2_0) ∧ w'.cell? ⟨gb304, 1, none⟩ = some (.string a2_1)) (ds := []) #[false, false, false, false, false, false, false, false, false, false, false, false, false, false, false, false] (by kernel_rfl) rfl rfl ⟨(blk_cell BK302.out 0).trans rfl, (blk_cell BK302.out 1).trans rfl, (blk_cell BK303.out 0).trans rfl, (blk_cell BK303.out 1).trans rfl, (blk_cell BK304.out 0).trans rfl, (blk_cell BK304.out 1).trans rfl⟩ (fun hHeld => ?_); refine with_tabW manystrandlaw02_TreeFeats.tab7 manystrandlaw02_TreeFeats.bits7 (fun HT_ HW_ => ?_)
           generalize wc.drew = w149 at BK302 BK303 BK304 HB hHeld ⊢
           refine take_ (i := 0) (N := some 50) (v := ?_) (a' := ?_) #[true, false, false, false, false, false, false, false, false, false, false, false, false, false, false, false] rfl rfl (take_ofW HT_.out HW_.out (by kernel_rfl)) (fun _ _ _ h => h) (Or.inl ⟨by rfl, ?_⟩) hHeld ?_ ?_
           rotate_left
           ·rintro w' ⟨s0, s1, s2, s3, s4, s5⟩
            go_simp
            with_reducible rfl
           rotate_left
           ·simp only [Act.put, List.setIfInBounds_toArray, List.set_cons_zero, List.set_cons_succ, i64_w, i32_w]
            rfl
           refine take_ (i := 1) (N := some 51) (v := ?_) (a' := ?_) #[true, true, false, false, false, false, false, false, false, false, false, false, false, false, false, false] rfl rfl (take_ofW HT_.out HW_.out (by kernel_rfl)) (fun _ _ _ h => h) (Or.inl ⟨by rfl, ?_⟩) hHeld ?_ ?_
           rotate_left
           ·rintro w' ⟨s0, s1, s2, s3, s4, s5⟩
            go_simp
            with_reducible rfl
           rotate_left
           ·simp only [Act.put, List.setIfInBounds_toArray, List.set_cons_zero, List.set_cons_succ, i64_w, i32_w]
            rfl
           refine take_ (i := 3) (N := some 53) (v := ?_) (a' := ?_) #[true, true, false, true, false, false, false, false, false, false, false, false, false, false, false, false] rfl rfl (take_ofW HT_.out HW_.out (by kernel_rfl)) (fun _ _ _ h => h) (Or.inl ⟨by rfl, ?_⟩) hHeld ?_ ?_
           rotate_left
           ·rintro w' ⟨s0, s1, s2, s3, s4, s5⟩
            go_simp
            with_reducible rfl
           rotate_left
           ·simp only [Act.put, List.setIfInBounds_toArray, List.set_cons_zero, List.set_cons_succ, i64_w, i32_w]
            rfl
           refine take_ (i := 4) (N := some 54) (v := ?_) (a' := ?_) #[true, true, false, true, true, false, false, false, false, false, false, false, false, false, false, false] rfl rfl (take_ofW HT_.out HW_.out (by kernel_rfl)) (fun _ _ _ h => h) (Or.inl ⟨by rfl, ?_⟩) hHeld ?_ ?_
           rotate_left
           ·rintro w' ⟨s0, s1, s2, s3, s4, s5⟩
            go_simp
            with_reducible rfl
           rotate_left
           ·simp only [Act.put, List.setIfInBounds_toArray, List.set_cons_zero, List.set_cons_succ, i64_w, i32_w]
            rfl
           refine take_ (i := 6) (N := some 56) (v := ?_) (a' := ?_) #[true, true, false, true, true, false, true, false, false, false, false, false, false, false, false, false] rfl rfl (take_ofW HT_.out HW_.out (by kernel_rfl)) (fun _ _ _ h => h) (Or.inl ⟨by rfl, ?_⟩) hHeld ?_ ?_
           rotate_left
           ·rintro w' ⟨s0, s1, s2, s3, s4, s5⟩
            go_simp
            with_reducible rfl
           rotate_left
           ·simp only [Act.put, List.setIfInBounds_toArray, List.set_cons_zero, List.set_cons_succ, i64_w, i32_w]
            rfl
           refine take_ (i := 7) (N := some 57) (v := ?_) (a' := ?_) #[true, true, false, true, true, false, true, true, false, false, false, false, false, false, false, false] rfl rfl (take_ofW HT_.out HW_.out (by kernel_rfl)) (fun _ _ _ h => h) (Or.inl ⟨by rfl, ?_⟩) hHeld ?_ ?_
           rotate_left
           ·rintro w' ⟨s0, s1, s2, s3, s4, s5⟩
            go_simp
            with_reducible rfl
           rotate_left
           ·simp only [Act.put, List.setIfInBounds_toArray, List.set_cons_zero, List.set_cons_succ, i64_w, i32_w]
            rfl
           refine take_ (i := 9) (N := some 59) (v := ?_) (a' := ?_) #[true, true, false, true, true, false, true, true, false, true, false, false, false, false, false, false] rfl rfl (take_ofW HT_.out HW_.out (by kernel_rfl)) (fun _ _ _ h => h) (Or.inl ⟨by rfl, ?_⟩) hHeld ?_ ?_
           rotate_left
           ·rintro w' ⟨s0, s1, s2, s3, s4, s5⟩
            go_simp
            with_reducible rfl
           rotate_left
           ·simp only [Act.put, List.setIfInBounds_toArray, List.set_cons_zero, List.set_cons_succ, i64_w, i32_w]
            rfl
           refine take_ (i := 10) (N := some 60) (v := ?_) (a' := ?_) #[true, true, false, true, true, false, true, true, false, true, true, false, false, false, false, false] rfl rfl (take_ofW HT_.out HW_.out (by kernel_rfl)) (fun _ _ _ h => h) (Or.inl ⟨by rfl, ?_⟩) hHeld ?_ ?_
           rotate_left
           ·rintro w' ⟨s0, s1, s2, s3, s4, s5⟩
            go_simp
            with_reducible rfl
           rotate_left
           ·simp only [Act.put, List.setIfInBounds_toArray, List.set_cons_zero, List.set_cons_succ, i64_w, i32_w]
            rfl
           refine one_ (i := 2) (N := some 52) #[true, true, true, true, true, false, true, true, false, true, true, false, false, false, false, false] rfl rfl (one_of HT_.out (by kernel_rfl)) (by decide) (fun K hK => ?_)
           refine goes_ Tryz.func10 (by kernel_rfl) rfl #[.agg #[.int .i64 a0_0, .string a0_1], .agg #[.int .i64 a1_0, .string a1_1]] (by rfl) rfl rfl (by (try simp only [List.map_toArray, List.map_cons, List.map_nil]); first | done | rfl | (simp only [List.length_drop, List.length_take]; rfl)) ?_
           with_reducible refine (tree_Less.calls kj39 a0_0 a0_1 a1_0 a1_1 false _ A69.out).mono ?_
           rintro e w150 ⟨rfl, hb⟩
           refine ⟨_, rfl, ?_⟩
           have n0_ := Aside0.mk (blk_below (bKq_ BK302.out) hb)
           have n1_ := Aside0.mk (blk_below (bKq_ BK303.out) hb)
           have n2_ := Aside0.mk (blk_below (bKq_ BK304.out) hb)
           have n3_ := Aside0.mk (below_step bSt_ hb)
           clear BK302
           clear BK303
           clear BK304
           clear HB
           have BK302 := n0_
           have BK303 := n1_
           have BK304 := n2_
           have HB := n3_
           clear n0_ n1_ n2_ n3_
           (try clear hb)
           (try clear hb2)
           (try clear hk)
           (try clear hi)
           refine hK.out _ _ ⟨(blk_cell BK302.out 0).trans rfl, (blk_cell BK302.out 1).trans rfl, (blk_cell BK303.out 0).trans rfl, (blk_cell BK303.out 1).trans rfl, (blk_cell BK304.out 0).trans rfl, (blk_cell BK304.out 1).trans rfl⟩ (fun hHeld => ?_)
           clear hK K
           refine norm_ (a' := ?_) ?_ ?_
           rotate_left
           ·show Act.put _ (some 52) _ = _
            simp only [Act.put, List.setIfInBounds_toArray, List.set_cons_zero, List.set_cons_succ, i64_w, i32_w]
            rfl
           refine one_ (i := 5) (N := some 55) #[true, true, true, true, true, true, true, true, false, true, true, false, false, false, false, false] rfl rfl (one_of HT_.out (by kernel_rfl)) (by decide) (fun K hK => ?_)
           refine goes_ Tryz.func10 (by kernel_rfl) rfl #[.agg #[.int .i64 a1_0, .string a1_1], .agg #[.int .i64 a0_0, .string a0_1]] (by rfl) rfl rfl (by (try simp only [List.map_toArray, List.map_cons, List.map_nil]); first | done | rfl | (simp only [List.length_drop, List.length_take]; rfl)) ?_
           with_reducible refine (tree_Less.calls kj39 a1_0 a1_1 a0_0 a0_1 t315 _ A70.out).mono ?_
           rintro e w151 ⟨rfl, hb⟩
           refine ⟨_, rfl, ?_⟩
           have n0_ := Aside0.mk (blk_below (bKq_ BK302.out) hb)
           have n1_ := Aside0.mk (blk_below (bKq_ BK303.out) hb)
           have n2_ := Aside0.mk (blk_below (bKq_ BK304.out) hb)
           have n3_ := Aside0.mk (below_step bSt_ hb)
           clear BK302
           clear BK303
           clear BK304
           clear HB
           have BK302 := n0_
           have BK303 := n1_
           have BK304 := n2_
           have HB := n3_
           clear n0_ n1_ n2_ n3_
           (try clear hb)
           (try clear hb2)
           (try clear hk)
           (try clear hi)
           refine hK.out _ _ ⟨(blk_cell BK302.out 0).trans rfl, (blk_cell BK302.out 1).trans rfl, (blk_cell BK303.out 0).trans rfl, (blk_cell BK303.out 1).trans rfl, (blk_cell BK304.out 0).trans rfl, (blk_cell BK304.out 1).trans rfl⟩ (fun hHeld => ?_)
           clear hK K
           refine norm_ (a' := ?_) ?_ ?_
           rotate_left
           ·show Act.put _ (some 55) _ = _
            simp only [Act.put, List.setIfInBounds_toArray, List.set_cons_zero, List.set_cons_succ, i64_w, i32_w]
            rfl
           refine one_ (i := 8) (N := some 58) #[true, true, true, true, true, true, true, true, true, true, true, false, false, false, false, false] rfl rfl (one_of HT_.out (by kernel_rfl)) (by decide) (fun K hK => ?_)
           refine goes_ Tryz.func10 (by kernel_rfl) rfl #[.agg #[.int .i64 a1_0, .string a1_1], .agg #[.int .i64 a2_0, .string a2_1]] (by rfl) rfl rfl (by (try simp only [List.map_toArray, List.map_cons, List.map_nil]); first | done | rfl | (simp only [List.length_drop, List.length_take]; rfl)) ?_
           with_reducible refine (tree_Less.calls kj39 a1_0 a1_1 a2_0 a2_1 t316 _ A71.out).mono ?_
           rintro e w152 ⟨rfl, hb⟩
           refine ⟨_, rfl, ?_⟩
           have n0_ := Aside0.mk (blk_below (bKq_ BK302.out) hb)
           have n1_ := Aside0.mk (blk_below (bKq_ BK303.out) hb)
           have n2_ := Aside0.mk (blk_below (bKq_ BK304.out) hb)
           have n3_ := Aside0.mk (below_step bSt_ hb)
           clear BK302
           clear BK303
           clear BK304
           clear HB
           have BK302 := n0_
           have BK303 := n1_
           have BK304 := n2_
           have HB := n3_
           clear n0_ n1_ n2_ n3_
           (try clear hb)
           (try clear hb2)
           (try clear hk)
           (try clear hi)
           refine hK.out _ _ ⟨(blk_cell BK302.out 0).trans rfl, (blk_cell BK302.out 1).trans rfl, (blk_cell BK303.out 0).trans rfl, (blk_cell BK303.out 1).trans rfl, (blk_cell BK304.out 0).trans rfl, (blk_cell BK304.out 1).trans rfl⟩ (fun hHeld => ?_)
           clear hK K
           refine norm_ (a' := ?_) ?_ ?_
           rotate_left
           ·show Act.put _ (some 58) _ = _
            simp only [Act.put, List.setIfInBounds_toArray, List.set_cons_zero, List.set_cons_succ, i64_w, i32_w]
            rfl
           refine one_ (i := 11) (N := some 61) #[true, true, true, true, true, true, true, true, true, true, true, true, false, false, false, false] rfl rfl (one_of HT_.out (by kernel_rfl)) (by decide) (fun K hK => ?_)
           refine goes_ Tryz.func10 (by kernel_rfl) rfl #[.agg #[.int .i64 a0_0, .string a0_1], .agg #[.int .i64 a2_0, .string a2_1]] (by rfl) rfl rfl (by (try simp only [List.map_toArray, List.map_cons, List.map_nil]); first | done | rfl | (simp only [List.length_drop, List.length_take]; rfl)) ?_
           with_reducible refine (tree_Less.calls kj39 a0_0 a0_1 a2_0 a2_1 t317 _ A72.out).mono ?_
           rintro e w153 ⟨rfl, hb⟩
           refine ⟨_, rfl, ?_⟩
           have n0_ := Aside0.mk (blk_below (bKq_ BK302.out) hb)
           have n1_ := Aside0.mk (blk_below (bKq_ BK303.out) hb)
           have n2_ := Aside0.mk (blk_below (bKq_ BK304.out) hb)
           have n3_ := Aside0.mk (below_step bSt_ hb)
           clear BK302
           clear BK303
           clear BK304
           clear HB
           have BK302 := n0_
           have BK303 := n1_
           have BK304 := n2_
           have HB := n3_
           clear n0_ n1_ n2_ n3_
           (try clear hb)
           (try clear hb2)
           (try clear hk)
           (try clear hi)
           refine hK.out _ _ ⟨(blk_cell BK302.out 0).trans rfl, (blk_cell BK302.out 1).trans rfl, (blk_cell BK303.out 0).trans rfl, (blk_cell BK303.out 1).trans rfl, (blk_cell BK304.out 0).trans rfl, (blk_cell BK304.out 1).trans rfl⟩ (fun hHeld => ?_)
           clear hK K
           refine norm_ (a' := ?_) ?_ ?_
           rotate_left
           ·show Act.put _ (some 61) _ = _
            simp only [Act.put, List.setIfInBounds_toArray, List.set_cons_zero, List.set_cons_succ, i64_w, i32_w]
            rfl
           refine pure_ (i := 12) (N := some 7) (v := ?_) (a' := ?_) #[true, true, true, true, true, true, true, true, true, true, true, true, true, false, false, false] rfl rfl (any_of HT_.out (by kernel_rfl)) (fun _ _ _ h => h) (Or.inl ⟨by rfl, ?_⟩) ?_ ?_
           rotate_left
           ·intro w'
            go_simp
            with_reducible rfl
           rotate_left
           ·simp only [Act.put, List.setIfInBounds_toArray, List.set_cons_zero, List.set_cons_succ, i64_w, i32_w]
            rfl
           refine pure_ (i := 13) (N := some 8) (v := ?_) (a' := ?_) #[true, true, true, true, true, true, true, true, true, true, true, true, true, true, false, false] rfl rfl (any_of HT_.out (by kernel_rfl)) (fun _ _ _ h => h) (Or.inl ⟨by rfl, ?_⟩) ?_ ?_
           rotate_left
           ·intro w'
            go_simp
            with_reducible rfl
           rotate_left
           ·simp only [Act.put, List.setIfInBounds_toArray, List.set_cons_zero, List.set_cons_succ, i64_w, i32_w]
            rfl
           refine pure_ (i := 14) (N := some 9) (v := ?_) (a' := ?_) #[true, true, true, true, true, true, true, true, true, true, true, true, true, true, true, false] rfl rfl (any_of HT_.out (by kernel_rfl)) (fun _ _ _ h => h) (Or.inl ⟨by rfl, ?_⟩) ?_ ?_
           rotate_left
           ·intro w'
            go_simp
            with_reducible rfl
           rotate_left
           ·simp only [Act.put, List.setIfInBounds_toArray, List.set_cons_zero, List.set_cons_succ, i64_w, i32_w]
            rfl
           refine pure_ (i := 15) (N := some 10) (v := ?_) (a' := ?_) #[true, true, true, true, true, true, true, true, true, true, true, true, true, true, true, true] rfl rfl (any_of HT_.out (by kernel_rfl)) (fun _ _ _ h => h) (Or.inl ⟨by rfl, ?_⟩) ?_ ?_
           rotate_left
           ·intro w'
            go_simp
            with_reducible rfl
           rotate_left
           ·simp only [Act.put, List.setIfInBounds_toArray, List.set_cons_zero, List.set_cons_succ, i64_w, i32_w]
            rfl
           refine done_ (done_of HT_.out (by kernel_rfl)) ?_
           have hnb154 := NB302_303.out
           have hnc154 := NB303_302.out
           have hnb155 := NB302_304.out
           have hnc155 := NB304_302.out
           have hcz156_0 : w153.cell? ⟨gb302, 0, none⟩ = some (.int .i64 a0_0) := (blk_cell BK302.out 0).trans rfl
           have hcz156_1 : w153.cell? ⟨gb302, 1, none⟩ = some (.string a0_1) := (blk_cell BK302.out 1).trans rfl
           have hfz156_0 := blk_frozen BK302.out 0
           have hfz156_1 := blk_frozen BK302.out 1
           have hnb157 := NB303_304.out
           have hnc157 := NB304_303.out
           have hcz158_0 : w153.cell? ⟨gb303, 0, none⟩ = some (.int .i64 a1_0) := (blk_cell BK303.out 0).trans rfl
           have hcz158_1 : w153.cell? ⟨gb303, 1, none⟩ = some (.string a1_1) := (blk_cell BK303.out 1).trans rfl
           have hfz158_0 := blk_frozen BK303.out 0
           have hfz158_1 := blk_frozen BK303.out 1
           try go_wp2_with (first | ((with_reducible refine gate_callee (f := 11) rfl ?_); refine goesL_ (some 65) rfl rfl Tryz.func11 (by kernel_rfl) rfl #[.agg #[.int .i64 a0_0, .string a0_1], .agg #[.int .i64 a1_0, .string a1_1]] rfl (by (try simp only [List.map_toArray, List.map_cons, List.map_nil]); first | done | rfl | (simp only [List.length_drop, List.length_take]; rfl)) ?_; (with_reducible refine (manystrandref02_Less.calls kj39 a0_0 a0_1 a1_0 a1_1 t318 _ A73.out).mono ?_); rintro e w159 ⟨rfl, hb⟩; refine ⟨_, rfl, ?_⟩; have n0_ := Aside0.mk (blk_below (bKq_ BK302.out) hb); have n1_ := Aside0.mk (blk_below (bKq_ BK303.out) hb); have n2_ := Aside0.mk (blk_below (bKq_ BK304.out) hb); have n3_ := Aside0.mk (below_step bSt_ hb); clear BK302; clear BK303; clear BK304; clear HB; have BK302 := n0_; have BK303 := n1_; have BK304 := n2_; have HB := n3_; clear n0_ n1_ n2_ n3_; (try clear hb); (try clear hb2); (try clear hk); (try clear hi); have hcz160_0 : w159.cell? ⟨gb302, 0, none⟩ = some (.int .i64 a0_0) := (blk_cell BK302.out 0).trans rfl; have hcz160_1 : w159.cell? ⟨gb302, 1, none⟩ = some (.string a0_1) := (blk_cell BK302.out 1).trans rfl; have hfz160_0 := blk_frozen BK302.out 0; have hfz160_1 := blk_frozen BK302.out 1; have hcz161_0 : w159.cell? ⟨gb303, 0, none⟩ = some (.int .i64 a1_0) := (blk_cell BK303.out 0).trans rfl; have hcz161_1 : w159.cell? ⟨gb303, 1, none⟩ = some (.string a1_1) := (blk_cell BK303.out 1).trans rfl; have hfz161_0 := blk_frozen BK303.out 0; have hfz161_1 := blk_frozen BK303.out 1) | (go_at_call 7; (with_reducible refine (manystrandlaw02_awake.calls  t321 _ A148.out).mono ?_); rintro e w162 ⟨rfl, hb⟩; have n0_ := Aside0.mk (blk_below (bKq_ BK302.out) hb); have n1_ := Aside0.mk (blk_below (bKq_ BK303.out) hb); have n2_ := Aside0.mk (blk_below (bKq_ BK304.out) hb); have n3_ := Aside0.mk (below_step bSt_ hb); clear BK302; clear BK303; clear BK304; clear HB; have BK302 := n0_; have BK303 := n1_; have BK304 := n2_; have HB := n3_; clear n0_ n1_ n2_ n3_; (try clear hb); (try clear hb2); (try clear hk); (try clear hi)))
           go_ret
           exact ⟨by first | rfl | (simp [errW_none, errW_some] <;> rfl) | (simp [*, errW_none, errW_some] <;> rfl) | (simp [errW_none, errW_some]; exact Go.Proofs.YtlabfjaddgakkaaGreatW.OwnWords.isEmpty_bne _), bSt_⟩
          ·rw [if_neg c147] at H
           have c147b0 : (t315 == (!(a0_0 == a1_0) || (!(a0_1.toList == a1_1.toList)))) = false := by simpa using c147
           (try (have c147b1 : decide (t315 = (!(a0_0 == a1_0) || (!(a0_1.toList == a1_1.toList)))) = false := by simpa using c147))
           (try (have c147b2 : (t315 == (!(a0_0 == a1_0) || (!(a0_1.toList == a1_1.toList)))) = false := by simpa using c147))
           (try (have c147b3 : ¬ (t315 = (!(a0_0 == a1_0) || (!(a0_1.toList == a1_1.toList)))) := by simpa using c147))
           clear c147
           obtain rfl := Option.some.inj H
           try go_wp2
           have n0_ := Aside0.mk (blk_drew BK302.out)
           have n1_ := Aside0.mk (blk_drew BK303.out)
           have n2_ := Aside0.mk (blk_drew BK304.out)
           have n3_ := Aside0.mk (below_drew1 HB.out)
           clear BK302
           clear BK303
           clear BK304
           clear HB
           have BK302 := n0_
           have BK303 := n1_
           have BK304 := n2_
           have HB := n3_
           clear n0_ n1_ n2_ n3_
           refine start_ (n := 16) (S := fun w' => w'.cell? ⟨gb302, 0, none⟩ = some (.int .i64 a0_0) ∧ w'.cell? ⟨gb302, 1, none⟩ = some (.string a0_1) ∧ w'.cell? ⟨gb303, 0, none⟩ = some (.int .i64 a1_0) ∧ w'.cell? ⟨gb303, 1, none⟩ = some (.string a1_1) ∧ w'.cell? ⟨gb304, 0, none⟩ = some (.int .i64 a2_0) ∧ w'.cell? ⟨gb304, 1, none⟩ = some (.string a2_1)) (ds := []) #[false, false, false, false, false, false, false, false, false, false, false, false, false, false, false, false] (by kernel_rfl) rfl rfl ⟨(blk_cell BK302.out 0).trans rfl, (blk_cell BK302.out 1).trans rfl, (blk_cell BK303.out 0).trans rfl, (blk_cell BK303.out 1).trans rfl, (blk_cell BK304.out 0).trans rfl, (blk_cell BK304.out 1).trans rfl⟩ (fun hHeld => ?_); refine with_tabW manystrandlaw02_TreeFeats.tab7 manystrandlaw02_TreeFeats.bits7 (fun HT_ HW_ => ?_)
           generalize wc.drew = w163 at BK302 BK303 BK304 HB hHeld ⊢
           refine take_ (i := 0) (N := some 50) (v := ?_) (a' := ?_) #[true, false, false, false, false, false, false, false, false, false, false, false, false, false, false, false] rfl rfl (take_ofW HT_.out HW_.out (by kernel_rfl)) (fun _ _ _ h => h) (Or.inl ⟨by rfl, ?_⟩) hHeld ?_ ?_
           rotate_left
           ·rintro w' ⟨s0, s1, s2, s3, s4, s5⟩
            go_simp
            with_reducible rfl
           rotate_left
           ·simp only [Act.put, List.setIfInBounds_toArray, List.set_cons_zero, List.set_cons_succ, i64_w, i32_w]
            rfl
           refine take_ (i := 1) (N := some 51) (v := ?_) (a' := ?_) #[true, true, false, false, false, false, false, false, false, false, false, false, false, false, false, false] rfl rfl (take_ofW HT_.out HW_.out (by kernel_rfl)) (fun _ _ _ h => h) (Or.inl ⟨by rfl, ?_⟩) hHeld ?_ ?_
           rotate_left
           ·rintro w' ⟨s0, s1, s2, s3, s4, s5⟩
            go_simp
            with_reducible rfl
           rotate_left
           ·simp only [Act.put, List.setIfInBounds_toArray, List.set_cons_zero, List.set_cons_succ, i64_w, i32_w]
            rfl
           refine take_ (i := 3) (N := some 53) (v := ?_) (a' := ?_) #[true, true, false, true, false, false, false, false, false, false, false, false, false, false, false, false] rfl rfl (take_ofW HT_.out HW_.out (by kernel_rfl)) (fun _ _ _ h => h) (Or.inl ⟨by rfl, ?_⟩) hHeld ?_ ?_
           rotate_left
           ·rintro w' ⟨s0, s1, s2, s3, s4, s5⟩
            go_simp
            with_reducible rfl
           rotate_left
           ·simp only [Act.put, List.setIfInBounds_toArray, List.set_cons_zero, List.set_cons_succ, i64_w, i32_w]
            rfl
           refine take_ (i := 4) (N := some 54) (v := ?_) (a' := ?_) #[true, true, false, true, true, false, false, false, false, false, false, false, false, false, false, false] rfl rfl (take_ofW HT_.out HW_.out (by kernel_rfl)) (fun _ _ _ h => h) (Or.inl ⟨by rfl, ?_⟩) hHeld ?_ ?_
           rotate_left
           ·rintro w' ⟨s0, s1, s2, s3, s4, s5⟩
            go_simp
            with_reducible rfl
           rotate_left
           ·simp only [Act.put, List.setIfInBounds_toArray, List.set_cons_zero, List.set_cons_succ, i64_w, i32_w]
            rfl
           refine take_ (i := 6) (N := some 56) (v := ?_) (a' := ?_) #[true, true, false, true, true, false, true, false, false, false, false, false, false, false, false, false] rfl rfl (take_ofW HT_.out HW_.out (by kernel_rfl)) (fun _ _ _ h => h) (Or.inl ⟨by rfl, ?_⟩) hHeld ?_ ?_
           rotate_left
           ·rintro w' ⟨s0, s1, s2, s3, s4, s5⟩
            go_simp
            with_reducible rfl
           rotate_left
           ·simp only [Act.put, List.setIfInBounds_toArray, List.set_cons_zero, List.set_cons_succ, i64_w, i32_w]
            rfl
           refine take_ (i := 7) (N := some 57) (v := ?_) (a' := ?_) #[true, true, false, true, true, false, true, true, false, false, false, false, false, false, false, false] rfl rfl (take_ofW HT_.out HW_.out (by kernel_rfl)) (fun _ _ _ h => h) (Or.inl ⟨by rfl, ?_⟩) hHeld ?_ ?_
           rotate_left
           ·rintro w' ⟨s0, s1, s2, s3, s4, s5⟩
            go_simp
            with_reducible rfl
           rotate_left
           ·simp only [Act.put, List.setIfInBounds_toArray, List.set_cons_zero, List.set_cons_succ, i64_w, i32_w]
            rfl
           refine take_ (i := 9) (N := some 59) (v := ?_) (a' := ?_) #[true, true, false, true, true, false, true, true, false, true, false, false, false, false, false, false] rfl rfl (take_ofW HT_.out HW_.out (by kernel_rfl)) (fun _ _ _ h => h) (Or.inl ⟨by rfl, ?_⟩) hHeld ?_ ?_
           rotate_left
           ·rintro w' ⟨s0, s1, s2, s3, s4, s5⟩
            go_simp
            with_reducible rfl
           rotate_left
           ·simp only [Act.put, List.setIfInBounds_toArray, List.set_cons_zero, List.set_cons_succ, i64_w, i32_w]
            rfl
           refine take_ (i := 10) (N := some 60) (v := ?_) (a' := ?_) #[true, true, false, true, true, false, true, true, false, true, true, false, false, false, false, false] rfl rfl (take_ofW HT_.out HW_.out (by kernel_rfl)) (fun _ _ _ h => h) (Or.inl ⟨by rfl, ?_⟩) hHeld ?_ ?_
           rotate_left
           ·rintro w' ⟨s0, s1, s2, s3, s4, s5⟩
            go_simp
            with_reducible rfl
           rotate_left
           ·simp only [Act.put, List.setIfInBounds_toArray, List.set_cons_zero, List.set_cons_succ, i64_w, i32_w]
            rfl
           refine one_ (i := 2) (N := some 52) #[true, true, true, true, true, false, true, true, false, true, true, false, false, false, false, false] rfl rfl (one_of HT_.out (by kernel_rfl)) (by decide) (fun K hK => ?_)
           refine goes_ Tryz.func10 (by kernel_rfl) rfl #[.agg #[.int .i64 a0_0, .string a0_1], .agg #[.int .i64 a1_0, .string a1_1]] (by rfl) rfl rfl (by (try simp only [List.map_toArray, List.map_cons, List.map_nil]); first | done | rfl | (simp only [List.length_drop, List.length_take]; rfl)) ?_
           with_reducible refine (tree_Less.calls kj39 a0_0 a0_1 a1_0 a1_1 false _ A69.out).mono ?_
           rintro e w164 ⟨rfl, hb⟩
           refine ⟨_, rfl, ?_⟩
           have n0_ := Aside0.mk (blk_below (bKq_ BK302.out) hb)
           have n1_ := Aside0.mk (blk_below (bKq_ BK303.out) hb)
           have n2_ := Aside0.mk (blk_below (bKq_ BK304.out) hb)
           have n3_ := Aside0.mk (below_step bSt_ hb)
           clear BK302
           clear BK303
           clear BK304
           clear HB
           have BK302 := n0_
           have BK303 := n1_
           have BK304 := n2_
           have HB := n3_
           clear n0_ n1_ n2_ n3_
           (try clear hb)
           (try clear hb2)
           (try clear hk)
           (try clear hi)
           refine hK.out _ _ ⟨(blk_cell BK302.out 0).trans rfl, (blk_cell BK302.out 1).trans rfl, (blk_cell BK303.out 0).trans rfl, (blk_cell BK303.out 1).trans rfl, (blk_cell BK304.out 0).trans rfl, (blk_cell BK304.out 1).trans rfl⟩ (fun hHeld => ?_)
           clear hK K
           refine norm_ (a' := ?_) ?_ ?_
           rotate_left
           ·show Act.put _ (some 52) _ = _
            simp only [Act.put, List.setIfInBounds_toArray, List.set_cons_zero, List.set_cons_succ, i64_w, i32_w]
            rfl
           refine one_ (i := 5) (N := some 55) #[true, true, true, true, true, true, true, true, false, true, true, false, false, false, false, false] rfl rfl (one_of HT_.out (by kernel_rfl)) (by decide) (fun K hK => ?_)
           refine goes_ Tryz.func10 (by kernel_rfl) rfl #[.agg #[.int .i64 a1_0, .string a1_1], .agg #[.int .i64 a0_0, .string a0_1]] (by rfl) rfl rfl (by (try simp only [List.map_toArray, List.map_cons, List.map_nil]); first | done | rfl | (simp only [List.length_drop, List.length_take]; rfl)) ?_
           with_reducible refine (tree_Less.calls kj39 a1_0 a1_1 a0_0 a0_1 t315 _ A70.out).mono ?_
           rintro e w165 ⟨rfl, hb⟩
           refine ⟨_, rfl, ?_⟩
           have n0_ := Aside0.mk (blk_below (bKq_ BK302.out) hb)
           have n1_ := Aside0.mk (blk_below (bKq_ BK303.out) hb)
           have n2_ := Aside0.mk (blk_below (bKq_ BK304.out) hb)
           have n3_ := Aside0.mk (below_step bSt_ hb)
           clear BK302
           clear BK303
           clear BK304
           clear HB
           have BK302 := n0_
           have BK303 := n1_
           have BK304 := n2_
           have HB := n3_
           clear n0_ n1_ n2_ n3_
           (try clear hb)
           (try clear hb2)
           (try clear hk)
           (try clear hi)
           refine hK.out _ _ ⟨(blk_cell BK302.out 0).trans rfl, (blk_cell BK302.out 1).trans rfl, (blk_cell BK303.out 0).trans rfl, (blk_cell BK303.out 1).trans rfl, (blk_cell BK304.out 0).trans rfl, (blk_cell BK304.out 1).trans rfl⟩ (fun hHeld => ?_)
           clear hK K
           refine norm_ (a' := ?_) ?_ ?_
           rotate_left
           ·show Act.put _ (some 55) _ = _
            simp only [Act.put, List.setIfInBounds_toArray, List.set_cons_zero, List.set_cons_succ, i64_w, i32_w]
            rfl
           refine one_ (i := 8) (N := some 58) #[true, true, true, true, true, true, true, true, true, true, true, false, false, false, false, false] rfl rfl (one_of HT_.out (by kernel_rfl)) (by decide) (fun K hK => ?_)
           refine goes_ Tryz.func10 (by kernel_rfl) rfl #[.agg #[.int .i64 a1_0, .string a1_1], .agg #[.int .i64 a2_0, .string a2_1]] (by rfl) rfl rfl (by (try simp only [List.map_toArray, List.map_cons, List.map_nil]); first | done | rfl | (simp only [List.length_drop, List.length_take]; rfl)) ?_
           with_reducible refine (tree_Less.calls kj39 a1_0 a1_1 a2_0 a2_1 t316 _ A71.out).mono ?_
           rintro e w166 ⟨rfl, hb⟩
           refine ⟨_, rfl, ?_⟩
           have n0_ := Aside0.mk (blk_below (bKq_ BK302.out) hb)
           have n1_ := Aside0.mk (blk_below (bKq_ BK303.out) hb)
           have n2_ := Aside0.mk (blk_below (bKq_ BK304.out) hb)
           have n3_ := Aside0.mk (below_step bSt_ hb)
           clear BK302
           clear BK303
           clear BK304
           clear HB
           have BK302 := n0_
           have BK303 := n1_
           have BK304 := n2_
           have HB := n3_
           clear n0_ n1_ n2_ n3_
           (try clear hb)
           (try clear hb2)
           (try clear hk)
           (try clear hi)
           refine hK.out _ _ ⟨(blk_cell BK302.out 0).trans rfl, (blk_cell BK302.out 1).trans rfl, (blk_cell BK303.out 0).trans rfl, (blk_cell BK303.out 1).trans rfl, (blk_cell BK304.out 0).trans rfl, (blk_cell BK304.out 1).trans rfl⟩ (fun hHeld => ?_)
           clear hK K
           refine norm_ (a' := ?_) ?_ ?_
           rotate_left
           ·show Act.put _ (some 58) _ = _
            simp only [Act.put, List.setIfInBounds_toArray, List.set_cons_zero, List.set_cons_succ, i64_w, i32_w]
            rfl
           refine one_ (i := 11) (N := some 61) #[true, true, true, true, true, true, true, true, true, true, true, true, false, false, false, false] rfl rfl (one_of HT_.out (by kernel_rfl)) (by decide) (fun K hK => ?_)
           refine goes_ Tryz.func10 (by kernel_rfl) rfl #[.agg #[.int .i64 a0_0, .string a0_1], .agg #[.int .i64 a2_0, .string a2_1]] (by rfl) rfl rfl (by (try simp only [List.map_toArray, List.map_cons, List.map_nil]); first | done | rfl | (simp only [List.length_drop, List.length_take]; rfl)) ?_
           with_reducible refine (tree_Less.calls kj39 a0_0 a0_1 a2_0 a2_1 t317 _ A72.out).mono ?_
           rintro e w167 ⟨rfl, hb⟩
           refine ⟨_, rfl, ?_⟩
           have n0_ := Aside0.mk (blk_below (bKq_ BK302.out) hb)
           have n1_ := Aside0.mk (blk_below (bKq_ BK303.out) hb)
           have n2_ := Aside0.mk (blk_below (bKq_ BK304.out) hb)
           have n3_ := Aside0.mk (below_step bSt_ hb)
           clear BK302
           clear BK303
           clear BK304
           clear HB
           have BK302 := n0_
           have BK303 := n1_
           have BK304 := n2_
           have HB := n3_
           clear n0_ n1_ n2_ n3_
           (try clear hb)
           (try clear hb2)
           (try clear hk)
           (try clear hi)
           refine hK.out _ _ ⟨(blk_cell BK302.out 0).trans rfl, (blk_cell BK302.out 1).trans rfl, (blk_cell BK303.out 0).trans rfl, (blk_cell BK303.out 1).trans rfl, (blk_cell BK304.out 0).trans rfl, (blk_cell BK304.out 1).trans rfl⟩ (fun hHeld => ?_)
           clear hK K
           refine norm_ (a' := ?_) ?_ ?_
           rotate_left
           ·show Act.put _ (some 61) _ = _
            simp only [Act.put, List.setIfInBounds_toArray, List.set_cons_zero, List.set_cons_succ, i64_w, i32_w]
            rfl
           refine pure_ (i := 12) (N := some 7) (v := ?_) (a' := ?_) #[true, true, true, true, true, true, true, true, true, true, true, true, true, false, false, false] rfl rfl (any_of HT_.out (by kernel_rfl)) (fun _ _ _ h => h) (Or.inl ⟨by rfl, ?_⟩) ?_ ?_
           rotate_left
           ·intro w'
            go_simp
            with_reducible rfl
           rotate_left
           ·simp only [Act.put, List.setIfInBounds_toArray, List.set_cons_zero, List.set_cons_succ, i64_w, i32_w]
            rfl
           refine pure_ (i := 13) (N := some 8) (v := ?_) (a' := ?_) #[true, true, true, true, true, true, true, true, true, true, true, true, true, true, false, false] rfl rfl (any_of HT_.out (by kernel_rfl)) (fun _ _ _ h => h) (Or.inl ⟨by rfl, ?_⟩) ?_ ?_
           rotate_left
           ·intro w'
            go_simp
            with_reducible rfl
           rotate_left
           ·simp only [Act.put, List.setIfInBounds_toArray, List.set_cons_zero, List.set_cons_succ, i64_w, i32_w]
            rfl
           refine pure_ (i := 14) (N := some 9) (v := ?_) (a' := ?_) #[true, true, true, true, true, true, true, true, true, true, true, true, true, true, true, false] rfl rfl (any_of HT_.out (by kernel_rfl)) (fun _ _ _ h => h) (Or.inl ⟨by rfl, ?_⟩) ?_ ?_
           rotate_left
           ·intro w'
            go_simp
            with_reducible rfl
           rotate_left
           ·simp only [Act.put, List.setIfInBounds_toArray, List.set_cons_zero, List.set_cons_succ, i64_w, i32_w]
            rfl
           refine pure_ (i := 15) (N := some 10) (v := ?_) (a' := ?_) #[true, true, true, true, true, true, true, true, true, true, true, true, true, true, true, true] rfl rfl (any_of HT_.out (by kernel_rfl)) (fun _ _ _ h => h) (Or.inl ⟨by rfl, ?_⟩) ?_ ?_
           rotate_left
           ·intro w'
            go_simp
            with_reducible rfl
           rotate_left
           ·simp only [Act.put, List.setIfInBounds_toArray, List.set_cons_zero, List.set_cons_succ, i64_w, i32_w]
            rfl
           refine done_ (done_of HT_.out (by kernel_rfl)) ?_
           have hnb168 := NB302_303.out
           have hnc168 := NB303_302.out
           have hnb169 := NB302_304.out
           have hnc169 := NB304_302.out
           have hcz170_0 : w167.cell? ⟨gb302, 0, none⟩ = some (.int .i64 a0_0) := (blk_cell BK302.out 0).trans rfl
           have hcz170_1 : w167.cell? ⟨gb302, 1, none⟩ = some (.string a0_1) := (blk_cell BK302.out 1).trans rfl
           have hfz170_0 := blk_frozen BK302.out 0
           have hfz170_1 := blk_frozen BK302.out 1
           have hnb171 := NB303_304.out
           have hnc171 := NB304_303.out
           have hcz172_0 : w167.cell? ⟨gb303, 0, none⟩ = some (.int .i64 a1_0) := (blk_cell BK303.out 0).trans rfl
           have hcz172_1 : w167.cell? ⟨gb303, 1, none⟩ = some (.string a1_1) := (blk_cell BK303.out 1).trans rfl
           have hfz172_0 := blk_frozen BK303.out 0
           have hfz172_1 := blk_frozen BK303.out 1
           try go_wp2_with (first | ((with_reducible refine gate_callee (f := 11) rfl ?_); refine goesL_ (some 65) rfl rfl Tryz.func11 (by kernel_rfl) rfl #[.agg #[.int .i64 a0_0, .string a0_1], .agg #[.int .i64 a1_0, .string a1_1]] rfl (by (try simp only [List.map_toArray, List.map_cons, List.map_nil]); first | done | rfl | (simp only [List.length_drop, List.length_take]; rfl)) ?_; (with_reducible refine (manystrandref02_Less.calls kj39 a0_0 a0_1 a1_0 a1_1 t318 _ A73.out).mono ?_); rintro e w173 ⟨rfl, hb⟩; refine ⟨_, rfl, ?_⟩; have n0_ := Aside0.mk (blk_below (bKq_ BK302.out) hb); have n1_ := Aside0.mk (blk_below (bKq_ BK303.out) hb); have n2_ := Aside0.mk (blk_below (bKq_ BK304.out) hb); have n3_ := Aside0.mk (below_step bSt_ hb); clear BK302; clear BK303; clear BK304; clear HB; have BK302 := n0_; have BK303 := n1_; have BK304 := n2_; have HB := n3_; clear n0_ n1_ n2_ n3_; (try clear hb); (try clear hb2); (try clear hk); (try clear hi); have hcz174_0 : w173.cell? ⟨gb302, 0, none⟩ = some (.int .i64 a0_0) := (blk_cell BK302.out 0).trans rfl; have hcz174_1 : w173.cell? ⟨gb302, 1, none⟩ = some (.string a0_1) := (blk_cell BK302.out 1).trans rfl; have hfz174_0 := blk_frozen BK302.out 0; have hfz174_1 := blk_frozen BK302.out 1; have hcz175_0 : w173.cell? ⟨gb303, 0, none⟩ = some (.int .i64 a1_0) := (blk_cell BK303.out 0).trans rfl; have hcz175_1 : w173.cell? ⟨gb303, 1, none⟩ = some (.string a1_1) := (blk_cell BK303.out 1).trans rfl; have hfz175_0 := blk_frozen BK303.out 0; have hfz175_1 := blk_frozen BK303.out 1))
           go_ret
           exact ⟨by first | rfl | (simp [errW_none, errW_some] <;> rfl) | (simp [*, errW_none, errW_some] <;> rfl) | (simp [errW_none, errW_some]; exact Go.Proofs.YtlabfjaddgakkaaGreatW.OwnWords.isEmpty_bne _), bSt_⟩
        ·rw [if_neg c74] at H
         have c74b0 : (t314 == t318) = false := by simpa using c74
         (try (have c74b1 : decide (t314 = t318) = false := by simpa using c74))
         (try (have c74b2 : (t314 == t318) = false := by simpa using c74))
         (try (have c74b3 : ¬ (t314 = t318) := by simpa using c74))
         clear c74
         obtain rfl := Option.some.inj H
         try go_wp2
         have n0_ := Aside0.mk (blk_drew BK302.out)
         have n1_ := Aside0.mk (blk_drew BK303.out)
         have n2_ := Aside0.mk (blk_drew BK304.out)
         have n3_ := Aside0.mk (below_drew1 HB.out)
         clear BK302
         clear BK303
         clear BK304
         clear HB
         have BK302 := n0_
         have BK303 := n1_
         have BK304 := n2_
         have HB := n3_
         clear n0_ n1_ n2_ n3_
         refine start_ (n := 16) (S := fun w' => w'.cell? ⟨gb302, 0, none⟩ = some (.int .i64 a0_0) ∧ w'.cell? ⟨gb302, 1, none⟩ = some (.string a0_1) ∧ w'.cell? ⟨gb303, 0, none⟩ = some (.int .i64 a1_0) ∧ w'.cell? ⟨gb303, 1, none⟩ = some (.string a1_1) ∧ w'.cell? ⟨gb304, 0, none⟩ = some (.int .i64 a2_0) ∧ w'.cell? ⟨gb304, 1, none⟩ = some (.string a2_1)) (ds := []) #[false, false, false, false, false, false, false, false, false, false, false, false, false, false, false, false] (by kernel_rfl) rfl rfl ⟨(blk_cell BK302.out 0).trans rfl, (blk_cell BK302.out 1).trans rfl, (blk_cell BK303.out 0).trans rfl, (blk_cell BK303.out 1).trans rfl, (blk_cell BK304.out 0).trans rfl, (blk_cell BK304.out 1).trans rfl⟩ (fun hHeld => ?_); refine with_tabW manystrandlaw02_TreeFeats.tab7 manystrandlaw02_TreeFeats.bits7 (fun HT_ HW_ => ?_)
         generalize wc.drew = w176 at BK302 BK303 BK304 HB hHeld ⊢
         refine take_ (i := 0) (N := some 50) (v := ?_) (a' := ?_) #[true, false, false, false, false, false, false, false, false, false, false, false, false, false, false, false] rfl rfl (take_ofW HT_.out HW_.out (by kernel_rfl)) (fun _ _ _ h => h) (Or.inl ⟨by rfl, ?_⟩) hHeld ?_ ?_
         rotate_left
         ·rintro w' ⟨s0, s1, s2, s3, s4, s5⟩
          go_simp
          with_reducible rfl
         rotate_left
         ·simp only [Act.put, List.setIfInBounds_toArray, List.set_cons_zero, List.set_cons_succ, i64_w, i32_w]
          rfl
         refine take_ (i := 1) (N := some 51) (v := ?_) (a' := ?_) #[true, true, false, false, false, false, false, false, false, false, false, false, false, false, false, false] rfl rfl (take_ofW HT_.out HW_.out (by kernel_rfl)) (fun _ _ _ h => h) (Or.inl ⟨by rfl, ?_⟩) hHeld ?_ ?_
         rotate_left
         ·rintro w' ⟨s0, s1, s2, s3, s4, s5⟩
          go_simp
          with_reducible rfl
         rotate_left
         ·simp only [Act.put, List.setIfInBounds_toArray, List.set_cons_zero, List.set_cons_succ, i64_w, i32_w]
          rfl
         refine take_ (i := 3) (N := some 53) (v := ?_) (a' := ?_) #[true, true, false, true, false, false, false, false, false, false, false, false, false, false, false, false] rfl rfl (take_ofW HT_.out HW_.out (by kernel_rfl)) (fun _ _ _ h => h) (Or.inl ⟨by rfl, ?_⟩) hHeld ?_ ?_
         rotate_left
         ·rintro w' ⟨s0, s1, s2, s3, s4, s5⟩
          go_simp
          with_reducible rfl
         rotate_left
         ·simp only [Act.put, List.setIfInBounds_toArray, List.set_cons_zero, List.set_cons_succ, i64_w, i32_w]
          rfl
         refine take_ (i := 4) (N := some 54) (v := ?_) (a' := ?_) #[true, true, false, true, true, false, false, false, false, false, false, false, false, false, false, false] rfl rfl (take_ofW HT_.out HW_.out (by kernel_rfl)) (fun _ _ _ h => h) (Or.inl ⟨by rfl, ?_⟩) hHeld ?_ ?_
         rotate_left
         ·rintro w' ⟨s0, s1, s2, s3, s4, s5⟩
          go_simp
          with_reducible rfl
         rotate_left
         ·simp only [Act.put, List.setIfInBounds_toArray, List.set_cons_zero, List.set_cons_succ, i64_w, i32_w]
          rfl
         refine take_ (i := 6) (N := some 56) (v := ?_) (a' := ?_) #[true, true, false, true, true, false, true, false, false, false, false, false, false, false, false, false] rfl rfl (take_ofW HT_.out HW_.out (by kernel_rfl)) (fun _ _ _ h => h) (Or.inl ⟨by rfl, ?_⟩) hHeld ?_ ?_
         rotate_left
         ·rintro w' ⟨s0, s1, s2, s3, s4, s5⟩
          go_simp
          with_reducible rfl
         rotate_left
         ·simp only [Act.put, List.setIfInBounds_toArray, List.set_cons_zero, List.set_cons_succ, i64_w, i32_w]
          rfl
         refine take_ (i := 7) (N := some 57) (v := ?_) (a' := ?_) #[true, true, false, true, true, false, true, true, false, false, false, false, false, false, false, false] rfl rfl (take_ofW HT_.out HW_.out (by kernel_rfl)) (fun _ _ _ h => h) (Or.inl ⟨by rfl, ?_⟩) hHeld ?_ ?_
         rotate_left
         ·rintro w' ⟨s0, s1, s2, s3, s4, s5⟩
          go_simp
          with_reducible rfl
         rotate_left
         ·simp only [Act.put, List.setIfInBounds_toArray, List.set_cons_zero, List.set_cons_succ, i64_w, i32_w]
          rfl
         refine take_ (i := 9) (N := some 59) (v := ?_) (a' := ?_) #[true, true, false, true, true, false, true, true, false, true, false, false, false, false, false, false] rfl rfl (take_ofW HT_.out HW_.out (by kernel_rfl)) (fun _ _ _ h => h) (Or.inl ⟨by rfl, ?_⟩) hHeld ?_ ?_
         rotate_left
         ·rintro w' ⟨s0, s1, s2, s3, s4, s5⟩
          go_simp
          with_reducible rfl
         rotate_left
         ·simp only [Act.put, List.setIfInBounds_toArray, List.set_cons_zero, List.set_cons_succ, i64_w, i32_w]
          rfl
         refine take_ (i := 10) (N := some 60) (v := ?_) (a' := ?_) #[true, true, false, true, true, false, true, true, false, true, true, false, false, false, false, false] rfl rfl (take_ofW HT_.out HW_.out (by kernel_rfl)) (fun _ _ _ h => h) (Or.inl ⟨by rfl, ?_⟩) hHeld ?_ ?_
         rotate_left
         ·rintro w' ⟨s0, s1, s2, s3, s4, s5⟩
          go_simp
          with_reducible rfl
         rotate_left
         ·simp only [Act.put, List.setIfInBounds_toArray, List.set_cons_zero, List.set_cons_succ, i64_w, i32_w]
          rfl
         refine one_ (i := 2) (N := some 52) #[true, true, true, true, true, false, true, true, false, true, true, false, false, false, false, false] rfl rfl (one_of HT_.out (by kernel_rfl)) (by decide) (fun K hK => ?_)
         refine goes_ Tryz.func10 (by kernel_rfl) rfl #[.agg #[.int .i64 a0_0, .string a0_1], .agg #[.int .i64 a1_0, .string a1_1]] (by rfl) rfl rfl (by (try simp only [List.map_toArray, List.map_cons, List.map_nil]); first | done | rfl | (simp only [List.length_drop, List.length_take]; rfl)) ?_
         with_reducible refine (tree_Less.calls kj39 a0_0 a0_1 a1_0 a1_1 t314 _ A69.out).mono ?_
         rintro e w177 ⟨rfl, hb⟩
         refine ⟨_, rfl, ?_⟩
         have n0_ := Aside0.mk (blk_below (bKq_ BK302.out) hb)
         have n1_ := Aside0.mk (blk_below (bKq_ BK303.out) hb)
         have n2_ := Aside0.mk (blk_below (bKq_ BK304.out) hb)
         have n3_ := Aside0.mk (below_step bSt_ hb)
         clear BK302
         clear BK303
         clear BK304
         clear HB
         have BK302 := n0_
         have BK303 := n1_
         have BK304 := n2_
         have HB := n3_
         clear n0_ n1_ n2_ n3_
         (try clear hb)
         (try clear hb2)
         (try clear hk)
         (try clear hi)
         refine hK.out _ _ ⟨(blk_cell BK302.out 0).trans rfl, (blk_cell BK302.out 1).trans rfl, (blk_cell BK303.out 0).trans rfl, (blk_cell BK303.out 1).trans rfl, (blk_cell BK304.out 0).trans rfl, (blk_cell BK304.out 1).trans rfl⟩ (fun hHeld => ?_)
         clear hK K
         refine norm_ (a' := ?_) ?_ ?_
         rotate_left
         ·show Act.put _ (some 52) _ = _
          simp only [Act.put, List.setIfInBounds_toArray, List.set_cons_zero, List.set_cons_succ, i64_w, i32_w]
          rfl
         refine one_ (i := 5) (N := some 55) #[true, true, true, true, true, true, true, true, false, true, true, false, false, false, false, false] rfl rfl (one_of HT_.out (by kernel_rfl)) (by decide) (fun K hK => ?_)
         refine goes_ Tryz.func10 (by kernel_rfl) rfl #[.agg #[.int .i64 a1_0, .string a1_1], .agg #[.int .i64 a0_0, .string a0_1]] (by rfl) rfl rfl (by (try simp only [List.map_toArray, List.map_cons, List.map_nil]); first | done | rfl | (simp only [List.length_drop, List.length_take]; rfl)) ?_
         with_reducible refine (tree_Less.calls kj39 a1_0 a1_1 a0_0 a0_1 t315 _ A70.out).mono ?_
         rintro e w178 ⟨rfl, hb⟩
         refine ⟨_, rfl, ?_⟩
         have n0_ := Aside0.mk (blk_below (bKq_ BK302.out) hb)
         have n1_ := Aside0.mk (blk_below (bKq_ BK303.out) hb)
         have n2_ := Aside0.mk (blk_below (bKq_ BK304.out) hb)
         have n3_ := Aside0.mk (below_step bSt_ hb)
         clear BK302
         clear BK303
         clear BK304
         clear HB
         have BK302 := n0_
         have BK303 := n1_
         have BK304 := n2_
         have HB := n3_
         clear n0_ n1_ n2_ n3_
         (try clear hb)
         (try clear hb2)
         (try clear hk)
         (try clear hi)
         refine hK.out _ _ ⟨(blk_cell BK302.out 0).trans rfl, (blk_cell BK302.out 1).trans rfl, (blk_cell BK303.out 0).trans rfl, (blk_cell BK303.out 1).trans rfl, (blk_cell BK304.out 0).trans rfl, (blk_cell BK304.out 1).trans rfl⟩ (fun hHeld => ?_)
         clear hK K
         refine norm_ (a' := ?_) ?_ ?_
         rotate_left
         ·show Act.put _ (some 55) _ = _
          simp only [Act.put, List.setIfInBounds_toArray, List.set_cons_zero, List.set_cons_succ, i64_w, i32_w]
          rfl
         refine one_ (i := 8) (N := some 58) #[true, true, true, true, true, true, true, true, true, true, true, false, false, false, false, false] rfl rfl (one_of HT_.out (by kernel_rfl)) (by decide) (fun K hK => ?_)
         refine goes_ Tryz.func10 (by kernel_rfl) rfl #[.agg #[.int .i64 a1_0, .string a1_1], .agg #[.int .i64 a2_0, .string a2_1]] (by rfl) rfl rfl (by (try simp only [List.map_toArray, List.map_cons, List.map_nil]); first | done | rfl | (simp only [List.length_drop, List.length_take]; rfl)) ?_
         with_reducible refine (tree_Less.calls kj39 a1_0 a1_1 a2_0 a2_1 t316 _ A71.out).mono ?_
         rintro e w179 ⟨rfl, hb⟩
         refine ⟨_, rfl, ?_⟩
         have n0_ := Aside0.mk (blk_below (bKq_ BK302.out) hb)
         have n1_ := Aside0.mk (blk_below (bKq_ BK303.out) hb)
         have n2_ := Aside0.mk (blk_below (bKq_ BK304.out) hb)
         have n3_ := Aside0.mk (below_step bSt_ hb)
         clear BK302
         clear BK303
         clear BK304
         clear HB
         have BK302 := n0_
         have BK303 := n1_
         have BK304 := n2_
         have HB := n3_
         clear n0_ n1_ n2_ n3_
         (try clear hb)
         (try clear hb2)
         (try clear hk)
         (try clear hi)
         refine hK.out _ _ ⟨(blk_cell BK302.out 0).trans rfl, (blk_cell BK302.out 1).trans rfl, (blk_cell BK303.out 0).trans rfl, (blk_cell BK303.out 1).trans rfl, (blk_cell BK304.out 0).trans rfl, (blk_cell BK304.out 1).trans rfl⟩ (fun hHeld => ?_)
         clear hK K
         refine norm_ (a' := ?_) ?_ ?_
         rotate_left
         ·show Act.put _ (some 58) _ = _
          simp only [Act.put, List.setIfInBounds_toArray, List.set_cons_zero, List.set_cons_succ, i64_w, i32_w]
          rfl
         refine one_ (i := 11) (N := some 61) #[true, true, true, true, true, true, true, true, true, true, true, true, false, false, false, false] rfl rfl (one_of HT_.out (by kernel_rfl)) (by decide) (fun K hK => ?_)
         refine goes_ Tryz.func10 (by kernel_rfl) rfl #[.agg #[.int .i64 a0_0, .string a0_1], .agg #[.int .i64 a2_0, .string a2_1]] (by rfl) rfl rfl (by (try simp only [List.map_toArray, List.map_cons, List.map_nil]); first | done | rfl | (simp only [List.length_drop, List.length_take]; rfl)) ?_
         with_reducible refine (tree_Less.calls kj39 a0_0 a0_1 a2_0 a2_1 t317 _ A72.out).mono ?_
         rintro e w180 ⟨rfl, hb⟩
         refine ⟨_, rfl, ?_⟩
         have n0_ := Aside0.mk (blk_below (bKq_ BK302.out) hb)
         have n1_ := Aside0.mk (blk_below (bKq_ BK303.out) hb)
         have n2_ := Aside0.mk (blk_below (bKq_ BK304.out) hb)
         have n3_ := Aside0.mk (below_step bSt_ hb)
         clear BK302
         clear BK303
         clear BK304
         clear HB
         have BK302 := n0_
         have BK303 := n1_
         have BK304 := n2_
         have HB := n3_
         clear n0_ n1_ n2_ n3_
         (try clear hb)
         (try clear hb2)
         (try clear hk)
         (try clear hi)
         refine hK.out _ _ ⟨(blk_cell BK302.out 0).trans rfl, (blk_cell BK302.out 1).trans rfl, (blk_cell BK303.out 0).trans rfl, (blk_cell BK303.out 1).trans rfl, (blk_cell BK304.out 0).trans rfl, (blk_cell BK304.out 1).trans rfl⟩ (fun hHeld => ?_)
         clear hK K
         refine norm_ (a' := ?_) ?_ ?_
         rotate_left
         ·show Act.put _ (some 61) _ = _
          simp only [Act.put, List.setIfInBounds_toArray, List.set_cons_zero, List.set_cons_succ, i64_w, i32_w]
          rfl
         refine pure_ (i := 12) (N := some 7) (v := ?_) (a' := ?_) #[true, true, true, true, true, true, true, true, true, true, true, true, true, false, false, false] rfl rfl (any_of HT_.out (by kernel_rfl)) (fun _ _ _ h => h) (Or.inl ⟨by rfl, ?_⟩) ?_ ?_
         rotate_left
         ·intro w'
          go_simp
          with_reducible rfl
         rotate_left
         ·simp only [Act.put, List.setIfInBounds_toArray, List.set_cons_zero, List.set_cons_succ, i64_w, i32_w]
          rfl
         refine pure_ (i := 13) (N := some 8) (v := ?_) (a' := ?_) #[true, true, true, true, true, true, true, true, true, true, true, true, true, true, false, false] rfl rfl (any_of HT_.out (by kernel_rfl)) (fun _ _ _ h => h) (Or.inl ⟨by rfl, ?_⟩) ?_ ?_
         rotate_left
         ·intro w'
          go_simp
          with_reducible rfl
         rotate_left
         ·simp only [Act.put, List.setIfInBounds_toArray, List.set_cons_zero, List.set_cons_succ, i64_w, i32_w]
          rfl
         refine pure_ (i := 14) (N := some 9) (v := ?_) (a' := ?_) #[true, true, true, true, true, true, true, true, true, true, true, true, true, true, true, false] rfl rfl (any_of HT_.out (by kernel_rfl)) (fun _ _ _ h => h) (Or.inl ⟨by rfl, ?_⟩) ?_ ?_
         rotate_left
         ·intro w'
          go_simp
          with_reducible rfl
         rotate_left
         ·simp only [Act.put, List.setIfInBounds_toArray, List.set_cons_zero, List.set_cons_succ, i64_w, i32_w]
          rfl
         refine pure_ (i := 15) (N := some 10) (v := ?_) (a' := ?_) #[true, true, true, true, true, true, true, true, true, true, true, true, true, true, true, true] rfl rfl (any_of HT_.out (by kernel_rfl)) (fun _ _ _ h => h) (Or.inl ⟨by rfl, ?_⟩) ?_ ?_
         rotate_left
         ·intro w'
          go_simp
          with_reducible rfl
         rotate_left
         ·simp only [Act.put, List.setIfInBounds_toArray, List.set_cons_zero, List.set_cons_succ, i64_w, i32_w]
          rfl
         refine done_ (done_of HT_.out (by kernel_rfl)) ?_
         have hnb181 := NB302_303.out
         have hnc181 := NB303_302.out
         have hnb182 := NB302_304.out
         have hnc182 := NB304_302.out
         have hcz183_0 : w180.cell? ⟨gb302, 0, none⟩ = some (.int .i64 a0_0) := (blk_cell BK302.out 0).trans rfl
         have hcz183_1 : w180.cell? ⟨gb302, 1, none⟩ = some (.string a0_1) := (blk_cell BK302.out 1).trans rfl
         have hfz183_0 := blk_frozen BK302.out 0
         have hfz183_1 := blk_frozen BK302.out 1
         have hnb184 := NB303_304.out
         have hnc184 := NB304_303.out
         have hcz185_0 : w180.cell? ⟨gb303, 0, none⟩ = some (.int .i64 a1_0) := (blk_cell BK303.out 0).trans rfl
         have hcz185_1 : w180.cell? ⟨gb303, 1, none⟩ = some (.string a1_1) := (blk_cell BK303.out 1).trans rfl
         have hfz185_0 := blk_frozen BK303.out 0
         have hfz185_1 := blk_frozen BK303.out 1
         try go_wp2_with (first | ((with_reducible refine gate_callee (f := 11) rfl ?_); refine goesL_ (some 65) rfl rfl Tryz.func11 (by kernel_rfl) rfl #[.agg #[.int .i64 a0_0, .string a0_1], .agg #[.int .i64 a1_0, .string a1_1]] rfl (by (try simp only [List.map_toArray, List.map_cons, List.map_nil]); first | done | rfl | (simp only [List.length_drop, List.length_take]; rfl)) ?_; (with_reducible refine (manystrandref02_Less.calls kj39 a0_0 a0_1 a1_0 a1_1 t318 _ A73.out).mono ?_); rintro e w186 ⟨rfl, hb⟩; refine ⟨_, rfl, ?_⟩; have n0_ := Aside0.mk (blk_below (bKq_ BK302.out) hb); have n1_ := Aside0.mk (blk_below (bKq_ BK303.out) hb); have n2_ := Aside0.mk (blk_below (bKq_ BK304.out) hb); have n3_ := Aside0.mk (below_step bSt_ hb); clear BK302; clear BK303; clear BK304; clear HB; have BK302 := n0_; have BK303 := n1_; have BK304 := n2_; have HB := n3_; clear n0_ n1_ n2_ n3_; (try clear hb); (try clear hb2); (try clear hk); (try clear hi)))
         go_ret
         exact ⟨by first | rfl | (simp [errW_none, errW_some] <;> rfl) | (simp [*, errW_none, errW_some] <;> rfl) | (simp [errW_none, errW_some]; exact Go.Proofs.YtlabfjaddgakkaaGreatW.OwnWords.isEmpty_bne _), bSt_⟩

end Go.Proofs.YtlabfjaddgakkaaGreat.Q
end
section
namespace Go.Proofs.YtlabfjaddgakkaaGreat.Pure
set_option linter.unusedVariables false
set_option linter.unusedSimpArgs false
open Go.RowKit Go.Proofs.YtlabfjaddgakkaaGreatW.PrintWords Go.Proofs.YtlabfjaddgakkaaGreatW.PrintLast Go.Proofs.YtlabfjaddgakkaaGreatW.PrintMore Go.Proofs.YtlabfjaddgakkaaGreat.Q
theorem bl_nil (x : List UInt8) : Op.bytesLess x [] = false := by cases x <;> rfl
theorem bl_some (a : UInt8) (x : List UInt8) : Op.bytesLess [] (a :: x) = true := rfl
theorem bl_cons (a b : UInt8) (x y : List UInt8) : Op.bytesLess (a :: x) (b :: y) = (decide (a.toNat < b.toNat) || (decide (a.toNat = b.toNat) && Op.bytesLess x y)) := by
  have e1 : (decide (a < b)) = decide (a.toNat < b.toNat) := by rw [decide_eq_decide]; exact UInt8.lt_iff_toNat_lt
  have e2 : (a == b) = decide (a.toNat = b.toNat) := by
    rw [Bool.eq_iff_iff, beq_iff_eq, decide_eq_true_eq, UInt8.toNat_inj]
  show (decide (a < b) || (a == b && Op.bytesLess x y)) = _
  rw [e1, e2]
theorem bl_asym : ∀ x y : List UInt8, Op.bytesLess x y = true → Op.bytesLess y x = false
  | x, [] => fun h => by rw [bl_nil] at h; cases h
  | [], _ :: _ => fun _ => bl_nil _
  | a :: x, b :: y => fun h => by
    rw [bl_cons] at h ⊢
    simp only [Bool.or_eq_true, Bool.and_eq_true, decide_eq_true_eq] at h
    rcases h with h | ⟨h, k⟩
    · rw [decide_eq_false (by omega : ¬ b.toNat < a.toNat), decide_eq_false (by omega : ¬ b.toNat = a.toNat)]; rfl
    · rw [decide_eq_false (by omega : ¬ b.toNat < a.toNat), bl_asym x y k, Bool.and_false]; rfl
theorem bl_tri : ∀ x y : List UInt8, Op.bytesLess x y = false → Op.bytesLess y x = !(x == y)
  | [], [] => fun _ => rfl
  | a :: x, [] => fun _ => rfl
  | [], _ :: _ => fun h => by rw [bl_some] at h; cases h
  | a :: x, b :: y => fun h => by
    rw [bl_cons] at h ⊢
    have e : ((a :: x) == (b :: y)) = (decide (a.toNat = b.toNat) && (x == y)) := by
      rw [List.cons_beq_cons]
      congr 1
      rw [Bool.eq_iff_iff, beq_iff_eq, decide_eq_true_eq, UInt8.toNat_inj]
    rw [e]
    rw [Bool.or_eq_false_iff, decide_eq_false_iff_not] at h
    by_cases g : a.toNat = b.toNat
    · rw [decide_eq_true g, Bool.true_and] at h
      rw [decide_eq_false (by omega : ¬ b.toNat < a.toNat), decide_eq_true g.symm, decide_eq_true g, bl_tri x y h.2]
      simp
    · rw [decide_eq_true (by omega : b.toNat < a.toNat), decide_eq_false g]
      rfl
theorem bl_ne (x y : List UInt8) (h : Op.bytesLess x y = true) : (x == y) = false := by
  rw [beq_eq_false_iff_ne]
  rintro rfl
  rw [bl_asym x x h] at h
  cases h
theorem bl_trans : ∀ x y z : List UInt8, Op.bytesLess x y = true → Op.bytesLess y z = true → Op.bytesLess x z = true
  | x, y, [] => fun _ h => by rw [bl_nil] at h; cases h
  | [], y, _ :: _ => fun _ _ => rfl
  | _ :: _, [], _ => fun h _ => by rw [bl_nil] at h; cases h
  | a :: x, b :: y, c :: z => fun h k => by
    rw [bl_cons] at h k ⊢
    simp only [Bool.or_eq_true, Bool.and_eq_true, decide_eq_true_eq] at h k ⊢
    rcases h with h | ⟨h, h'⟩ <;> rcases k with k | ⟨k, k'⟩
    · exact .inl (by omega)
    · exact .inl (by omega)
    · exact .inl (by omega)
    · exact .inr ⟨by omega, bl_trans x y z h' k'⟩
def lessB (n : Int) (s : ByteArray) (m : Int) (t : ByteArray) : Bool := if n > 0 ∧ m > 0 then decide (n < m) else if n > 0 then true else if m > 0 then false else Op.bytesLess s.toList t.toList
theorem less_ev (n : Int) (s : ByteArray) (m : Int) (t : ByteArray) : Ev (fun k => tree_Less.f k n s m t) (lessB n s m t) := by
  unfold tree_Less.f
  by_cases h : n > 0
  · by_cases h2 : m > 0
    · rw [show lessB n s m t = decide (n < m) by unfold lessB; rw [if_pos ⟨h, h2⟩]]
      refine ev_pos h (Ev.step (fun k => by rw [tree_Less.j0]) ?_)
      exact ev_pos (decide_eq_true h2) (ev_now rfl)
    · rw [show lessB n s m t = true by unfold lessB; rw [if_neg (fun (e : n > 0 ∧ m > 0) => h2 e.2), if_pos h]]
      refine ev_pos h (Ev.step (fun k => by rw [tree_Less.j0]) ?_)
      exact ev_neg (by simpa using h2) (ev_pos h (ev_now (decide_eq_true h)))
  · by_cases h2 : m > 0
    · rw [show lessB n s m t = false by unfold lessB; rw [if_neg (fun (e : n > 0 ∧ m > 0) => h e.1), if_neg h, if_pos h2]]
      refine ev_neg h (Ev.step (fun k => by rw [tree_Less.j0]) ?_)
      exact ev_neg (by simp) (ev_neg h (ev_pos h2 (ev_now (decide_eq_false h))))
    · rw [show lessB n s m t = Op.bytesLess s.toList t.toList by unfold lessB; rw [if_neg (fun (e : n > 0 ∧ m > 0) => h e.1), if_neg h, if_neg h2]]
      refine ev_neg h (Ev.step (fun k => by rw [tree_Less.j0]) ?_)
      exact ev_neg (by simp) (ev_neg h (ev_neg h2 (ev_now rfl)))
theorem rless_ev (n : Int) (s : ByteArray) (m : Int) (t : ByteArray) : Ev (fun k => manystrandref02_Less.f k n s m t) (lessB n s m t) := by
  unfold manystrandref02_Less.f
  by_cases h : n > 0
  · by_cases h2 : m > 0
    · rw [show lessB n s m t = decide (n < m) by unfold lessB; rw [if_pos ⟨h, h2⟩]]
      refine ev_pos h (Ev.step (fun k => by rw [manystrandref02_Less.j0]) ?_)
      exact ev_pos (decide_eq_true h2) (ev_now rfl)
    · rw [show lessB n s m t = true by unfold lessB; rw [if_neg (fun (e : n > 0 ∧ m > 0) => h2 e.2), if_pos h]]
      refine ev_pos h (Ev.step (fun k => by rw [manystrandref02_Less.j0]) ?_)
      exact ev_neg (by simpa using h2) (ev_pos h (ev_now (decide_eq_true h)))
  · by_cases h2 : m > 0
    · rw [show lessB n s m t = false by unfold lessB; rw [if_neg (fun (e : n > 0 ∧ m > 0) => h e.1), if_neg h, if_pos h2]]
      refine ev_neg h (Ev.step (fun k => by rw [manystrandref02_Less.j0]) ?_)
      exact ev_neg (by simp) (ev_neg h (ev_pos h2 (ev_now (decide_eq_false h))))
    · rw [show lessB n s m t = Op.bytesLess s.toList t.toList by unfold lessB; rw [if_neg (fun (e : n > 0 ∧ m > 0) => h e.1), if_neg h, if_neg h2]]
      refine ev_neg h (Ev.step (fun k => by rw [manystrandref02_Less.j0]) ?_)
      exact ev_neg (by simp) (ev_neg h (ev_neg h2 (ev_now rfl)))
theorem feat_cases {n : Int} {s : ByteArray} (h : featB n s = true) : n = 0 ∨ (1 ≤ n ∧ s.toList = []) := by
  unfold featB at h
  by_cases e : n = 0
  · exact .inl e
  · rw [if_neg e] at h
    simp only [Bool.and_eq_true, decide_eq_true_eq, beq_iff_eq] at h
    exact .inr ⟨h.1.1, h.2⟩
theorem l_pp {n m : Int} {s t : ByteArray} (h : 1 ≤ n) (k : 1 ≤ m) : lessB n s m t = decide (n < m) := by unfold lessB; rw [if_pos ⟨by omega, by omega⟩]
theorem l_pz {n m : Int} {s t : ByteArray} (h : 1 ≤ n) (k : m = 0) : lessB n s m t = true := by unfold lessB; rw [if_neg (by omega), if_pos (by omega)]
theorem l_zp {n m : Int} {s t : ByteArray} (h : n = 0) (k : 1 ≤ m) : lessB n s m t = false := by unfold lessB; rw [if_neg (by omega), if_neg (by omega), if_pos (by omega)]
theorem l_zz {n m : Int} {s t : ByteArray} (h : n = 0) (k : m = 0) : lessB n s m t = Op.bytesLess s.toList t.toList := by unfold lessB; rw [if_neg (by omega), if_neg (by omega), if_neg (by omega)]
def neB (n : Int) (s : ByteArray) (m : Int) (t : ByteArray) : Bool := (!(n == m) || (!(s.toList == t.toList)))
theorem ord1 {n m : Int} {s t : ByteArray} (hn : featB n s = true) (hm : featB m t = true) (h : lessB n s m t = true) : lessB m t n s = false ∧ neB n s m t = true := by
  rcases feat_cases hn with a | ⟨a, a'⟩ <;> rcases feat_cases hm with b | ⟨b, b'⟩
  · rw [l_zz a b] at h
    rw [l_zz b a]
    exact ⟨bl_asym _ _ h, by unfold neB; rw [bl_ne _ _ h]; simp⟩
  · rw [l_zp a b] at h; cases h
  · rw [l_zp b a]
    exact ⟨rfl, by unfold neB; rw [beq_eq_false_iff_ne.mpr (by omega : n ≠ m)]; rfl⟩
  · rw [l_pp a b] at h
    have := of_decide_eq_true h
    rw [l_pp b a]
    exact ⟨decide_eq_false (by omega), by unfold neB; rw [beq_eq_false_iff_ne.mpr (by omega : n ≠ m)]; rfl⟩
theorem ord2 {n m : Int} {s t : ByteArray} (hn : featB n s = true) (hm : featB m t = true) (h : lessB n s m t = false) : lessB m t n s = neB n s m t := by
  rcases feat_cases hn with a | ⟨a, a'⟩ <;> rcases feat_cases hm with b | ⟨b, b'⟩
  · rw [l_zz a b] at h
    rw [l_zz b a, bl_tri _ _ h]
    unfold neB
    rw [a, b]
    simp
  · rw [l_pz b a]
    unfold neB
    rw [beq_eq_false_iff_ne.mpr (by omega : n ≠ m)]; rfl
  · rw [l_pz a b] at h; cases h
  · rw [l_pp a b] at h
    have := of_decide_eq_false h
    rw [l_pp b a]
    unfold neB
    rw [a', b']
    by_cases e : n = m
    · rw [e]; simp
    · rw [beq_eq_false_iff_ne.mpr e, decide_eq_true (by omega)]; rfl
theorem ord3 {n m l : Int} {s t u : ByteArray} (hn : featB n s = true) (hm : featB m t = true) (hl : featB l u = true) (h : lessB n s m t = true) (k : lessB m t l u = true) : lessB n s l u = true := by
  rcases feat_cases hn with a | ⟨a, a'⟩ <;> rcases feat_cases hm with b | ⟨b, b'⟩ <;> rcases feat_cases hl with c | ⟨c, c'⟩
  · rw [l_zz a b] at h; rw [l_zz b c] at k; rw [l_zz a c]; exact bl_trans _ _ _ h k
  · rw [l_zp b c] at k; cases k
  · rw [l_zp a b] at h; cases h
  · rw [l_zp a b] at h; cases h
  · exact l_pz a c
  · rw [l_zp b c] at k; cases k
  · exact l_pz a c
  · rw [l_pp a b] at h; rw [l_pp b c] at k; rw [l_pp a c]
    have := of_decide_eq_true h; have := of_decide_eq_true k
    exact decide_eq_true (by omega)
theorem aw {r : Bool} (h : r = true) : Ev (fun _ : Nat => (manystrandlaw02_awake.f).bind fun t => some t) r := ev_const (by rw [h]; rfl)
theorem j1_ev (x : Bool) (n : Int) (s : ByteArray) (m : Int) (t : ByteArray) (l : Int) (u : ByteArray) (hx : x = false → featB n s = true ∧ featB m t = true ∧ featB l u = true) : Ev (fun k => manystrandlaw02_TreeFeats.j1 k x n s m t l u) true := by
  refine Ev.step (fun k => by rw [manystrandlaw02_TreeFeats.j1]) ?_
  cases x with
  | true => exact ev_pos rfl (aw rfl)
  | false =>
    obtain ⟨h1, h2, h3⟩ := hx rfl
    refine ev_neg (by simp) (Ev.bind (less_ev n s m t) (Ev.bind (less_ev m t n s) (Ev.bind (less_ev m t l u) (Ev.bind (less_ev n s l u) (Ev.bind (rless_ev n s m t) ?_)))))
    refine ev_pos (by simp) ?_
    cases hab : lessB n s m t with
    | true =>
      obtain ⟨hba, hne⟩ := ord1 h1 h2 hab
      refine ev_pos rfl ?_
      rw [hba]
      refine ev_neg (by simp) (ev_pos (by unfold neB at hne; rw [hne]; rfl) ?_)
      cases hbc : lessB m t l u with
      | true =>
        rw [ord3 h1 h2 h3 hab hbc]
        exact ev_pos rfl (ev_pos rfl (aw rfl))
      | false => exact ev_neg (by simp) (aw rfl)
    | false =>
      have hba := ord2 h1 h2 hab
      refine ev_neg (by simp) (ev_pos ?_ (aw rfl))
      rw [hba]
      unfold neB
      simp
theorem treeFeats_ev {a b c : ByteArray} (n m l : Int) (ha : a.size ≤ 140737488351232) (hb : b.size ≤ 140737488351232) (hc : c.size ≤ 140737488351232) : Ev (fun k => manystrandlaw02_TreeFeats.f k n a m b l c) true := by
  unfold manystrandlaw02_TreeFeats.f
  have e1 : wrap64 ((a.size : Int) + (b.size : Int)) = (a.size : Int) + (b.size : Int) := by unfold wrap64; omega
  have e2 : wrap64 ((a.size : Int) + (b.size : Int) + (c.size : Int)) = (a.size : Int) + (b.size : Int) + (c.size : Int) := by unfold wrap64; omega
  rw [e1, e2]
  by_cases h : (a.size : Int) + (b.size : Int) + (c.size : Int) > 1000
  · exact ev_pos h (aw rfl)
  · have ha' : a.size ≤ 1000000 := by omega
    have hb' : b.size ≤ 1000000 := by omega
    have hc' : c.size ≤ 1000000 := by omega
    refine ev_neg h (Ev.bind (isFeat_ev ha' n) (Ev.bind (refFeat_ev ha' n) (ev_neg (by simp) (Ev.bind (isFeat_ev hb' m) (Ev.bind (refFeat_ev hb' m) ?_)))))
    rw [bne_self_eq_false]
    refine Ev.step (fun k => by rw [manystrandlaw02_TreeFeats.j0]) (ev_neg (by simp) (Ev.bind (isFeat_ev ha' n) ?_))
    cases h1 : featB n a with
    | false => exact ev_neg (by simp) (j1_ev true n a m b l c (fun e => by cases e))
    | true =>
      refine ev_pos rfl (Ev.bind (isFeat_ev hb' m) ?_)
      cases h2 : featB m b with
      | false => exact ev_neg (by simp) (j1_ev true n a m b l c (fun e => by cases e))
      | true =>
        refine ev_pos rfl (Ev.bind (isFeat_ev hc' l) ?_)
        exact j1_ev _ n a m b l c (fun e => ⟨h1, h2, by simpa using e⟩)
theorem treeFeats_ok {a b c : ByteArray} (n m l : Int) (ha : a.size ≤ 140737488351232) (hb : b.size ≤ 140737488351232) (hc : c.size ≤ 140737488351232) : ∃ k, manystrandlaw02_TreeFeats.f k n a m b l c = some true := by
  obtain ⟨K, h⟩ := treeFeats_ev n m l ha hb hc
  exact ⟨K, h K (Nat.le_refl _)⟩
end Go.Proofs.YtlabfjaddgakkaaGreat.Pure
end
