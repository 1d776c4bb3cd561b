import Derived.Test.YtgfbgfbnmiainaaBFamilyTellsq0
import Derived.Test.YtgfbgfbnmiainaaBFamilyTellsq1
import Derived.Test.YtgfbgfbnmiainaaBFamilyTellsp0
import Derived.Test.YtgfbgfbnmiainaaBFamilyTellsq2
import Derived.Deep.QuietTactic
import Derived.Orders
import Derived.BigRegion
import Derived.Test.YtgfbgfbnmiainaaBFamilyTellsq3
import Derived.BigQuiet
import Derived.Test.YtgfbgfbnmiainaaV
import Derived.Deep.RegionHeld3
import Derived.ChangeSlices
import Derived.ChangeArms
import Derived.DataReads
import Derived.DataElems
namespace Go.Proofs.Ytgfbgfbnmiainaa.Q
open Go.RowKit Go.Proofs.YtgfbgfbnmiainaaW.PrintWords Go.Proofs.YtgfbgfbnmiainaaW.PrintLast Go.Proofs.YtgfbgfbnmiainaaW.PrintMore Go.Proofs.YtgfbgfbnmiainaaW.OwnWords
attribute [local go_sem] Go.Proofs.YtgfbgfbnmiainaaW.OwnWords.isSome_setCell max2_int min2_int max_two min_two max_three min_three max_four min_four
set_option linter.unusedVariables false
set_option linter.unusedSimpArgs false

/-! ### manystrandref07_Same, the answer true: function 18 -/
def famSameT.f (k : Nat) (l0_0 : List Int) (l0_1 : List Int) (a0_2 : Int) (a0_3 : Int) (l1_0 : List Int) (l1_1 : List Int) (a1_2 : Int) (a1_3 : Int) : Option (Bool) := (manystrandref07_Valid.f k l0_0 l0_1 a0_2 a0_3).bind fun t183 => (if t183 = true then ((manystrandref07_Valid.f k l1_0 l1_1 a1_2 a1_3).bind fun t184 => (if t184 = true then ((manystrandref07_of.f k l0_0).bind fun t185 => ((manystrandref07_of.f k l1_0).bind fun t186 => (if t185 = t186 then ((manystrandref07_of.f k l0_1).bind fun t187 => ((manystrandref07_of.f k l1_1).bind fun t188 => (if t187 = t188 then (if a0_2 = a1_2 then (some (a0_3 == a1_3)) else (some false)) else (some false)))) else (some false)))) else (some false))) else (some false))
theorem famSameT.mono : ∀ a0 a1 a2 a3 a4 a5 a6 a7 k, LeO (famSameT.f k a0 a1 a2 a3 a4 a5 a6 a7) (famSameT.f (k + 1) a0 a1 a2 a3 a4 a5 a6 a7) := by
 intro a0 a1 a2 a3 a4 a5 a6 a7 k
 unfold famSameT.f
 repeat' first
   | (with_reducible exact manystrandref07_Valid.mono _ _ _ _ _)
   | (with_reducible exact manystrandref07_of.mono _ _)
   | (with_reducible exact LeO.refl _)
   | (with_reducible exact LeO.none _)
   | (with_reducible refine LeO.ite ?_ ?_)
   | (with_reducible refine LeO.bind ?_ (fun _ => ?_))
   | exact manystrandref07_Valid.mono _ _ _ _ _
   | exact manystrandref07_of.mono _ _
   | exact LeO.none _
   | refine LeO.ite ?_ ?_
   | refine LeO.bind ?_ (fun _ => ?_)
def famSameT.T1 : Bool × List (List Nat × List Nat) := (true, [([], []), ([0], [0]), ([1, 1], [1]), ([2], [2]), ([3, 2, 2], [2, 3]), ([2, 4], [2, 4]), ([5, 4], [5]), ([6], [6]), ([7, 6], [6, 7]), ([8, 6, 6], [6, 8]), ([6], [6]), ([10, 6], [6, 10]), ([11, 9, 6], [6, 11]), ([9, 12, 6], [6, 9, 12]), ([6, 13], [6, 13]), ([14, 12], [14]), ([15], [15]), ([16, 15], [15, 16]), ([17, 15, 15], [15, 17]), ([15], [15]), ([19, 15], [15, 19]), ([20, 18, 15], [15, 20]), ([18, 21, 15], [15, 18, 21]), ([15, 22], [15, 22]), ([23, 21], [23]), ([24], [24]), ([25, 24], [24, 25]), ([24], [24]), ([27, 24], [24, 27]), ([26, 28, 24], [24, 26, 28]), ([24, 29], [24, 29]), ([30, 24], [30]), ([31], [31]), ([32, 31], [31, 32]), ([31], [31]), ([34, 31], [31, 34]), ([33, 35, 31], [31, 33, 35]), ([31, 36], [31, 36]), ([37, 31, 0, 1, 2, 3, 4, 5, 6, 7, 8, 9, 10, 11, 12, 13, 14, 15, 16, 17, 18, 19, 20, 21, 22, 23, 24, 25, 26, 27, 28, 29, 30, 31, 32, 33, 34, 35, 36, 37], [37])])
def famSameT.B1 : List Nat := [0, 1, 3, 7, 15, 31, 63, 127, 255, 511, 127, 1151, 4095, 8191, 16383, 32767, 65535, 131071, 262143, 65535, 589823, 2097151, 4194303, 8388607, 16777215, 33554431, 67108863, 33554431, 167772159, 536870911, 1073741823, 2147483647, 4294967295, 8589934591, 4294967295, 21474836479, 68719476735, 137438953471, 274877906943]
theorem famSameT.tab1 : rtab .any (opsOf Try.f18 1) = famSameT.T1 := by kernel_rfl
theorem famSameT.bits1 : waitsOk famSameT.T1.2 famSameT.B1 = true := by kernel_rfl
set_option maxHeartbeats 8000000 in
set_option maxRecDepth 100000 in
theorem famSameT.calls (k : Nat) (A0_0 : Option Addr) (c0_0 : Nat) (l0_0 : List Int) (A0_1 : Option Addr) (c0_1 : Nat) (l0_1 : List Int) (a0_2 : Int) (a0_3 : Int) (A1_0 : Option Addr) (c1_0 : Nat) (l1_0 : List Int) (A1_1 : Option Addr) (c1_1 : Nat) (l1_1 : List Int) (a1_2 : Int) (a1_3 : Int) (w : World) (hr0_0 : Kd.C (Kd.int .i64) w A0_0 l0_0.length l0_0) (hc0_0 : l0_0.length ≤ c0_0) (hr0_1 : Kd.C (Kd.int .i64) w A0_1 l0_1.length l0_1) (hc0_1 : l0_1.length ≤ c0_1) (hr1_0 : Kd.C (Kd.int .i64) w A1_0 l1_0.length l1_0) (hc1_0 : l1_0.length ≤ c1_0) (hr1_1 : Kd.C (Kd.int .i64) w A1_1 l1_1.length l1_1) (hc1_1 : l1_1.length ≤ c1_1) (h : famSameT.f k l0_0 l0_1 a0_2 a0_3 l1_0 l1_1 a1_2 a1_3 = some true) :
  Calls Try.prog 18 #[.agg #[.slice A0_0 l0_0.length c0_0, .slice A0_1 l0_1.length c0_1, .int .i64 a0_2, .int .i64 a0_3], .agg #[.slice A1_0 l1_0.length c1_0, .slice A1_1 l1_1.length c1_1, .int .i64 a1_2, .int .i64 a1_3]] w fun e w' => e = .returned (.bool true) ∧ Below w.heap.size w w' := by
 have hu37 := Try.underlying37
 have HR0_0 := Aside0.mk hr0_0
 have HC0_0 := Aside0.mk hc0_0
 clear hr0_0 hc0_0
 have HR0_1 := Aside0.mk hr0_1
 have HC0_1 := Aside0.mk hc0_1
 clear hr0_1 hc0_1
 have HR1_0 := Aside0.mk hr1_0
 have HC1_0 := Aside0.mk hc1_0
 clear hr1_0 hc1_0
 have HR1_1 := Aside0.mk hr1_1
 have HC1_1 := Aside0.mk hc1_1
 clear hr1_1 hc1_1
 have HB := Aside0.mk (Below.refl w.heap.size w)
 have H : ((manystrandref07_Valid.f k l0_0 l0_1 a0_2 a0_3).bind fun t183 => (if t183 = true then ((manystrandref07_Valid.f k l1_0 l1_1 a1_2 a1_3).bind fun t184 => (if t184 = true then ((manystrandref07_of.f k l0_0).bind fun t185 => ((manystrandref07_of.f k l1_0).bind fun t186 => (if t185 = t186 then ((manystrandref07_of.f k l0_1).bind fun t187 => ((manystrandref07_of.f k l1_1).bind fun t188 => (if t187 = t188 then (if a0_2 = a1_2 then (some (a0_3 == a1_3)) else (some false)) else (some false)))) else (some false)))) else (some false))) else (some false))) = some true := h
 clear h
 replace H := Option.bind_eq_some_iff.mp H
 obtain ⟨t183, A30, H⟩ := H
 replace H : (if t183 = true then ((manystrandref07_Valid.f k l1_0 l1_1 a1_2 a1_3).bind fun t184 => (if t184 = true then ((manystrandref07_of.f k l0_0).bind fun t185 => ((manystrandref07_of.f k l1_0).bind fun t186 => (if t185 = t186 then ((manystrandref07_of.f k l0_1).bind fun t187 => ((manystrandref07_of.f k l1_1).bind fun t188 => (if t187 = t188 then (if a0_2 = a1_2 then (some (a0_3 == a1_3)) else (some false)) else (some false)))) else (some false)))) else (some false))) else (some false)) = some true := H
 have A3 := Aside0.mk A30
 clear A30
 by_cases c4 : t183 = true
 ·subst c4
  have H1 : ((manystrandref07_Valid.f k l1_0 l1_1 a1_2 a1_3).bind fun t184 => (if t184 = true then ((manystrandref07_of.f k l0_0).bind fun t185 => ((manystrandref07_of.f k l1_0).bind fun t186 => (if t185 = t186 then ((manystrandref07_of.f k l0_1).bind fun t187 => ((manystrandref07_of.f k l1_1).bind fun t188 => (if t187 = t188 then (if a0_2 = a1_2 then (some (a0_3 == a1_3)) else (some false)) else (some false)))) else (some false)))) else (some false))) = some true := by rw [if_pos rfl] at H; exact H
  clear H
  have H := H1
  clear H1
  replace H := Option.bind_eq_some_iff.mp H
  obtain ⟨t184, A50, H⟩ := H
  replace H : (if t184 = true then ((manystrandref07_of.f k l0_0).bind fun t185 => ((manystrandref07_of.f k l1_0).bind fun t186 => (if t185 = t186 then ((manystrandref07_of.f k l0_1).bind fun t187 => ((manystrandref07_of.f k l1_1).bind fun t188 => (if t187 = t188 then (if a0_2 = a1_2 then (some (a0_3 == a1_3)) else (some false)) else (some false)))) else (some false)))) else (some false)) = some true := H
  have A5 := Aside0.mk A50
  clear A50
  by_cases c6 : t184 = true
  ·subst c6
   have H1 : ((manystrandref07_of.f k l0_0).bind fun t185 => ((manystrandref07_of.f k l1_0).bind fun t186 => (if t185 = t186 then ((manystrandref07_of.f k l0_1).bind fun t187 => ((manystrandref07_of.f k l1_1).bind fun t188 => (if t187 = t188 then (if a0_2 = a1_2 then (some (a0_3 == a1_3)) else (some false)) else (some false)))) else (some false)))) = some true := by rw [if_pos rfl] at H; exact H
   clear H
   have H := H1
   clear H1
   replace H := Option.bind_eq_some_iff.mp H
   obtain ⟨t185, A70, H⟩ := H
   replace H : ((manystrandref07_of.f k l1_0).bind fun t186 => (if t185 = t186 then ((manystrandref07_of.f k l0_1).bind fun t187 => ((manystrandref07_of.f k l1_1).bind fun t188 => (if t187 = t188 then (if a0_2 = a1_2 then (some (a0_3 == a1_3)) else (some false)) else (some false)))) else (some false))) = some true := H
   have A7 := Aside0.mk A70
   clear A70
   replace H := Option.bind_eq_some_iff.mp H
   obtain ⟨t186, A80, H⟩ := H
   replace H : (if t185 = t186 then ((manystrandref07_of.f k l0_1).bind fun t187 => ((manystrandref07_of.f k l1_1).bind fun t188 => (if t187 = t188 then (if a0_2 = a1_2 then (some (a0_3 == a1_3)) else (some false)) else (some false)))) else (some false)) = some true := H
   have A8 := Aside0.mk A80
   clear A80
   by_cases c9 : t185 = t186
   ·rw [if_pos c9] at H
    have c9b0 : (t185 == t186) = true := beq_iff_eq.mpr c9
    have c9b1 : (t185 != t186) = false := bne_eq_false_iff_eq.mpr c9
    clear c9
    replace H := Option.bind_eq_some_iff.mp H
    obtain ⟨t187, A100, H⟩ := H
    replace H : ((manystrandref07_of.f k l1_1).bind fun t188 => (if t187 = t188 then (if a0_2 = a1_2 then (some (a0_3 == a1_3)) else (some false)) else (some false))) = some true := H
    have A10 := Aside0.mk A100
    clear A100
    replace H := Option.bind_eq_some_iff.mp H
    obtain ⟨t188, A110, H⟩ := H
    replace H : (if t187 = t188 then (if a0_2 = a1_2 then (some (a0_3 == a1_3)) else (some false)) else (some false)) = some true := H
    have A11 := Aside0.mk A110
    clear A110
    by_cases c12 : t187 = t188
    ·rw [if_pos c12] at H
     have c12b0 : (t187 == t188) = true := beq_iff_eq.mpr c12
     have c12b1 : (t187 != t188) = false := bne_eq_false_iff_eq.mpr c12
     clear c12
     by_cases c13 : a0_2 = a1_2
     ·rw [if_pos c13] at H
      have c13b0 : (a0_2 == a1_2) = true := beq_iff_eq.mpr c13
      have c13b1 : (a0_2 != a1_2) = false := bne_eq_false_iff_eq.mpr c13
      clear c13
      have HZ := Aside0.mk (Option.some.inj H)
      clear H
      go_enter Try.func18, Try.ntmps18
      try go_wp2_with (first | ((with_reducible refine gate_dst (N := 2) rfl ?_); refine box_event ?hg (N := 2) ?hd (cs := #[.slice A0_0 l0_0.length c0_0, .slice A0_1 l0_1.length c0_1, .int .i64 a0_2, .int .i64 a0_3]) (t := 37) ?hr ?_; (case hd => rfl); (case hg => rfl); (case hr => first | (go_simp; done) | (go_simp; rfl)); intro gb181 hg w14 hbox hb; have n0_ := Aside0.mk (below_step bSt_ hb); have n1_ := Aside0.mk (hbox); have n2_ := Aside0.mk ((by rw [hg]; exact (below_size bSt_) : w.heap.size ≤ gb181)); have n3_ := Aside0.mk ((by rw [hg]; exact (below_size bSt_) : w.heap.size ≤ gb181)); clear HB; have HB := n0_; have BK181 := n1_; have GW181 := n2_; have GE181 := n3_; clear n0_ n1_ n2_ n3_; clear hb hbox hg) | ((with_reducible refine gate_dst (N := 3) rfl ?_); refine box_event ?hg (N := 3) ?hd (cs := #[.slice A1_0 l1_0.length c1_0, .slice A1_1 l1_1.length c1_1, .int .i64 a1_2, .int .i64 a1_3]) (t := 37) ?hr ?_; (case hd => rfl); (case hg => rfl); (case hr => first | (go_simp; done) | (go_simp; rfl)); intro gb182 hg w15 hbox hb; have n0_ := Aside0.mk (blk_below (bKq_ BK181.out) hb); have n1_ := Aside0.mk (below_step bSt_ hb); have n2_ := Aside0.mk (hbox); have n3_ := Aside0.mk ((by rw [hg]; exact (below_size bSt_) : w.heap.size ≤ gb182)); have n4_ := Aside0.mk ((by rw [hg]; exact (below_size bSt_) : w.heap.size ≤ gb182)); have n5_ := Aside0.mk ((by rw [hg]; exact Nat.ne_of_lt (blk_lt (bKq_ BK181.out)) : gb181 ≠ gb182)); have n6_ := Aside0.mk ((by rw [hg]; exact Nat.ne_of_gt (blk_lt (bKq_ BK181.out)) : gb182 ≠ gb181)); clear BK181; clear HB; have BK181 := n0_; have HB := n1_; have BK182 := n2_; have GW182 := n3_; have GE182 := n4_; have NB181_182 := n5_; have NB182_181 := n6_; clear n0_ n1_ n2_ n3_ n4_ n5_ n6_; clear hb hbox hg))
      have n0_ := Aside0.mk (blk_drew BK181.out)
      have n1_ := Aside0.mk (blk_drew BK182.out)
      have n2_ := Aside0.mk (below_drew1 HB.out)
      clear BK181
      clear BK182
      clear HB
      have BK181 := n0_
      have BK182 := n1_
      have HB := n2_
      clear n0_ n1_ n2_
      refine start_ (n := 39) (S := fun w' => w'.cell? ⟨gb181, 0, none⟩ = some (.slice A0_0 l0_0.length c0_0) ∧ w'.cell? ⟨gb181, 1, none⟩ = some (.slice A0_1 l0_1.length c0_1) ∧ w'.cell? ⟨gb181, 2, none⟩ = some (.int .i64 a0_2) ∧ w'.cell? ⟨gb181, 3, none⟩ = some (.int .i64 a0_3) ∧ w'.cell? ⟨gb182, 0, none⟩ = some (.slice A1_0 l1_0.length c1_0) ∧ w'.cell? ⟨gb182, 1, none⟩ = some (.slice A1_1 l1_1.length c1_1) ∧ w'.cell? ⟨gb182, 2, none⟩ = some (.int .i64 a1_2) ∧ w'.cell? ⟨gb182, 3, none⟩ = some (.int .i64 a1_3)) (ds := []) (Array.replicate 39 false) (by kernel_rfl) rfl rfl ⟨(blk_cell BK181.out 0).trans rfl, (blk_cell BK181.out 1).trans rfl, (blk_cell BK181.out 2).trans rfl, (blk_cell BK181.out 3).trans rfl, (blk_cell BK182.out 0).trans rfl, (blk_cell BK182.out 1).trans rfl, (blk_cell BK182.out 2).trans rfl, (blk_cell BK182.out 3).trans rfl⟩ (fun hHeld => ?_); refine with_tabW famSameT.tab1 famSameT.bits1 (fun HT_ HW_ => ?_)
      generalize w15.drew = w16 at BK181 BK182 HB hHeld ⊢
      refine take_ (i := 0) (N := some 5) (v := ?_) (a' := ?_) #[true, false, false, false, false, false, false, false, false, false, false, false, false, false, false, false, false, false, false, false, false, false, false, false, false, false, false, false, false, false, false, false, false, false, false, false, false, false, false] rfl rfl (take_ofW HT_.out HW_.out (by kernel_rfl)) (fun _ _ _ h => h) (Or.inl ⟨by rfl, ?_⟩) hHeld ?_ ?_
      rotate_left
      ·rintro w' ⟨s0, s1, s2, s3, s4, s5, s6, s7⟩
       go_simp
       with_reducible rfl
      rotate_left
      ·simp only [Act.put, List.setIfInBounds_toArray, List.set_cons_zero, List.set_cons_succ, i64_w, i32_w]
       rfl
      refine one_ (i := 1) (N := some 6) #[true, true, false, false, false, false, false, false, false, false, false, false, false, false, false, false, false, false, false, false, false, false, false, false, false, false, false, false, false, false, false, false, false, false, false, false, false, false, false] rfl rfl (one_of HT_.out (by kernel_rfl)) (by decide) (fun K hK => ?_)
      refine goes_ Try.func23 (by kernel_rfl) rfl #[.agg #[.slice A0_0 l0_0.length c0_0, .slice A0_1 l0_1.length c0_1, .int .i64 a0_2, .int .i64 a0_3]] (by rfl) rfl rfl (by (try simp only [List.map_toArray, List.map_cons, List.map_nil]); first | done | rfl | (simp only [List.length_drop, List.length_take]; rfl)) ?_
      with_reducible refine (manystrandref07_Valid.calls k _ _ l0_0 _ _ l0_1 a0_2 a0_3 true _ ?side1 ?side2 ?side3 ?side4 A3.out).mono ?_
      (case side1 => repeat (first | exact (Kd.C_below HR0_0.out HB.out) | (with_reducible refine Kd.C_alloc ?_ _) | (with_reducible refine Kd.C_drewN ?_ _) | (with_reducible refine Kd.C_drew ?_)))
      (case side2 => exact HC0_0.out)
      (case side3 => repeat (first | exact (Kd.C_below HR0_1.out HB.out) | (with_reducible refine Kd.C_alloc ?_ _) | (with_reducible refine Kd.C_drewN ?_ _) | (with_reducible refine Kd.C_drew ?_)))
      (case side4 => exact HC0_1.out)
      rintro e w17 ⟨rfl, hb⟩
      refine ⟨_, rfl, ?_⟩
      have n0_ := Aside0.mk (blk_below (bKq_ BK181.out) hb)
      have n1_ := Aside0.mk (blk_below (bKq_ BK182.out) hb)
      have n2_ := Aside0.mk (below_step bSt_ hb)
      clear BK181
      clear BK182
      clear HB
      have BK181 := n0_
      have BK182 := n1_
      have HB := n2_
      clear n0_ n1_ n2_
      (try clear hb)
      (try clear hb2)
      (try clear hk)
      (try clear hi)
      refine hK.out _ _ ⟨(blk_cell BK181.out 0).trans rfl, (blk_cell BK181.out 1).trans rfl, (blk_cell BK181.out 2).trans rfl, (blk_cell BK181.out 3).trans rfl, (blk_cell BK182.out 0).trans rfl, (blk_cell BK182.out 1).trans rfl, (blk_cell BK182.out 2).trans rfl, (blk_cell BK182.out 3).trans rfl⟩ (fun hHeld => ?_)
      clear hK K
      refine norm_ (a' := ?_) ?_ ?_
      rotate_left
      ·show Act.put _ (some 6) _ = _
       simp only [Act.put, List.setIfInBounds_toArray, List.set_cons_zero, List.set_cons_succ, i64_w, i32_w]
       rfl
      refine pure_ (i := 2) (N := some 7) (v := ?_) (a' := ?_) #[true, true, true, false, false, false, false, false, false, false, false, false, false, false, false, false, false, false, false, false, false, false, false, false, false, false, false, false, false, false, false, false, false, false, false, false, false, false, false] rfl rfl (any_of HT_.out (by kernel_rfl)) (fun _ _ _ h => h) (Or.inl ⟨by rfl, ?_⟩) ?_ ?_
      rotate_left
      ·intro w'
       go_simp
       with_reducible rfl
      rotate_left
      ·simp only [Act.put, List.setIfInBounds_toArray, List.set_cons_zero, List.set_cons_succ, i64_w, i32_w]
       rfl
      refine take_ (i := 3) (N := some 8) (v := ?_) (a' := ?_) #[true, true, true, true, false, false, false, false, false, false, false, false, false, false, false, false, false, false, false, false, false, false, false, false, false, false, false, false, false, false, false, false, false, false, false, false, false, false, false] rfl rfl (take_ofW HT_.out HW_.out (by kernel_rfl)) (fun _ _ _ h => h) (Or.inl ⟨by rfl, ?_⟩) hHeld ?_ ?_
      rotate_left
      ·rintro w' ⟨s0, s1, s2, s3, s4, s5, s6, s7⟩
       go_simp
       with_reducible rfl
      rotate_left
      ·simp only [Act.put, List.setIfInBounds_toArray, List.set_cons_zero, List.set_cons_succ, i64_w, i32_w]
       rfl
      refine one_ (i := 4) (N := some 9) #[true, true, true, true, true, false, false, false, false, false, false, false, false, false, false, false, false, false, false, false, false, false, false, false, false, false, false, false, false, false, false, false, false, false, false, false, false, false, false] rfl rfl (one_of HT_.out (by kernel_rfl)) (by decide) (fun K hK => ?_)
      refine goes_ Try.func23 (by kernel_rfl) rfl #[.agg #[.slice A1_0 l1_0.length c1_0, .slice A1_1 l1_1.length c1_1, .int .i64 a1_2, .int .i64 a1_3]] (by rfl) rfl rfl (by (try simp only [List.map_toArray, List.map_cons, List.map_nil]); first | done | rfl | (simp only [List.length_drop, List.length_take]; rfl)) ?_
      with_reducible refine (manystrandref07_Valid.calls k _ _ l1_0 _ _ l1_1 a1_2 a1_3 true _ ?side1 ?side2 ?side3 ?side4 A5.out).mono ?_
      (case side1 => repeat (first | exact (Kd.C_below HR1_0.out HB.out) | (with_reducible refine Kd.C_alloc ?_ _) | (with_reducible refine Kd.C_drewN ?_ _) | (with_reducible refine Kd.C_drew ?_)))
      (case side2 => exact HC1_0.out)
      (case side3 => repeat (first | exact (Kd.C_below HR1_1.out HB.out) | (with_reducible refine Kd.C_alloc ?_ _) | (with_reducible refine Kd.C_drewN ?_ _) | (with_reducible refine Kd.C_drew ?_)))
      (case side4 => exact HC1_1.out)
      rintro e w18 ⟨rfl, hb⟩
      refine ⟨_, rfl, ?_⟩
      have n0_ := Aside0.mk (blk_below (bKq_ BK181.out) hb)
      have n1_ := Aside0.mk (blk_below (bKq_ BK182.out) hb)
      have n2_ := Aside0.mk (below_step bSt_ hb)
      clear BK181
      clear BK182
      clear HB
      have BK181 := n0_
      have BK182 := n1_
      have HB := n2_
      clear n0_ n1_ n2_
      (try clear hb)
      (try clear hb2)
      (try clear hk)
      (try clear hi)
      refine hK.out _ _ ⟨(blk_cell BK181.out 0).trans rfl, (blk_cell BK181.out 1).trans rfl, (blk_cell BK181.out 2).trans rfl, (blk_cell BK181.out 3).trans rfl, (blk_cell BK182.out 0).trans rfl, (blk_cell BK182.out 1).trans rfl, (blk_cell BK182.out 2).trans rfl, (blk_cell BK182.out 3).trans rfl⟩ (fun hHeld => ?_)
      clear hK K
      refine norm_ (a' := ?_) ?_ ?_
      rotate_left
      ·show Act.put _ (some 9) _ = _
       simp only [Act.put, List.setIfInBounds_toArray, List.set_cons_zero, List.set_cons_succ, i64_w, i32_w]
       rfl
      refine pure_ (i := 5) (N := some 10) (v := ?_) (a' := ?_) #[true, true, true, true, true, true, false, false, false, false, false, false, false, false, false, false, false, false, false, false, false, false, false, false, false, false, false, false, false, false, false, false, false, false, false, false, false, false, false] rfl rfl (any_of HT_.out (by kernel_rfl)) (fun _ _ _ h => h) (Or.inl ⟨by rfl, ?_⟩) ?_ ?_
      rotate_left
      ·intro w'
       go_simp
       with_reducible rfl
      rotate_left
      ·simp only [Act.put, List.setIfInBounds_toArray, List.set_cons_zero, List.set_cons_succ, i64_w, i32_w]
       rfl
      refine pure_ (i := 6) (N := some 11) (v := ?_) (a' := ?_) #[true, true, true, true, true, true, true, false, false, false, false, false, false, false, false, false, false, false, false, false, false, false, false, false, false, false, false, false, false, false, false, false, false, false, false, false, false, false, false] rfl rfl (any_of HT_.out (by kernel_rfl)) (fun _ _ _ h => h) (Or.inl ⟨by rfl, ?_⟩) ?_ ?_
      rotate_left
      ·intro w'
       go_simp
       with_reducible rfl
      rotate_left
      ·simp only [Act.put, List.setIfInBounds_toArray, List.set_cons_zero, List.set_cons_succ, i64_w, i32_w]
       rfl
      refine pure_ (i := 7) (N := some 12) (v := ?_) (a' := ?_) #[true, true, true, true, true, true, true, true, false, false, false, false, false, false, false, false, false, false, false, false, false, false, false, false, false, false, false, false, false, false, false, false, false, false, false, false, false, false, false] rfl rfl (any_of HT_.out (by kernel_rfl)) (fun _ _ _ h => h) (Or.inl ⟨by rfl, ?_⟩) ?_ ?_
      rotate_left
      ·intro w'
       go_simp
       with_reducible rfl
      rotate_left
      ·simp only [Act.put, List.setIfInBounds_toArray, List.set_cons_zero, List.set_cons_succ, i64_w, i32_w]
       rfl
      refine pure_ (i := 10) (N := some 15) (v := ?_) (a' := ?_) #[true, true, true, true, true, true, true, true, false, false, true, false, false, false, false, false, false, false, false, false, false, false, false, false, false, false, false, false, false, false, false, false, false, false, false, false, false, false, false] rfl rfl (any_of HT_.out (by kernel_rfl)) (fun _ _ _ h => h) (Or.inl ⟨by rfl, ?_⟩) ?_ ?_
      rotate_left
      ·intro w'
       go_simp
       with_reducible rfl
      rotate_left
      ·simp only [Act.put, List.setIfInBounds_toArray, List.set_cons_zero, List.set_cons_succ, i64_w, i32_w]
       rfl
      refine take_ (i := 8) (N := some 13) (v := ?_) (a' := ?_) #[true, true, true, true, true, true, true, true, true, false, true, false, false, false, false, false, false, false, false, false, false, false, false, false, false, false, false, false, false, false, false, false, false, false, false, false, false, false, false] rfl rfl (take_ofW HT_.out HW_.out (by kernel_rfl)) (fun _ _ _ h => h) (Or.inl ⟨by rfl, ?_⟩) hHeld ?_ ?_
      rotate_left
      ·rintro w' ⟨s0, s1, s2, s3, s4, s5, s6, s7⟩
       go_simp
       with_reducible rfl
      rotate_left
      ·simp only [Act.put, List.setIfInBounds_toArray, List.set_cons_zero, List.set_cons_succ, i64_w, i32_w]
       rfl
      refine take_ (i := 11) (N := some 16) (v := ?_) (a' := ?_) #[true, true, true, true, true, true, true, true, true, false, true, true, false, false, false, false, false, false, false, false, false, false, false, false, false, false, false, false, false, false, false, false, false, false, false, false, false, false, false] rfl rfl (take_ofW HT_.out HW_.out (by kernel_rfl)) (fun _ _ _ h => h) (Or.inl ⟨by rfl, ?_⟩) hHeld ?_ ?_
      rotate_left
      ·rintro w' ⟨s0, s1, s2, s3, s4, s5, s6, s7⟩
       go_simp
       with_reducible rfl
      rotate_left
      ·simp only [Act.put, List.setIfInBounds_toArray, List.set_cons_zero, List.set_cons_succ, i64_w, i32_w]
       rfl
      refine one_ (i := 9) (N := some 14) #[true, true, true, true, true, true, true, true, true, true, true, true, false, false, false, false, false, false, false, false, false, false, false, false, false, false, false, false, false, false, false, false, false, false, false, false, false, false, false] rfl rfl (one_of HT_.out (by kernel_rfl)) (by decide) (fun K hK => ?_)
      refine goes_ Try.func46 (by kernel_rfl) rfl #[.slice A0_0 l0_0.length c0_0] (by rfl) rfl rfl (by (try simp only [List.map_toArray, List.map_cons, List.map_nil]); first | done | rfl | (simp only [List.length_drop, List.length_take]; rfl)) ?_
      with_reducible refine (manystrandref07_of.calls k _ _ l0_0 t185 _ ?side1 ?side2 A7.out).mono ?_
      (case side1 => repeat (first | exact (Kd.C_below HR0_0.out HB.out) | (with_reducible refine Kd.C_alloc ?_ _) | (with_reducible refine Kd.C_drewN ?_ _) | (with_reducible refine Kd.C_drew ?_)))
      (case side2 => exact HC0_0.out)
      rintro e w' ⟨rfl, ⟨nd, rfl⟩⟩
      refine ⟨_, rfl, ?_⟩
      refine hK.out _ _ ⟨(blk_cell BK181.out 0).trans rfl, (blk_cell BK181.out 1).trans rfl, (blk_cell BK181.out 2).trans rfl, (blk_cell BK181.out 3).trans rfl, (blk_cell BK182.out 0).trans rfl, (blk_cell BK182.out 1).trans rfl, (blk_cell BK182.out 2).trans rfl, (blk_cell BK182.out 3).trans rfl⟩ (fun hHeld => ?_)
      clear hK K
      refine norm_ (a' := ?_) ?_ ?_
      rotate_left
      ·show Act.put _ (some 14) _ = _
       simp only [Act.put, List.setIfInBounds_toArray, List.set_cons_zero, List.set_cons_succ, i64_w, i32_w]
       rfl
      refine one_ (i := 12) (N := some 17) #[true, true, true, true, true, true, true, true, true, true, true, true, true, false, false, false, false, false, false, false, false, false, false, false, false, false, false, false, false, false, false, false, false, false, false, false, false, false, false] rfl rfl (one_of HT_.out (by kernel_rfl)) (by decide) (fun K hK => ?_)
      refine goes_ Try.func46 (by kernel_rfl) rfl #[.slice A1_0 l1_0.length c1_0] (by rfl) rfl rfl (by (try simp only [List.map_toArray, List.map_cons, List.map_nil]); first | done | rfl | (simp only [List.length_drop, List.length_take]; rfl)) ?_
      with_reducible refine (manystrandref07_of.calls k _ _ l1_0 t186 _ ?side1 ?side2 A8.out).mono ?_
      (case side1 => repeat (first | exact (Kd.C_below HR1_0.out bSt_) | (with_reducible refine Kd.C_alloc ?_ _) | (with_reducible refine Kd.C_drewN ?_ _) | (with_reducible refine Kd.C_drew ?_)))
      (case side2 => exact HC1_0.out)
      rintro e w' ⟨rfl, ⟨nd, rfl⟩⟩
      refine ⟨_, rfl, ?_⟩
      refine hK.out _ _ ⟨(blk_cell BK181.out 0).trans rfl, (blk_cell BK181.out 1).trans rfl, (blk_cell BK181.out 2).trans rfl, (blk_cell BK181.out 3).trans rfl, (blk_cell BK182.out 0).trans rfl, (blk_cell BK182.out 1).trans rfl, (blk_cell BK182.out 2).trans rfl, (blk_cell BK182.out 3).trans rfl⟩ (fun hHeld => ?_)
      clear hK K
      refine norm_ (a' := ?_) ?_ ?_
      rotate_left
      ·show Act.put _ (some 17) _ = _
       simp only [Act.put, List.setIfInBounds_toArray, List.set_cons_zero, List.set_cons_succ, i64_w, i32_w]
       rfl
      refine pure_ (i := 13) (N := some 18) (v := ?_) (a' := ?_) #[true, true, true, true, true, true, true, true, true, true, true, true, true, true, false, false, false, false, false, false, false, false, false, false, false, false, false, false, false, false, false, false, false, false, false, false, false, false, false] rfl rfl (any_of HT_.out (by kernel_rfl)) (fun _ _ _ h => h) (Or.inl ⟨by rfl, ?_⟩) ?_ ?_
      rotate_left
      ·intro w'
       go_simp
       with_reducible rfl
      rotate_left
      ·simp only [Act.put, List.setIfInBounds_toArray, List.set_cons_zero, List.set_cons_succ, i64_w, i32_w]
       rfl
      refine pure_ (i := 14) (N := some 19) (v := ?_) (a' := ?_) #[true, true, true, true, true, true, true, true, true, true, true, true, true, true, true, false, false, false, false, false, false, false, false, false, false, false, false, false, false, false, false, false, false, false, false, false, false, false, false] rfl rfl (any_of HT_.out (by kernel_rfl)) (fun _ _ _ h => h) (Or.inl ⟨by rfl, ?_⟩) ?_ ?_
      rotate_left
      ·intro w'
       go_simp
       with_reducible rfl
      rotate_left
      ·simp only [Act.put, List.setIfInBounds_toArray, List.set_cons_zero, List.set_cons_succ, i64_w, i32_w]
       rfl
      refine pure_ (i := 15) (N := some 20) (v := ?_) (a' := ?_) #[true, true, true, true, true, true, true, true, true, true, true, true, true, true, true, true, false, false, false, false, false, false, false, false, false, false, false, false, false, false, false, false, false, false, false, false, false, false, false] rfl rfl (any_of HT_.out (by kernel_rfl)) (fun _ _ _ h => h) (Or.inl ⟨by rfl, ?_⟩) ?_ ?_
      rotate_left
      ·intro w'
       go_simp
       with_reducible rfl
      rotate_left
      ·simp only [Act.put, List.setIfInBounds_toArray, List.set_cons_zero, List.set_cons_succ, i64_w, i32_w]
       rfl
      refine pure_ (i := 16) (N := some 21) (v := ?_) (a' := ?_) #[true, true, true, true, true, true, true, true, true, true, true, true, true, true, true, true, true, false, false, false, false, false, false, false, false, false, false, false, false, false, false, false, false, false, false, false, false, false, false] rfl rfl (any_of HT_.out (by kernel_rfl)) (fun _ _ _ h => h) (Or.inl ⟨by rfl, ?_⟩) ?_ ?_
      rotate_left
      ·intro w'
       go_simp
       with_reducible rfl
      rotate_left
      ·simp only [Act.put, List.setIfInBounds_toArray, List.set_cons_zero, List.set_cons_succ, i64_w, i32_w]
       rfl
      refine pure_ (i := 19) (N := some 24) (v := ?_) (a' := ?_) #[true, true, true, true, true, true, true, true, true, true, true, true, true, true, true, true, true, false, false, true, false, false, false, false, false, false, false, false, false, false, false, false, false, false, false, false, false, false, false] rfl rfl (any_of HT_.out (by kernel_rfl)) (fun _ _ _ h => h) (Or.inl ⟨by rfl, ?_⟩) ?_ ?_
      rotate_left
      ·intro w'
       go_simp
       with_reducible rfl
      rotate_left
      ·simp only [Act.put, List.setIfInBounds_toArray, List.set_cons_zero, List.set_cons_succ, i64_w, i32_w]
       rfl
      refine take_ (i := 17) (N := some 22) (v := ?_) (a' := ?_) #[true, true, true, true, true, true, true, true, true, true, true, true, true, true, true, true, true, true, false, true, false, false, false, false, false, false, false, false, false, false, false, false, false, false, false, false, false, false, false] rfl rfl (take_ofW HT_.out HW_.out (by kernel_rfl)) (fun _ _ _ h => h) (Or.inl ⟨by rfl, ?_⟩) hHeld ?_ ?_
      rotate_left
      ·rintro w' ⟨s0, s1, s2, s3, s4, s5, s6, s7⟩
       go_simp
       with_reducible rfl
      rotate_left
      ·simp only [Act.put, List.setIfInBounds_toArray, List.set_cons_zero, List.set_cons_succ, i64_w, i32_w]
       rfl
      refine take_ (i := 20) (N := some 25) (v := ?_) (a' := ?_) #[true, true, true, true, true, true, true, true, true, true, true, true, true, true, true, true, true, true, false, true, true, false, false, false, false, false, false, false, false, false, false, false, false, false, false, false, false, false, false] rfl rfl (take_ofW HT_.out HW_.out (by kernel_rfl)) (fun _ _ _ h => h) (Or.inl ⟨by rfl, ?_⟩) hHeld ?_ ?_
      rotate_left
      ·rintro w' ⟨s0, s1, s2, s3, s4, s5, s6, s7⟩
       go_simp
       with_reducible rfl
      rotate_left
      ·simp only [Act.put, List.setIfInBounds_toArray, List.set_cons_zero, List.set_cons_succ, i64_w, i32_w]
       rfl
      refine one_ (i := 18) (N := some 23) #[true, true, true, true, true, true, true, true, true, true, true, true, true, true, true, true, true, true, true, true, true, false, false, false, false, false, false, false, false, false, false, false, false, false, false, false, false, false, false] rfl rfl (one_of HT_.out (by kernel_rfl)) (by decide) (fun K hK => ?_)
      refine goes_ Try.func46 (by kernel_rfl) rfl #[.slice A0_1 l0_1.length c0_1] (by rfl) rfl rfl (by (try simp only [List.map_toArray, List.map_cons, List.map_nil]); first | done | rfl | (simp only [List.length_drop, List.length_take]; rfl)) ?_
      with_reducible refine (manystrandref07_of.calls k _ _ l0_1 t187 _ ?side1 ?side2 A10.out).mono ?_
      (case side1 => repeat (first | exact (Kd.C_below HR0_1.out bSt_) | (with_reducible refine Kd.C_alloc ?_ _) | (with_reducible refine Kd.C_drewN ?_ _) | (with_reducible refine Kd.C_drew ?_)))
      (case side2 => exact HC0_1.out)
      rintro e w' ⟨rfl, ⟨nd, rfl⟩⟩
      refine ⟨_, rfl, ?_⟩
      refine hK.out _ _ ⟨(blk_cell BK181.out 0).trans rfl, (blk_cell BK181.out 1).trans rfl, (blk_cell BK181.out 2).trans rfl, (blk_cell BK181.out 3).trans rfl, (blk_cell BK182.out 0).trans rfl, (blk_cell BK182.out 1).trans rfl, (blk_cell BK182.out 2).trans rfl, (blk_cell BK182.out 3).trans rfl⟩ (fun hHeld => ?_)
      clear hK K
      refine norm_ (a' := ?_) ?_ ?_
      rotate_left
      ·show Act.put _ (some 23) _ = _
       simp only [Act.put, List.setIfInBounds_toArray, List.set_cons_zero, List.set_cons_succ, i64_w, i32_w]
       rfl
      refine one_ (i := 21) (N := some 26) #[true, true, true, true, true, true, true, true, true, true, true, true, true, true, true, true, true, true, true, true, true, true, false, false, false, false, false, false, false, false, false, false, false, false, false, false, false, false, false] rfl rfl (one_of HT_.out (by kernel_rfl)) (by decide) (fun K hK => ?_)
      refine goes_ Try.func46 (by kernel_rfl) rfl #[.slice A1_1 l1_1.length c1_1] (by rfl) rfl rfl (by (try simp only [List.map_toArray, List.map_cons, List.map_nil]); first | done | rfl | (simp only [List.length_drop, List.length_take]; rfl)) ?_
      with_reducible refine (manystrandref07_of.calls k _ _ l1_1 t188 _ ?side1 ?side2 A11.out).mono ?_
      (case side1 => repeat (first | exact (Kd.C_below HR1_1.out bSt_) | (with_reducible refine Kd.C_alloc ?_ _) | (with_reducible refine Kd.C_drewN ?_ _) | (with_reducible refine Kd.C_drew ?_)))
      (case side2 => exact HC1_1.out)
      rintro e w' ⟨rfl, ⟨nd, rfl⟩⟩
      refine ⟨_, rfl, ?_⟩
      refine hK.out _ _ ⟨(blk_cell BK181.out 0).trans rfl, (blk_cell BK181.out 1).trans rfl, (blk_cell BK181.out 2).trans rfl, (blk_cell BK181.out 3).trans rfl, (blk_cell BK182.out 0).trans rfl, (blk_cell BK182.out 1).trans rfl, (blk_cell BK182.out 2).trans rfl, (blk_cell BK182.out 3).trans rfl⟩ (fun hHeld => ?_)
      clear hK K
      refine norm_ (a' := ?_) ?_ ?_
      rotate_left
      ·show Act.put _ (some 26) _ = _
       simp only [Act.put, List.setIfInBounds_toArray, List.set_cons_zero, List.set_cons_succ, i64_w, i32_w]
       rfl
      refine pure_ (i := 22) (N := some 27) (v := ?_) (a' := ?_) #[true, true, true, true, true, true, true, true, true, true, true, true, true, true, true, true, true, true, true, true, true, true, true, false, false, false, false, false, false, false, false, false, false, false, false, false, false, false, false] rfl rfl (any_of HT_.out (by kernel_rfl)) (fun _ _ _ h => h) (Or.inl ⟨by rfl, ?_⟩) ?_ ?_
      rotate_left
      ·intro w'
       go_simp
       with_reducible rfl
      rotate_left
      ·simp only [Act.put, List.setIfInBounds_toArray, List.set_cons_zero, List.set_cons_succ, i64_w, i32_w]
       rfl
      refine pure_ (i := 23) (N := some 28) (v := ?_) (a' := ?_) #[true, true, true, true, true, true, true, true, true, true, true, true, true, true, true, true, true, true, true, true, true, true, true, true, false, false, false, false, false, false, false, false, false, false, false, false, false, false, false] rfl rfl (any_of HT_.out (by kernel_rfl)) (fun _ _ _ h => h) (Or.inl ⟨by rfl, ?_⟩) ?_ ?_
      rotate_left
      ·intro w'
       go_simp
       with_reducible rfl
      rotate_left
      ·simp only [Act.put, List.setIfInBounds_toArray, List.set_cons_zero, List.set_cons_succ, i64_w, i32_w]
       rfl
      refine pure_ (i := 24) (N := some 29) (v := ?_) (a' := ?_) #[true, true, true, true, true, true, true, true, true, true, true, true, true, true, true, true, true, true, true, true, true, true, true, true, true, false, false, false, false, false, false, false, false, false, false, false, false, false, false] rfl rfl (any_of HT_.out (by kernel_rfl)) (fun _ _ _ h => h) (Or.inl ⟨by rfl, ?_⟩) ?_ ?_
      rotate_left
      ·intro w'
       go_simp
       with_reducible rfl
      rotate_left
      ·simp only [Act.put, List.setIfInBounds_toArray, List.set_cons_zero, List.set_cons_succ, i64_w, i32_w]
       rfl
      refine pure_ (i := 25) (N := some 30) (v := ?_) (a' := ?_) #[true, true, true, true, true, true, true, true, true, true, true, true, true, true, true, true, true, true, true, true, true, true, true, true, true, true, false, false, false, false, false, false, false, false, false, false, false, false, false] rfl rfl (any_of HT_.out (by kernel_rfl)) (fun _ _ _ h => h) (Or.inl ⟨by rfl, ?_⟩) ?_ ?_
      rotate_left
      ·intro w'
       go_simp
       with_reducible rfl
      rotate_left
      ·simp only [Act.put, List.setIfInBounds_toArray, List.set_cons_zero, List.set_cons_succ, i64_w, i32_w]
       rfl
      refine pure_ (i := 27) (N := some 32) (v := ?_) (a' := ?_) #[true, true, true, true, true, true, true, true, true, true, true, true, true, true, true, true, true, true, true, true, true, true, true, true, true, true, false, true, false, false, false, false, false, false, false, false, false, false, false] rfl rfl (any_of HT_.out (by kernel_rfl)) (fun _ _ _ h => h) (Or.inl ⟨by rfl, ?_⟩) ?_ ?_
      rotate_left
      ·intro w'
       go_simp
       with_reducible rfl
      rotate_left
      ·simp only [Act.put, List.setIfInBounds_toArray, List.set_cons_zero, List.set_cons_succ, i64_w, i32_w]
       rfl
      refine take_ (i := 26) (N := some 31) (v := ?_) (a' := ?_) #[true, true, true, true, true, true, true, true, true, true, true, true, true, true, true, true, true, true, true, true, true, true, true, true, true, true, true, true, false, false, false, false, false, false, false, false, false, false, false] rfl rfl (take_ofW HT_.out HW_.out (by kernel_rfl)) (fun _ _ _ h => h) (Or.inl ⟨by rfl, ?_⟩) hHeld ?_ ?_
      rotate_left
      ·rintro w' ⟨s0, s1, s2, s3, s4, s5, s6, s7⟩
       go_simp
       with_reducible rfl
      rotate_left
      ·simp only [Act.put, List.setIfInBounds_toArray, List.set_cons_zero, List.set_cons_succ, i64_w, i32_w]
       rfl
      refine take_ (i := 28) (N := some 33) (v := ?_) (a' := ?_) #[true, true, true, true, true, true, true, true, true, true, true, true, true, true, true, true, true, true, true, true, true, true, true, true, true, true, true, true, true, false, false, false, false, false, false, false, false, false, false] rfl rfl (take_ofW HT_.out HW_.out (by kernel_rfl)) (fun _ _ _ h => h) (Or.inl ⟨by rfl, ?_⟩) hHeld ?_ ?_
      rotate_left
      ·rintro w' ⟨s0, s1, s2, s3, s4, s5, s6, s7⟩
       go_simp
       with_reducible rfl
      rotate_left
      ·simp only [Act.put, List.setIfInBounds_toArray, List.set_cons_zero, List.set_cons_succ, i64_w, i32_w]
       rfl
      refine pure_ (i := 29) (N := some 34) (v := ?_) (a' := ?_) #[true, true, true, true, true, true, true, true, true, true, true, true, true, true, true, true, true, true, true, true, true, true, true, true, true, true, true, true, true, true, false, false, false, false, false, false, false, false, false] rfl rfl (any_of HT_.out (by kernel_rfl)) (fun _ _ _ h => h) (Or.inl ⟨by rfl, ?_⟩) ?_ ?_
      rotate_left
      ·intro w'
       go_simp
       with_reducible rfl
      rotate_left
      ·simp only [Act.put, List.setIfInBounds_toArray, List.set_cons_zero, List.set_cons_succ, i64_w, i32_w]
       rfl
      refine pure_ (i := 30) (N := some 35) (v := ?_) (a' := ?_) #[true, true, true, true, true, true, true, true, true, true, true, true, true, true, true, true, true, true, true, true, true, true, true, true, true, true, true, true, true, true, true, false, false, false, false, false, false, false, false] rfl rfl (any_of HT_.out (by kernel_rfl)) (fun _ _ _ h => h) (Or.inl ⟨by rfl, ?_⟩) ?_ ?_
      rotate_left
      ·intro w'
       go_simp
       with_reducible rfl
      rotate_left
      ·simp only [Act.put, List.setIfInBounds_toArray, List.set_cons_zero, List.set_cons_succ, i64_w, i32_w]
       rfl
      refine pure_ (i := 31) (N := some 36) (v := ?_) (a' := ?_) #[true, true, true, true, true, true, true, true, true, true, true, true, true, true, true, true, true, true, true, true, true, true, true, true, true, true, true, true, true, true, true, true, false, false, false, false, false, false, false] rfl rfl (any_of HT_.out (by kernel_rfl)) (fun _ _ _ h => h) (Or.inl ⟨by rfl, ?_⟩) ?_ ?_
      rotate_left
      ·intro w'
       go_simp
       with_reducible rfl
      rotate_left
      ·simp only [Act.put, List.setIfInBounds_toArray, List.set_cons_zero, List.set_cons_succ, i64_w, i32_w]
       rfl
      refine pure_ (i := 32) (N := some 37) (v := ?_) (a' := ?_) #[true, true, true, true, true, true, true, true, true, true, true, true, true, true, true, true, true, true, true, true, true, true, true, true, true, true, true, true, true, true, true, true, true, false, false, false, false, false, false] rfl rfl (any_of HT_.out (by kernel_rfl)) (fun _ _ _ h => h) (Or.inl ⟨by rfl, ?_⟩) ?_ ?_
      rotate_left
      ·intro w'
       go_simp
       with_reducible rfl
      rotate_left
      ·simp only [Act.put, List.setIfInBounds_toArray, List.set_cons_zero, List.set_cons_succ, i64_w, i32_w]
       rfl
      refine pure_ (i := 34) (N := some 39) (v := ?_) (a' := ?_) #[true, true, true, true, true, true, true, true, true, true, true, true, true, true, true, true, true, true, true, true, true, true, true, true, true, true, true, true, true, true, true, true, true, false, true, false, false, false, false] rfl rfl (any_of HT_.out (by kernel_rfl)) (fun _ _ _ h => h) (Or.inl ⟨by rfl, ?_⟩) ?_ ?_
      rotate_left
      ·intro w'
       go_simp
       with_reducible rfl
      rotate_left
      ·simp only [Act.put, List.setIfInBounds_toArray, List.set_cons_zero, List.set_cons_succ, i64_w, i32_w]
       rfl
      refine take_ (i := 33) (N := some 38) (v := ?_) (a' := ?_) #[true, true, true, true, true, true, true, true, true, true, true, true, true, true, true, true, true, true, true, true, true, true, true, true, true, true, true, true, true, true, true, true, true, true, true, false, false, false, false] rfl rfl (take_ofW HT_.out HW_.out (by kernel_rfl)) (fun _ _ _ h => h) (Or.inl ⟨by rfl, ?_⟩) hHeld ?_ ?_
      rotate_left
      ·rintro w' ⟨s0, s1, s2, s3, s4, s5, s6, s7⟩
       go_simp
       with_reducible rfl
      rotate_left
      ·simp only [Act.put, List.setIfInBounds_toArray, List.set_cons_zero, List.set_cons_succ, i64_w, i32_w]
       rfl
      refine take_ (i := 35) (N := some 40) (v := ?_) (a' := ?_) #[true, true, true, true, true, true, true, true, true, true, true, true, true, true, true, true, true, true, true, true, true, true, true, true, true, true, true, true, true, true, true, true, true, true, true, true, false, false, false] rfl rfl (take_ofW HT_.out HW_.out (by kernel_rfl)) (fun _ _ _ h => h) (Or.inl ⟨by rfl, ?_⟩) hHeld ?_ ?_
      rotate_left
      ·rintro w' ⟨s0, s1, s2, s3, s4, s5, s6, s7⟩
       go_simp
       with_reducible rfl
      rotate_left
      ·simp only [Act.put, List.setIfInBounds_toArray, List.set_cons_zero, List.set_cons_succ, i64_w, i32_w]
       rfl
      refine pure_ (i := 36) (N := some 41) (v := ?_) (a' := ?_) #[true, true, true, true, true, true, true, true, true, true, true, true, true, true, true, true, true, true, true, true, true, true, true, true, true, true, true, true, true, true, true, true, true, true, true, true, true, false, false] rfl rfl (any_of HT_.out (by kernel_rfl)) (fun _ _ _ h => h) (Or.inl ⟨by rfl, ?_⟩) ?_ ?_
      rotate_left
      ·intro w'
       go_simp
       with_reducible rfl
      rotate_left
      ·simp only [Act.put, List.setIfInBounds_toArray, List.set_cons_zero, List.set_cons_succ, i64_w, i32_w]
       rfl
      refine pure_ (i := 37) (N := some 42) (v := ?_) (a' := ?_) #[true, true, true, true, true, true, true, true, true, true, true, true, true, true, true, true, true, true, true, true, true, true, true, true, true, true, true, true, true, true, true, true, true, true, true, true, true, true, false] rfl rfl (any_of HT_.out (by kernel_rfl)) (fun _ _ _ h => h) (Or.inl ⟨by rfl, ?_⟩) ?_ ?_
      rotate_left
      ·intro w'
       go_simp
       with_reducible rfl
      rotate_left
      ·simp only [Act.put, List.setIfInBounds_toArray, List.set_cons_zero, List.set_cons_succ, i64_w, i32_w]
       rfl
      refine pure_ (i := 38) (N := some 4) (v := ?_) (a' := ?_) #[true, true, true, true, true, true, true, true, true, true, true, true, true, true, true, true, true, true, true, true, true, true, true, true, true, true, true, true, true, true, true, true, true, true, true, true, true, true, true] rfl rfl (any_of HT_.out (by kernel_rfl)) (fun _ _ _ h => h) (Or.inl ⟨by rfl, ?_⟩) ?_ ?_
      rotate_left
      ·intro w'
       go_simp
       with_reducible rfl
      rotate_left
      ·simp only [Act.put, List.setIfInBounds_toArray, List.set_cons_zero, List.set_cons_succ, i64_w, i32_w]
       rfl
      refine done_ (done_of HT_.out (by kernel_rfl)) ?_
      try go_wp2
      go_ret
      have HZ := HZ.out
      exact ⟨by first | rfl | (simp [errW_none, errW_some] <;> rfl) | (simp [*, errW_none, errW_some] <;> rfl) | (simp [errW_none, errW_some]; exact Go.Proofs.YtgfbgfbnmiainaaW.OwnWords.isEmpty_bne _), bSt_⟩
     ·rw [if_neg c13] at H
      have c13b0 : (a0_2 == a1_2) = false := beq_eq_false_iff_ne.mpr c13
      have c13b1 : (a0_2 != a1_2) = true := bne_iff_ne.mpr c13
      exact absurd (Option.some.inj H) (by decide)
    ·rw [if_neg c12] at H
     have c12b0 : (t187 == t188) = false := beq_eq_false_iff_ne.mpr c12
     have c12b1 : (t187 != t188) = true := bne_iff_ne.mpr c12
     exact absurd (Option.some.inj H) (by decide)
   ·rw [if_neg c9] at H
    have c9b0 : (t185 == t186) = false := beq_eq_false_iff_ne.mpr c9
    have c9b1 : (t185 != t186) = true := bne_iff_ne.mpr c9
    exact absurd (Option.some.inj H) (by decide)
  ·replace c6 := Bool.eq_false_iff.mpr c6
   subst c6
   have H1 : (some false) = some true := by rw [if_neg (show ¬ (false = true) by decide)] at H; exact H
   clear H
   have H := H1
   clear H1
   exact absurd (Option.some.inj H) (by decide)
 ·replace c4 := Bool.eq_false_iff.mpr c4
  subst c4
  have H1 : (some false) = some true := by rw [if_neg (show ¬ (false = true) by decide)] at H; exact H
  clear H
  have H := H1
  clear H1
  exact absurd (Option.some.inj H) (by decide)
end Go.Proofs.Ytgfbgfbnmiainaa.Q
/-! The reference's small functions on families: Valid, in, out, Same. -/
namespace Go.Proofs.Ytgfbgfbnmiainaa.Fam
set_option linter.unusedVariables false
set_option linter.unusedSimpArgs false
open Go.RowKit Go.Proofs.YtgfbgfbnmiainaaW.PrintWords Go.Proofs.YtgfbgfbnmiainaaW.PrintLast Go.Proofs.YtgfbgfbnmiainaaW.PrintMore Go.Proofs.Ytgfbgfbnmiainaa.Q
theorem ascB_iff : ∀ (l : List Int), ascB l = true ↔ l.Pairwise (· < ·)
  | [] => by simp [ascB]
  | [x] => by simp [ascB]
  | x :: y :: l => by
    have ih := ascB_iff (y :: l)
    simp only [ascB, Bool.and_eq_true, decide_eq_true_eq, ih]
    rw [List.pairwise_cons (a := x)]
    constructor
    · rintro ⟨h1, h2⟩
      refine ⟨fun z hz => ?_, h2⟩
      rcases List.mem_cons.mp hz with rfl | hz
      · exact h1
      · have := (List.pairwise_cons.mp h2).1 z hz
        omega
    · rintro ⟨h1, h2⟩
      exact ⟨h1 y (List.mem_cons_self ..), h2⟩
theorem chk_iff (l : List Int) : chk none l = true ↔ l.Pairwise (· < ·) ∧ ∀ x ∈ l, 0 ≤ x ∧ x ≤ 63 :=
  ⟨fun h => ⟨(chk_sort none l h).1, chk_rng none l h⟩, fun h => chk_mk none l h.2 h.1 (fun y e => by cases e)⟩
theorem numbers_f {l : List Int} (hl : l.length ≤ 1000) {k : Nat} (hk : 1000 < k) : manystrandref07_numbers.f k l = some (chk none l) := by
  unfold manystrandref07_numbers.f
  rw [manystrandref07_ascending_f l (by omega) (by omega), Option.bind_some]
  by_cases ha : ascB l = true
  · rw [if_pos ha]
    have hp := (ascB_iff l).mp ha
    by_cases h0 : (l.length : Int) = 0
    · rw [if_pos h0]
      have : l = [] := List.eq_nil_of_length_eq_zero (by omega)
      subst this
      rfl
    · rw [if_neg h0, if_pos (by omega)]
      have w : wrap64 ((l.length : Int) - 1) = ((l.length - 1 : Nat) : Int) := by unfold wrap64; omega
      have hlt : l.length - 1 < l.length := by omega
      have h0' : rd l 0 = l[0]'(by omega) := rd_at (i := 0) (by omega)
      rw [h0']
      have lo : ∀ x ∈ l, l[0]'(by omega) ≤ x := fun x hx => by
        obtain ⟨i, hi, rfl⟩ := List.mem_iff_getElem.mp hx
        rcases Nat.eq_zero_or_pos i with rfl | h
        · exact Int.le_refl _
        · exact Int.le_of_lt (List.pairwise_iff_getElem.mp hp 0 i (by omega) hi h)
      have hi : ∀ x ∈ l, x ≤ l[l.length - 1] := fun x hx => by
        obtain ⟨i, hi, rfl⟩ := List.mem_iff_getElem.mp hx
        rcases Nat.lt_or_ge i (l.length - 1) with h | h
        · exact Int.le_of_lt (List.pairwise_iff_getElem.mp hp i (l.length - 1) hi hlt h)
        · have : i = l.length - 1 := by omega
          subst this
          exact Int.le_refl _
      by_cases c0 : l[0]'(by omega) ≥ 0
      · rw [if_pos c0, w, if_pos (by omega), if_pos (by omega), rd_at hlt]
        congr 1
        rw [Bool.eq_iff_iff, decide_eq_true_iff, chk_iff]
        exact ⟨fun h => ⟨hp, fun x hx => ⟨Int.le_trans c0 (lo x hx), Int.le_trans (hi x hx) h⟩⟩, fun h => (h.2 _ (List.getElem_mem hlt)).2⟩
      · rw [if_neg c0]
        congr 1
        symm
        rw [Bool.eq_false_iff, ne_eq, chk_iff]
        exact fun h => c0 (h.2 _ (List.getElem_mem (by omega))).1
  · rw [if_neg ha]
    congr 1
    symm
    rw [Bool.eq_false_iff, ne_eq, chk_iff]
    exact fun h => ha ((ascB_iff l).mpr h.1)
theorem validR_f {f : S37} (h0 : f.f0.length ≤ 1000) (h1 : f.f1.length ≤ 1000) {k : Nat} (hk : 1000 < k) : manystrandref07_Valid.f k f.f0 f.f1 f.f2 f.f3 = some (vl f) := by
  unfold manystrandref07_Valid.f vl
  rw [numbers_f h0 hk, numbers_f h1 hk, Option.bind_some]
  cases chk none f.f0
  · simp
  rw [if_pos rfl, Option.bind_some]
  cases chk none f.f1
  · simp
  rw [if_pos rfl]
  by_cases a0 : f.f2 ≥ 0
  · rw [if_pos a0, decide_eq_true (show 0 ≤ f.f2 from a0)]
    by_cases a1 : f.f3 ≥ 0
    · rw [if_pos a1, decide_eq_true (show 0 ≤ f.f3 from a1)]
      by_cases a2 : f.f2 ≤ 64
      · rw [if_pos a2, decide_eq_true a2]; simp
      · rw [if_neg a2, decide_eq_false a2]; simp
    · rw [if_neg a1, decide_eq_false (show ¬ 0 ≤ f.f3 from a1)]; simp
  · rw [if_neg a0, decide_eq_false (show ¬ 0 ≤ f.f2 from a0)]; simp
theorem of_from (l : List Int) (hl : l.length ≤ 1000) (hr : ∀ x ∈ l, 0 ≤ x ∧ x ≤ 63) : ∀ n i k (m : Int), i + n = l.length → n < k → manystrandref07_of.l0 k l m (i : Int) = some (ofF (l.drop i) m) := by
  intro n
  induction n with
  | zero =>
    intro i k m hi hk
    obtain ⟨k, rfl⟩ : ∃ j, k = j + 1 := ⟨k - 1, by omega⟩
    unfold manystrandref07_of.l0
    rw [if_neg (by omega), List.drop_of_length_le (by omega)]
    rfl
  | succ n ih =>
    intro i k m hi hk
    obtain ⟨k, rfl⟩ : ∃ j, k = j + 1 := ⟨k - 1, by omega⟩
    have hlt : i < l.length := by omega
    have hx := hr _ (List.getElem_mem hlt)
    have w : IntKind.u64.wrap l[i] = l[i] := by
      obtain ⟨a, ha⟩ : ∃ a : Nat, l[i] = (a : Int) := ⟨l[i].toNat, by omega⟩
      rw [ha]
      exact wrap_u a (by omega)
    unfold manystrandref07_of.l0
    rw [if_pos (by omega), if_pos (by omega), rd_at hlt, w, if_pos hx.1, wrap_next i (by omega), ih (i + 1) k _ (by omega) (by omega), List.drop_eq_getElem_cons hlt]
    rfl
theorem of_f {l : List Int} (hl : l.length ≤ 1000) (hc : chk none l = true) {k : Nat} (hk : 1000 < k) : manystrandref07_of.f k l = some (ofL l) :=
  of_from l hl (chk_rng none l hc) l.length 0 k 0 (by omega) (by omega)
theorem inR_f {f : S37} (h0 : f.f0.length ≤ 1000) (h1 : f.f1.length ≤ 1000) (hv : vl f = true) {k : Nat} (hk : 1000 < k) : manystrandref07_in.f k f.f0 f.f1 f.f2 f.f3 = some ((opn f).f0, (opn f).f1, (opn f).f2, (opn f).f3, false) := by
  obtain ⟨c0, c1, _⟩ := vl_facts hv
  unfold manystrandref07_in.f
  rw [of_f h0 c0 hk, of_f h1 c1 hk, opn_eq hv]
  rfl
theorem outR_f {s : S59} (h : Ws s) (b : Bool) {k : Nat} (hk : 64 < k) : manystrandref07_out.f k s.f0 s.f1 s.f2 s.f3 b = some ((clo s).f0, (clo s).f1, (clo s).f2, (clo s).f3) := by
  obtain ⟨x, hx, hx'⟩ := wd_nat h.1
  obtain ⟨y, hy, hy'⟩ := wd_nat h.2
  unfold manystrandref07_out.f clo lsO
  rw [hx, hy, listR x hx' hk, listR y hy' hk]
  rfl
theorem same_self {f : S37} (h0 : f.f0.length ≤ 1000) (h1 : f.f1.length ≤ 1000) (hv : vl f = true) {k : Nat} (hk : 1000 < k) : famSameT.f k f.f0 f.f1 f.f2 f.f3 f.f0 f.f1 f.f2 f.f3 = some true := by
  obtain ⟨c0, c1, _⟩ := vl_facts hv
  unfold famSameT.f
  rw [validR_f h0 h1 hk, Option.bind_some, hv, if_pos rfl, Option.bind_some, if_pos rfl, of_f h0 c0 hk, Option.bind_some, Option.bind_some, if_pos rfl, of_f h1 c1 hk, Option.bind_some, Option.bind_some, if_pos rfl, if_pos rfl, beq_self_eq_true]
end Go.Proofs.Ytgfbgfbnmiainaa.Fam
/-! FamilyTells, the plain laws: Valid, Normal, Fixed, Has and the program's Meet. -/
namespace Go.Proofs.Ytgfbgfbnmiainaa.Fam
set_option linter.unusedVariables false
set_option linter.unusedSimpArgs false
open Go.RowKit Go.Proofs.YtgfbgfbnmiainaaW.PrintWords Go.Proofs.YtgfbgfbnmiainaaW.PrintLast Go.Proofs.YtgfbgfbnmiainaaW.PrintMore Go.Proofs.Ytgfbgfbnmiainaa.Q
/-- Lists that are not too long. -/
def Sh (f : S37) : Prop := f.f0.length ≤ 1000 ∧ f.f1.length ≤ 1000
theorem open_t {f : S37} (h : Sh f) {k : Nat} (hk : 1000 < k) : family_open.f k f.f0 f.f1 f.f2 f.f3 = some ((opn f).f0, (opn f).f1, (opn f).f2, (opn f).f3, vl f) := by
  have h := openF_eq h.1 h.2 hk
  unfold openF at h
  rw [Option.map_eq_some_iff] at h
  obtain ⟨⟨r1, r2, r3, r4, r5⟩, hr, he⟩ := h
  injection he with e1 e2
  rw [hr, ← e1, ← e2]
theorem norm_t {s : S59} (hs : Ws s) {k : Nat} (hk : 8 ≤ k) : family_span_normal.f k s.f0 s.f1 s.f2 s.f3 = some ((outF (nrm s)).1.f0, (outF (nrm s)).1.f1, (outF (nrm s)).1.f2, (outF (nrm s)).1.f3, (outF (nrm s)).2) := by
  have h := putN_eq hs hk
  unfold putN at h
  rw [Option.map_eq_some_iff] at h
  obtain ⟨⟨r1, r2, r3, r4, r5⟩, hr, he⟩ := h
  rw [hr, ← he]
theorem close_t {s : S59} (hs : Ws s) {k : Nat} (hk : 64 < k) : family_span_close.f k s.f0 s.f1 s.f2 s.f3 = some ((clo s).f0, (clo s).f1, (clo s).f2, (clo s).f3) := by
  have h := closeF_eq hs hk
  unfold closeF at h
  rw [Option.map_eq_some_iff] at h
  obtain ⟨⟨r1, r2, r3, r4⟩, hr, he⟩ := h
  rw [hr, ← he]
def z37' : S37 := ⟨[], [], 0, 0⟩
/-- What comes out of a family that is valid, or not, and of its normal form. -/
def outN (b : Bool) (o : Option S59) : S37 × Int := if b = true then (match o with | some t => (clo t, 0) | none => (z37', 60)) else (z37', 2)
theorem ws_opn {f : S37} (h : vl f = true) : Ws (opn f) := (opn_rg h).wf
theorem normalF_t {f : S37} (h : Sh f) {k : Nat} (hk : 1000 < k) : family_Normal.f k f.f0 f.f1 f.f2 f.f3 = some ((outN (vl f) (nrm (opn f))).1.f0, (outN (vl f) (nrm (opn f))).1.f1, (outN (vl f) (nrm (opn f))).1.f2, (outN (vl f) (nrm (opn f))).1.f3, (outN (vl f) (nrm (opn f))).2) := by
  unfold family_Normal.f
  rw [open_t h hk, Option.bind_some]
  by_cases hv : vl f = true
  · simp only [hv, if_true]
    rw [norm_t (ws_opn hv) (by omega), Option.bind_some]
    cases hn : nrm (opn f) with
    | none => rfl
    | some t =>
      have hw := ((nrm_spec (ws_opn hv)).1 t hn).1.wf
      simp only [outF, if_true, outN]
      rw [close_t hw (by omega)]
      rfl
  · simp only [if_neg hv, outN]
    rfl
theorem normalR_t {f : S37} (h : Sh f) {k : Nat} (hk : 1000 < k) : manystrandref07_Normal.f k f.f0 f.f1 f.f2 f.f3 = some ((outN (vl f) (nrm (opn f))).1.f0, (outN (vl f) (nrm (opn f))).1.f1, (outN (vl f) (nrm (opn f))).1.f2, (outN (vl f) (nrm (opn f))).1.f3, (outN (vl f) (nrm (opn f))).2) := by
  unfold manystrandref07_Normal.f
  rw [validR_f h.1 h.2 hk, Option.bind_some]
  by_cases hv : vl f = true
  · simp only [hv, if_true]
    rw [inR_f h.1 h.2 hv hk, Option.bind_some]
    have e : NR ⟨(opn f).f0, (opn f).f1, (opn f).f2, (opn f).f3, false⟩ = outR (nrm (opn f)) := NR_good rfl
    have hr := normR ⟨(opn f).f0, (opn f).f1, (opn f).f2, (opn f).f3, false⟩ (ws_opn hv) (k := k) (by omega)
    rw [e] at hr
    cases hn : nrm (opn f) with
    | none =>
      rw [hn] at hr
      have hr' : manystrandref07_normal.f k (opn f).f0 (opn f).f1 (opn f).f2 (opn f).f3 false = some (0, 0, 0, 0, true) := hr
      rw [hr']
      rfl
    | some t =>
      have hw := ((nrm_spec (ws_opn hv)).1 t hn).1.wf
      rw [hn] at hr
      have hr' : manystrandref07_normal.f k (opn f).f0 (opn f).f1 (opn f).f2 (opn f).f3 false = some (t.f0, t.f1, t.f2, t.f3, false) := hr
      rw [hr', Option.bind_some]
      simp only [Bool.false_eq_true, if_false, outN, if_true]
      rw [outR_f hw false (by omega)]
      rfl
  · simp only [if_neg hv, outN]
    rfl
theorem validF_t {f : S37} (h : Sh f) {k : Nat} (hk : 1000 < k) : family_Valid.f k f.f0 f.f1 f.f2 f.f3 = some (vl f) := by
  unfold family_Valid.f
  rw [open_t h hk, Option.bind_some]
def fixB (f : S37) : Bool := vl f && ((opn f).f0 == (opn f).f1)
theorem fixedF_t {f : S37} (h : Sh f) {k : Nat} (hk : 1000 < k) : family_Fixed.f k f.f0 f.f1 f.f2 f.f3 = some (fixB f) := by
  unfold family_Fixed.f fixB
  rw [open_t h hk, Option.bind_some]
  cases vl f <;> rfl
theorem fixedR_t {f : S37} (h : Sh f) {k : Nat} (hk : 1000 < k) : manystrandref07_Fixed.f k f.f0 f.f1 f.f2 f.f3 = some (fixB f) := by
  unfold manystrandref07_Fixed.f fixB
  rw [validR_f h.1 h.2 hk, Option.bind_some]
  by_cases hv : vl f = true
  · obtain ⟨c0, c1, _⟩ := vl_facts hv
    rw [if_pos hv, of_f h.1 c0 hk, Option.bind_some, of_f h.2 c1 hk, Option.bind_some, hv, opn_eq hv]
    rfl
  · rw [if_neg hv, Bool.eq_false_iff.mpr hv]
    rfl
/-- A single set. -/
def pntT (s : List Int) : S59 := ⟨ofL s, ofL s, (s.length : Int), (s.length : Int)⟩
theorem pntT_nm {s : List Int} (h : chk none s = true) : Nm (pntT s) :=
  ⟨⟨wd_ofL s, wd_ofL s⟩, sub_refl _, Int.le_of_eq (card_ofL h), Int.le_refl _, Int.le_of_eq (card_ofL h).symm, fun _ => rfl, fun _ => rfl⟩
def leB (a : S59) (s : List Int) : Bool := decide (Go.bits .andNot .u64 a.f0 (ofL s) = 0) && (decide (Go.bits .andNot .u64 (ofL s) a.f1 = 0) && (decide ((s.length : Int) ≥ a.f2) && decide ((s.length : Int) ≤ a.f3)))
theorem leB_iff {a : S59} (hw : Ws a) (s : List Int) : leB a s = true ↔ Le a (pntT s) := by
  unfold leB
  simp only [Bool.and_eq_true, decide_eq_true_eq]
  rw [andNot_zero hw.1 (wd_ofL s), andNot_zero (wd_ofL s) hw.2]
  exact ⟨fun ⟨a, b, c, d⟩ => ⟨a, b, c, d⟩, fun h => ⟨h.lo, h.hi, h.mn, h.mx⟩⟩
theorem leB_congr {a b : S59} (ha : Ws a) (hb : Ws b) {s : List Int} (h : Le a (pntT s) ↔ Le b (pntT s)) : leB a s = leB b s :=
  Bool.eq_iff_iff.mpr ((leB_iff ha s).trans (h.trans (leB_iff hb s).symm))
def hasB (f : S37) (s : List Int) : Bool := vl f && (chk none s && leB (opn f) s)
theorem chain4 (A B C D : Prop) [Decidable A] [Decidable B] [Decidable C] [Decidable D] : (if A then (if B then (if C then some (decide D) else some false) else some false) else some false) = some (decide A && (decide B && (decide C && decide D))) := by
  by_cases a : A <;> by_cases b : B <;> by_cases c : C <;> simp [a, b, c]
theorem mskF_t {s : List Int} (h : chk none s = true) : mskF s = (ofL s, true) := by unfold mskF; rw [h]; rfl
theorem mskF_f {s : List Int} (h : chk none s = false) : mskF s = (0, false) := by unfold mskF; rw [h]; rfl
theorem hasF_t {f : S37} {s : List Int} (h : Sh f) (hs : s.length ≤ 1000) {k : Nat} (hk : 1000 < k) : family_Has.f k f.f0 f.f1 f.f2 f.f3 s = some (hasB f s) := by
  unfold family_Has.f hasB
  rw [open_t h hk, Option.bind_some, mask_f (by omega) (by omega), Option.bind_some]
  cases hv : vl f
  · rfl
  cases hc : chk none s
  · rw [mskF_f hc]; rfl
  · rw [mskF_t hc]
    exact chain4 _ _ _ _
theorem hasR_t {f : S37} {s : List Int} (h : Sh f) (hs : s.length ≤ 1000) {k : Nat} (hk : 1001 < k) : manystrandref07_Has.f k f.f0 f.f1 f.f2 f.f3 s = some (hasB f s) := by
  obtain ⟨k, rfl⟩ : ∃ m, k = m + 1 := ⟨k - 1, by omega⟩
  unfold manystrandref07_Has.f hasB
  rw [validR_f h.1 h.2 (by omega), Option.bind_some]
  cases hv : vl f
  · rfl
  obtain ⟨v0, v1, _⟩ := vl_facts hv
  rw [if_pos rfl, numbers_f hs (by omega), Option.bind_some]
  cases hc : chk none s
  · rfl
  · rw [Bool.not_true, manystrandref07_Has.j0, if_neg (by decide), of_f hs hc (by omega), Option.bind_some, of_f h.1 v0 (by omega), Option.bind_some, of_f h.2 v1 (by omega), opn_eq hv]
    exact chain4 _ _ _ _
/-- A set is one of the normal form's exactly if it is one of the family's. -/
theorem has_norm {a t : S59} (hw : Ws a) (hn : nrm a = some t) {s : List Int} (hc : chk none s = true) : Le t (pntT s) ↔ Le a (pntT s) := by
  obtain ⟨h1, h2⟩ := nrm_spec hw
  constructor
  · exact fun h => ((h1 t hn).2).trans h
  · intro h
    obtain ⟨t', ht, hl⟩ := h2 _ (pntT_nm hc) h
    rw [hn] at ht
    injection ht with ht
    rw [ht]
    exact hl
theorem has_none {a : S59} (hw : Ws a) (hn : nrm a = none) {s : List Int} (hc : chk none s = true) : ¬ Le a (pntT s) := by
  intro h
  obtain ⟨t', ht, _⟩ := (nrm_spec hw).2 _ (pntT_nm hc) h
  rw [hn] at ht
  cases ht
theorem hasB_norm {f : S37} {t : S59} (hv : vl f = true) (hn : nrm (opn f) = some t) (s : List Int) : hasB (clo t) s = hasB f s := by
  have hN := ((nrm_spec (ws_opn hv)).1 t hn).1
  unfold hasB
  rw [vl_clo hN.rg, hv, opn_clo hN.rg]
  cases hc : chk none s
  · rfl
  · rw [leB_congr hN.wf (ws_opn hv) (has_norm (ws_opn hv) hn hc)]
theorem hasB_none {f : S37} (hv : vl f = true) (hn : nrm (opn f) = none) (s : List Int) : hasB f s = false := by
  unfold hasB
  cases hc : chk none s
  · simp
  · rw [Bool.eq_false_iff.mpr (fun g => has_none (ws_opn hv) hn hc ((leB_iff (ws_opn hv) s).mp g)), hv]
    rfl
def mt (a b : S59) : S59 := ⟨Go.bits .or .u64 a.f0 b.f0, Go.bits .and .u64 a.f1 b.f1, mx a.f2 b.f2, mn a.f3 b.f3⟩
theorem ws_mt (a b : S59) : Ws (mt a b) := ⟨wd_or _ _, wd_and _ _⟩
theorem le_mt {a b p : S59} (ha : Ws a) (hb : Ws b) (hp : Ws p) : Le (mt a b) p ↔ Le a p ∧ Le b p := by
  have p1 := mx_facts a.f2 b.f2
  have p2 := mn_facts a.f3 b.f3
  constructor
  · intro h
    have h3 : mx a.f2 b.f2 ≤ p.f2 := h.mn
    have h4 : p.f3 ≤ mn a.f3 b.f3 := h.mx
    refine ⟨⟨fun i hi g => h.lo i hi ?_, fun i hi g => ?_, by omega, by omega⟩, ⟨fun i hi g => h.lo i hi ?_, fun i hi g => ?_, by omega, by omega⟩⟩
    · show bt (Go.bits .or .u64 a.f0 b.f0) i = true
      rw [bt_or ha.1 hb.1, g, Bool.true_or]
    · have := h.hi i hi g
      rw [show (mt a b).f1 = Go.bits .and .u64 a.f1 b.f1 from rfl, bt_and ha.2 hb.2, Bool.and_eq_true] at this
      exact this.1
    · show bt (Go.bits .or .u64 a.f0 b.f0) i = true
      rw [bt_or ha.1 hb.1, g, Bool.or_true]
    · have := h.hi i hi g
      rw [show (mt a b).f1 = Go.bits .and .u64 a.f1 b.f1 from rfl, bt_and ha.2 hb.2, Bool.and_eq_true] at this
      exact this.2
  · rintro ⟨h, g⟩
    have h3 := h.mn
    have h4 := h.mx
    have g3 := g.mn
    have g4 := g.mx
    refine ⟨fun i hi q => ?_, fun i hi q => ?_, ?_, ?_⟩
    · rw [show (mt a b).f0 = Go.bits .or .u64 a.f0 b.f0 from rfl, bt_or ha.1 hb.1, Bool.or_eq_true] at q
      rcases q with q | q
      · exact h.lo i hi q
      · exact g.lo i hi q
    · show bt (Go.bits .and .u64 a.f1 b.f1) i = true
      rw [bt_and ha.2 hb.2, h.hi i hi q, g.hi i hi q]
      rfl
    · show mx a.f2 b.f2 ≤ p.f2
      omega
    · show p.f3 ≤ mn a.f3 b.f3
      omega
theorem meetF_t {f g : S37} (h : Sh f) (hg : Sh g) {k : Nat} (hk : 1001 < k) : family_Meet.f k f.f0 f.f1 f.f2 f.f3 g.f0 g.f1 g.f2 g.f3 = some ((outN (vl f && vl g) (nrm (mt (opn f) (opn g)))).1.f0, (outN (vl f && vl g) (nrm (mt (opn f) (opn g)))).1.f1, (outN (vl f && vl g) (nrm (mt (opn f) (opn g)))).1.f2, (outN (vl f && vl g) (nrm (mt (opn f) (opn g)))).1.f3, (outN (vl f && vl g) (nrm (mt (opn f) (opn g)))).2) := by
  obtain ⟨k, rfl⟩ : ∃ m, k = m + 1 := ⟨k - 1, by omega⟩
  unfold family_Meet.f
  rw [open_t h (by omega), Option.bind_some, open_t hg (by omega), Option.bind_some]
  unfold family_Meet.j0
  cases hv : vl f
  · rfl
  cases hw : vl g
  · rfl
  simp only [Bool.not_true, Bool.false_eq_true, if_false, if_true, Bool.and_true]
  have hn := norm_t (ws_mt (opn f) (opn g)) (k := k) (by omega)
  simp only [mt] at hn
  rw [hn, Option.bind_some]
  show (if (outF (nrm (mt (opn f) (opn g)))).2 = true then (family_span_close.f k (outF (nrm (mt (opn f) (opn g)))).1.f0 (outF (nrm (mt (opn f) (opn g)))).1.f1 (outF (nrm (mt (opn f) (opn g)))).1.f2 (outF (nrm (mt (opn f) (opn g)))).1.f3).bind _ else _) = _
  cases hn : nrm (mt (opn f) (opn g)) with
  | none => rfl
  | some t =>
    have hw := ((nrm_spec (ws_mt (opn f) (opn g))).1 t hn).1.wf
    simp only [outF, if_true, outN]
    rw [close_t hw (by omega)]
    rfl
theorem hasB_meet {f g : S37} {t : S59} (hv : vl f = true) (hw : vl g = true) (hn : nrm (mt (opn f) (opn g)) = some t) (s : List Int) : hasB (clo t) s = (hasB f s && hasB g s) := by
  have hN := ((nrm_spec (ws_mt _ _)).1 t hn).1
  unfold hasB
  rw [vl_clo hN.rg, hv, hw, opn_clo hN.rg]
  cases hc : chk none s
  · rfl
  · simp only [Bool.true_and]
    rw [Bool.eq_iff_iff, Bool.and_eq_true, leB_iff hN.wf, leB_iff (ws_opn hv), leB_iff (ws_opn hw)]
    exact (has_norm (ws_mt _ _) hn hc).trans (le_mt (ws_opn hv) (ws_opn hw) (pntT_nm hc).wf)
end Go.Proofs.Ytgfbgfbnmiainaa.Fam
/-! A region that draws its order, by an invariant over which of its operations are done: each operation that may be next is walked once, alone. -/
namespace Go.Proofs.Ytgfbgfbnmiainaa.RegInv
set_option linter.unusedVariables false
set_option linter.unusedSimpArgs false
open Go
section
variable {P : Program} {ops : Array Oper} {md : Region.Mode} {Q : Exit → Act → World → Prop}
/-- Q at every way out but the plain one, where K stands. -/
def Then (Q : Exit → Act → World → Prop) (K : Act → World → Prop) : Exit → Act → World → Prop
  | .normal, a, w => K a w
  | e, a, w => Q e a w
theorem wp_then {o : Oper} {a : Act} {w : World} {K : Act → World → Prop} (h : o.wp P a w K (Then Q K)) : o.wp P a w K Q := by
  unfold Oper.wp at *
  generalize (execOp a.eval o).run P w = r at *
  cases r with
  | ok n w' =>
    cases n <;> simp only [Oper.upon] at h ⊢ <;>
      first
        | exact h
        | exact Calls.mono h (fun e w'' he => by cases e <;> first | exact he | (simp only at he ⊢; obtain ⟨a, w, hq⟩ := he; exact ⟨a, w, hq⟩))
  | halt x w' => cases x <;> simp only [Oper.upon] at h ⊢ <;> exact h
theorem op_of_list {i : Nat} {o : Oper} {K : Act → World → Prop} {a : Act} {w : World} (ho : ops[i]? = some o) (h : wpList P ops (Then Q K) [o] a w) : wpOp P ops Q i K a w := by
  unfold wpOp
  simp only [ho]
  simp only [wpList] at h
  split
  · rename_i hw
    rw [if_pos hw] at h
    rcases h with h | ⟨h1, a', w', h2⟩
    · exact .inl (wp_then h)
    · exact .inr ⟨h1, a', w', h2⟩
  · rename_i hw
    rw [if_neg hw] at h
    exact h
theorem count_set {l : Array Bool} {i : Nat} {n : Nat} (hn : l.toList.count false ≤ n + 1) (hi : l.getD i true = false) : (l.setIfInBounds i true).toList.count false ≤ n := by
  have hlt : i < l.size := by
    rcases Nat.lt_or_ge i l.size with h | h
    · exact h
    · simp [Array.getElem?_eq_none h] at hi
  have hv : l.toList[i]'(by simpa using hlt) = false := by simpa [hlt] using hi
  rw [Array.toList_setIfInBounds, List.count_set (by simpa using hlt), hv]
  simp only [Array.count_toList] at hn ⊢
  simp
  omega
theorem wpAny_inv (I : Array Bool → Act → World → Prop)
    (hs : ∀ listed a w i o, ops[i]? = some o → listed.size = ops.size → listed.getD i true = false → (∀ e ∈ o.after, Region.binds md e = true → listed.getD e.on false = true) → I listed a w → wpList P ops (Then Q (I (listed.setIfInBounds i true))) [o] a w)
    (he : ∀ listed a w, listed.size = ops.size → Region.ready md ops listed = [] → I listed a w → Q .normal a w) :
    ∀ fuel listed a w, listed.size = ops.size → listed.toList.count false ≤ fuel → I listed a w → wpAny P md ops Q fuel listed a w := by
  intro fuel
  induction fuel with
  | zero =>
    intro listed a w hz hc h
    have hr : Region.ready md ops listed = [] := by
      rw [List.eq_nil_iff_forall_not_mem]
      intro j hj
      obtain ⟨h1, _⟩ := mem_ready.1 hj
      have := count_set (n := 0) (by omega) h1
      have hm : false ∈ listed.toList := by
        rcases Nat.lt_or_ge j listed.size with g | g
        · have hv : listed.toList[j]'(by simpa using g) = false := by simpa [g] using h1
          rw [← hv]
          exact List.getElem_mem _
        · simp [Array.getElem?_eq_none g] at h1
      have := List.count_pos_iff.2 hm
      omega
    exact ⟨hr, he listed a w hz hr h⟩
  | succ n ih =>
    intro listed a w hz hc h
    refine ⟨fun hr => he listed a w hz hr h, fun i hi => ?_⟩
    obtain ⟨h1, o, ho, h2⟩ := mem_ready.1 hi
    exact wpOp_mono (fun a' w' hI => ih _ a' w' (by simpa using hz) (count_set hc h1) hI) (op_of_list ho (hs listed a w i o ho hz h1 h2 h))
def early (ops : Array Oper) : Bool := (List.range ops.size).all fun i => match ops[i]? with
  | some o => o.after.all fun e => decide (e.on < i)
  | none => true
theorem all_listed (hB : early ops = true) {listed : Array Bool} (hz : listed.size = ops.size) (hr : Region.ready md ops listed = []) : ∀ i, i < ops.size → listed.getD i false = true := by
  intro i
  induction i using Nat.strongRecOn with
  | ind i ih =>
    intro hi
    have hi' : i < listed.size := by omega
    cases hb : listed[i] with
    | true => simp [hi', hb]
    | false =>
      exfalso
      have hm : i ∈ Region.ready md ops listed := by
        refine mem_ready.2 ⟨by simp [hi', hb], ops[i], Array.getElem?_eq_getElem hi, fun e he _ => ?_⟩
        simp only [early, List.all_eq_true, List.mem_range] at hB
        have h1 := hB i hi
        rw [Array.getElem?_eq_getElem hi] at h1
        simp only [Array.all_eq_true'] at h1
        have h2 := of_decide_eq_true (h1 e he)
        exact ih e.on h2 (by omega)
      rw [hr] at hm
      cases hm
/-- The rule. -/
theorem wp_region_inv {id : Nat} {a : Act} {w : World} (hm : P.follows .mixedOrders = true) (hB : early ops = true) (I : Array Bool → Act → World → Prop)
    (h0 : I (Array.replicate ops.size false) a { w with drawn := w.drawn + 1 })
    (hs : ∀ listed a w i o, ops[i]? = some o → listed.size = ops.size → listed.getD i true = false → (∀ e ∈ o.after, Region.binds .any e = true → listed.getD e.on false = true) → I listed a w → wpList P ops (Then Q (I (listed.setIfInBounds i true))) [o] a w)
    (he : ∀ listed a w, (∀ i, i < ops.size → listed.getD i false = true) → I listed a w → Q .normal a w) : (Code.region id ops true).wp P Q a w := by
  refine wp_region_any hm (wpAny_inv I hs (fun listed a w hz hr hI => he listed a w (all_listed hB hz hr) hI) _ _ _ _ (by simp) ?_ h0)
  simp
/-- The same, where the invariant speaks of the frame ahead of the region. -/
theorem wp_region_inv' {id : Nat} {a : Act} {w : World} (hm : P.follows .mixedOrders = true) (hB : early ops = true) (J : Act → Array Bool → Act → World → Prop)
    (h0 : J a (Array.replicate ops.size false) a { w with drawn := w.drawn + 1 })
    (hs : ∀ listed a' w i o, ops[i]? = some o → listed.size = ops.size → listed.getD i true = false → (∀ e ∈ o.after, Region.binds .any e = true → listed.getD e.on false = true) → J a listed a' w → wpList P ops (Then Q (J a (listed.setIfInBounds i true))) [o] a' w)
    (he : ∀ listed a' w, (∀ i, i < ops.size → listed.getD i false = true) → J a listed a' w → Q .normal a' w) : (Code.region id ops true).wp P Q a w :=
  wp_region_inv hm hB (J a) h0 hs he
end
end Go.Proofs.Ytgfbgfbnmiainaa.RegInv
/-! The reference's Meet, walked. -/
namespace Go.Proofs.Ytgfbgfbnmiainaa.Fam
set_option linter.unusedVariables false
set_option linter.unusedSimpArgs false
open Go.RowKit Go.Proofs.YtgfbgfbnmiainaaW.PrintWords Go.Proofs.YtgfbgfbnmiainaaW.PrintLast Go.Proofs.YtgfbgfbnmiainaaW.PrintMore Go.Proofs.Ytgfbgfbnmiainaa.Q
attribute [local go_sem] Go.Proofs.YtgfbgfbnmiainaaW.OwnWords.isSome_setCell max2_int min2_int
/-- A family's two lists lie there. -/
structure FC (w : World) (f : S37) (A : Option Addr) (a : Nat) (B : Option Addr) (b : Nat) : Prop where
  h0 : Kd.C (Kd.int .i64) w A f.f0.length f.f0
  l0 : f.f0.length ≤ a
  h1 : Kd.C (Kd.int .i64) w B f.f1.length f.f1
  l1 : f.f1.length ≤ b
theorem FC.below {w w' : World} {f : S37} {A : Option Addr} {a : Nat} {B : Option Addr} {b : Nat} (h : FC w f A a B b) (hb : Below w.heap.size w w') : FC w' f A a B b := ⟨Kd.C_below h.h0 hb, h.l0, Kd.C_below h.h1 hb, h.l1⟩
def MeetR (f g : S37) (w : World) (e : Ending) (w' : World) : Prop := ∃ v0 v1 : Value, e = .returned (.tuple #[.agg #[v0, v1, .int .i64 (outN (vl f && vl g) (nrm (mt (opn f) (opn g)))).1.f2, .int .i64 (outN (vl f && vl g) (nrm (mt (opn f) (opn g)))).1.f3], .int .i64 (outN (vl f && vl g) (nrm (mt (opn f) (opn g)))).2]) ∧ Kd.R (Kd.int .i64) 3 w' w.heap.size (fun k_ => some k_ ≠ v1.ownBlock) v0 (outN (vl f && vl g) (nrm (mt (opn f) (opn g)))).1.f0 ∧ Kd.R (Kd.int .i64) 3 w' w.heap.size (fun k_ => some k_ ≠ v0.ownBlock) v1 (outN (vl f && vl g) (nrm (mt (opn f) (opn g)))).1.f1 ∧ Below w.heap.size w w'
def c68 (f : S37) : Array Value := #[.int .u64 (opn f).f0, .int .u64 (opn f).f1, .int .i64 (opn f).f2, .int .i64 (opn f).f3, .bool false]
def z68 : Array Value := #[.int .u64 0, .int .u64 0, .int .i64 0, .int .i64 0, .bool false]
/-- A block of its own, with what is stored or not. -/
def Lies68 (w w' : World) (f : S37) (stored : Bool) (v : Value) (g : Nat) : Prop := v = .pointer (some ⟨g, 0, none⟩) ∧ w.heap.size + 3 ≤ g ∧ w'.heap[g]? = some (.cells (if stored = true then c68 f else z68) 68 (0, 0))
structure JF (f g : S37) (A : Option Addr) (a : Nat) (B : Option Addr) (b : Nat) (C : Option Addr) (c : Nat) (D : Option Addr) (d : Nat) (w w' : World) (b0 b1 b2 b3 b4 b5 b6 b7 : Bool) (v18 v19 v20 v21 v6 v7 : Value) : Prop where
  h0 : b0 = true → v18 = .agg #[.slice A f.f0.length a, .slice B f.f1.length b, .int .i64 f.f2, .int .i64 f.f3]
  h1 : b1 = true → v19 = .agg (c68 f)
  h2 : b2 = true → v20 = .agg #[.slice C g.f0.length c, .slice D g.f1.length d, .int .i64 g.f2, .int .i64 g.f3]
  h3 : b3 = true → v21 = .agg (c68 g)
  h4 : b4 = true → ∃ g6, Lies68 w w' f b6 v6 g6
  h5 : b5 = true → ∃ g7, Lies68 w w' g b7 v7 g7
  ne : b4 = true → b5 = true → v6 ≠ v7
  n6 : b6 = true → b4 = true
  n7 : b7 = true → b5 = true
  k0 : w'.heap[w.heap.size]? = some (.cells #[.slice A f.f0.length a, .slice B f.f1.length b, .int .i64 f.f2, .int .i64 f.f3] 37 (0, 0))
  k1 : w'.heap[w.heap.size + 1]? = some (.cells #[.slice C g.f0.length c, .slice D g.f1.length d, .int .i64 g.f2, .int .i64 g.f3] 37 (0, 0))
  k2 : w'.heap[w.heap.size + 1 + 1]? = some (.cells #[.slice none 0 0, .slice none 0 0, .int .i64 0, .int .i64 0] 37 (0, 0))
  bel : Below w.heap.size w w'
def JM (f g : S37) (A : Option Addr) (a : Nat) (B : Option Addr) (b : Nat) (C : Option Addr) (c : Nat) (D : Option Addr) (d : Nat) (w : World) (a0 : Act) (listed : Array Bool) (a' : Act) (w' : World) : Prop :=
  ∃ (b0 b1 b2 b3 b4 b5 b6 b7 : Bool) (v18 v19 v20 v21 v6 v7 : Value), listed = #[b0, b1, b2, b3, b4, b5, b6, b7] ∧ a' = { a0 with tmps := (((((a0.tmps.setIfInBounds 18 v18).setIfInBounds 19 v19).setIfInBounds 20 v20).setIfInBounds 21 v21).setIfInBounds 6 v6).setIfInBounds 7 v7 } ∧ JF f g A a B b C c D d w w' b0 b1 b2 b3 b4 b5 b6 b7 v18 v19 v20 v21 v6 v7
theorem set_self (t : Array Value) (i : Nat) : t.setIfInBounds i (t.getD i undef) = t := by
  apply Array.ext
  · simp
  · intro j h1 h2
    rw [Array.getElem_setIfInBounds (by simpa using h1)]
    split
    · rename_i e
      subst e
      simp [h2]
    · rfl
theorem act_self (a : Act) : a = { a with tmps := (((((a.tmps.setIfInBounds 18 (a.tmps.getD 18 undef)).setIfInBounds 19 (a.tmps.getD 19 undef)).setIfInBounds 20 (a.tmps.getD 20 undef)).setIfInBounds 21 (a.tmps.getD 21 undef)).setIfInBounds 6 (a.tmps.getD 6 undef)).setIfInBounds 7 (a.tmps.getD 7 undef) } := by
  simp only [set_self]
set_option maxHeartbeats 4000000 in
set_option maxRecDepth 100000 in
theorem meetR_walk (f g : S37) (hf : Sh f) (hg : Sh g) (A : Option Addr) (a : Nat) (B : Option Addr) (b : Nat) (C : Option Addr) (c : Nat) (D : Option Addr) (d : Nat) (w : World) (h1 : FC w f A a B b) (h2 : FC w g C c D d) :
    Calls Try.prog 29 #[.agg #[.slice A f.f0.length a, .slice B f.f1.length b, .int .i64 f.f2, .int .i64 f.f3], .agg #[.slice C g.f0.length c, .slice D g.f1.length d, .int .i64 g.f2, .int .i64 g.f3]] w (MeetR f g w) := by
  have hu37 := Try.underlying37
  have hu68 := Try.underlying68
  have H1 := Aside0.mk h1
  have H2 := Aside0.mk h2
  clear h1 h2
  have sz1 : ∀ o : Obj, (w.alloc o).heap.size = w.heap.size + 1 := fun o => by simp
  go_enter Try.func29, Try.ntmps29
  go_upto_region 1 with fail
  (try simp only [Act.put, List.setIfInBounds_toArray, List.set_cons_zero, List.set_cons_succ])
  go_cut [16] (fun v16 wc => v16 = .bool (!(vl f && vl g)) ∧ Aside0 (Below w.heap.size w wc) ∧ Aside0 (wc.heap[w.heap.size]? = some (.cells #[.slice A f.f0.length a, .slice B f.f1.length b, .int .i64 f.f2, .int .i64 f.f3] 37 (0, 0))) ∧ Aside0 (wc.heap[w.heap.size + 1]? = some (.cells #[.slice C g.f0.length c, .slice D g.f1.length d, .int .i64 g.f2, .int .i64 g.f3] 37 (0, 0))) ∧ Aside0 (wc.heap[w.heap.size + 1 + 1]? = some (.cells #[.slice none 0 0, .slice none 0 0, .int .i64 0, .int .i64 0] 37 (0, 0))))
  case first =>
    cases hv : vl f
    · go_wp2_with (go_at_call 23; (refine (manystrandref07_Valid.calls 1001 A a f.f0 B b f.f1 f.f2 f.f3 false _ (Kd.C_alloc (Kd.C_alloc (Kd.C_alloc H1.out.h0 _) _) _) H1.out.l0 (Kd.C_alloc (Kd.C_alloc (Kd.C_alloc H1.out.h1 _) _) _) H1.out.l1 (by rw [validR_f hf.1 hf.2 (by omega), hv])).mono ?_); rintro e w2 ⟨rfl, hd⟩; have HB := Aside0.mk (below_then (below_alloc (below_alloc (below_alloc (Below.refl _ _) _) _) _) (by simp <;> omega) hd); have B0 := Aside0.mk (blk_below (blk_alloc (blk_alloc (blk_new w _) _) _) hd); have b1 := blk_below (blk_alloc (blk_new (w.alloc _) _) _) hd; have b2 := blk_below (blk_new ((w.alloc _).alloc _) _) hd; rw [sz1] at b1; rw [show ((w.alloc _).alloc _).heap.size = w.heap.size + 1 + 1 from by simp] at b2; have B1 := Aside0.mk b1; have B2 := Aside0.mk b2; clear b1 b2 hd)
      go_meet
      case rel => exact ⟨by rw [hv]; rfl, HB, B0, B1, B2⟩
    · go_wp2_with (first | (go_at_call 23; (refine (manystrandref07_Valid.calls 1001 C c g.f0 D d g.f1 g.f2 g.f3 (vl g) _ (H2.out.below HB.out).h0 H2.out.l0 (H2.out.below HB.out).h1 H2.out.l1 (validR_f hg.1 hg.2 (by omega))).mono ?_); rintro e w3 ⟨rfl, hd⟩; have HB2 := Aside0.mk (below_then HB.out HB.out.size hd); have C0 := Aside0.mk (blk_below B0.out hd); have C1 := Aside0.mk (blk_below B1.out hd); have C2 := Aside0.mk (blk_below B2.out hd); clear hd y0 y1 y2 y3) | (go_at_call 23; (refine (manystrandref07_Valid.calls 1001 A a f.f0 B b f.f1 f.f2 f.f3 true _ (Kd.C_alloc (Kd.C_alloc (Kd.C_alloc H1.out.h0 _) _) _) H1.out.l0 (Kd.C_alloc (Kd.C_alloc (Kd.C_alloc H1.out.h1 _) _) _) H1.out.l1 (by rw [validR_f hf.1 hf.2 (by omega), hv])).mono ?_); rintro e w2 ⟨rfl, hd⟩; have HB := Aside0.mk (below_then (below_alloc (below_alloc (below_alloc (Below.refl _ _) _) _) _) (by simp <;> omega) hd); have B0 := Aside0.mk (blk_below (blk_alloc (blk_alloc (blk_new w _) _) _) hd); have b1 := blk_below (blk_alloc (blk_new (w.alloc _) _) _) hd; have b2 := blk_below (blk_new ((w.alloc _).alloc _) _) hd; rw [sz1] at b1; rw [show ((w.alloc _).alloc _).heap.size = w.heap.size + 1 + 1 from by simp] at b2; have B1 := Aside0.mk b1; have B2 := Aside0.mk b2; have y0 := (blk_cell B1.out 0).trans rfl; have y1 := (blk_cell B1.out 1).trans rfl; have y2 := (blk_cell B1.out 2).trans rfl; have y3 := (blk_cell B1.out 3).trans rfl; clear b1 b2 hd))
      go_meet
      case rel => exact ⟨by rw [hv]; rfl, HB2, C0, C1, C2⟩
  case rest =>
    obtain ⟨rfl, HB, B0, B1, B2⟩ := hcut
    cases hv : (vl f && vl g)
    · have y0 := (blk_cell B2.out 0).trans rfl
      have y1 := (blk_cell B2.out 1).trans rfl
      have y2 := (blk_cell B2.out 2).trans rfl
      have y3 := (blk_cell B2.out 3).trans rfl
      have z0 := blk_frozen B2.out 0
      have z1 := blk_frozen B2.out 1
      have z2 := blk_frozen B2.out 2
      have z3 := blk_frozen B2.out 3
      go_wp2
      refine bodyPost_ret (results_ct rfl _ _ (w.heap.size + 1 + 1) 37 #[.slice none 0 0, .slice none 0 0, .int .i64 0, .int .i64 0] (0, 0) _ rfl (by (with_reducible repeat (first | refine blk_drewN ?_ _ | refine blk_drew ?_)); exact blk_put (blk_put (blk_put (blk_put B2.out 0 _ rfl) 1 _ rfl) 2 _ rfl) 3 _ rfl) Try.underlying37 rfl (by kernel_rfl)) rfl ?_
      refine ⟨_, _, by rw [hv]; rfl, by rw [hv]; exact Kd.R_nil _ _ _ _ _, by rw [hv]; exact Kd.R_nil _ _ _ _ _, ?_⟩
      repeat (first | (with_reducible first | exact HB.out | apply pw_below_drewN | apply below_drew1) | (refine below_set ?_ (by omega)) | exact HB.out)
    · go_upto_region 3 with fail
      go_cut [6, 7] (fun v6 v7 wd => ∃ g6 g7 : Nat, v6 = .pointer (some ⟨g6, 0, none⟩) ∧ v7 = .pointer (some ⟨g7, 0, none⟩) ∧ Aside0 (g6 ≠ g7) ∧ Aside0 (w.heap.size ≤ g6 ∧ g6 ≠ w.heap.size + 1 + 1) ∧ Aside0 (w.heap.size ≤ g7 ∧ g7 ≠ w.heap.size + 1 + 1) ∧ Aside0 (Below w.heap.size w wd) ∧ Aside0 (wd.heap[w.heap.size + 1 + 1]? = some (.cells #[.slice none 0 0, .slice none 0 0, .int .i64 0, .int .i64 0] 37 (0, 0))) ∧ Aside0 (wd.heap[g6]? = some (.cells (c68 f) 68 (0, 0))) ∧ Aside0 (wd.heap[g7]? = some (.cells (c68 g) 68 (0, 0))))
      case first =>
        refine RegInv.wp_region_inv' rfl (by kernel_rfl) (JM f g A a B b C c D d w) ?_ ?_ ?_
        · refine ⟨false, false, false, false, false, false, false, false, _, _, _, _, _, _, rfl, act_self _, ?_⟩
          exact ⟨fun h => (by cases h), fun h => (by cases h), fun h => (by cases h), fun h => (by cases h), fun h => (by cases h), fun h => (by cases h), fun h => (by cases h), fun h => (by cases h), fun h => (by cases h), B0.out, B1.out, B2.out, below_drew1 HB.out⟩
        · clear hu37 hu68
          rintro listed a' w' i o ho hz hb hw ⟨b0, b1, b2, b3, b4, b5, b6, b7, v18, v19, v20, v21, v6, v7, rfl, rfl, F9⟩
          obtain ⟨hv1, hv2⟩ := Bool.and_eq_true_iff.mp hv
          match i, ho, hb, hw with
          | 0, ho, hb, hw =>
            obtain rfl : _ = o := Option.some.inj ho
            simp only [List.setIfInBounds_toArray, List.set_cons_zero, List.set_cons_succ]
            have y0 := (blk_cell F9.k0 0).trans rfl
            have y1 := (blk_cell F9.k0 1).trans rfl
            have y2 := (blk_cell F9.k0 2).trans rfl
            have y3 := (blk_cell F9.k0 3).trans rfl
            go_wp2
            exact ⟨true, b1, b2, b3, b4, b5, b6, b7, .agg #[.slice A f.f0.length a, .slice B f.f1.length b, .int .i64 f.f2, .int .i64 f.f3], v19, v20, v21, v6, v7, rfl, by simp only [List.setIfInBounds_toArray, List.set_cons_zero, List.set_cons_succ, Bool.not_true], { F9 with h0 := fun _ => rfl }⟩
          | 1, ho, hb, hw =>
            obtain rfl : _ = o := Option.some.inj ho
            simp only [List.setIfInBounds_toArray, List.set_cons_zero, List.set_cons_succ]
            obtain rfl := F9.h0 (hw ⟨0, .data⟩ (by simp) rfl)
            go_wp2_with (go_at_call 41; (refine (manystrandref07_in.calls 1001 A a f.f0 B b f.f1 f.f2 f.f3 (opn f).f0 (opn f).f1 (opn f).f2 (opn f).f3 false _ ((H1.out.below F9.bel).h0) H1.out.l0 ((H1.out.below F9.bel).h1) H1.out.l1 (inR_f hf.1 hf.2 hv1 (by omega))).mono ?_); rintro e w2 ⟨rfl, hd⟩)
            exact ⟨b0, true, b2, b3, b4, b5, b6, b7, .agg #[.slice A f.f0.length a, .slice B f.f1.length b, .int .i64 f.f2, .int .i64 f.f3], .agg #[.int .u64 (opn f).f0, .int .u64 (opn f).f1, .int .i64 (opn f).f2, .int .i64 (opn f).f3, .bool false], v20, v21, v6, v7, rfl, by simp only [List.setIfInBounds_toArray, List.set_cons_zero, List.set_cons_succ, Bool.not_true], { F9 with h1 := fun _ => rfl, h4 := fun q => (F9.h4 q).imp (fun _ l => ⟨l.1, l.2.1, blk_below l.2.2 hd⟩), h5 := fun q => (F9.h5 q).imp (fun _ l => ⟨l.1, l.2.1, blk_below l.2.2 hd⟩), k0 := blk_below F9.k0 hd, k1 := blk_below F9.k1 hd, k2 := blk_below F9.k2 hd, bel := below_step F9.bel hd }⟩
          | 2, ho, hb, hw =>
            obtain rfl : _ = o := Option.some.inj ho
            simp only [List.setIfInBounds_toArray, List.set_cons_zero, List.set_cons_succ]
            have y0 := (blk_cell F9.k1 0).trans rfl
            have y1 := (blk_cell F9.k1 1).trans rfl
            have y2 := (blk_cell F9.k1 2).trans rfl
            have y3 := (blk_cell F9.k1 3).trans rfl
            go_wp2
            exact ⟨b0, b1, true, b3, b4, b5, b6, b7, v18, v19, .agg #[.slice C g.f0.length c, .slice D g.f1.length d, .int .i64 g.f2, .int .i64 g.f3], v21, v6, v7, rfl, by simp only [List.setIfInBounds_toArray, List.set_cons_zero, List.set_cons_succ, Bool.not_true], { F9 with h2 := fun _ => rfl }⟩
          | 3, ho, hb, hw =>
            obtain rfl : _ = o := Option.some.inj ho
            simp only [List.setIfInBounds_toArray, List.set_cons_zero, List.set_cons_succ]
            obtain rfl := F9.h2 (hw ⟨2, .data⟩ (by simp) rfl)
            go_wp2_with (go_at_call 41; (refine (manystrandref07_in.calls 1001 C c g.f0 D d g.f1 g.f2 g.f3 (opn g).f0 (opn g).f1 (opn g).f2 (opn g).f3 false _ ((H2.out.below F9.bel).h0) H2.out.l0 ((H2.out.below F9.bel).h1) H2.out.l1 (inR_f hg.1 hg.2 hv2 (by omega))).mono ?_); rintro e w2 ⟨rfl, hd⟩)
            exact ⟨b0, b1, b2, true, b4, b5, b6, b7, v18, v19, .agg #[.slice C g.f0.length c, .slice D g.f1.length d, .int .i64 g.f2, .int .i64 g.f3], .agg #[.int .u64 (opn g).f0, .int .u64 (opn g).f1, .int .i64 (opn g).f2, .int .i64 (opn g).f3, .bool false], v6, v7, rfl, by simp only [List.setIfInBounds_toArray, List.set_cons_zero, List.set_cons_succ, Bool.not_true], { F9 with h3 := fun _ => rfl, h4 := fun q => (F9.h4 q).imp (fun _ l => ⟨l.1, l.2.1, blk_below l.2.2 hd⟩), h5 := fun q => (F9.h5 q).imp (fun _ l => ⟨l.1, l.2.1, blk_below l.2.2 hd⟩), k0 := blk_below F9.k0 hd, k1 := blk_below F9.k1 hd, k2 := blk_below F9.k2 hd, bel := below_step F9.bel hd }⟩
          | 4, ho, hb, hw =>
            obtain rfl : _ = o := Option.some.inj ho
            simp only [List.setIfInBounds_toArray, List.set_cons_zero, List.set_cons_succ]
            obtain rfl : b4 = false := hb
            have q6 : b6 = false := by cases e : b6 <;> first | rfl | exact absurd (F9.n6 e) (by decide)
            subst q6
            go_wp2
            exact ⟨b0, b1, b2, b3, true, b5, false, b7, v18, v19, v20, v21, .pointer (some ⟨w'.heap.size, 0, none⟩), v7, rfl, by simp only [List.setIfInBounds_toArray, List.set_cons_zero, List.set_cons_succ, Bool.not_true], { F9 with h4 := fun _ => ⟨_, rfl, (by have := blk_lt F9.k2; omega), blk_new _ _⟩, h5 := fun q => (F9.h5 q).imp (fun _ l => ⟨l.1, l.2.1, blk_alloc l.2.2 _⟩), ne := fun _ q e => (by obtain ⟨g7, l⟩ := F9.h5 q; rw [l.1] at e; injection e with e; injection e with e; injection e with e; have := blk_lt l.2.2; omega), n6 := fun q => rfl, k0 := blk_alloc F9.k0 _, k1 := blk_alloc F9.k1 _, k2 := blk_alloc F9.k2 _, bel := below_alloc F9.bel _ }⟩
          | 5, ho, hb, hw =>
            obtain rfl : _ = o := Option.some.inj ho
            simp only [List.setIfInBounds_toArray, List.set_cons_zero, List.set_cons_succ]
            obtain rfl : b5 = false := hb
            have q7 : b7 = false := by cases e : b7 <;> first | rfl | exact absurd (F9.n7 e) (by decide)
            subst q7
            go_wp2
            exact ⟨b0, b1, b2, b3, b4, true, b6, false, v18, v19, v20, v21, v6, .pointer (some ⟨w'.heap.size, 0, none⟩), rfl, by simp only [List.setIfInBounds_toArray, List.set_cons_zero, List.set_cons_succ, Bool.not_true], { F9 with h5 := fun _ => ⟨_, rfl, (by have := blk_lt F9.k2; omega), blk_new _ _⟩, h4 := fun q => (F9.h4 q).imp (fun _ l => ⟨l.1, l.2.1, blk_alloc l.2.2 _⟩), ne := fun q _ e => (by obtain ⟨g6, l⟩ := F9.h4 q; rw [l.1] at e; injection e with e; injection e with e; injection e with e; have := blk_lt l.2.2; omega), n7 := fun q => rfl, k0 := blk_alloc F9.k0 _, k1 := blk_alloc F9.k1 _, k2 := blk_alloc F9.k2 _, bel := below_alloc F9.bel _ }⟩
          | 6, ho, hb, hw =>
            obtain rfl : _ = o := Option.some.inj ho
            simp only [List.setIfInBounds_toArray, List.set_cons_zero, List.set_cons_succ]
            obtain rfl : b6 = false := hb
            have qa : b4 = true := hw ⟨4, .data⟩ (by simp) rfl
            have qv := F9.h1 (hw ⟨1, .data⟩ (by simp) rfl)
            obtain ⟨gx, ex, lx, kx⟩ := F9.h4 qa
            subst qa
            subst qv
            subst ex
            have kx : w'.heap[gx]? = some (.cells #[.int .u64 0, .int .u64 0, .int .i64 0, .int .i64 0, .bool false] 68 (0, 0)) := kx
            have y0 := (blk_cell kx 0).trans rfl
            have y1 := (blk_cell kx 1).trans rfl
            have y2 := (blk_cell kx 2).trans rfl
            have y3 := (blk_cell kx 3).trans rfl
            have y4 := (blk_cell kx 4).trans rfl
            have z0 := blk_frozen kx 0
            have z1 := blk_frozen kx 1
            have z2 := blk_frozen kx 2
            have z3 := blk_frozen kx 3
            have z4 := blk_frozen kx 4
            simp only [c68]
            go_wp2
            exact ⟨b0, b1, b2, b3, true, b5, true, b7, v18, .agg (c68 f), v20, v21, .pointer (some ⟨gx, 0, none⟩), v7, rfl, by simp only [List.setIfInBounds_toArray, List.set_cons_zero, List.set_cons_succ, Bool.not_true, c68], { F9 with h4 := fun _ => ⟨gx, rfl, lx, blk_put (blk_put (blk_put (blk_put (blk_put kx 0 _ rfl) 1 _ rfl) 2 _ rfl) 3 _ rfl) 4 _ rfl⟩, h5 := fun q => (F9.h5 q).imp (fun g' l => ⟨l.1, l.2.1, blk_far (blk_far (blk_far (blk_far (blk_far (l.2.2) (fun e : g' = gx => by have hne := F9.ne rfl q; rw [l.1] at hne; exact hne (by rw [e])) _) (fun e : g' = gx => by have hne := F9.ne rfl q; rw [l.1] at hne; exact hne (by rw [e])) _) (fun e : g' = gx => by have hne := F9.ne rfl q; rw [l.1] at hne; exact hne (by rw [e])) _) (fun e : g' = gx => by have hne := F9.ne rfl q; rw [l.1] at hne; exact hne (by rw [e])) _) (fun e : g' = gx => by have hne := F9.ne rfl q; rw [l.1] at hne; exact hne (by rw [e])) _⟩), n6 := fun _ => rfl, k0 := blk_far (blk_far (blk_far (blk_far (blk_far (F9.k0) (fun e : w.heap.size = gx => by omega) _) (fun e : w.heap.size = gx => by omega) _) (fun e : w.heap.size = gx => by omega) _) (fun e : w.heap.size = gx => by omega) _) (fun e : w.heap.size = gx => by omega) _, k1 := blk_far (blk_far (blk_far (blk_far (blk_far (F9.k1) (fun e : w.heap.size + 1 = gx => by omega) _) (fun e : w.heap.size + 1 = gx => by omega) _) (fun e : w.heap.size + 1 = gx => by omega) _) (fun e : w.heap.size + 1 = gx => by omega) _) (fun e : w.heap.size + 1 = gx => by omega) _, k2 := blk_far (blk_far (blk_far (blk_far (blk_far (F9.k2) (fun e : w.heap.size + 1 + 1 = gx => by omega) _) (fun e : w.heap.size + 1 + 1 = gx => by omega) _) (fun e : w.heap.size + 1 + 1 = gx => by omega) _) (fun e : w.heap.size + 1 + 1 = gx => by omega) _) (fun e : w.heap.size + 1 + 1 = gx => by omega) _, bel := below_set (below_set (below_set (below_set (below_set (F9.bel) (by omega)) (by omega)) (by omega)) (by omega)) (by omega) }⟩
          | 7, ho, hb, hw =>
            obtain rfl : _ = o := Option.some.inj ho
            simp only [List.setIfInBounds_toArray, List.set_cons_zero, List.set_cons_succ]
            obtain rfl : b7 = false := hb
            have qa : b5 = true := hw ⟨5, .data⟩ (by simp) rfl
            have qv := F9.h3 (hw ⟨3, .data⟩ (by simp) rfl)
            obtain ⟨gx, ex, lx, kx⟩ := F9.h5 qa
            subst qa
            subst qv
            subst ex
            have kx : w'.heap[gx]? = some (.cells #[.int .u64 0, .int .u64 0, .int .i64 0, .int .i64 0, .bool false] 68 (0, 0)) := kx
            have y0 := (blk_cell kx 0).trans rfl
            have y1 := (blk_cell kx 1).trans rfl
            have y2 := (blk_cell kx 2).trans rfl
            have y3 := (blk_cell kx 3).trans rfl
            have y4 := (blk_cell kx 4).trans rfl
            have z0 := blk_frozen kx 0
            have z1 := blk_frozen kx 1
            have z2 := blk_frozen kx 2
            have z3 := blk_frozen kx 3
            have z4 := blk_frozen kx 4
            simp only [c68]
            go_wp2
            exact ⟨b0, b1, b2, b3, b4, true, b6, true, v18, v19, v20, .agg (c68 g), v6, .pointer (some ⟨gx, 0, none⟩), rfl, by simp only [List.setIfInBounds_toArray, List.set_cons_zero, List.set_cons_succ, Bool.not_true, c68], { F9 with h5 := fun _ => ⟨gx, rfl, lx, blk_put (blk_put (blk_put (blk_put (blk_put kx 0 _ rfl) 1 _ rfl) 2 _ rfl) 3 _ rfl) 4 _ rfl⟩, h4 := fun q => (F9.h4 q).imp (fun g' l => ⟨l.1, l.2.1, blk_far (blk_far (blk_far (blk_far (blk_far (l.2.2) (fun e : g' = gx => by have hne := F9.ne q rfl; rw [l.1] at hne; exact hne (by rw [e])) _) (fun e : g' = gx => by have hne := F9.ne q rfl; rw [l.1] at hne; exact hne (by rw [e])) _) (fun e : g' = gx => by have hne := F9.ne q rfl; rw [l.1] at hne; exact hne (by rw [e])) _) (fun e : g' = gx => by have hne := F9.ne q rfl; rw [l.1] at hne; exact hne (by rw [e])) _) (fun e : g' = gx => by have hne := F9.ne q rfl; rw [l.1] at hne; exact hne (by rw [e])) _⟩), n7 := fun _ => rfl, k0 := blk_far (blk_far (blk_far (blk_far (blk_far (F9.k0) (fun e : w.heap.size = gx => by omega) _) (fun e : w.heap.size = gx => by omega) _) (fun e : w.heap.size = gx => by omega) _) (fun e : w.heap.size = gx => by omega) _) (fun e : w.heap.size = gx => by omega) _, k1 := blk_far (blk_far (blk_far (blk_far (blk_far (F9.k1) (fun e : w.heap.size + 1 = gx => by omega) _) (fun e : w.heap.size + 1 = gx => by omega) _) (fun e : w.heap.size + 1 = gx => by omega) _) (fun e : w.heap.size + 1 = gx => by omega) _) (fun e : w.heap.size + 1 = gx => by omega) _, k2 := blk_far (blk_far (blk_far (blk_far (blk_far (F9.k2) (fun e : w.heap.size + 1 + 1 = gx => by omega) _) (fun e : w.heap.size + 1 + 1 = gx => by omega) _) (fun e : w.heap.size + 1 + 1 = gx => by omega) _) (fun e : w.heap.size + 1 + 1 = gx => by omega) _) (fun e : w.heap.size + 1 + 1 = gx => by omega) _, bel := below_set (below_set (below_set (below_set (below_set (F9.bel) (by omega)) (by omega)) (by omega)) (by omega)) (by omega) }⟩
          | i + 8, ho, hb, hw => simp at ho
        · rintro listed a' w' hall ⟨b0, b1, b2, b3, b4, b5, b6, b7, v18, v19, v20, v21, v6, v7, rfl, rfl, F9⟩
          obtain ⟨g6, e6, l6, k6⟩ := F9.h4 (hall 4 (by simp))
          obtain ⟨g7, e7, l7, k7⟩ := F9.h5 (hall 5 (by simp))
          have q6 : b6 = true := hall 6 (by simp)
          have q7 : b7 = true := hall 7 (by simp)
          have hne := F9.ne (hall 4 (by simp)) (hall 5 (by simp))
          subst q6 q7 e6 e7
          have hn : g6 ≠ g7 := fun e => hne (by rw [e])
          simp only [List.setIfInBounds_toArray, List.set_cons_zero, List.set_cons_succ]
          go_wp2
          go_meet
          case rel => exact ⟨g6, g7, rfl, rfl, ⟨hn⟩, ⟨by omega, by omega⟩, ⟨by omega, by omega⟩, ⟨F9.bel⟩, ⟨F9.k2⟩, ⟨k6⟩, ⟨k7⟩⟩
      case rest =>
        obtain ⟨g6, g7, rfl, rfl, hn, l6, l7, HB1, K2, Q6, Q7⟩ := hcut
        have Q6' : Aside0 (_ = some (Obj.cells #[.int .u64 (opn f).f0, .int .u64 (opn f).f1, .int .i64 (opn f).f2, .int .i64 (opn f).f3, .bool false] 68 (0, 0))) := Q6
        have Q7' : Aside0 (_ = some (Obj.cells #[.int .u64 (opn g).f0, .int .u64 (opn g).f1, .int .i64 (opn g).f2, .int .i64 (opn g).f3, .bool false] 68 (0, 0))) := Q7
        clear Q6 Q7 HB B0 B1 B2
        have y0 := (blk_cell Q6'.out 0).trans rfl
        have y1 := (blk_cell Q6'.out 1).trans rfl
        have y2 := (blk_cell Q6'.out 2).trans rfl
        have y3 := (blk_cell Q6'.out 3).trans rfl
        have x0 := (blk_cell Q7'.out 0).trans rfl
        have x1 := (blk_cell Q7'.out 1).trans rfl
        have x2 := (blk_cell Q7'.out 2).trans rfl
        have x3 := (blk_cell Q7'.out 3).trans rfl
        have hr := normR ⟨(mt (opn f) (opn g)).f0, (mt (opn f) (opn g)).f1, (mt (opn f) (opn g)).f2, (mt (opn f) (opn g)).f3, false⟩ (ws_mt _ _) (k := 200) (by omega)
        rw [show NR ⟨(mt (opn f) (opn g)).f0, (mt (opn f) (opn g)).f1, (mt (opn f) (opn g)).f2, (mt (opn f) (opn g)).f3, false⟩ = outR (nrm (mt (opn f) (opn g))) from NR_good rfl] at hr
        obtain ⟨m1, hm1⟩ : ∃ j, mx (opn f).f2 (opn g).f2 = j := ⟨_, rfl⟩
        have hm1' : (if (opn f).f2 < (opn g).f2 then (opn g).f2 else (opn f).f2) = m1 := hm1
        obtain ⟨m2, hm2⟩ : ∃ j, mn (opn f).f3 (opn g).f3 = j := ⟨_, rfl⟩
        have hm2' : (if (opn g).f3 < (opn f).f3 then (opn g).f3 else (opn f).f3) = m2 := hm2
        cases hm : nrm (mt (opn f) (opn g)) with
        | none =>
          rw [hm] at hr
          have hr' : manystrandref07_normal.f 200 (Go.bits .or .u64 (opn f).f0 (opn g).f0) (Go.bits .and .u64 (opn f).f1 (opn g).f1) (mx (opn f).f2 (opn g).f2) (mn (opn f).f3 (opn g).f3) false = some (0, 0, 0, 0, true) := hr
          rw [hm1, hm2] at hr'
          clear hm1 hm2
          have HR := Aside0.mk hr'
          clear hr hr'
          go_upto_region 6 with (go_at_call 40; (refine (manystrandref07_normal.calls 200 _ _ _ _ false _ _ _ _ _ _ HR.out).mono ?_); rintro e w4 ⟨rfl, hd⟩; have HB4 := Aside0.mk (below_step HB1.out hd); have K4 := Aside0.mk (blk_below K2.out hd); clear hd)
          generalize hw5 : w4.alloc _ = w5
          have K5 := Aside0.mk (hw5 ▸ blk_alloc K4.out _ : w5.heap[w.heap.size + 1 + 1]? = some (.cells #[.slice none 0 0, .slice none 0 0, .int .i64 0, .int .i64 0] 37 (0, 0)))
          have HB5 := Aside0.mk (hw5 ▸ below_alloc HB4.out _ : Below w.heap.size w w5)
          clear hw5
          have e0 := (blk_cell K5.out 0).trans rfl
          have f0 := blk_frozen K5.out 0
          have e1 := (blk_cell K5.out 1).trans rfl
          have f1 := blk_frozen K5.out 1
          have e2 := (blk_cell K5.out 2).trans rfl
          have f2 := blk_frozen K5.out 2
          have e3 := (blk_cell K5.out 3).trans rfl
          have f3 := blk_frozen K5.out 3
          go_wp2
          refine bodyPost_ret (results_ct rfl _ _ (w.heap.size + 1 + 1) 37 #[.slice none 0 0, .slice none 0 0, .int .i64 0, .int .i64 0] (0, 0) _ rfl (by (with_reducible repeat (first | refine blk_drewN ?_ _ | refine blk_drew ?_)); exact blk_put (blk_put (blk_put (blk_put K5.out 0 _ rfl) 1 _ rfl) 2 _ rfl) 3 _ rfl) Try.underlying37 rfl (by kernel_rfl)) rfl ?_
          refine ⟨_, _, by rw [hv, hm]; rfl, by rw [hv, hm]; exact Kd.R_nil _ _ _ _ _, by rw [hv, hm]; exact Kd.R_nil _ _ _ _ _, ?_⟩
          repeat (first | (with_reducible first | exact HB5.out | apply pw_below_drewN | apply below_drew1) | (refine below_set ?_ (by omega)) | exact HB5.out)
        | some t =>
          rw [hm] at hr
          have hr' : manystrandref07_normal.f 200 (Go.bits .or .u64 (opn f).f0 (opn g).f0) (Go.bits .and .u64 (opn f).f1 (opn g).f1) (mx (opn f).f2 (opn g).f2) (mn (opn f).f3 (opn g).f3) false = some (t.f0, t.f1, t.f2, t.f3, false) := hr
          rw [hm1, hm2] at hr'
          clear hm1 hm2
          have HR := Aside0.mk hr'
          have HW := Aside0.mk ((nrm_spec (ws_mt (opn f) (opn g))).1 t hm).1.wf
          clear hr hr'
          go_upto_region 7 with (go_at_call 40; (refine (manystrandref07_normal.calls 200 _ _ _ _ false _ _ _ _ _ _ HR.out).mono ?_); rintro e w4 ⟨rfl, hd⟩; have HB4 := Aside0.mk (below_step HB1.out hd); have K4 := Aside0.mk (blk_below K2.out hd); clear hd)
          generalize hw5 : w4.alloc _ = w5
          have K5 := Aside0.mk (hw5 ▸ blk_alloc K4.out _ : w5.heap[w.heap.size + 1 + 1]? = some (.cells #[.slice none 0 0, .slice none 0 0, .int .i64 0, .int .i64 0] 37 (0, 0)))
          have HB5 := Aside0.mk (hw5 ▸ below_alloc HB4.out _ : Below w.heap.size w w5)
          have N5 := Aside0.mk (hw5 ▸ blk_new w4 _ : w5.heap[w4.heap.size]? = some (.cells #[.int .u64 t.f0, .int .u64 t.f1, .int .i64 t.f2, .int .i64 t.f3, .bool false] 68 (0, 0)))
          clear hw5
          have t0 := (blk_cell N5.out 0).trans rfl
          have t1 := (blk_cell N5.out 1).trans rfl
          have t2 := (blk_cell N5.out 2).trans rfl
          have t3 := (blk_cell N5.out 3).trans rfl
          have t4 := (blk_cell N5.out 4).trans rfl
          go_wp2_with (go_at_call 43; (refine (manystrandref07_out.calls 200 _ _ _ _ false _ _ _ _ _ (outR_f HW.out false (by omega))).mono ?_); rintro e w6 ⟨v0, v1, rfl, r0, r1, hd⟩; obtain ⟨Ao, ao, rfl⟩ := Kd.R_slice r0; obtain ⟨Bo, bo, rfl⟩ := Kd.R_slice r1; have R0 := Aside0.mk (Kd.R_lower r0 HB5.out.size); have R1 := Aside0.mk (Kd.R_lower r1 HB5.out.size); have HB6 := Aside0.mk (below_step HB5.out hd); have K6 := Aside0.mk (blk_below K5.out hd); have e0 := (blk_cell K6.out 0).trans rfl; have e1 := (blk_cell K6.out 1).trans rfl; have e2 := (blk_cell K6.out 2).trans rfl; have e3 := (blk_cell K6.out 3).trans rfl; have f0 := blk_frozen K6.out 0; have f1 := blk_frozen K6.out 1; have f2 := blk_frozen K6.out 2; have f3 := blk_frozen K6.out 3; clear hd r0 r1 t0 t1 t2 t3 t4)
          refine bodyPost_ret (results_ct rfl _ _ (w.heap.size + 1 + 1) 37 #[.slice Ao (clo t).f0.length ao, .slice Bo (clo t).f1.length bo, .int .i64 (clo t).f2, .int .i64 (clo t).f3] (0, 0) _ rfl (by (with_reducible repeat (first | refine blk_drewN ?_ _ | refine blk_drew ?_)); exact blk_put (blk_put (blk_put (blk_put K6.out 0 _ rfl) 1 _ rfl) 2 _ rfl) 3 _ rfl) Try.underlying37 rfl (by kernel_rfl)) rfl ?_
          refine ⟨_, _, by rw [hv, hm]; rfl, ?_, ?_, ?_⟩
          · rw [hv, hm]
            exact Kd.R_mono (Kd.R_far (p := ⟨w.heap.size + 1 + 1, 3, none⟩) (Kd.R_far (p := ⟨w.heap.size + 1 + 1, 2, none⟩) (Kd.R_far (p := ⟨w.heap.size + 1 + 1, 1, none⟩) (Kd.R_far (p := ⟨w.heap.size + 1 + 1, 0, none⟩) (Kd.R_types R0.out K6.out (by decide)) (fun _ hk => hk.2) _) (fun _ hk => hk.2) _) (fun _ hk => hk.2) _) (fun _ hk => hk.2) _) (fun _ hk => hk.1)
          · rw [hv, hm]
            exact Kd.R_mono (Kd.R_far (p := ⟨w.heap.size + 1 + 1, 3, none⟩) (Kd.R_far (p := ⟨w.heap.size + 1 + 1, 2, none⟩) (Kd.R_far (p := ⟨w.heap.size + 1 + 1, 1, none⟩) (Kd.R_far (p := ⟨w.heap.size + 1 + 1, 0, none⟩) (Kd.R_types R1.out K6.out (by decide)) (fun _ hk => hk.2) _) (fun _ hk => hk.2) _) (fun _ hk => hk.2) _) (fun _ hk => hk.2) _) (fun _ hk => hk.1)
          · repeat (first | (with_reducible first | exact HB6.out | apply pw_below_drewN | apply below_drew1) | (refine below_set ?_ (by omega)) | exact HB6.out)
end Go.Proofs.Ytgfbgfbnmiainaa.Fam
/-! How many sets a family stands for: the program's number and the reference's are one. -/
namespace Go.Proofs.Ytgfbgfbnmiainaa.Fam
set_option linter.unusedVariables false
set_option linter.unusedSimpArgs false
open Go.RowKit Go.Proofs.YtgfbgfbnmiainaaW.PrintWords Go.Proofs.YtgfbgfbnmiainaaW.PrintLast Go.Proofs.YtgfbgfbnmiainaaW.PrintMore Go.Proofs.Ytgfbgfbnmiainaa.Q
/-- In how many ways j of i things are chosen. -/
def ch : Nat → Nat → Nat
  | _, 0 => 1
  | 0, _ + 1 => 0
  | i + 1, j + 1 => ch i j + ch i (j + 1)
theorem ch_out : ∀ i j, i < j → ch i j = 0
  | 0, 0, h => absurd h (by omega)
  | 0, _ + 1, _ => rfl
  | i + 1, 0, h => absurd h (by omega)
  | i + 1, j + 1, h => by
    rw [ch, ch_out i j (by omega), ch_out i (j + 1) (by omega)]
theorem ch_self : ∀ i, ch i i = 1
  | 0 => rfl
  | i + 1 => by rw [ch, ch_self i, ch_out i (i + 1) (by omega)]
theorem ch_zero (i : Nat) : ch i 0 = 1 := by cases i <;> rfl
/-- The rows, as lists. -/
def nextR : Nat → List Nat → List Nat
  | p, [] => [p]
  | p, x :: l => (p + x) :: nextR x l
def rowC : Nat → List Nat
  | 0 => [1]
  | i + 1 => nextR 0 (rowC i)
theorem nextR_get : ∀ (l : List Nat) (p j : Nat), (nextR p l).getD j 0 = (if j = 0 then p else l.getD (j - 1) 0) + l.getD j 0
  | [], p, 0 => rfl
  | [], p, j + 1 => rfl
  | x :: l, p, 0 => rfl
  | x :: l, p, j + 1 => by
    have := nextR_get l x j
    cases j with
    | zero => simpa [nextR] using this
    | succ j => simpa [nextR] using this
theorem rowC_get : ∀ i j, (rowC i).getD j 0 = ch i j
  | 0, 0 => rfl
  | 0, j + 1 => rfl
  | i + 1, 0 => by rw [rowC, nextR_get, rowC_get i 0, ch_zero, ch_zero]; rfl
  | i + 1, j + 1 => by rw [rowC, nextR_get, if_neg (by omega), Nat.add_sub_cancel, rowC_get i j, rowC_get i (j + 1)]; rfl
def rowsOk : Nat → List Nat → Bool
  | 0, _ => true
  | n + 1, l => l.all (fun x => decide (x ≤ 2305843009213693952)) && rowsOk n (nextR 0 l)
theorem rowsOk_spec : ∀ (n i : Nat), rowsOk n (rowC i) = true → ∀ m, m < n → ∀ x ∈ rowC (i + m), x ≤ 2305843009213693952
  | 0, _, _, m, hm => absurd hm (by omega)
  | n + 1, i, h, m, hm => by
    simp only [rowsOk, Bool.and_eq_true] at h
    cases m with
    | zero => exact fun x hx => of_decide_eq_true (List.all_eq_true.mp h.1 x hx)
    | succ m =>
      have := rowsOk_spec n (i + 1) h.2 m (by omega)
      rwa [show i + 1 + m = i + (m + 1) from by omega] at this
theorem rows_small : rowsOk 65 (rowC 0) = true := by decide +kernel
theorem ch_small {i : Nat} (hi : i ≤ 64) (j : Nat) : ch i j ≤ 2305843009213693952 := by
  have h := rowsOk_spec 65 0 rows_small i (by omega)
  rw [Nat.zero_add] at h
  rw [← rowC_get]
  rcases Nat.lt_or_ge j (rowC i).length with g | g
  · rw [List.getD_eq_getElem?_getD, List.getElem?_eq_getElem g]
    exact h _ (List.getElem_mem g)
  · rw [List.getD_eq_getElem?_getD, List.getElem?_eq_none g]
    exact Nat.zero_le _
/-- The sum of those that p takes, from m on, c of them. -/
def T (n : Nat) (p : Nat → Bool) : Nat → Nat → Nat
  | _, 0 => 0
  | m, c + 1 => (if p m = true then ch n m else 0) + T n p (m + 1) c
theorem T_congr {n : Nat} {p q : Nat → Bool} : ∀ (c m : Nat), (∀ j, m ≤ j → j < m + c → p j = q j) → T n p m c = T n q m c
  | 0, _, _ => rfl
  | c + 1, m, h => by rw [T, T, h m (Nat.le_refl _) (by omega), T_congr c (m + 1) (fun j h1 h2 => h j (by omega) (by omega))]
theorem T_none {n : Nat} {p : Nat → Bool} : ∀ (c m : Nat), (∀ j, m ≤ j → j < m + c → p j = false) → T n p m c = 0
  | 0, _, _ => rfl
  | c + 1, m, h => by rw [T, h m (Nat.le_refl _) (by omega), T_none c (m + 1) (fun j h1 h2 => h j (by omega) (by omega))]; rfl
theorem T_add {n : Nat} {p : Nat → Bool} : ∀ (c d m : Nat), T n p m (c + d) = T n p m c + T n p (m + c) d
  | 0, d, m => by simp [T]
  | c + 1, d, m => by
    rw [show c + 1 + d = (c + d) + 1 from by omega, T, T, T_add c d (m + 1), show m + 1 + c = m + (c + 1) from by omega, Nat.add_assoc]
/-- What comes of a total. -/
def outC (t : Nat) : Int × Int := if t > 4611686018427387904 then (0, 4) else ((t : Int), 0)
theorem rd_set_ne {l : List Int} {i j : Nat} (v : Int) (h : i ≠ j) : rd (l.set i v) (j : Int) = rd l (j : Int) := by
  unfold rd
  rw [Int.toNat_natCast, List.getD_eq_getElem?_getD, List.getD_eq_getElem?_getD, List.getElem?_set_ne h]
theorem rd_set_self {l : List Int} {i : Nat} (v : Int) (h : i < l.length) : rd (l.set i v) (i : Int) = v := by
  unfold rd
  rw [Int.toNat_natCast, List.getD_eq_getElem?_getD, List.getElem?_set_self h]
  rfl
theorem wrapI {x : Int} (h0 : -9223372036854775808 ≤ x) (h1 : x ≤ 9223372036854775807) : wrap64 x = x := by unfold wrap64; omega
def Evt {α : Type} (g : Nat → Option α) (r : α) : Prop := ∃ K, ∀ k, K ≤ k → g k = some r
theorem Evt.now {α : Type} {r : α} : Evt (fun _ => some r) r := ⟨0, fun _ _ => rfl⟩
theorem Evt.shift {α : Type} {g f : Nat → Option α} {r : α} (c : Nat) (h : ∀ k, g (k + c) = f k) (e : Evt f r) : Evt g r := by
  obtain ⟨K, hK⟩ := e
  exact ⟨K + c, fun k hk => by rw [show k = (k - c) + c from by omega, h, hK _ (by omega)]⟩
/-- One row of the program's becomes the next one. -/
theorem cntF_in (x6 : Int) (s0 s1 s2 s3 : Int) (n i : Nat) (hi : 1 ≤ i) (hn : i ≤ n) (h64 : n ≤ 64) : ∀ (m : Nat) (row : List Int), m ≤ i → row.length = n + 1 → (∀ j, j ≤ n → rd row (j : Int) = if m < j then ((ch i j : Nat) : Int) else ((ch (i - 1) j : Nat) : Int)) →
    ∃ row' : List Int, row'.length = n + 1 ∧ (∀ j, j ≤ n → rd row' (j : Int) = ((ch i j : Nat) : Int)) ∧ ∀ k, family_Count.l1 (k + (m + 1)) x6 (n : Int) row (i : Int) (m : Int) s0 s1 s2 s3 = family_Count.l0 k x6 (n : Int) row' ((i + 1 : Nat) : Int) s0 s1 s2 s3
  | 0, row, _, hl, h => by
    refine ⟨row, hl, fun j hj => ?_, fun k => ?_⟩
    · rw [h j hj]
      split
      · rfl
      · obtain rfl : j = 0 := by omega
        rw [ch_zero, ch_zero]
    · rw [Nat.zero_add, family_Count.l1, if_neg (by omega), wrap_next i (by omega)]
  | m + 1, row, hm, hl, h => by
    have c1 := ch_small (i := i - 1) (by omega) m
    have c2 := ch_small (i := i - 1) (by omega) (m + 1)
    have e1 := h (m + 1) (by omega)
    have e2 := h m (by omega)
    rw [if_neg (by omega)] at e1 e2
    have hw : wrap64 (rd row ((m + 1 : Nat) : Int) + rd row (m : Int)) = ((ch i (m + 1) : Nat) : Int) := by
      rw [e1, e2, wrapI (by omega) (by omega)]
      obtain ⟨i, rfl⟩ : ∃ q, i = q + 1 := ⟨i - 1, by omega⟩
      rw [Nat.add_sub_cancel, ch]
      omega
    obtain ⟨row', r1, r2, r3⟩ := cntF_in x6 s0 s1 s2 s3 n i hi hn h64 m (row.set (m + 1) ((ch i (m + 1) : Nat) : Int)) (by omega) (by rw [List.length_set, hl]) (fun j hj => by
      by_cases e : j = m + 1
      · subst e
        rw [rd_set_self _ (by omega), if_pos (by omega)]
      · rw [rd_set_ne _ (Ne.symm e), h j hj]
        by_cases g : m + 1 < j
        · rw [if_pos g, if_pos (by omega)]
        · rw [if_neg g, if_neg (by omega)])
    refine ⟨row', r1, r2, fun k => ?_⟩
    rw [show k + (m + 1 + 1) = (k + (m + 1)) + 1 from by omega, family_Count.l1, if_pos (by omega), if_pos (by omega), if_pos (by omega), wrap_prev m (by omega), if_pos (by omega), if_pos (by omega), hw, Int.toNat_natCast, r3 k]
/-- All rows, then the sum. -/
theorem cntF_out (x6 : Int) (s0 s1 s2 s3 : Int) (n : Nat) (h64 : n ≤ 64) (r : Int × Int) (hend : ∀ row : List Int, row.length = n + 1 → (∀ j, j ≤ n → rd row (j : Int) = ((ch n j : Nat) : Int)) → Evt (fun k => family_Count.l2 k x6 row 0 (wrap64 (s2 - x6)) s0 s1 s2 s3) r) :
    ∀ (d i : Nat) (row : List Int), i + d = n → row.length = n + 1 → (∀ j, j ≤ n → rd row (j : Int) = ((ch i j : Nat) : Int)) → Evt (fun k => family_Count.l0 k x6 (n : Int) row ((i + 1 : Nat) : Int) s0 s1 s2 s3) r
  | 0, i, row, hd, hl, h => by
    obtain rfl : i = n := by omega
    refine Evt.shift 1 (fun k => ?_) (hend row hl h)
    rw [family_Count.l0, if_neg (by omega)]
  | d + 1, i, row, hd, hl, h => by
    obtain ⟨row', r1, r2, r3⟩ := cntF_in x6 s0 s1 s2 s3 n (i + 1) (by omega) (by omega) h64 (i + 1) row (by omega) hl (fun j hj => by
      rw [Nat.add_sub_cancel, h j hj]
      split
      · rw [ch_out i j (by omega), ch_out (i + 1) j (by omega)]
      · rfl)
    refine Evt.shift (i + 1 + 1 + 1) (fun k => ?_) (cntF_out x6 s0 s1 s2 s3 n h64 r hend d (i + 1) row' (by omega) r1 r2)
    rw [show k + (i + 1 + 1 + 1) = (k + (i + 1 + 1)) + 1 from by omega, family_Count.l0, if_pos (by omega), r3 k]
/-- The sum, from m on, up to b. -/
theorem cntF_sum (x6 : Int) (s0 s1 s2 s3 : Int) (n b : Nat) (h64 : n ≤ 64) (hb : b ≤ n) (hs : wrap64 (s3 - x6) = (b : Int)) (row : List Int) (hl : row.length = n + 1) (h : ∀ j, j ≤ n → rd row (j : Int) = ((ch n j : Nat) : Int)) (p : Nat → Bool) (hp : ∀ j, j ≤ n → p j = decide (j ≤ b)) :
    ∀ (d m t : Nat), m + d = n + 1 → t ≤ 4611686018427387904 → Evt (fun k => family_Count.l2 k x6 row (t : Int) (m : Int) s0 s1 s2 s3) (outC (t + T n p m d))
  | 0, m, t, hd, ht => by
    refine Evt.shift 1 (fun k => ?_) Evt.now
    rw [family_Count.l2, hs, if_neg (by omega), T, Nat.add_zero]
    unfold outC
    rw [if_neg (by omega)]
  | d + 1, m, t, hd, ht => by
    have hc := ch_small h64 m
    by_cases g : m ≤ b
    · rw [T, hp m (by omega), decide_eq_true g, if_pos rfl, ← Nat.add_assoc]
      have hw : wrap64 ((t : Int) + rd row (m : Int)) = ((t + ch n m : Nat) : Int) := by rw [h m (by omega), wrapI (by omega) (by omega)]; omega
      by_cases q : t + ch n m > 4611686018427387904
      · refine Evt.shift 1 (fun k => ?_) Evt.now
        rw [family_Count.l2, hs, if_pos (by omega), if_pos (by omega), if_pos (by omega), hw, if_pos (by omega)]
        unfold outC
        rw [if_pos (by omega)]
      · refine Evt.shift 1 (fun k => ?_) (cntF_sum x6 s0 s1 s2 s3 n b h64 hb hs row hl h p hp d (m + 1) (t + ch n m) (by omega) (by omega))
        rw [family_Count.l2, hs, if_pos (by omega), if_pos (by omega), if_pos (by omega), hw, if_neg (by omega), wrap_next m (by omega)]
    · refine Evt.shift 1 (fun k => ?_) Evt.now
      rw [family_Count.l2, hs, if_neg (by omega), T_none (d + 1) m (fun j h1 h2 => by rw [hp j (by omega), decide_eq_false (by omega)])]
      unfold outC
      rw [if_neg (by omega), Nat.add_zero]
/-- One row of the reference's becomes the next one. -/
theorem cntR_in (x6 : Int) (L H : List Int) (s2 s3 : Int) (i : Nat) (h64 : i < 64) (row : List Int) (hr : row.length = i + 1) (hrow : ∀ j, j ≤ i → rd row (j : Int) = ((ch i j : Nat) : Int)) : ∀ (d m : Nat) (next : List Int), m + d = i + 1 → next.length = i + 2 → (∀ j, j ≤ i + 1 → rd next (j : Int) = if j < m then ((ch (i + 1) j : Nat) : Int) else if j = m ∧ 0 < m then ((ch i (m - 1) : Nat) : Int) else 0) →
    ∃ next' : List Int, next'.length = i + 2 ∧ (∀ j, j ≤ i + 1 → rd next' (j : Int) = ((ch (i + 1) j : Nat) : Int)) ∧ ∀ k, manystrandref07_Count.l1 (k + (d + 1)) x6 row (i : Int) next (m : Int) L H s2 s3 = manystrandref07_Count.l0 k x6 next' ((i + 1 : Nat) : Int) L H s2 s3
  | 0, m, next, hd, hl, h => by
    refine ⟨next, hl, fun j hj => ?_, fun k => ?_⟩
    · rw [h j hj]
      split
      · rfl
      · obtain rfl : j = i + 1 := by omega
        rw [if_pos (by omega), show m - 1 = i from by omega, ch_self, ch_self]
    · rw [Nat.zero_add, manystrandref07_Count.l1, if_neg (by omega), wrap_next i (by omega)]
  | d + 1, m, next, hd, hl, h => by
    have c1 := ch_small (i := i) (by omega) m
    have c2 := ch_small (i := i) (by omega) (m - 1)
    have e1 := h m (by omega)
    have e2 := h (m + 1) (by omega)
    have e3 := hrow m (by omega)
    rw [if_neg (by omega)] at e1 e2
    rw [if_neg (by omega)] at e2
    have hw : IntKind.u64.wrap (rd next (m : Int) + rd row (m : Int)) = ((ch (i + 1) m : Nat) : Int) := by
      rw [e1, e3]
      cases m with
      | zero => rw [if_neg (by omega), ch_zero, ch_zero]; exact wrap_u 1 (by omega)
      | succ m =>
        rw [Nat.add_sub_cancel] at c2
        rw [if_pos (by omega), Nat.add_sub_cancel, ← Int.natCast_add, wrap_u _ (by omega), ch]
    have hz : IntKind.u64.wrap (rd (next.set m ((ch (i + 1) m : Nat) : Int)) ((m + 1 : Nat) : Int) + rd row (m : Int)) = ((ch i m : Nat) : Int) := by
      rw [rd_set_ne _ (by omega), e2, e3, Int.zero_add, wrap_u _ (by omega)]
    obtain ⟨next', r1, r2, r3⟩ := cntR_in x6 L H s2 s3 i h64 row hr hrow d (m + 1) ((next.set m ((ch (i + 1) m : Nat) : Int)).set (m + 1) ((ch i m : Nat) : Int)) (by omega) (by rw [List.length_set, List.length_set, hl]) (fun j hj => by
      by_cases g : j = m + 1
      · subst g
        rw [rd_set_self _ (by rw [List.length_set]; omega), if_neg (by omega), if_pos (by omega), Nat.add_sub_cancel]
      · rw [rd_set_ne _ (Ne.symm g)]
        by_cases q : j = m
        · subst q
          rw [rd_set_self _ (by omega), if_pos (by omega)]
        · rw [rd_set_ne _ (Ne.symm q), h j hj]
          by_cases z : j < m
          · rw [if_pos z, if_pos (by omega)]
          · rw [if_neg z, if_neg (by omega), if_neg (by omega), if_neg (by omega)])
    refine ⟨next', r1, r2, fun k => ?_⟩
    rw [show k + (d + 1 + 1) = (k + (d + 1)) + 1 from by omega, manystrandref07_Count.l1, if_pos (by omega), if_pos (by omega), if_pos (by omega), Option.bind_some, wrap_next m (by omega), if_pos (by omega), if_pos (by omega), Int.toNat_natCast, Int.toNat_natCast, hw, hz, r3 k]
theorem rd_zeros (n j : Nat) : rd (List.replicate n (0 : Int)) (j : Int) = 0 := by
  unfold rd
  rw [Int.toNat_natCast, List.getD_eq_getElem?_getD]
  rcases Nat.lt_or_ge j n with g | g
  · rw [List.getElem?_replicate, if_pos g]; rfl
  · rw [List.getElem?_replicate, if_neg (by omega)]; rfl
theorem cntR_out (L H : List Int) (s2 s3 : Int) (n : Nat) (h64 : n ≤ 64) (r : Int × Int) (hend : ∀ row : List Int, row.length = n + 1 → (∀ j, j ≤ n → rd row (j : Int) = ((ch n j : Nat) : Int)) → Evt (fun k => manystrandref07_Count.l2 k (n : Int) row 0 0 L H s2 s3) r) :
    ∀ (d i : Nat) (row : List Int), i + d = n → row.length = i + 1 → (∀ j, j ≤ i → rd row (j : Int) = ((ch i j : Nat) : Int)) → Evt (fun k => manystrandref07_Count.l0 k (n : Int) row (i : Int) L H s2 s3) r
  | 0, i, row, hd, hl, h => by
    obtain rfl : i = n := by omega
    refine Evt.shift 1 (fun k => ?_) (hend row hl h)
    rw [manystrandref07_Count.l0, if_neg (by omega)]
  | d + 1, i, row, hd, hl, h => by
    obtain ⟨row', r1, r2, r3⟩ := cntR_in (n : Int) L H s2 s3 i (by omega) row hl h (i + 1) 0 (List.replicate (i + 2) 0) (by omega) (by simp) (fun j hj => by
      rw [rd_zeros, if_neg (by omega), if_neg (by omega)])
    refine Evt.shift (i + 1 + 1 + 1) (fun k => ?_) (cntR_out L H s2 s3 n h64 r hend d (i + 1) row' (by omega) r1 r2)
    have hw : wrap64 ((row.length : Int) + 1) = ((i + 2 : Nat) : Int) := by rw [hl, wrapI (by omega) (by omega)]; omega
    rw [show k + (i + 1 + 1 + 1) = (k + (i + 1 + 1)) + 1 from by omega, manystrandref07_Count.l0, if_pos (by omega), hw, if_pos (by omega), Int.toNat_natCast, if_pos (by omega)]
    exact r3 k
theorem cntR_sum (L H : List Int) (s2 s3 : Int) (n : Nat) (h64 : n ≤ 64) (hL : L.length ≤ 1000) (row : List Int) (hl : row.length = n + 1) (h : ∀ j, j ≤ n → rd row (j : Int) = ((ch n j : Nat) : Int)) (p : Nat → Bool) (hp : ∀ j, j ≤ n → p j = (decide (((j : Int) + (L.length : Int)) ≥ s2) && decide (((j : Int) + (L.length : Int)) ≤ s3))) :
    ∀ (d m t : Nat), m + d = n + 1 → t ≤ 4611686018427387904 → Evt (fun k => manystrandref07_Count.l2 k (n : Int) row (t : Int) (m : Int) L H s2 s3) (outC (t + T n p m d))
  | 0, m, t, hd, ht => by
    refine Evt.shift 1 (fun k => ?_) Evt.now
    rw [manystrandref07_Count.l2, if_neg (by omega), T, Nat.add_zero]
    unfold outC
    rw [if_neg (by omega), wrapI (by omega) (by omega)]
  | d + 1, m, t, hd, ht => by
    have hc := ch_small h64 m
    have hw : wrap64 ((m : Int) + (L.length : Int)) = (m : Int) + (L.length : Int) := wrapI (by omega) (by omega)
    have step : ∀ k, manystrandref07_Count.l2 (k + 1) (n : Int) row (t : Int) (m : Int) L H s2 s3 = manystrandref07_Count.j3 k (n : Int) row (t : Int) (m : Int) (p m) L H s2 s3 := fun k => by
      rw [manystrandref07_Count.l2, if_pos (by omega), hw, hp m (by omega)]
      by_cases g : (m : Int) + (L.length : Int) ≥ s2
      · rw [if_pos g, decide_eq_true g, Bool.true_and]
      · rw [if_neg g, decide_eq_false g, Bool.false_and]
    cases hq : p m with
    | true =>
      rw [T, hq, if_pos rfl, ← Nat.add_assoc]
      have hu : IntKind.u64.wrap ((t : Int) + rd row (m : Int)) = ((t + ch n m : Nat) : Int) := by rw [h m (by omega), ← Int.natCast_add, wrap_u _ (by omega)]
      by_cases q : t + ch n m > 4611686018427387904
      · refine Evt.shift 2 (fun k => ?_) Evt.now
        rw [show k + 2 = (k + 1) + 1 from rfl, step, hq, manystrandref07_Count.j3, if_pos rfl, if_pos (by omega), if_pos (by omega), hu, if_pos (by omega)]
        unfold outC
        rw [if_pos (by omega)]
      · refine Evt.shift 2 (fun k => ?_) (cntR_sum L H s2 s3 n h64 hL row hl h p hp d (m + 1) (t + ch n m) (by omega) (by omega))
        rw [show k + 2 = (k + 1) + 1 from rfl, step, hq, manystrandref07_Count.j3, if_pos rfl, if_pos (by omega), if_pos (by omega), hu, if_neg (by omega), wrap_next m (by omega)]
    | false =>
      rw [T, hq, if_neg (by decide), Nat.zero_add]
      refine Evt.shift 2 (fun k => ?_) (cntR_sum L H s2 s3 n h64 hL row hl h p hp d (m + 1) t (by omega) ht)
      rw [show k + 2 = (k + 1) + 1 from rfl, step, hq, manystrandref07_Count.j3, if_neg (by decide), if_neg (by omega), wrap_next m (by omega)]
theorem cnt_not : ∀ n x y z, (∀ i, i < n → z.testBit i = (x.testBit i && !y.testBit i)) → (∀ i, i < n → y.testBit i = true → x.testBit i = true) → cnt n x = cnt n y + cnt n z
  | 0, _, _, _, _, _ => rfl
  | n + 1, x, y, z, h, g => by
    have h1 := cnt_not n (x / 2) (y / 2) (z / 2) (fun i hi => by
      have := h (i + 1) (by omega)
      rwa [Nat.testBit_succ, Nat.testBit_succ, Nat.testBit_succ] at this) (fun i hi hx => by
      have := g (i + 1) (by omega)
      rw [Nat.testBit_succ, Nat.testBit_succ] at this
      exact this hx)
    have h0 := h 0 (by omega)
    have g0 := g 0 (by omega)
    rw [Nat.testBit_zero, Nat.testBit_zero, Nat.testBit_zero] at h0
    rw [Nat.testBit_zero, Nat.testBit_zero] at g0
    simp only [decide_eq_true_eq] at g0
    simp only [cnt]
    have : z % 2 = x % 2 - y % 2 := by
      rcases Nat.mod_two_eq_zero_or_one x with a | a <;> rcases Nat.mod_two_eq_zero_or_one y with b | b <;> rcases Nat.mod_two_eq_zero_or_one z with c | c <;> simp [a, b, c] at h0 ⊢
    omega
theorem card_not {x y : Int} (hx : Wd x) (hy : Wd y) (h : sub y x) : card x = card y + card (Go.bits .andNot .u64 x y) := by
  have := cnt_not 64 x.toNat y.toNat (Go.bits .andNot .u64 x y).toNat (fun i hi => bt_andNot hx hy i hi) h
  unfold card
  omega
/-- Which numbers of elements are wanted. -/
def filt (f : S37) (j : Nat) : Bool := decide (((j : Int) + (f.f0.length : Int)) ≥ f.f2) && decide (((j : Int) + (f.f0.length : Int)) ≤ f.f3)
def dif (f : S37) : Nat := (card (opn f).f1 - card (opn f).f0).toNat
def cntOut (f : S37) : Int × Int := if vl f = true then (if Go.bits .andNot .u64 (opn f).f0 (opn f).f1 = 0 then outC (0 + T (dif f) (filt f) 0 (dif f + 1)) else (0, 0)) else (0, 2)
theorem Evt.congr {α : Type} {g f : Nat → Option α} {r : α} (N : Nat) (h : ∀ k, N < k → g k = f k) (e : Evt f r) : Evt g r := by
  obtain ⟨K, hK⟩ := e
  exact ⟨K + N + 1, fun k hk => by rw [h k (by omega), hK k (by omega)]⟩
theorem countR_t {f : S37} (h : Sh f) : Evt (fun k => manystrandref07_Count.f k f.f0 f.f1 f.f2 f.f3) (cntOut f) := by
  unfold cntOut
  by_cases hv : vl f = true
  · obtain ⟨c0, c1, _⟩ := vl_facts hv
    have hw := ws_opn hv
    have e := opn_eq hv
    have e0 : (opn f).f0 = ofL f.f0 := by rw [e]
    have e1 : (opn f).f1 = ofL f.f1 := by rw [e]
    rw [if_pos hv]
    by_cases hs : Go.bits .andNot .u64 (opn f).f0 (opn f).f1 = 0
    · rw [if_pos hs]
      have hsub := (andNot_zero hw.1 hw.2).mp hs
      have hcn := card_not hw.2 hw.1 hsub
      have l1 := card_le (opn f).f1
      have l0 := card_le (opn f).f0
      have l2 := card_le (Go.bits .andNot .u64 (opn f).f1 (opn f).f0)
      have hd : card (Go.bits .andNot .u64 (opn f).f1 (opn f).f0) = ((dif f : Nat) : Int) := by unfold dif; omega
      have h64 : dif f ≤ 64 := by unfold dif; omega
      refine Evt.congr 1001 (f := fun k => manystrandref07_Count.l0 k ((dif f : Nat) : Int) [1] ((0 : Nat) : Int) f.f0 f.f1 f.f2 f.f3) (fun k hk => ?_) (cntR_out f.f0 f.f1 f.f2 f.f3 (dif f) h64 _ (fun row hl hr => ?_) (dif f) 0 [1] (by omega) rfl (fun j hj => ?_))
      · unfold manystrandref07_Count.f
        rw [validR_f h.1 h.2 (by omega), hv, Option.bind_some, if_pos rfl, of_f h.1 c0 (by omega), Option.bind_some, of_f h.2 c1 (by omega), Option.bind_some, ← e0, ← e1, if_pos hs, sizeR_i (wd_andNot _ _) (by omega), Option.bind_some, hd]
        rfl
      · exact cntR_sum f.f0 f.f1 f.f2 f.f3 (dif f) h64 h.1 row hl hr (filt f) (fun _ _ => rfl) (dif f + 1) 0 0 (by omega) (by omega)
      · obtain rfl : j = 0 := by omega
        rfl
    · rw [if_neg hs]
      refine Evt.congr 1001 (fun k hk => ?_) Evt.now
      unfold manystrandref07_Count.f
      rw [validR_f h.1 h.2 (by omega), hv, Option.bind_some, if_pos rfl, of_f h.1 c0 (by omega), Option.bind_some, of_f h.2 c1 (by omega), Option.bind_some, ← e0, ← e1, if_neg hs]
  · rw [if_neg hv]
    refine Evt.congr 1001 (fun k hk => ?_) Evt.now
    unfold manystrandref07_Count.f
    rw [validR_f h.1 h.2 (by omega), Option.bind_some, if_neg hv]
theorem wrapE {x y : Int} (h : x = y) (h0 : -9223372036854775808 ≤ y) (h1 : y ≤ 9223372036854775807) : wrap64 x = y := by rw [h]; exact wrapI h0 h1
/-- The total of a normal form is that of the family. -/
theorem total_eq {f : S37} {t : S59} (hv : vl f = true) (hn : nrm (opn f) = some t) : T (card t.f1 - card t.f0).toNat (fun j => decide (j ≤ (t.f3 - card t.f0).toNat)) (t.f2 - card t.f0).toNat ((card t.f1 - card t.f0).toNat + 1 - (t.f2 - card t.f0).toNat) = T (dif f) (filt f) 0 (dif f + 1) := by
  obtain ⟨v0, v1, a0, a1, b0, b1⟩ := vl_facts hv
  have e := opn_eq hv
  have e0 : (opn f).f0 = ofL f.f0 := by rw [e]
  have e2 : (opn f).f2 = f.f2 := by rw [e]
  have e3 : (opn f).f3 = f.f3 := by rw [e]
  have hl : card (opn f).f0 = (f.f0.length : Int) := by rw [e0]; exact card_ofL v0
  have l1 := card_le (opn f).f1
  obtain ⟨⟨hsub, hle⟩, hc⟩ := nrm_some hn
  have hm := card_mono hsub
  have p1 := mx_facts (opn f).f2 (card (opn f).f0)
  have p2 := mn_facts (opn f).f3 (card (opn f).f1)
  generalize mx (opn f).f2 (card (opn f).f0) = M1 at *
  generalize mn (opn f).f3 (card (opn f).f1) = M2 at *
  rw [e2] at p1
  rw [e3] at p2
  generalize hN : dif f = N
  have hN' : (N : Int) = card (opn f).f1 - card (opn f).f0 := by rw [← hN]; unfold dif; omega
  rcases hc with ⟨q, rfl⟩ | ⟨q1, q2, rfl⟩ | ⟨q1, q2, rfl⟩
  · simp only
    rw [show (card (opn f).f1 - card (opn f).f1).toNat = 0 from by omega, show (M1 - card (opn f).f1).toNat = 0 from by omega, show (M2 - card (opn f).f1).toNat = 0 from by omega, T_add N 1 0, T_none N 0 (fun j h1 h2 => by
      unfold filt
      rw [decide_eq_false (by omega), Bool.false_and])]
    have hf : filt f (0 + N) = true := by
      unfold filt
      rw [decide_eq_true (by omega), decide_eq_true (by omega)]
      rfl
    simp [T, hf, ch_self, ch_zero]
    rw [Nat.zero_add] at hf
    simp [hf]
  · simp only
    rw [show (card (opn f).f0 - card (opn f).f0).toNat = 0 from by omega, show (M1 - card (opn f).f0).toNat = 0 from by omega, show (M2 - card (opn f).f0).toNat = 0 from by omega, Nat.add_comm N 1, T_add 1 N 0, T_none N (0 + 1) (fun j h1 h2 => by
      unfold filt
      rw [decide_eq_false (p := ((j : Int) + (f.f0.length : Int)) ≤ f.f3) (by omega), Bool.and_false])]
    have hf : filt f 0 = true := by
      unfold filt
      rw [decide_eq_true (by omega), decide_eq_true (by omega)]
      rfl
    simp [T, hf, ch_zero]
  · simp only
    rw [show (card (opn f).f1 - card (opn f).f0).toNat = N from by omega, show N + 1 = (M1 - card (opn f).f0).toNat + (N + 1 - (M1 - card (opn f).f0).toNat) from by omega, T_add (M1 - card (opn f).f0).toNat, T_none (M1 - card (opn f).f0).toNat 0 (fun j h1 h2 => by
      unfold filt
      rw [decide_eq_false (by omega), Bool.false_and]), Nat.zero_add, Nat.zero_add]
    rw [show (M1 - card (opn f).f0).toNat + (N + 1 - (M1 - card (opn f).f0).toNat) - (M1 - card (opn f).f0).toNat = N + 1 - (M1 - card (opn f).f0).toNat from by omega]
    refine T_congr _ _ (fun j h1 h2 => ?_)
    unfold filt
    rw [decide_eq_true (p := ((j : Int) + (f.f0.length : Int)) ≥ f.f2) (by omega), Bool.true_and]
    exact decide_eq_decide.mpr (by omega)
theorem outC_zero : outC (0 + 0) = (0, 0) := rfl
theorem none_total {f : S37} (hv : vl f = true) (hn : nrm (opn f) = none) : (if Go.bits .andNot .u64 (opn f).f0 (opn f).f1 = 0 then outC (0 + T (dif f) (filt f) 0 (dif f + 1)) else (0, 0)) = (0, 0) := by
  split
  · rename_i hs
    obtain ⟨v0, v1, a0, a1, b0, b1⟩ := vl_facts hv
    have hw := ws_opn hv
    have hsub := (andNot_zero hw.1 hw.2).mp hs
    have hm := card_mono hsub
    have l1 := card_le (opn f).f1
    have e := opn_eq hv
    have e0 : (opn f).f0 = ofL f.f0 := by rw [e]
    have e2 : (opn f).f2 = f.f2 := by rw [e]
    have e3 : (opn f).f3 = f.f3 := by rw [e]
    have hl : card (opn f).f0 = (f.f0.length : Int) := by rw [e0]; exact card_ofL v0
    have hno := nrm_none hn
    have p1 := mx_facts (opn f).f2 (card (opn f).f0)
    have p2 := mn_facts (opn f).f3 (card (opn f).f1)
    have hlt : ¬ mx (opn f).f2 (card (opn f).f0) ≤ mn (opn f).f3 (card (opn f).f1) := fun h => hno ⟨hsub, h⟩
    generalize mx (opn f).f2 (card (opn f).f0) = M1 at *
    generalize mn (opn f).f3 (card (opn f).f1) = M2 at *
    rw [T_none (dif f + 1) 0 (fun j h1 h2 => by
      have hd : (dif f : Int) = card (opn f).f1 - card (opn f).f0 := by unfold dif; omega
      unfold filt
      by_cases g : ((j : Int) + (f.f0.length : Int)) ≥ f.f2
      · rw [decide_eq_false (p := ((j : Int) + (f.f0.length : Int)) ≤ f.f3) (by omega), Bool.and_false]
      · rw [decide_eq_false g, Bool.false_and])]
    rfl
  · rfl
theorem countF_t {f : S37} (h : Sh f) : Evt (fun k => family_Count.f k f.f0 f.f1 f.f2 f.f3) (cntOut f) := by
  unfold cntOut
  by_cases hv : vl f = true
  · have hw := ws_opn hv
    rw [if_pos hv]
    cases hn : nrm (opn f) with
    | none =>
      rw [none_total hv hn]
      refine Evt.congr 1001 (fun k hk => ?_) Evt.now
      unfold family_Count.f
      rw [open_t h (by omega), Option.bind_some]
      simp only [hv, if_true]
      rw [norm_t hw (by omega), hn, Option.bind_some]
      rfl
    | some t =>
      have hN := ((nrm_spec hw).1 t hn).1
      have hsub := ((nrm_some hn).1).1
      rw [if_pos ((andNot_zero hw.1 hw.2).mpr hsub), ← total_eq hv hn]
      have l1 := card_le t.f1
      have l0 := card_le t.f0
      have hm := card_mono hN.in_
      have c0 := hN.c0
      have c1 := hN.c1
      have c2 := hN.c2
      generalize hNN : (card t.f1 - card t.f0).toNat = N
      have hN' : (N : Int) = card t.f1 - card t.f0 := by omega
      generalize hA : (t.f2 - card t.f0).toNat = a
      have hA' : (a : Int) = t.f2 - card t.f0 := by omega
      generalize hB : (t.f3 - card t.f0).toNat = b
      have hB' : (b : Int) = t.f3 - card t.f0 := by omega
      have W := Aside0.mk (show (wrap64 (card t.f1 - card t.f0) = (N : Int) ∧ wrap64 (t.f2 - card t.f0) = (a : Int)) ∧ wrap64 (t.f3 - card t.f0) = (b : Int) from ⟨⟨wrapE hN'.symm (by omega) (by omega), wrapE hA'.symm (by omega) (by omega)⟩, wrapE hB'.symm (by omega) (by omega)⟩)
      refine Evt.congr 1001 (f := fun k => family_Count.l0 k (card t.f0) (N : Int) ((List.replicate (N + 1) (0 : Int)).set 0 1) ((0 + 1 : Nat) : Int) t.f0 t.f1 t.f2 t.f3) (fun k hk => ?_) (cntF_out (card t.f0) t.f0 t.f1 t.f2 t.f3 N (by omega) _ (fun row hl hr => ?_) N 0 _ (by omega) (by simp) (fun j hj => ?_))
      · unfold family_Count.f
        rw [open_t h (by omega), Option.bind_some]
        simp only [hv, if_true]
        rw [norm_t hw (by omega), hn, Option.bind_some]
        simp only [outF, if_true]
        rw [ones_i hN.wf.1, Option.bind_some, ones_i hN.wf.2, Option.bind_some, W.out.1.1, wrap_next N (by omega), if_pos (by omega), Int.toNat_natCast, if_pos (by omega), Option.bind_some, if_pos (by rw [List.length_replicate]; omega)]
        rfl
      · rw [W.out.1.2]
        exact cntF_sum (card t.f0) t.f0 t.f1 t.f2 t.f3 N b (by omega) (by omega) W.out.2 row hl hr _ (fun _ _ => rfl) (N + 1 - a) a 0 (by omega) (by omega)
      · cases j with
        | zero => rw [ch_zero]; exact rd_set_self 1 (by simp)
        | succ j => rw [rd_set_ne _ (by omega), rd_zeros]; rfl
  · rw [if_neg hv]
    refine Evt.congr 1001 (fun k hk => ?_) Evt.now
    unfold family_Count.f
    rw [open_t h (by omega), Option.bind_some]
    simp only [if_neg hv]
/-- A family that stands for no set is counted as none. -/
theorem cntOut_none {f : S37} (hv : vl f = true) (hn : nrm (opn f) = none) : cntOut f = (0, 0) := by
  unfold cntOut
  rw [if_pos hv, none_total hv hn]
end Go.Proofs.Ytgfbgfbnmiainaa.Fam
/-! FamilyTells: the four calls that give a family, in one form. -/
namespace Go.Proofs.Ytgfbgfbnmiainaa.Fam
set_option linter.unusedVariables false
set_option linter.unusedSimpArgs false
open Go.RowKit Go.Proofs.YtgfbgfbnmiainaaW.PrintWords Go.Proofs.YtgfbgfbnmiainaaW.PrintLast Go.Proofs.YtgfbgfbnmiainaaW.PrintMore Go.Proofs.Ytgfbgfbnmiainaa.Q
/-- What gives a family and a code. -/
def Gives (x : S37 × Int) (w : World) (e : Ending) (w' : World) : Prop := ∃ (A : Option Addr) (a : Nat) (B : Option Addr) (b : Nat), e = .returned (.tuple #[.agg #[.slice A x.1.f0.length a, .slice B x.1.f1.length b, .int .i64 x.1.f2, .int .i64 x.1.f3], .int .i64 x.2]) ∧ FC w' x.1 A a B b ∧ Below w.heap.size w w'
theorem gives_of {x : S37 × Int} {w w' : World} {e : Ending} {v0 v1 : Value} {o0 o1 : Nat → Prop} (he : e = .returned (.tuple #[.agg #[v0, v1, .int .i64 x.1.f2, .int .i64 x.1.f3], .int .i64 x.2])) (r0 : Kd.R (Kd.int .i64) 3 w' w.heap.size o0 v0 x.1.f0) (r1 : Kd.R (Kd.int .i64) 3 w' w.heap.size o1 v1 x.1.f1) (hb : Below w.heap.size w w') : Gives x w e w' := by
  obtain ⟨A, a, rfl, hl, hC⟩ := Kd.R_reads r0
  obtain ⟨B, b, rfl, hm, hD⟩ := Kd.R_reads r1
  exact ⟨A, a, B, b, he, ⟨hC, hl, hD, hm⟩, hb⟩
noncomputable def nOf (f : S37) : S37 × Int := outN (vl f) (nrm (opn f))
noncomputable def mOf (f g : S37) : S37 × Int := outN (vl f && vl g) (nrm (mt (opn f) (opn g)))
theorem normF_c {f : S37} (hf : Sh f) {A : Option Addr} {a : Nat} {B : Option Addr} {b : Nat} {w : World} (h : FC w f A a B b) : Calls Try.prog 16 #[.agg #[.slice A f.f0.length a, .slice B f.f1.length b, .int .i64 f.f2, .int .i64 f.f3]] w (Gives (nOf f) w) :=
  (family_Normal.calls 1001 A a f.f0 B b f.f1 f.f2 f.f3 _ _ _ _ _ w h.h0 h.l0 h.h1 h.l1 (normalF_t hf (by omega))).mono (fun _ _ ⟨_, _, he, r0, r1, hb⟩ => gives_of he r0 r1 hb)
theorem normR_c {f : S37} (hf : Sh f) {A : Option Addr} {a : Nat} {B : Option Addr} {b : Nat} {w : World} (h : FC w f A a B b) : Calls Try.prog 17 #[.agg #[.slice A f.f0.length a, .slice B f.f1.length b, .int .i64 f.f2, .int .i64 f.f3]] w (Gives (nOf f) w) :=
  (manystrandref07_Normal.calls 1001 A a f.f0 B b f.f1 f.f2 f.f3 _ _ _ _ _ w h.h0 h.l0 h.h1 h.l1 (normalR_t hf (by omega))).mono (fun _ _ ⟨_, _, he, r0, r1, hb⟩ => gives_of he r0 r1 hb)
theorem meetF_c {f g : S37} (hf : Sh f) (hg : Sh g) {A : Option Addr} {a : Nat} {B : Option Addr} {b : Nat} {C : Option Addr} {c : Nat} {D : Option Addr} {d : Nat} {w : World} (h : FC w f A a B b) (k : FC w g C c D d) : Calls Try.prog 28 #[.agg #[.slice A f.f0.length a, .slice B f.f1.length b, .int .i64 f.f2, .int .i64 f.f3], .agg #[.slice C g.f0.length c, .slice D g.f1.length d, .int .i64 g.f2, .int .i64 g.f3]] w (Gives (mOf f g) w) :=
  (family_Meet.calls 1002 A a f.f0 B b f.f1 f.f2 f.f3 C c g.f0 D d g.f1 g.f2 g.f3 _ _ _ _ _ w h.h0 h.l0 h.h1 h.l1 k.h0 k.l0 k.h1 k.l1 (meetF_t hf hg (by omega))).mono (fun _ _ ⟨_, _, he, r0, r1, hb⟩ => gives_of he r0 r1 hb)
theorem meetR_c {f g : S37} (hf : Sh f) (hg : Sh g) {A : Option Addr} {a : Nat} {B : Option Addr} {b : Nat} {C : Option Addr} {c : Nat} {D : Option Addr} {d : Nat} {w : World} (h : FC w f A a B b) (k : FC w g C c D d) : Calls Try.prog 29 #[.agg #[.slice A f.f0.length a, .slice B f.f1.length b, .int .i64 f.f2, .int .i64 f.f3], .agg #[.slice C g.f0.length c, .slice D g.f1.length d, .int .i64 g.f2, .int .i64 g.f3]] w (Gives (mOf f g) w) :=
  (meetR_walk f g hf hg A a B b C c D d w h k).mono (fun _ _ ⟨_, _, he, r0, r1, hb⟩ => gives_of he r0 r1 hb)
theorem len_lsO (v : Int) : (lsO v).length ≤ 64 := by
  have h := card_lsO v
  have := card_le v
  omega
/-- What is given is short; with the code 0 it is valid, else nothing. -/
theorem outN_facts (b : Bool) (o : Option S59) (ho : ∀ t, o = some t → Nm t) : (Sh (outN b o).1 ∧ (outN b o).1.f0.length ≤ 64 ∧ (outN b o).1.f1.length ≤ 64) ∧ (((outN b o).2 = 0 ∧ vl (outN b o).1 = true) ∨ ((outN b o).2 ≠ 0 ∧ (outN b o).1 = z37')) := by
  unfold outN
  cases b
  · exact ⟨⟨⟨by simp [z37'], by simp [z37']⟩, by simp [z37'], by simp [z37']⟩, .inr ⟨(by decide : ¬ (2 : Int) = 0), rfl⟩⟩
  · cases o with
    | none => exact ⟨⟨⟨by simp [z37'], by simp [z37']⟩, by simp [z37'], by simp [z37']⟩, .inr ⟨(by decide : ¬ (60 : Int) = 0), rfl⟩⟩
    | some t =>
      have h0 := len_lsO t.f0
      have h1 := len_lsO t.f1
      exact ⟨⟨⟨Nat.le_trans h0 (by omega), Nat.le_trans h1 (by omega)⟩, h0, h1⟩, .inl ⟨rfl, vl_clo (ho t rfl).rg⟩⟩
theorem zero_t : manystrandlaw07_zero.f z37'.f0 z37'.f1 z37'.f2 z37'.f3 = some true := by
  unfold manystrandlaw07_zero.f z37'
  rfl
end Go.Proofs.Ytgfbgfbnmiainaa.Fam
/-! light and lean, for any arguments. -/
namespace Go.Proofs.Ytgfbgfbnmiainaa.Fam
set_option linter.unusedVariables false
set_option linter.unusedSimpArgs false
open Go.RowKit Go.Proofs.YtgfbgfbnmiainaaW.PrintWords Go.Proofs.YtgfbgfbnmiainaaW.PrintLast Go.Proofs.YtgfbgfbnmiainaaW.PrintMore Go.Proofs.Ytgfbgfbnmiainaa.Q
theorem wrap_next' (i : Nat) (h : i < 9223372036854775807) : wrap64 ((i : Int) + 1) = ((i + 1 : Nat) : Int) := by
  unfold wrap64; omega
theorem rd37_at {l : List S37} {i : Nat} (h : i < l.length) : rd_T37 l (i : Int) = l[i] := by
  unfold rd_T37
  rw [Int.toNat_natCast, List.getD_eq_getElem?_getD, List.getElem?_eq_getElem h]
  rfl
theorem rd33_at {l : List S33} {i : Nat} (h : i < l.length) : rd_T33 l (i : Int) = l[i] := by
  unfold rd_T33
  rw [Int.toNat_natCast, List.getD_eq_getElem?_getD, List.getElem?_eq_getElem h]
  rfl
def okL (f : S37) : Bool := decide (f.f0.length ≤ 100) && decide (f.f1.length ≤ 100)
def okE (r : S33) : Bool := decide (r.f1.length ≤ 10) && decide (r.f0.size ≤ 100)
theorem light_from (l : List S37) (hl : l.length ≤ 9223372036854775807) : ∀ n i k, i + n = l.length → n < k → manystrandlaw07_light.l0 k l l (l.length : Int) (i : Int) = some ((l.drop i).all okL && decide (l.length ≤ 50)) := by
  intro n
  induction n with
  | zero =>
    intro i k hi hk
    obtain ⟨k, rfl⟩ : ∃ j, k = j + 1 := ⟨k - 1, by omega⟩
    unfold manystrandlaw07_light.l0
    rw [if_neg (by omega), List.drop_of_length_le (by omega)]
    simp only [List.all_nil, Bool.true_and]
    congr 1
    exact decide_eq_decide.mpr (by omega)
  | succ n ih =>
    intro i k hi hk
    obtain ⟨k, rfl⟩ : ∃ j, k = j + 1 := ⟨k - 1, by omega⟩
    have hlt : i < l.length := by omega
    unfold manystrandlaw07_light.l0
    rw [if_pos (by omega), if_pos (by omega), if_pos (by omega), rd37_at hlt, List.drop_eq_getElem_cons hlt, wrap_next' i (by omega), ih (i + 1) k (by omega) (by omega)]
    simp only [List.all_cons, okL]
    by_cases h0 : ((l[i].f0.length : Nat) : Int) > 100
    · rw [if_pos h0, decide_eq_false (show ¬ l[i].f0.length ≤ 100 by omega)]; rfl
    · rw [if_neg h0, decide_eq_true (show l[i].f0.length ≤ 100 by omega)]
      by_cases h1 : ((l[i].f1.length : Nat) : Int) > 100
      · rw [if_pos h1, decide_eq_false (show ¬ l[i].f1.length ≤ 100 by omega)]; rfl
      · rw [if_neg h1, decide_eq_true (show l[i].f1.length ≤ 100 by omega)]; rfl
theorem light_any (l : List S37) (hl : l.length ≤ 9223372036854775807) : ∃ k b, manystrandlaw07_light.f k l = some b ∧ (b = true → l.length ≤ 50 ∧ ∀ i : Nat, i < l.length → (rd_T37 l i).f0.length ≤ 100 ∧ (rd_T37 l i).f1.length ≤ 100) := by
  refine ⟨_, _, light_from l hl l.length 0 (l.length + 1) (by omega) (by omega), fun h => ?_⟩
  simp only [List.drop_zero, Bool.and_eq_true, decide_eq_true_eq, List.all_eq_true, okL] at h
  refine ⟨h.2, fun i hi => ?_⟩
  rw [rd37_at hi]
  exact h.1 _ (List.getElem_mem hi)
theorem lean_from (l : List S33) (hl : l.length ≤ 9223372036854775807) : ∀ n i k, i + n = l.length → n < k → manystrandlaw07_lean.l0 k l l (l.length : Int) (i : Int) = some ((l.drop i).all okE && decide (l.length ≤ 110)) := by
  intro n
  induction n with
  | zero =>
    intro i k hi hk
    obtain ⟨k, rfl⟩ : ∃ j, k = j + 1 := ⟨k - 1, by omega⟩
    unfold manystrandlaw07_lean.l0
    rw [if_neg (by omega), List.drop_of_length_le (by omega)]
    simp only [List.all_nil, Bool.true_and]
    congr 1
    exact decide_eq_decide.mpr (by omega)
  | succ n ih =>
    intro i k hi hk
    obtain ⟨k, rfl⟩ : ∃ j, k = j + 1 := ⟨k - 1, by omega⟩
    have hlt : i < l.length := by omega
    unfold manystrandlaw07_lean.l0
    rw [if_pos (by omega), if_pos (by omega), if_pos (by omega), rd33_at hlt, List.drop_eq_getElem_cons hlt, wrap_next' i (by omega), ih (i + 1) k (by omega) (by omega)]
    simp only [List.all_cons, okE]
    by_cases h0 : ((l[i].f1.length : Nat) : Int) > 10
    · rw [if_pos h0, decide_eq_false (show ¬ l[i].f1.length ≤ 10 by omega)]; rfl
    · rw [if_neg h0, decide_eq_true (show l[i].f1.length ≤ 10 by omega)]
      by_cases h1 : ((l[i].f0.size : Nat) : Int) > 100
      · rw [if_pos h1, decide_eq_false (show ¬ l[i].f0.size ≤ 100 by omega)]; rfl
      · rw [if_neg h1, decide_eq_true (show l[i].f0.size ≤ 100 by omega)]; rfl
theorem lean_any (l : List S33) (hl : l.length ≤ 9223372036854775807) : ∃ k b, manystrandlaw07_lean.f k l = some b ∧ (b = true → l.length ≤ 110 ∧ ∀ i : Nat, i < l.length → (rd_T33 l i).f1.length ≤ 10) := by
  refine ⟨_, _, lean_from l hl l.length 0 (l.length + 1) (by omega) (by omega), fun h => ?_⟩
  simp only [List.drop_zero, Bool.and_eq_true, decide_eq_true_eq, List.all_eq_true, okE] at h
  refine ⟨h.2, fun i hi => ?_⟩
  rw [rd33_at hi]
  exact (h.1 _ (List.getElem_mem hi)).1
end Go.Proofs.Ytgfbgfbnmiainaa.Fam
/-! A region that draws its order, whose operations only read and whose callees leave everything that was there: one walk of the order of the text, in every world that bears what was there. -/
namespace Go.Proofs.Ytgfbgfbnmiainaa.RegCl
set_option linter.unusedVariables false
set_option linter.unusedSimpArgs false
open Go.RowKit Go.Proofs.YtgfbgfbnmiainaaW.PrintWords
/-- A world that bears all that w bears. -/
structure Cl (w : World) where
  v : World
  b : Below w.heap.size w v
instance (w : World) : Nonempty (Cl w) := ⟨⟨w, Below.refl _ _⟩⟩
theorem wp_region_cl {P : Program} {id : Nat} {Q : Exit → Act → World → Prop} {a : Act} {w : World} {l : List Oper} (hm : P.follows .mixedOrders = true) (hB : Region.lexB .any l.toArray = true)
    (h : wpQuiet P l.toArray (fun w' => ∃ x : Cl w, w' = x.v) (fun a' => ∀ x : Cl w, Q .normal a' x.v) l a) : (Code.region id l.toArray true).wp P Q a w :=
  wp_region_quiet (C := fun w' => ∃ x : Cl w, w' = x.v) hm hB ⟨⟨w.drew, below_drew (Below.refl _ _)⟩, rfl⟩ (by
    have h' : (fun a' => ∀ w', (∃ x : Cl w, w' = x.v) → Q .normal a' w') = (fun a' => ∀ x : Cl w, Q .normal a' x.v) := by
      funext a'
      exact propext ⟨fun h x => h _ ⟨x, rfl⟩, fun h w' ⟨x, hx⟩ => hx ▸ h x⟩
    rw [h']
    simpa using h)
end Go.Proofs.Ytgfbgfbnmiainaa.RegCl
/-! Lists that are written out in memory. -/
namespace Go.Proofs.Ytgfbgfbnmiainaa.Fam
set_option linter.unusedVariables false
set_option linter.unusedSimpArgs false
open Go.RowKit Go.Proofs.YtgfbgfbnmiainaaW.PrintWords Go.Proofs.YtgfbgfbnmiainaaW.PrintLast Go.Proofs.YtgfbgfbnmiainaaW.PrintMore Go.Proofs.Ytgfbgfbnmiainaa.Q
theorem ints_lit {w : World} {b : Nat} {xs : List Int} {c : Array Value} {t : Nat} (h : w.heap[b]? = some (.cells c t)) (hc : c.toList = xs.map (.int .i64)) (hn : xs.length ≤ 9223372036854775807) : (Kd.int .i64).C w (some ⟨b, 0, none⟩) xs.length xs := by
  refine ⟨rfl, hn, fun _ => ⟨_, rfl, fun j p hj => ⟨[.int .i64 p], rfl, rfl, fun i u hu => ?_⟩⟩⟩
  have hi : i = 0 := by
    cases i with
    | zero => rfl
    | succ i => simp at hu
  subst hi
  have hu' : Value.int .i64 p = u := by simpa using hu
  subst hu'
  show w.cell? ((⟨b, 0, none⟩ : Addr).add (j * 1 + 0)) = _
  rw [add_plain, Nat.mul_one, Nat.add_zero, blk_cell h j]
  rw [← Array.getElem?_toList, hc, List.getElem?_map, hj]
  rfl
/-- A list of things of some cells each, in a block that is written out. -/
theorem rows_lit {α : Type} {d : Kd α} {w : World} {b : Nat} {ps : List α} {css : List (List Value)} {c : Array Value} {t : Nat} (h : w.heap[b]? = some (.cells c t)) (hl : css.length = ps.length) (hs : ∀ cs ∈ css, cs.length = d.sz) (hc : c.toList = css.flatten) (hn : ps.length ≤ 9223372036854775807)
    (hK : ∀ (j : Nat) (p : α) (cs : List Value), ps[j]? = some p → css[j]? = some cs → d.K w p cs) : d.C w (some ⟨b, 0, none⟩) ps.length ps := by
  refine ⟨rfl, hn, fun _ => ⟨_, rfl, fun j p hj => ?_⟩⟩
  have hjl : j < ps.length := (List.getElem?_eq_some_iff.1 hj).1
  have hjc : css[j]? = some css[j] := List.getElem?_eq_getElem (by omega)
  refine ⟨css[j], hs _ (List.getElem_mem _), hK j p _ hj hjc, fun i u hu => ?_⟩
  rw [add_plain, blk_cell h]
  rw [← Array.getElem?_toList, hc]
  have hi : i < d.sz := by
    rw [← hs _ (List.getElem_mem (l := css) (n := j) (by omega))]
    exact (List.getElem?_eq_some_iff.1 hu).1
  clear hK hj
  have key : ∀ (css : List (List Value)) (j : Nat) (cs : List Value), (∀ cs ∈ css, cs.length = d.sz) → css[j]? = some cs → css.flatten[j * d.sz + i]? = cs[i]? := by
    intro css
    induction css with
    | nil => intro j cs _ hj; simp at hj
    | cons c0 css ih =>
      intro j cs hs hj
      have h0 : c0.length = d.sz := hs _ List.mem_cons_self
      cases j with
      | zero =>
        simp only [List.getElem?_cons_zero, Option.some.injEq] at hj
        subst hj
        simp only [List.flatten_cons, Nat.zero_mul, Nat.zero_add]
        exact List.getElem?_append_left (by omega)
      | succ j =>
        rw [List.flatten_cons, List.getElem?_append_right (by rw [h0, Nat.succ_mul]; omega), h0]
        have e : (j + 1) * d.sz + i - d.sz = j * d.sz + i := by rw [Nat.succ_mul]; omega
        rw [e]
        exact ih j cs (fun x hx => hs x (List.mem_cons_of_mem _ hx)) (by simpa using hj)
  rw [key css j _ hs hjc]
  exact hu
theorem alloc_size (w : World) (o : Obj) : (w.alloc o).heap.size = w.heap.size + 1 := by
  have := World.alloc_eq w o
  simp [this]
theorem blk_new' {w W : World} {o : Obj} {n : Nat} (hW : W = w.alloc o) (hn : n = w.heap.size) : W.heap[n]? = some o ∧ W.heap.size = n + 1 := by
  subst hW hn
  exact ⟨blk_new w o, alloc_size w o⟩
theorem blk_old {w W : World} {o o' : Obj} {n : Nat} (hW : W = w.alloc o) (h : w.heap[n]? = some o') : W.heap[n]? = some o' := by
  subst hW
  exact blk_below h (below_alloc (Below.refl _ _) o)
theorem allocs7 (w : World) (o0 o1 o2 o3 o4 o5 o6 : Obj) : ∀ W, W = ((((((w.alloc o0).alloc o1).alloc o2).alloc o3).alloc o4).alloc o5).alloc o6 →
    W.heap[w.heap.size]? = some o0 ∧ W.heap[w.heap.size + 1]? = some o1 ∧ W.heap[w.heap.size + 1 + 1]? = some o2 ∧ W.heap[w.heap.size + 1 + 1 + 1]? = some o3 ∧ W.heap[w.heap.size + 1 + 1 + 1 + 1]? = some o4 ∧ W.heap[w.heap.size + 1 + 1 + 1 + 1 + 1]? = some o5 ∧ W.heap[w.heap.size + 1 + 1 + 1 + 1 + 1 + 1]? = some o6 ∧ W.heap.size = w.heap.size + 1 + 1 + 1 + 1 + 1 + 1 + 1 := by
  rintro W rfl
  obtain ⟨a0, s0⟩ := blk_new' (o := o0) rfl (rfl : w.heap.size = w.heap.size)
  obtain ⟨a1, s1⟩ := blk_new' (o := o1) rfl s0.symm
  obtain ⟨a2, s2⟩ := blk_new' (o := o2) rfl s1.symm
  obtain ⟨a3, s3⟩ := blk_new' (o := o3) rfl s2.symm
  obtain ⟨a4, s4⟩ := blk_new' (o := o4) rfl s3.symm
  obtain ⟨a5, s5⟩ := blk_new' (o := o5) rfl s4.symm
  obtain ⟨a6, s6⟩ := blk_new' (o := o6) rfl s5.symm
  exact ⟨blk_old rfl (blk_old rfl (blk_old rfl (blk_old rfl (blk_old rfl (blk_old rfl a0))))), blk_old rfl (blk_old rfl (blk_old rfl (blk_old rfl (blk_old rfl a1)))), blk_old rfl (blk_old rfl (blk_old rfl (blk_old rfl a2))), blk_old rfl (blk_old rfl (blk_old rfl a3)), blk_old rfl (blk_old rfl a4), blk_old rfl a5, a6, s6⟩
end Go.Proofs.Ytgfbgfbnmiainaa.Fam
/-! awake, the walk. -/
namespace Go.Proofs.Ytgfbgfbnmiainaa.Fam
set_option linter.unusedVariables false
set_option linter.unusedSimpArgs false
open Go.RowKit Go.Proofs.YtgfbgfbnmiainaaW.PrintWords Go.Proofs.YtgfbgfbnmiainaaW.PrintLast Go.Proofs.YtgfbgfbnmiainaaW.PrintMore Go.Proofs.Ytgfbgfbnmiainaa.Q
attribute [local go_sem] Go.Proofs.YtgfbgfbnmiainaaW.OwnWords.isSome_setCell max2_int min2_int
attribute [local go_sem high] eqA59
def aRels : List S33 := [⟨⟨#[112, 97, 114, 116]⟩, [0, 1], 0⟩, ⟨⟨#[115, 105, 122, 101]⟩, [1], 1⟩]
def aFams : List S37 := [⟨[3], [1, 3], 0, 64⟩, ⟨[], [2, 3], 0, 64⟩]
def aSp (i : Nat) : S59 × Bool := if i = 0 then (⟨8, 10, 0, 64⟩, true) else (⟨0, 12, 0, 64⟩, true)
def aQs (i : Nat) : Rl := if i = 0 then .part 0 1 else .size 1 1
def aT : St := ⟨[⟨8, 10, 1, 2⟩, ⟨0, 12, 0, 2⟩], false, true⟩
def aU : St := ⟨[⟨8, 8, 1, 1⟩, ⟨8, 8, 1, 1⟩], false, false⟩
theorem a_aux0 : openF 100 (rd_T37 aFams ((0 : Nat) : Int)) = some (aSp 0) := by kernel_rfl
theorem a_aux1 : openF 100 (rd_T37 aFams ((1 : Nat) : Int)) = some (aSp 1) := by kernel_rfl
theorem a_aux2 : family_ValidRel.f 100 (rd_T33 aRels ((0 : Nat) : Int)).f0 (rd_T33 aRels ((0 : Nat) : Int)).f1 (rd_T33 aRels ((0 : Nat) : Int)).f2 aFams.length = some true := by kernel_rfl
theorem a_aux3 : family_ValidRel.f 100 (rd_T33 aRels ((1 : Nat) : Int)).f0 (rd_T33 aRels ((1 : Nat) : Int)).f1 (rd_T33 aRels ((1 : Nat) : Int)).f2 aFams.length = some true := by kernel_rfl
theorem a_aux4 : closeF 100 (rd_T59 aU.xs ((0 : Nat) : Int)) = some ⟨[3], [3], 1, 1⟩ := by kernel_rfl
theorem a_aux5 : closeF 100 (rd_T59 aU.xs ((1 : Nat) : Int)) = some ⟨[3], [3], 1, 1⟩ := by kernel_rfl
theorem a_open : ∀ i : Nat, i < aFams.length → openF 100 (rd_T37 aFams i) = some (aSp i) := by
  intro i hi
  match i, hi with
  | 0, _ => exact a_aux0
  | 1, _ => exact a_aux1
theorem a_valid : ∀ i : Nat, i < aRels.length → family_ValidRel.f 100 (rd_T33 aRels i).f0 (rd_T33 aRels i).f1 (rd_T33 aRels i).f2 aFams.length = some true := by
  intro i hi
  match i, hi with
  | 0, _ => exact a_aux2
  | 1, _ => exact a_aux3
theorem a_init : initF 100 aFams.length 0 ⟨spans aSp aFams.length, false, false⟩ = some aT := by kernel_rfl
theorem a_round : roundF 100 aQs aRels.length 100 ⟨aT.xs, aT.fail, true⟩ = some aU := by kernel_rfl
theorem a_close : ∀ i : Nat, i < aFams.length → closeF 100 (rd_T59 aU.xs i) = some ⟨[3], [3], 1, 1⟩ := by
  intro i hi
  match i, hi with
  | 0, _ => exact a_aux4
  | 1, _ => exact a_aux5
theorem a_same : famSameT.f 100 [3] [3] 1 1 [3] [3] 1 1 = some true := by kernel_rfl
theorem a_rels : RelsAre aRels aQs aFams.length := by
  intro i hi
  match i, hi with
  | 0, _ => exact ⟨⟨rfl, rfl⟩, ⟨by decide, by decide⟩, by decide, by decide⟩
  | 1, _ => exact ⟨⟨rfl, rfl, rfl⟩, by decide, by decide⟩
def aOut : List S37 := [⟨[3], [3], 1, 1⟩, ⟨[3], [3], 1, 1⟩]
/-- Fix of the two families, wherever they lie. -/
theorem a_fix (A0 : Option Addr) (c0 : Nat) (A1 : Option Addr) (c1 : Nat) (w : World) (hr0 : Kd.C k33 w A0 2 aRels) (hc0 : 2 ≤ c0) (hr1 : Kd.C k37 w A1 2 aFams) (hc1 : 2 ≤ c1) :
    Calls Try.prog 11 #[.slice A0 2 c0, .slice A1 2 c1] w fun e w' => ∃ v, e = .returned (.tuple #[v, .int .i64 0]) ∧ Kd.R k37 37 w' w.heap.size (fun _ => True) v aOut ∧ Below w.heap.size w w' :=
  fix_walk 100 aSp A0 c0 aRels A1 c1 aFams w hr0 hc0 hr1 hc1 a_open (by decide) (fun _ => true) a_valid (by decide) true ⟨rfl⟩ aOut 0
    ⟨fun _ => ⟨aQs, aT, aU, 100, a_rels, a_init, a_round, fun h => (by cases h), fun _ => ⟨rfl, fun _ => ⟨[3], [3], 1, 1⟩, a_close, rfl⟩⟩⟩ ⟨fun h => (by cases h)⟩
abbrev aW (w : World) : World := ((((((w.alloc (.cells #[.int .i64 0, .int .i64 1] 3)).alloc (.cells #[.int .i64 1] 3)).alloc (.cells #[.string ⟨#[112, 97, 114, 116]⟩, .slice (some ⟨w.heap.size, 0, none⟩) 2 2, .int .i64 0, .string ⟨#[115, 105, 122, 101]⟩, .slice (some ⟨w.heap.size + 1, 0, none⟩) 1 1, .int .i64 1] 33)).alloc (.cells #[.int .i64 3] 3)).alloc (.cells #[.int .i64 1, .int .i64 3] 3)).alloc (.cells #[.int .i64 2, .int .i64 3] 3)).alloc
  (.cells #[.slice (some ⟨w.heap.size + 1 + 1 + 1, 0, none⟩) 1 1, .slice (some ⟨w.heap.size + 1 + 1 + 1 + 1, 0, none⟩) 2 2, .int .i64 0, .int .i64 64, .slice none 0 0, .slice (some ⟨w.heap.size + 1 + 1 + 1 + 1 + 1, 0, none⟩) 2 2, .int .i64 0, .int .i64 64] 37)
theorem a_args (w : World) : Kd.C k33 (aW w) (some ⟨w.heap.size + 1 + 1, 0, none⟩) 2 aRels ∧ Kd.C k37 (aW w) (some ⟨w.heap.size + 1 + 1 + 1 + 1 + 1 + 1, 0, none⟩) 2 aFams := by
  obtain ⟨b0, b1, b2, b3, b4, b5, b6, _⟩ := allocs7 w _ _ _ _ _ _ _ (aW w) rfl
  refine ⟨rows_lit (css := [[.string ⟨#[112, 97, 114, 116]⟩, .slice (some ⟨w.heap.size, 0, none⟩) 2 2, .int .i64 0], [.string ⟨#[115, 105, 122, 101]⟩, .slice (some ⟨w.heap.size + 1, 0, none⟩) 1 1, .int .i64 1]]) b2 rfl ?_ rfl (by decide) ?_, rows_lit (css := [[.slice (some ⟨w.heap.size + 1 + 1 + 1, 0, none⟩) 1 1, .slice (some ⟨w.heap.size + 1 + 1 + 1 + 1, 0, none⟩) 2 2, .int .i64 0, .int .i64 64], [.slice none 0 0, .slice (some ⟨w.heap.size + 1 + 1 + 1 + 1 + 1, 0, none⟩) 2 2, .int .i64 0, .int .i64 64]]) b6 rfl ?_ rfl (by decide) ?_⟩
  · intro cs hcs
    simp only [List.mem_cons, List.not_mem_nil, or_false] at hcs
    rcases hcs with rfl | rfl <;> rfl
  · intro j p cs hp hc
    match j with
    | 0 => cases hp; cases hc; exact k33_mk _ ⟨⟨#[112, 97, 114, 116]⟩, [0, 1], 0⟩ (by decide) (ints_lit (xs := [0, 1]) b0 rfl (by decide))
    | 1 => cases hp; cases hc; exact k33_mk _ ⟨⟨#[115, 105, 122, 101]⟩, [1], 1⟩ (by decide) (ints_lit (xs := [1]) b1 rfl (by decide))
    | j + 2 => cases hp
  · intro cs hcs
    simp only [List.mem_cons, List.not_mem_nil, or_false] at hcs
    rcases hcs with rfl | rfl <;> rfl
  · intro j p cs hp hc
    match j with
    | 0 => cases hp; cases hc; exact k37_mk _ ⟨[3], [1, 3], 0, 64⟩ (by decide) (ints_lit (xs := [3]) b3 rfl (by decide)) (by decide) (ints_lit (xs := [1, 3]) b4 rfl (by decide))
    | 1 => cases hp; cases hc; exact k37_mk _ ⟨[], [2, 3], 0, 64⟩ (by decide) (Kd.C_nil _ _) (by decide) (ints_lit (xs := [2, 3]) b5 rfl (by decide))
    | j + 2 => cases hp
end Go.Proofs.Ytgfbgfbnmiainaa.Fam
/-! awake, the walk. -/
namespace Go.Proofs.Ytgfbgfbnmiainaa.Fam
set_option linter.unusedVariables false
set_option linter.unusedSimpArgs false
open Go.RowKit Go.Proofs.YtgfbgfbnmiainaaW.PrintWords Go.Proofs.YtgfbgfbnmiainaaW.PrintLast Go.Proofs.YtgfbgfbnmiainaaW.PrintMore Go.Proofs.Ytgfbgfbnmiainaa.Q
attribute [local go_sem] Go.Proofs.YtgfbgfbnmiainaaW.OwnWords.isSome_setCell max2_int min2_int
attribute [local go_sem high] eqA59
def aS (gb : Nat) (B0 : Option Addr) (b0 : Nat) (B1 : Option Addr) (b1 : Nat) (D0 : Option Addr) (d0 : Nat) (D1 : Option Addr) (d1 : Nat) (w2 w' : World) : Prop :=
  Below w2.heap.size w2 w' ∧ w'.cell? ⟨gb, 0, none⟩ = some (.slice B0 1 b0) ∧ w'.cell? ⟨gb, 1, none⟩ = some (.slice B1 1 b1) ∧ w'.cell? ⟨gb, 2, none⟩ = some (.int .i64 1) ∧ w'.cell? ⟨gb, 3, none⟩ = some (.int .i64 1) ∧ w'.cell? ⟨gb, 4, none⟩ = some (.slice D0 1 d0) ∧ w'.cell? ⟨gb, 5, none⟩ = some (.slice D1 1 d1) ∧ w'.cell? ⟨gb, 6, none⟩ = some (.int .i64 1) ∧ w'.cell? ⟨gb, 7, none⟩ = some (.int .i64 1)
theorem aS_below {gb : Nat} {B0 : Option Addr} {b0 : Nat} {B1 : Option Addr} {b1 : Nat} {D0 : Option Addr} {d0 : Nat} {D1 : Option Addr} {d1 : Nat} {w2 w w' : World} (h : aS gb B0 b0 B1 b1 D0 d0 D1 d1 w2 w) (hb : Below w.heap.size w w') : aS gb B0 b0 B1 b1 D0 d0 D1 d1 w2 w' := by
  obtain ⟨h0, a0, a1, a2, a3, a4, a5, a6, a7⟩ := h
  exact ⟨below_then h0 h0.size hb, pw_cell_below hb a0, pw_cell_below hb a1, pw_cell_below hb a2, pw_cell_below hb a3, pw_cell_below hb a4, pw_cell_below hb a5, pw_cell_below hb a6, pw_cell_below hb a7⟩
theorem aS_alloc {gb : Nat} {B0 : Option Addr} {b0 : Nat} {B1 : Option Addr} {b1 : Nat} {D0 : Option Addr} {d0 : Nat} {D1 : Option Addr} {d1 : Nat} {w2 w : World} (h : aS gb B0 b0 B1 b1 D0 d0 D1 d1 w2 w) (o : Obj) : aS gb B0 b0 B1 b1 D0 d0 D1 d1 w2 (w.alloc o) := aS_below h (below_alloc (Below.refl _ _) o)
theorem aS_drew {gb : Nat} {B0 : Option Addr} {b0 : Nat} {B1 : Option Addr} {b1 : Nat} {D0 : Option Addr} {d0 : Nat} {D1 : Option Addr} {d1 : Nat} {w2 w : World} (h : aS gb B0 b0 B1 b1 D0 d0 D1 d1 w2 w) : aS gb B0 b0 B1 b1 D0 d0 D1 d1 w2 w.drew := aS_below h (below_drew (Below.refl _ _))
set_option maxHeartbeats 8000000 in
set_option maxRecDepth 100000 in
theorem awake_walk (w : World) :
    Calls Try.prog 10 #[] w fun e w' => e = .returned (.bool true) ∧ Below w.heap.size w w' := by
  have HA := Aside0.mk (a_args w)
  have HB0 := Aside0.mk (show Below w.heap.size w (aW w) from below_alloc (below_alloc (below_alloc (below_alloc (below_alloc (below_alloc (below_alloc (Below.refl _ _) _) _) _) _) _) _) _)
  go_enter Try.func10, Try.ntmps10
  go_upto_region 2 with (first | (go_at_call 11; (refine (a_fix _ 2 _ 2 _ HA.out.1 (by decide) HA.out.2 (by decide)).mono ?_); rintro e w2 ⟨v, rfl, hR, hb2⟩; obtain ⟨gb, cp, rfl⟩ : ∃ gb cp, v = .slice (some ⟨gb, 0, none⟩) 2 cp := (by obtain ⟨gb, cp, h_, _⟩ := Kd.R_form hR (by decide); exact ⟨gb, cp, h_⟩); have HR := Aside0.mk hR; have HB := Aside0.mk (below_then HB0.out HB0.out.size hb2); clear hR hb2))
  obtain ⟨k1, k2, hC⟩ := Kd.R_reads' HR.out
  clear k1 k2
  obtain ⟨ad, B0, b0, B1, b1, e0, x0, x1, x2, x3, m0, M0, m1, M1⟩ := at_T37 hC 0 (by decide) (by decide)
  cases e0
  obtain ⟨ad, D0, d0, D1, d1, e0, y0, y1, y2, y3, n0, N0, n1, N1⟩ := at_T37 hC 1 (by decide) (by decide)
  cases e0
  have HM0 : Aside0 ([3].length ≤ b0 ∧ (Kd.int .i64).C w2 B0 [3].length [3]) := ⟨m0, M0⟩
  have HM1 : Aside0 ([3].length ≤ b1 ∧ (Kd.int .i64).C w2 B1 [3].length [3]) := ⟨m1, M1⟩
  have HM2 : Aside0 ([3].length ≤ d0 ∧ (Kd.int .i64).C w2 D0 [3].length [3]) := ⟨n0, N0⟩
  have HM3 : Aside0 ([3].length ≤ d1 ∧ (Kd.int .i64).C w2 D1 [3].length [3]) := ⟨n1, N1⟩
  clear hC m0 M0 m1 M1 n0 N0 n1 N1
  replace x0 : w2.cell? ⟨gb, 0, none⟩ = some (.slice B0 1 b0) := x0
  replace x1 : w2.cell? ⟨gb, 1, none⟩ = some (.slice B1 1 b1) := x1
  replace x2 : w2.cell? ⟨gb, 2, none⟩ = some (.int .i64 1) := x2
  replace x3 : w2.cell? ⟨gb, 3, none⟩ = some (.int .i64 1) := x3
  replace y0 : w2.cell? ⟨gb, 4, none⟩ = some (.slice D0 1 d0) := y0
  replace y1 : w2.cell? ⟨gb, 5, none⟩ = some (.slice D1 1 d1) := y1
  replace y2 : w2.cell? ⟨gb, 6, none⟩ = some (.int .i64 1) := y2
  replace y3 : w2.cell? ⟨gb, 7, none⟩ = some (.int .i64 1) := y3
  have HS := Aside0.mk (show aS gb B0 b0 B1 b1 D0 d0 D1 d1 w2 w2 from ⟨Below.refl _ _, x0, x1, x2, x3, y0, y1, y2, y3⟩)
  have HS1 := Aside0.mk (aS_drew (aS_alloc HS.out (.cells #[.int .i64 3] 3)))
  have HS2 := Aside0.mk (aS_drew (aS_alloc (aS_alloc HS.out (.cells #[.int .i64 3] 3)) (.cells #[.int .i64 3] 3)))
  have HL1 := Aside0.mk (Kd.C_drew (Kd.C_alloc (ints_lit (xs := [3]) (blk_new w2 (.cells #[.int .i64 3] 3)) rfl (by decide)) (.cells #[.int .i64 3] 3)))
  have HL2 := Aside0.mk (Kd.C_drew (ints_lit (xs := [3]) (blk_new' (w := w2.alloc (.cells #[.int .i64 3] 3)) (o := .cells #[.int .i64 3] 3) (n := w2.heap.size + 1) rfl (by simp)).1 rfl (by decide)))
  clear x0 x1 x2 x3 y0 y1 y2 y3
  go_region_held3 (fun w' => Below w2.heap.size w2 w' ∧ w'.cell? ⟨gb, 0, none⟩ = some (.slice B0 1 b0) ∧ w'.cell? ⟨gb, 1, none⟩ = some (.slice B1 1 b1) ∧ w'.cell? ⟨gb, 2, none⟩ = some (.int .i64 1) ∧ w'.cell? ⟨gb, 3, none⟩ = some (.int .i64 1) ∧ w'.cell? ⟨gb, 4, none⟩ = some (.slice D0 1 d0) ∧ w'.cell? ⟨gb, 5, none⟩ = some (.slice D1 1 d1) ∧ w'.cell? ⟨gb, 6, none⟩ = some (.int .i64 1) ∧ w'.cell? ⟨gb, 7, none⟩ = some (.int .i64 1))
    (first | exact HT.out | exact HU.out | exact HS.out | exact aS_drew HS.out | exact HS1.out | exact HS2.out)
    (first
      | (go_at_call 18; (refine (famSameT.calls 100 B0 b0 [3] B1 b1 [3] 1 1 D0 d0 [3] D1 d1 [3] 1 1 _ (Kd.C_below HM0.out.2 HT.out.1) HM0.out.1 (Kd.C_below HM1.out.2 HT.out.1) HM1.out.1 (Kd.C_below HM2.out.2 HT.out.1) HM2.out.1 (Kd.C_below HM3.out.2 HT.out.1) HM3.out.1 a_same).mono ?_); rintro e w4 ⟨rfl, hb⟩; have HU := Aside0.mk (aS_below HT.out hb); clear hb)
      | (go_at_call 18; (refine (famSameT.calls 100 B0 b0 [3] B1 b1 [3] 1 1 _ 1 [3] _ 1 [3] 1 1 _ (Kd.C_below HM0.out.2 HS2.out.1) HM0.out.1 (Kd.C_below HM1.out.2 HS2.out.1) HM1.out.1 ?r2 ?c2 ?r3 ?c3 a_same).mono ?_); (case r2 => first | exact HL1.out | exact HL2.out); (case c2 => decide); (case r3 => first | exact HL1.out | exact HL2.out); (case c3 => decide); rintro e w3 ⟨rfl, hb⟩; have HT := Aside0.mk (aS_below HS2.out hb); clear hb))
  all_goals
    try go_wp2
    go_ret
    first
      | exact ⟨rfl, below_then HB.out HB.out.size HU.out.1⟩
      | (trace_state; fail)
end Go.Proofs.Ytgfbgfbnmiainaa.Fam
/-! FamilyTells, the walk of the law. -/
namespace Go.Proofs.Ytgfbgfbnmiainaa.Fam
set_option linter.unusedVariables false
set_option linter.unusedSimpArgs false
open Go.RowKit Go.Proofs.YtgfbgfbnmiainaaW.PrintWords Go.Proofs.YtgfbgfbnmiainaaW.PrintLast Go.Proofs.YtgfbgfbnmiainaaW.PrintMore Go.Proofs.Ytgfbgfbnmiainaa.Q
attribute [local go_sem] Go.Proofs.YtgfbgfbnmiainaaW.OwnWords.isSome_setCell max2_int min2_int
def TellEnd (w : World) (e : Ending) (w' : World) : Prop := e = .returned (.bool true) ∧ Below w.heap.size w w'
/-- Two families, written out. -/
theorem two_C {w : World} {f g : S37} {A : Option Addr} {a : Nat} {B : Option Addr} {b : Nat} {C : Option Addr} {c : Nat} {D : Option Addr} {d : Nat} (h1 : FC w f A a B b) (h2 : FC w g C c D d) {n : Nat}
    (hb : w.heap[n]? = some (.cells #[.slice A f.f0.length a, .slice B f.f1.length b, .int .i64 f.f2, .int .i64 f.f3, .slice C g.f0.length c, .slice D g.f1.length d, .int .i64 g.f2, .int .i64 g.f3] 37 (0, 0))) : Kd.C k37 w (some ⟨n, 0, none⟩) 2 [f, g] := by
  refine ⟨rfl, by omega, fun _ => ⟨_, rfl, fun j p hj => ?_⟩⟩
  match j, hj with
  | 0, hj =>
    obtain rfl : f = p := Option.some.inj hj
    refine ⟨[.slice A f.f0.length a, .slice B f.f1.length b, .int .i64 f.f2, .int .i64 f.f3], rfl, k37_mk w f h1.l0 h1.h0 h1.l1 h1.h1, fun i u hu => ?_⟩
    match i, hu with
    | 0, hu => exact ((blk_cell hb 0).trans rfl).trans hu
    | 1, hu => exact ((blk_cell hb 1).trans rfl).trans hu
    | 2, hu => exact ((blk_cell hb 2).trans rfl).trans hu
    | 3, hu => exact ((blk_cell hb 3).trans rfl).trans hu
    | i + 4, hu => simp at hu
  | 1, hj =>
    obtain rfl : g = p := Option.some.inj hj
    refine ⟨[.slice C g.f0.length c, .slice D g.f1.length d, .int .i64 g.f2, .int .i64 g.f3], rfl, k37_mk w g h2.l0 h2.h0 h2.l1 h2.h1, fun i u hu => ?_⟩
    match i, hu with
    | 0, hu => exact ((blk_cell hb 4).trans rfl).trans hu
    | 1, hu => exact ((blk_cell hb 5).trans rfl).trans hu
    | 2, hu => exact ((blk_cell hb 6).trans rfl).trans hu
    | 3, hu => exact ((blk_cell hb 7).trans rfl).trans hu
    | i + 4, hu => simp at hu
  | j + 2, hj => simp at hj
theorem nOf_facts (f : S37) : (Sh (nOf f).1 ∧ (nOf f).1.f0.length ≤ 64 ∧ (nOf f).1.f1.length ≤ 64) ∧ (((nOf f).2 = 0 ∧ vl (nOf f).1 = true) ∨ ((nOf f).2 ≠ 0 ∧ (nOf f).1 = z37')) := by
  cases hv : vl f
  · have e : nOf f = outN false none := by unfold nOf; rw [hv]; rfl
    rw [e]
    exact outN_facts false none (fun t h => by cases h)
  · unfold nOf
    exact outN_facts (vl f) (nrm (opn f)) (fun t ht => ((nrm_spec (ws_opn hv)).1 t ht).1)
theorem mOf_facts (f g : S37) : (Sh (mOf f g).1 ∧ (mOf f g).1.f0.length ≤ 64 ∧ (mOf f g).1.f1.length ≤ 64) ∧ (((mOf f g).2 = 0 ∧ vl (mOf f g).1 = true) ∨ ((mOf f g).2 ≠ 0 ∧ (mOf f g).1 = z37')) := by
  unfold mOf
  exact outN_facts _ _ (fun t ht => ((nrm_spec (ws_mt _ _)).1 t ht).1)
theorem n_cases (f : S37) (s : List Int) : ((nOf f).2 = 0 ∧ hasB (nOf f).1 s = hasB f s) ∨ ((nOf f).2 = 60 ∧ hasB f s = false ∧ (cntOut f).1 = 0) ∨ (nOf f).2 = 2 := by
  unfold nOf
  cases hv : vl f
  · exact .inr (.inr rfl)
  · cases hn : nrm (opn f) with
    | none => exact .inr (.inl ⟨rfl, hasB_none hv hn s, by rw [cntOut_none hv hn]⟩)
    | some t => exact .inl ⟨rfl, hasB_norm hv hn s⟩
theorem m_cases (f g : S37) (s : List Int) : ((mOf f g).2 = 0 ∧ hasB (mOf f g).1 s = (hasB f s && hasB g s)) ∨ (mOf f g).2 ≠ 0 := by
  unfold mOf
  cases hv : vl f && vl g
  · exact .inr (by decide : (2 : Int) ≠ 0)
  · obtain ⟨v1, v2⟩ := Bool.and_eq_true_iff.mp hv
    cases hn : nrm (mt (opn f) (opn g)) with
    | none => exact .inr (by decide : (60 : Int) ≠ 0)
    | some t => exact .inl ⟨rfl, hasB_meet v1 v2 hn s⟩
theorem blk_newT {w : World} {o : Obj} {n : Nat} (h : w.heap.size = n) : (w.alloc o).heap[n]? = some o := by subst h; exact blk_new w o
theorem has_c {w : World} {h : S37} {A : Option Addr} {a : Nat} {B : Option Addr} {b : Nat} {E : Option Addr} {e0 : Nat} {s : List Int} {v : Bool} (hx : FC w h A a B b) (he : Kd.C (Kd.int .i64) w E s.length s) (he0 : s.length ≤ e0) (hv : family_Has.f 1002 h.f0 h.f1 h.f2 h.f3 s = some v) :
    Calls Try.prog 26 #[.agg #[.slice A h.f0.length a, .slice B h.f1.length b, .int .i64 h.f2, .int .i64 h.f3], .slice E s.length e0] w (fun e w' => e = .returned (.bool v) ∧ Below w.heap.size w w') :=
  family_Has.calls 1002 A a h.f0 B b h.f1 h.f2 h.f3 E e0 s v w hx.h0 hx.l0 hx.h1 hx.l1 he he0 hv
theorem awake_tell (w : World) : Calls Try.prog 10 #[] w (TellEnd w) := awake_walk w
theorem light2 (f g : S37) : manystrandlaw07_light.f 3 [f, g] = some (okL f && okL g) := by
  have h := light_from [f, g] (by simp) 2 0 3 rfl (by omega)
  have h' : manystrandlaw07_light.f 3 [f, g] = _ := h
  rw [h']
  simp
theorem okL_sh {f : S37} (h : okL f = true) : f.f0.length ≤ 100 ∧ f.f1.length ≤ 100 := by
  unfold okL at h
  obtain ⟨h1, h2⟩ := Bool.and_eq_true_iff.mp h
  exact ⟨of_decide_eq_true h1, of_decide_eq_true h2⟩
section
variable (f g : S37) (s : List Int) (A : Option Addr) (a : Nat) (B : Option Addr) (b : Nat) (C : Option Addr) (c : Nat) (D : Option Addr) (d : Nat) (E : Option Addr) (e0 : Nat) (w : World) (h1 : FC w f A a B b) (h2 : FC w g C c D d) (h3 : Kd.C (Kd.int .i64) w E s.length s) (h3' : s.length ≤ e0)
include h1 h2
set_option maxHeartbeats 2000000 in
set_option maxRecDepth 100000 in
theorem tells_heavy (hf : (okL f && okL g) = false) :
    Calls Try.prog 4 #[.agg #[.slice A f.f0.length a, .slice B f.f1.length b, .int .i64 f.f2, .int .i64 f.f3], .agg #[.slice C g.f0.length c, .slice D g.f1.length d, .int .i64 g.f2, .int .i64 g.f3], .slice E s.length e0] w (TellEnd w) := by
  have H1 := Aside0.mk h1
  have H2 := Aside0.mk h2
  have HL := Aside0.mk ((light2 f g).trans (by rw [hf]))
  clear h1 h2 hf
  go_enter Try.func4, Try.ntmps4
  go_wp2_with (first
    | (go_at_call 10; (refine (awake_tell _).mono ?_); rintro e w9 ⟨rfl, hb⟩; have HE := Aside0.mk (below_then HB1.out HB1.out.size hb); clear hb)
    | (go_at_call 8; (refine (manystrandlaw07_light.calls 3 (some ⟨w.heap.size + 1 + 1, 0, none⟩) 2 [f, g] false _ (two_C (H1.out.below (below_alloc (below_alloc (below_alloc (Below.refl _ _) _) _) _)) (H2.out.below (below_alloc (below_alloc (below_alloc (Below.refl _ _) _) _) _)) (blk_newT (by simp))) (Nat.le_refl _) HL.out).mono ?_); rintro e w1 ⟨rfl, hb⟩; have HB1 := Aside0.mk (below_then (below_alloc (below_alloc (below_alloc (Below.refl _ _) _) _) _) (by simp <;> omega) hb); clear hb))
  go_ret
  exact ⟨rfl, HE.out⟩
set_option maxHeartbeats 2000000 in
set_option maxRecDepth 100000 in
theorem tells_long (hf : (okL f && okL g) = true) (hs : ¬ s.length ≤ 100) :
    Calls Try.prog 4 #[.agg #[.slice A f.f0.length a, .slice B f.f1.length b, .int .i64 f.f2, .int .i64 f.f3], .agg #[.slice C g.f0.length c, .slice D g.f1.length d, .int .i64 g.f2, .int .i64 g.f3], .slice E s.length e0] w (TellEnd w) := by
  have H1 := Aside0.mk h1
  have H2 := Aside0.mk h2
  have HL := Aside0.mk ((light2 f g).trans (by rw [hf]))
  have d1 : decide (100 < (s.length : Int)) = true := decide_eq_true (by omega)
  clear h1 h2 hf hs
  go_enter Try.func4, Try.ntmps4
  go_wp2_with (first
    | (go_at_call 10; (refine (awake_tell _).mono ?_); rintro e w9 ⟨rfl, hb⟩; have HE := Aside0.mk (below_then HB1.out HB1.out.size hb); clear hb)
    | (go_at_call 8; (refine (manystrandlaw07_light.calls 3 (some ⟨w.heap.size + 1 + 1, 0, none⟩) 2 [f, g] true _ (two_C (H1.out.below (below_alloc (below_alloc (below_alloc (Below.refl _ _) _) _) _)) (H2.out.below (below_alloc (below_alloc (below_alloc (Below.refl _ _) _) _) _)) (blk_newT (by simp))) (Nat.le_refl _) HL.out).mono ?_); rintro e w1 ⟨rfl, hb⟩; have HB1 := Aside0.mk (below_then (below_alloc (below_alloc (below_alloc (Below.refl _ _) _) _) _) (by simp <;> omega) hb); clear hb))
  go_ret
  exact ⟨rfl, HE.out⟩
include h3 h3'
set_option maxHeartbeats 4000000 in
set_option maxRecDepth 100000 in
theorem tells_light (hf : (okL f && okL g) = true) (hs : s.length ≤ 100) :
    Calls Try.prog 4 #[.agg #[.slice A f.f0.length a, .slice B f.f1.length b, .int .i64 f.f2, .int .i64 f.f3], .agg #[.slice C g.f0.length c, .slice D g.f1.length d, .int .i64 g.f2, .int .i64 g.f3], .slice E s.length e0] w (TellEnd w) := by
  have H1 := Aside0.mk h1
  have H2 := Aside0.mk h2
  have H3 := Aside0.mk (And.intro h3 h3')
  have HL := Aside0.mk ((light2 f g).trans (by rw [hf]))
  obtain ⟨of1, og1⟩ := Bool.and_eq_true_iff.mp hf
  have HF := Aside0.mk (show Sh f from ⟨by have := okL_sh of1; omega, by have := okL_sh of1; omega⟩)
  have HG := Aside0.mk (show Sh g from ⟨by have := okL_sh og1; omega, by have := okL_sh og1; omega⟩)
  have d1 : decide (100 < (s.length : Int)) = false := decide_eq_false (by omega)
  have HS := Aside0.mk hs
  clear h1 h2 h3 h3' hf hs of1 og1
  go_enter Try.func4, Try.ntmps4
  go_upto_region 3 with (go_at_call 8; (refine (manystrandlaw07_light.calls 3 (some ⟨w.heap.size + 1 + 1, 0, none⟩) 2 [f, g] true _ (two_C (H1.out.below (below_alloc (below_alloc (below_alloc (Below.refl _ _) _) _) _)) (H2.out.below (below_alloc (below_alloc (below_alloc (Below.refl _ _) _) _) _)) (blk_newT (by simp))) (Nat.le_refl _) HL.out).mono ?_); rintro e w1 ⟨rfl, hb⟩; have HB := Aside0.mk (below_then (below_alloc (below_alloc (below_alloc (Below.refl _ _) _) _) _) (by simp <;> omega) hb); have B0 := Aside0.mk (blk_below (blk_alloc (blk_alloc (blk_new w _) _) _) hb); have B1 := Aside0.mk (blk_below (blk_alloc (blk_newT (w := w.alloc _) (n := w.heap.size + 1) (by simp)) _) hb); clear hb)
  (try simp only [Act.put, List.setIfInBounds_toArray, List.set_cons_zero, List.set_cons_succ])
  go_cut [7, 8] (fun v7 v8 wx => ∃ (n7 : Nat) (A7 : Option Addr) (a7 : Nat) (B7 : Option Addr) (b7 : Nat), v7 = .pointer (some ⟨n7, 0, none⟩) ∧ v8 = .int .i64 (nOf f).2 ∧ Aside0 (Below w.heap.size w wx) ∧ Aside0 (wx.heap[w.heap.size]? = some (.cells #[.slice A f.f0.length a, .slice B f.f1.length b, .int .i64 f.f2, .int .i64 f.f3] 37 (0, 0))) ∧ Aside0 (wx.heap[w.heap.size + 1]? = some (.cells #[.slice C g.f0.length c, .slice D g.f1.length d, .int .i64 g.f2, .int .i64 g.f3] 37 (0, 0))) ∧ Aside0 (wx.heap[n7]? = some (.cells #[.slice A7 (nOf f).1.f0.length a7, .slice B7 (nOf f).1.f1.length b7, .int .i64 (nOf f).1.f2, .int .i64 (nOf f).1.f3] 37 (0, 0))) ∧ Aside0 (FC wx (nOf f).1 A7 a7 B7 b7))
  case first => as_aux_lemma =>
    have x0 := (blk_cell B0.out 0).trans rfl
    have x1 := (blk_cell B0.out 1).trans rfl
    have x2 := (blk_cell B0.out 2).trans rfl
    have x3 := (blk_cell B0.out 3).trans rfl
    go_wp2_with (go_at_call 16; (refine (normF_c HF.out (H1.out.below HB.out)).mono ?_); rintro e w2 ⟨A7, a7, B7, b7, rfl, hx, hb⟩; have HX := Aside0.mk hx; have HB2 := Aside0.mk (below_step HB.out hb); have C0 := Aside0.mk (blk_below B0.out hb); have C1 := Aside0.mk (blk_below B1.out hb); clear hx hb x0 x1 x2 x3)
    go_meet
    case rel => exact ⟨w2.heap.size, A7, a7, B7, b7, rfl, rfl, ⟨below_alloc HB2.out _⟩, ⟨blk_alloc C0.out _⟩, ⟨blk_alloc C1.out _⟩, ⟨blk_new _ _⟩, ⟨HX.out.below (below_alloc (Below.refl _ _) _)⟩⟩
  case rest =>
    obtain ⟨n7, A7, a7, B7, b7, rfl, rfl, HB7, C0, C1, N7, X7⟩ := hcut
    clear HB B0 B1
    go_upto_region 4 with fail
    (try simp only [Act.put, List.setIfInBounds_toArray, List.set_cons_zero, List.set_cons_succ])
    go_cut [9, 10] (fun v9 v10 wx => ∃ (n9 : Nat) (A9 : Option Addr) (a9 : Nat) (B9 : Option Addr) (b9 : Nat), v9 = .pointer (some ⟨n9, 0, none⟩) ∧ v10 = .int .i64 (nOf f).2 ∧ Aside0 (Below w.heap.size w wx) ∧ Aside0 (wx.heap[w.heap.size]? = some (.cells #[.slice A f.f0.length a, .slice B f.f1.length b, .int .i64 f.f2, .int .i64 f.f3] 37 (0, 0))) ∧ Aside0 (wx.heap[w.heap.size + 1]? = some (.cells #[.slice C g.f0.length c, .slice D g.f1.length d, .int .i64 g.f2, .int .i64 g.f3] 37 (0, 0))) ∧ Aside0 (wx.heap[n7]? = some (.cells #[.slice A7 (nOf f).1.f0.length a7, .slice B7 (nOf f).1.f1.length b7, .int .i64 (nOf f).1.f2, .int .i64 (nOf f).1.f3] 37 (0, 0))) ∧ Aside0 (FC wx (nOf f).1 A7 a7 B7 b7) ∧ Aside0 (wx.heap[n9]? = some (.cells #[.slice A9 (nOf f).1.f0.length a9, .slice B9 (nOf f).1.f1.length b9, .int .i64 (nOf f).1.f2, .int .i64 (nOf f).1.f3] 37 (0, 0))) ∧ Aside0 (FC wx (nOf f).1 A9 a9 B9 b9))
    case first => as_aux_lemma =>
      have x0 := (blk_cell C0.out 0).trans rfl
      have x1 := (blk_cell C0.out 1).trans rfl
      have x2 := (blk_cell C0.out 2).trans rfl
      have x3 := (blk_cell C0.out 3).trans rfl
      go_wp2_with (go_at_call 17; (refine (normR_c HF.out (H1.out.below HB7.out)).mono ?_); rintro e w2 ⟨A9, a9, B9, b9, rfl, hx, hb⟩; have HX := Aside0.mk hx; have HB2 := Aside0.mk (below_step HB7.out hb); have D0 := Aside0.mk (blk_below C0.out hb); have D1 := Aside0.mk (blk_below C1.out hb); have D7 := Aside0.mk (blk_below N7.out hb); have Y7 := Aside0.mk (X7.out.below hb); clear hx hb x0 x1 x2 x3)
      go_meet
      case rel => exact ⟨w2.heap.size, A9, a9, B9, b9, rfl, rfl, ⟨below_alloc HB2.out _⟩, ⟨blk_alloc D0.out _⟩, ⟨blk_alloc D1.out _⟩, ⟨blk_alloc D7.out _⟩, ⟨Y7.out.below (below_alloc (Below.refl _ _) _)⟩, ⟨blk_new _ _⟩, ⟨HX.out.below (below_alloc (Below.refl _ _) _)⟩⟩
    case rest =>
      obtain ⟨n9, A9, a9, B9, b9, rfl, rfl, HB9, D0, D1, N9, X9, M9, Y9⟩ := hcut
      clear HB7 C0 C1 N7 X7
      go_upto_region 5 with fail
      (try simp only [Act.put, List.setIfInBounds_toArray, List.set_cons_zero, List.set_cons_succ])
      have HO := Aside0.mk (nOf_facts f)
      go_cut [59] (fun v59 wx => v59 = .bool false ∧ Aside0 (Below w.heap.size w wx) ∧ Aside0 (wx.heap[w.heap.size]? = some (.cells #[.slice A f.f0.length a, .slice B f.f1.length b, .int .i64 f.f2, .int .i64 f.f3] 37 (0, 0))) ∧ Aside0 (wx.heap[w.heap.size + 1]? = some (.cells #[.slice C g.f0.length c, .slice D g.f1.length d, .int .i64 g.f2, .int .i64 g.f3] 37 (0, 0))) ∧ Aside0 (wx.heap[n7]? = some (.cells #[.slice A7 (nOf f).1.f0.length a7, .slice B7 (nOf f).1.f1.length b7, .int .i64 (nOf f).1.f2, .int .i64 (nOf f).1.f3] 37 (0, 0))) ∧ Aside0 (FC wx (nOf f).1 A7 a7 B7 b7))
      case first => as_aux_lemma =>
        have x0 := (blk_cell N9.out 0).trans rfl
        have x1 := (blk_cell N9.out 1).trans rfl
        have x2 := (blk_cell N9.out 2).trans rfl
        have x3 := (blk_cell N9.out 3).trans rfl
        have y0 := (blk_cell M9.out 0).trans rfl
        have y1 := (blk_cell M9.out 1).trans rfl
        have y2 := (blk_cell M9.out 2).trans rfl
        have y3 := (blk_cell M9.out 3).trans rfl
        rcases HO.out.2 with ⟨hc, hv⟩ | ⟨hc, hv⟩
        · have c0 : decide ((nOf f).2 = 0) = true := decide_eq_true hc
          have c1 : ((nOf f).2 == 0) = true := beq_iff_eq.mpr hc
          have c2 : ((nOf f).2 != 0) = false := bne_eq_false_iff_eq.mpr hc
          have hq := Aside0.mk (show famSameT.f 1001 (nOf f).1.f0 (nOf f).1.f1 (nOf f).1.f2 (nOf f).1.f3 (nOf f).1.f0 (nOf f).1.f1 (nOf f).1.f2 (nOf f).1.f3 = some true from same_self HO.out.1.1.1 HO.out.1.1.2 hv (by omega))
          clear hc hv
          go_wp2_with (go_at_call 18; (refine (famSameT.calls 1001 A7 a7 (nOf f).1.f0 B7 b7 (nOf f).1.f1 (nOf f).1.f2 (nOf f).1.f3 A9 a9 (nOf f).1.f0 B9 b9 (nOf f).1.f1 (nOf f).1.f2 (nOf f).1.f3 _ X9.out.h0 X9.out.l0 X9.out.h1 X9.out.l1 Y9.out.h0 Y9.out.l0 Y9.out.h1 Y9.out.l1 hq.out).mono ?_); rintro e w2 ⟨rfl, hb⟩; have HB2 := Aside0.mk (below_step HB9.out hb); have E0 := Aside0.mk (blk_below D0.out hb); have E1 := Aside0.mk (blk_below D1.out hb); have E7 := Aside0.mk (blk_below N9.out hb); have Y7 := Aside0.mk (X9.out.below hb); clear hb x0 x1 x2 x3 y0 y1 y2 y3)
          go_meet
          case rel => exact ⟨rfl, HB2, E0, E1, E7, Y7⟩
        · have c0 : decide ((nOf f).2 = 0) = false := decide_eq_false hc
          have c1 : ((nOf f).2 == 0) = false := beq_eq_false_iff_ne.mpr hc
          have c2 : ((nOf f).2 != 0) = true := bne_iff_ne.mpr hc
          have hq := Aside0.mk (show manystrandlaw07_zero.f (nOf f).1.f0 (nOf f).1.f1 (nOf f).1.f2 (nOf f).1.f3 = some true by rw [show (nOf f).1 = z37' from hv]; exact zero_t)
          clear hc hv
          go_wp2_with (go_at_call 19; (refine (manystrandlaw07_zero.calls A7 a7 (nOf f).1.f0 B7 b7 (nOf f).1.f1 (nOf f).1.f2 (nOf f).1.f3 true _ X9.out.h0 X9.out.l0 X9.out.h1 X9.out.l1 hq.out).mono ?_); rintro e w2 ⟨rfl, hb⟩; have HB2 := Aside0.mk (below_step HB9.out hb); have E0 := Aside0.mk (blk_below D0.out hb); have E1 := Aside0.mk (blk_below D1.out hb); have E7 := Aside0.mk (blk_below N9.out hb); have Y7 := Aside0.mk (X9.out.below hb); clear hb x0 x1 x2 x3 y0 y1 y2 y3)
          go_meet
          case rel => exact ⟨rfl, HB2, E0, E1, E7, Y7⟩
      case rest =>
        obtain ⟨rfl, HB5, E0, E1, E7, X5⟩ := hcut
        clear HB9 D0 D1 N9 X9 M9 Y9
        obtain ⟨k1, hk1⟩ := countF_t HF.out
        obtain ⟨k2, hk2⟩ := countR_t HF.out
        have HK1 := Aside0.mk (show family_Count.f k1 f.f0 f.f1 f.f2 f.f3 = some ((cntOut f).1, (cntOut f).2) from hk1 k1 (Nat.le_refl _))
        have HK2 := Aside0.mk (show manystrandref07_Count.f k2 f.f0 f.f1 f.f2 f.f3 = some ((cntOut f).1, (cntOut f).2) from hk2 k2 (Nat.le_refl _))
        clear hk1 hk2
        have x0 := (blk_cell E0.out 0).trans rfl
        have x1 := (blk_cell E0.out 1).trans rfl
        have x2 := (blk_cell E0.out 2).trans rfl
        have x3 := (blk_cell E0.out 3).trans rfl
        go_upto_region 9 with (first
          | (go_at_call 21; (refine (manystrandref07_Count.calls k2 A a f.f0 B b f.f1 f.f2 f.f3 _ _ _ (H1.out.below HB6.out).h0 H1.out.l0 (H1.out.below HB6.out).h1 H1.out.l1 HK2.out).mono ?_); rintro e w7 ⟨rfl, hb⟩; have HB7 := Aside0.mk (below_step HB6.out hb); have G0 := Aside0.mk (blk_below F0.out hb); have G1 := Aside0.mk (blk_below F1.out hb); have G7 := Aside0.mk (blk_below F7.out hb); have X7 := Aside0.mk (X6.out.below hb); clear hb y0 y1 y2 y3)
          | (go_at_call 20; (refine (family_Count.calls k1 A a f.f0 B b f.f1 f.f2 f.f3 _ _ _ (H1.out.below HB5.out).h0 H1.out.l0 (H1.out.below HB5.out).h1 H1.out.l1 HK1.out).mono ?_); rintro e w6 ⟨rfl, hb⟩; have HB6 := Aside0.mk (below_step HB5.out hb); have F0 := Aside0.mk (blk_below E0.out hb); have F1 := Aside0.mk (blk_below E1.out hb); have F7 := Aside0.mk (blk_below E7.out hb); have X6 := Aside0.mk (X5.out.below hb); have y0 := (blk_cell F0.out 0).trans rfl; have y1 := (blk_cell F0.out 1).trans rfl; have y2 := (blk_cell F0.out 2).trans rfl; have y3 := (blk_cell F0.out 3).trans rfl; clear hb x0 x1 x2 x3))
        (try simp only [Act.put, List.setIfInBounds_toArray, List.set_cons_zero, List.set_cons_succ])
        go_cut [100] (fun v100 wx => v100 = .bool false ∧ Aside0 (Below w.heap.size w wx) ∧ Aside0 (wx.heap[w.heap.size]? = some (.cells #[.slice A f.f0.length a, .slice B f.f1.length b, .int .i64 f.f2, .int .i64 f.f3] 37 (0, 0))) ∧ Aside0 (wx.heap[w.heap.size + 1]? = some (.cells #[.slice C g.f0.length c, .slice D g.f1.length d, .int .i64 g.f2, .int .i64 g.f3] 37 (0, 0))) ∧ Aside0 (wx.heap[n7]? = some (.cells #[.slice A7 (nOf f).1.f0.length a7, .slice B7 (nOf f).1.f1.length b7, .int .i64 (nOf f).1.f2, .int .i64 (nOf f).1.f3] 37 (0, 0))) ∧ Aside0 (FC wx (nOf f).1 A7 a7 B7 b7))
        case first => as_aux_lemma =>
          have x0 := (blk_cell G0.out 0).trans rfl
          have x1 := (blk_cell G0.out 1).trans rfl
          have x2 := (blk_cell G0.out 2).trans rfl
          have x3 := (blk_cell G0.out 3).trans rfl
          have HZ0 := Aside0.mk (Below.refl w7.heap.size w7)
          have HZ1 := Aside0.mk (below_drew (Below.refl w7.heap.size w7))
          have q1 : (vl f != vl f) = false := bne_self_eq_false _
          have q2 : (fixB f != fixB f) = false := bne_self_eq_false _
          have q3 : (hasB f s != hasB f s) = false := bne_self_eq_false _
          go_region_held3 (fun w' => Below w7.heap.size w7 w' ∧ w'.cell? ⟨w.heap.size, 0, none⟩ = some (.slice A f.f0.length a) ∧ w'.cell? ⟨w.heap.size, 1, none⟩ = some (.slice B f.f1.length b) ∧ w'.cell? ⟨w.heap.size, 2, none⟩ = some (.int .i64 f.f2) ∧ w'.cell? ⟨w.heap.size, 3, none⟩ = some (.int .i64 f.f3))
            ((refine ⟨(by assumption : Aside0 (Below w7.heap.size w7 _)).out, ?_⟩; exact ⟨(blk_cell (blk_below G0.out (by assumption : Aside0 (Below w7.heap.size w7 _)).out) 0).trans rfl, (blk_cell (blk_below G0.out (by assumption : Aside0 (Below w7.heap.size w7 _)).out) 1).trans rfl, (blk_cell (blk_below G0.out (by assumption : Aside0 (Below w7.heap.size w7 _)).out) 2).trans rfl, (blk_cell (blk_below G0.out (by assumption : Aside0 (Below w7.heap.size w7 _)).out) 3).trans rfl⟩))
            (first
              | (go_at_call 26; (refine (family_Has.calls 1002 A a f.f0 B b f.f1 f.f2 f.f3 E e0 s (hasB f s) _ ((H1.out.below (below_then HB7.out HB7.out.size (by assumption : Aside0 (Below w7.heap.size w7 _)).out)).h0) H1.out.l0 ((H1.out.below (below_then HB7.out HB7.out.size (by assumption : Aside0 (Below w7.heap.size w7 _)).out)).h1) H1.out.l1 (Kd.C_below H3.out.1 (below_then HB7.out HB7.out.size (by assumption : Aside0 (Below w7.heap.size w7 _)).out)) H3.out.2 (hasF_t HF.out (by have := HS.out; omega) (by omega))).mono ?_); rintro e wz ⟨rfl, hb⟩; have HZ := Aside0.mk (below_then (by assumption : Aside0 (Below w7.heap.size w7 _)).out (by assumption : Aside0 (Below w7.heap.size w7 _)).out.size hb); clear hb)
              | (go_at_call 27; (refine (manystrandref07_Has.calls 1002 A a f.f0 B b f.f1 f.f2 f.f3 E e0 s (hasB f s) _ ((H1.out.below (below_then HB7.out HB7.out.size (by assumption : Aside0 (Below w7.heap.size w7 _)).out)).h0) H1.out.l0 ((H1.out.below (below_then HB7.out HB7.out.size (by assumption : Aside0 (Below w7.heap.size w7 _)).out)).h1) H1.out.l1 (Kd.C_below H3.out.1 (below_then HB7.out HB7.out.size (by assumption : Aside0 (Below w7.heap.size w7 _)).out)) H3.out.2 (hasR_t HF.out (by have := HS.out; omega) (by omega))).mono ?_); rintro e wz ⟨rfl, hb⟩; have HZ := Aside0.mk (below_then (by assumption : Aside0 (Below w7.heap.size w7 _)).out (by assumption : Aside0 (Below w7.heap.size w7 _)).out.size hb); clear hb)
              | (go_at_call 24; (refine (family_Fixed.calls 1002 A a f.f0 B b f.f1 f.f2 f.f3 (fixB f) _ ((H1.out.below (below_then HB7.out HB7.out.size (by assumption : Aside0 (Below w7.heap.size w7 _)).out)).h0) H1.out.l0 ((H1.out.below (below_then HB7.out HB7.out.size (by assumption : Aside0 (Below w7.heap.size w7 _)).out)).h1) H1.out.l1 (fixedF_t HF.out (by omega))).mono ?_); rintro e wz ⟨rfl, hb⟩; have HZ := Aside0.mk (below_then (by assumption : Aside0 (Below w7.heap.size w7 _)).out (by assumption : Aside0 (Below w7.heap.size w7 _)).out.size hb); clear hb)
              | (go_at_call 25; (refine (manystrandref07_Fixed.calls 1002 A a f.f0 B b f.f1 f.f2 f.f3 (fixB f) _ ((H1.out.below (below_then HB7.out HB7.out.size (by assumption : Aside0 (Below w7.heap.size w7 _)).out)).h0) H1.out.l0 ((H1.out.below (below_then HB7.out HB7.out.size (by assumption : Aside0 (Below w7.heap.size w7 _)).out)).h1) H1.out.l1 (fixedR_t HF.out (by omega))).mono ?_); rintro e wz ⟨rfl, hb⟩; have HZ := Aside0.mk (below_then (by assumption : Aside0 (Below w7.heap.size w7 _)).out (by assumption : Aside0 (Below w7.heap.size w7 _)).out.size hb); clear hb)
              | (go_at_call 22; (refine (family_Valid.calls 1002 A a f.f0 B b f.f1 f.f2 f.f3 (vl f) _ ((H1.out.below (below_then HB7.out HB7.out.size (by assumption : Aside0 (Below w7.heap.size w7 _)).out)).h0) H1.out.l0 ((H1.out.below (below_then HB7.out HB7.out.size (by assumption : Aside0 (Below w7.heap.size w7 _)).out)).h1) H1.out.l1 (validF_t HF.out (by omega))).mono ?_); rintro e wz ⟨rfl, hb⟩; have HZ := Aside0.mk (below_then (by assumption : Aside0 (Below w7.heap.size w7 _)).out (by assumption : Aside0 (Below w7.heap.size w7 _)).out.size hb); clear hb)
              | (go_at_call 23; (refine (manystrandref07_Valid.calls 1002 A a f.f0 B b f.f1 f.f2 f.f3 (vl f) _ ((H1.out.below (below_then HB7.out HB7.out.size (by assumption : Aside0 (Below w7.heap.size w7 _)).out)).h0) H1.out.l0 ((H1.out.below (below_then HB7.out HB7.out.size (by assumption : Aside0 (Below w7.heap.size w7 _)).out)).h1) H1.out.l1 (validR_f HF.out.1 HF.out.2 (by omega))).mono ?_); rintro e wz ⟨rfl, hb⟩; have HZ := Aside0.mk (below_then (by assumption : Aside0 (Below w7.heap.size w7 _)).out (by assumption : Aside0 (Below w7.heap.size w7 _)).out.size hb); clear hb))
          go_wp2
          go_meet
          case rel => exact ⟨rfl, ⟨below_then HB7.out HB7.out.size (by assumption : Aside0 (Below w7.heap.size w7 _)).out⟩, ⟨blk_below G0.out (by assumption : Aside0 (Below w7.heap.size w7 _)).out⟩, ⟨blk_below G1.out (by assumption : Aside0 (Below w7.heap.size w7 _)).out⟩, ⟨blk_below G7.out (by assumption : Aside0 (Below w7.heap.size w7 _)).out⟩, ⟨X7.out.below (by assumption : Aside0 (Below w7.heap.size w7 _)).out⟩⟩
        case rest =>
          obtain ⟨rfl, HB9', P0, P1, P7, XP⟩ := hcut
          clear HB7 G0 G1 G7 X7
          go_upto_region 11 with fail
          (try simp only [Act.put, List.setIfInBounds_toArray, List.set_cons_zero, List.set_cons_succ])
          go_cut [124] (fun v124 wx => v124 = .bool false ∧ Aside0 (Below w.heap.size w wx) ∧ Aside0 (wx.heap[w.heap.size]? = some (.cells #[.slice A f.f0.length a, .slice B f.f1.length b, .int .i64 f.f2, .int .i64 f.f3] 37 (0, 0))) ∧ Aside0 (wx.heap[w.heap.size + 1]? = some (.cells #[.slice C g.f0.length c, .slice D g.f1.length d, .int .i64 g.f2, .int .i64 g.f3] 37 (0, 0))))
          case first => as_aux_lemma =>
            
            have L0 := fun x : Go.Proofs.Ytgfbgfbnmiainaa.RegCl.Cl wc => (blk_cell (blk_below P0.out x.b) 0).trans rfl
            have L1 := fun x : Go.Proofs.Ytgfbgfbnmiainaa.RegCl.Cl wc => (blk_cell (blk_below P0.out x.b) 1).trans rfl
            have L2 := fun x : Go.Proofs.Ytgfbgfbnmiainaa.RegCl.Cl wc => (blk_cell (blk_below P0.out x.b) 2).trans rfl
            have L3 := fun x : Go.Proofs.Ytgfbgfbnmiainaa.RegCl.Cl wc => (blk_cell (blk_below P0.out x.b) 3).trans rfl
            have M0 := fun x : Go.Proofs.Ytgfbgfbnmiainaa.RegCl.Cl wc => (blk_cell (blk_below P7.out x.b) 0).trans rfl
            have M1 := fun x : Go.Proofs.Ytgfbgfbnmiainaa.RegCl.Cl wc => (blk_cell (blk_below P7.out x.b) 1).trans rfl
            have M2 := fun x : Go.Proofs.Ytgfbgfbnmiainaa.RegCl.Cl wc => (blk_cell (blk_below P7.out x.b) 2).trans rfl
            have M3 := fun x : Go.Proofs.Ytgfbgfbnmiainaa.RegCl.Cl wc => (blk_cell (blk_below P7.out x.b) 3).trans rfl
            have q3 : (hasB f s != hasB f s) = false := bne_self_eq_false _
            rcases n_cases f s with ⟨hc, hh⟩ | ⟨hc, hh, hk⟩ | hc
            · have c0 : decide ((nOf f).2 = 0) = true := decide_eq_true hc
              have c1 : ((nOf f).2 == 0) = true := beq_iff_eq.mpr hc
              have c2 : decide ((nOf f).2 = 60) = false := decide_eq_false (by omega)
              have c3 : ((nOf f).2 == 60) = false := beq_eq_false_iff_ne.mpr (by omega)
              have HF0 := Aside0.mk (show family_Has.f 1002 f.f0 f.f1 f.f2 f.f3 s = some (hasB f s) from hasF_t HF.out (by have := HS.out; omega) (by omega))
              have HN := Aside0.mk (show family_Has.f 1002 (nOf f).1.f0 (nOf f).1.f1 (nOf f).1.f2 (nOf f).1.f3 s = some (hasB f s) by rw [hasF_t (nOf_facts f).1.1 (by have := HS.out; omega) (by omega), hh])
              clear hc hh
              refine Go.Proofs.Ytgfbgfbnmiainaa.RegCl.wp_region_cl (by kernel_rfl) (by kernel_rfl) ?_
              repeat (go_big_quiet_step ((go_at_call 26; (refine (has_c ?hx (Kd.C_below H3.out.1 (below_then HB9'.out HB9'.out.size (Go.Proofs.Ytgfbgfbnmiainaa.RegCl.Cl.b _))) H3.out.2 ?hv (v := hasB f s)).mono ?_); (case hx => first | exact XP.out.below (Go.Proofs.Ytgfbgfbnmiainaa.RegCl.Cl.b _) | exact H1.out.below (below_then HB9'.out HB9'.out.size (Go.Proofs.Ytgfbgfbnmiainaa.RegCl.Cl.b _))); (case hv => first | exact HN.out | exact HF0.out); rintro e wz ⟨rfl, hb⟩; exact ⟨rfl, ⟨wz, below_then (Go.Proofs.Ytgfbgfbnmiainaa.RegCl.Cl.b _) (Go.Proofs.Ytgfbgfbnmiainaa.RegCl.Cl.b _).size hb⟩, rfl⟩)))
              refine wpQuiet_nil ?_
              rintro ⟨w2, hb⟩
              dsimp only
              have HZ := Aside0.mk hb
              clear hb L0 L1 L2 L3 M0 M1 M2 M3
              go_wp2
              go_meet
              case rel => exact ⟨rfl, ⟨below_then HB9'.out HB9'.out.size HZ.out⟩, ⟨blk_below P0.out HZ.out⟩, ⟨blk_below P1.out HZ.out⟩⟩
            · have c0 : decide ((nOf f).2 = 0) = false := decide_eq_false (by omega)
              have c1 : ((nOf f).2 == 0) = false := beq_eq_false_iff_ne.mpr (by omega)
              have c2 : decide ((nOf f).2 = 60) = true := decide_eq_true hc
              have c3 : ((nOf f).2 == 60) = true := beq_iff_eq.mpr hc
              have d2 : decide ((cntOut f).1 = 0) = true := decide_eq_true hk
              have d3 : ((cntOut f).1 == 0) = true := beq_iff_eq.mpr hk
              have d4 : ((cntOut f).1 != 0) = false := bne_eq_false_iff_eq.mpr hk
              have HF0 := Aside0.mk (show family_Has.f 1002 f.f0 f.f1 f.f2 f.f3 s = some false by rw [hasF_t HF.out (by have := HS.out; omega) (by omega), hh])
              have HN := Aside0.mk True.intro
              clear hc hh hk
              refine Go.Proofs.Ytgfbgfbnmiainaa.RegCl.wp_region_cl (by kernel_rfl) (by kernel_rfl) ?_
              repeat (go_big_quiet_step ((go_at_call 26; (refine (has_c ?hx (Kd.C_below H3.out.1 (below_then HB9'.out HB9'.out.size (Go.Proofs.Ytgfbgfbnmiainaa.RegCl.Cl.b _))) H3.out.2 ?hv (v := false)).mono ?_); (case hx => first | exact XP.out.below (Go.Proofs.Ytgfbgfbnmiainaa.RegCl.Cl.b _) | exact H1.out.below (below_then HB9'.out HB9'.out.size (Go.Proofs.Ytgfbgfbnmiainaa.RegCl.Cl.b _))); (case hv => first | exact HN.out | exact HF0.out); rintro e wz ⟨rfl, hb⟩; exact ⟨rfl, ⟨wz, below_then (Go.Proofs.Ytgfbgfbnmiainaa.RegCl.Cl.b _) (Go.Proofs.Ytgfbgfbnmiainaa.RegCl.Cl.b _).size hb⟩, rfl⟩)))
              refine wpQuiet_nil ?_
              rintro ⟨w2, hb⟩
              dsimp only
              have HZ := Aside0.mk hb
              clear hb L0 L1 L2 L3 M0 M1 M2 M3
              go_wp2
              go_meet
              case rel => exact ⟨rfl, ⟨below_then HB9'.out HB9'.out.size HZ.out⟩, ⟨blk_below P0.out HZ.out⟩, ⟨blk_below P1.out HZ.out⟩⟩
            · have c0 : decide ((nOf f).2 = 0) = false := decide_eq_false (by omega)
              have c1 : ((nOf f).2 == 0) = false := beq_eq_false_iff_ne.mpr (by omega)
              have c2 : decide ((nOf f).2 = 60) = false := decide_eq_false (by omega)
              have c3 : ((nOf f).2 == 60) = false := beq_eq_false_iff_ne.mpr (by omega)
              clear hc
              refine Go.Proofs.Ytgfbgfbnmiainaa.RegCl.wp_region_cl (by kernel_rfl) (by kernel_rfl) ?_
              repeat (go_big_quiet_step (fail))
              refine wpQuiet_nil ?_
              rintro ⟨w2, hb⟩
              dsimp only
              have HZ := Aside0.mk hb
              clear hb L0 L1 L2 L3 M0 M1 M2 M3
              go_wp2
              go_meet
              case rel => exact ⟨rfl, ⟨below_then HB9'.out HB9'.out.size HZ.out⟩, ⟨blk_below P0.out HZ.out⟩, ⟨blk_below P1.out HZ.out⟩⟩
          case rest =>
            obtain ⟨rfl, HB11, R0, R1⟩ := hcut
            clear HB9' P0 P1 P7 XP
            go_upto_region 13 with fail
            (try simp only [Act.put, List.setIfInBounds_toArray, List.set_cons_zero, List.set_cons_succ])
            go_cut [15, 8] (fun v15 v8 wx => ∃ (n15 : Nat) (A15 : Option Addr) (a15 : Nat) (B15 : Option Addr) (b15 : Nat), v15 = .pointer (some ⟨n15, 0, none⟩) ∧ v8 = .int .i64 (mOf f g).2 ∧ Aside0 (Below w.heap.size w wx) ∧ Aside0 (wx.heap[w.heap.size]? = some (.cells #[.slice A f.f0.length a, .slice B f.f1.length b, .int .i64 f.f2, .int .i64 f.f3] 37 (0, 0))) ∧ Aside0 (wx.heap[w.heap.size + 1]? = some (.cells #[.slice C g.f0.length c, .slice D g.f1.length d, .int .i64 g.f2, .int .i64 g.f3] 37 (0, 0))) ∧ Aside0 (wx.heap[n15]? = some (.cells #[.slice A15 (mOf f g).1.f0.length a15, .slice B15 (mOf f g).1.f1.length b15, .int .i64 (mOf f g).1.f2, .int .i64 (mOf f g).1.f3] 37 (0, 0))) ∧ Aside0 (FC wx (mOf f g).1 A15 a15 B15 b15))
            case first => as_aux_lemma =>
              
              have x0 := (blk_cell R0.out 0).trans rfl
              have x1 := (blk_cell R0.out 1).trans rfl
              have x2 := (blk_cell R0.out 2).trans rfl
              have x3 := (blk_cell R0.out 3).trans rfl
              have y0 := (blk_cell R1.out 0).trans rfl
              have y1 := (blk_cell R1.out 1).trans rfl
              have y2 := (blk_cell R1.out 2).trans rfl
              have y3 := (blk_cell R1.out 3).trans rfl
              go_wp2_with (go_at_call 28; (refine (meetF_c HF.out HG.out (H1.out.below HB11.out) (H2.out.below HB11.out)).mono ?_); rintro e w2 ⟨A15, a15, B15, b15, rfl, hx, hb⟩; have HX := Aside0.mk hx; have HB2 := Aside0.mk (below_step HB11.out hb); have C0 := Aside0.mk (blk_below R0.out hb); have C1 := Aside0.mk (blk_below R1.out hb); clear hx hb x0 x1 x2 x3 y0 y1 y2 y3)
              go_meet
              case rel => exact ⟨w2.heap.size, A15, a15, B15, b15, rfl, rfl, ⟨below_alloc HB2.out _⟩, ⟨blk_alloc C0.out _⟩, ⟨blk_alloc C1.out _⟩, ⟨blk_new _ _⟩, ⟨HX.out.below (below_alloc (Below.refl _ _) _)⟩⟩
            case rest =>
              obtain ⟨n15, A15, a15, B15, b15, rfl, rfl, HB13, S0, S1, N15, X15⟩ := hcut
              clear HB11 R0 R1
              go_upto_region 14 with fail
              (try simp only [Act.put, List.setIfInBounds_toArray, List.set_cons_zero, List.set_cons_succ])
              go_cut [16, 10] (fun v16 v10 wx => ∃ (n16 : Nat) (A16 : Option Addr) (a16 : Nat) (B16 : Option Addr) (b16 : Nat), v16 = .pointer (some ⟨n16, 0, none⟩) ∧ v10 = .int .i64 (mOf f g).2 ∧ Aside0 (Below w.heap.size w wx) ∧ Aside0 (wx.heap[w.heap.size]? = some (.cells #[.slice A f.f0.length a, .slice B f.f1.length b, .int .i64 f.f2, .int .i64 f.f3] 37 (0, 0))) ∧ Aside0 (wx.heap[w.heap.size + 1]? = some (.cells #[.slice C g.f0.length c, .slice D g.f1.length d, .int .i64 g.f2, .int .i64 g.f3] 37 (0, 0))) ∧ Aside0 (wx.heap[n15]? = some (.cells #[.slice A15 (mOf f g).1.f0.length a15, .slice B15 (mOf f g).1.f1.length b15, .int .i64 (mOf f g).1.f2, .int .i64 (mOf f g).1.f3] 37 (0, 0))) ∧ Aside0 (FC wx (mOf f g).1 A15 a15 B15 b15) ∧ Aside0 (wx.heap[n16]? = some (.cells #[.slice A16 (mOf f g).1.f0.length a16, .slice B16 (mOf f g).1.f1.length b16, .int .i64 (mOf f g).1.f2, .int .i64 (mOf f g).1.f3] 37 (0, 0))) ∧ Aside0 (FC wx (mOf f g).1 A16 a16 B16 b16))
              case first => as_aux_lemma =>
                
                have x0 := (blk_cell S0.out 0).trans rfl
                have x1 := (blk_cell S0.out 1).trans rfl
                have x2 := (blk_cell S0.out 2).trans rfl
                have x3 := (blk_cell S0.out 3).trans rfl
                have y0 := (blk_cell S1.out 0).trans rfl
                have y1 := (blk_cell S1.out 1).trans rfl
                have y2 := (blk_cell S1.out 2).trans rfl
                have y3 := (blk_cell S1.out 3).trans rfl
                go_wp2_with (go_at_call 29; (refine (meetR_c HF.out HG.out (H1.out.below HB13.out) (H2.out.below HB13.out)).mono ?_); rintro e w2 ⟨A16, a16, B16, b16, rfl, hx, hb⟩; have HX := Aside0.mk hx; have HB2 := Aside0.mk (below_step HB13.out hb); have D0 := Aside0.mk (blk_below S0.out hb); have D1 := Aside0.mk (blk_below S1.out hb); have D7 := Aside0.mk (blk_below N15.out hb); have Y7 := Aside0.mk (X15.out.below hb); clear hx hb x0 x1 x2 x3 y0 y1 y2 y3)
                go_meet
                case rel => exact ⟨w2.heap.size, A16, a16, B16, b16, rfl, rfl, ⟨below_alloc HB2.out _⟩, ⟨blk_alloc D0.out _⟩, ⟨blk_alloc D1.out _⟩, ⟨blk_alloc D7.out _⟩, ⟨Y7.out.below (below_alloc (Below.refl _ _) _)⟩, ⟨blk_new _ _⟩, ⟨HX.out.below (below_alloc (Below.refl _ _) _)⟩⟩
              case rest =>
                obtain ⟨n16, A16, a16, B16, b16, rfl, rfl, HB14, T0, T1, N15', X15', N16, X16⟩ := hcut
                clear HB13 S0 S1 N15 X15
                go_upto_region 15 with fail
                (try simp only [Act.put, List.setIfInBounds_toArray, List.set_cons_zero, List.set_cons_succ])
                have HO := Aside0.mk (mOf_facts f g)
                go_cut [158] (fun v158 wx => v158 = .bool false ∧ Aside0 (Below w.heap.size w wx) ∧ Aside0 (wx.heap[w.heap.size]? = some (.cells #[.slice A f.f0.length a, .slice B f.f1.length b, .int .i64 f.f2, .int .i64 f.f3] 37 (0, 0))) ∧ Aside0 (wx.heap[w.heap.size + 1]? = some (.cells #[.slice C g.f0.length c, .slice D g.f1.length d, .int .i64 g.f2, .int .i64 g.f3] 37 (0, 0))) ∧ Aside0 (wx.heap[n15]? = some (.cells #[.slice A15 (mOf f g).1.f0.length a15, .slice B15 (mOf f g).1.f1.length b15, .int .i64 (mOf f g).1.f2, .int .i64 (mOf f g).1.f3] 37 (0, 0))) ∧ Aside0 (FC wx (mOf f g).1 A15 a15 B15 b15))
                case first => as_aux_lemma =>
                  
                  have x0 := (blk_cell N15'.out 0).trans rfl
                  have x1 := (blk_cell N15'.out 1).trans rfl
                  have x2 := (blk_cell N15'.out 2).trans rfl
                  have x3 := (blk_cell N15'.out 3).trans rfl
                  have y0 := (blk_cell N16.out 0).trans rfl
                  have y1 := (blk_cell N16.out 1).trans rfl
                  have y2 := (blk_cell N16.out 2).trans rfl
                  have y3 := (blk_cell N16.out 3).trans rfl
                  rcases HO.out.2 with ⟨hc, hv⟩ | ⟨hc, hv⟩
                  · have c0 : decide ((mOf f g).2 = 0) = true := decide_eq_true hc
                    have c1 : ((mOf f g).2 == 0) = true := beq_iff_eq.mpr hc
                    have c2 : ((mOf f g).2 != 0) = false := bne_eq_false_iff_eq.mpr hc
                    have hq := Aside0.mk (show famSameT.f 1001 (mOf f g).1.f0 (mOf f g).1.f1 (mOf f g).1.f2 (mOf f g).1.f3 (mOf f g).1.f0 (mOf f g).1.f1 (mOf f g).1.f2 (mOf f g).1.f3 = some true from same_self HO.out.1.1.1 HO.out.1.1.2 hv (by omega))
                    clear hc hv
                    go_wp2_with (go_at_call 18; (refine (famSameT.calls 1001 A15 a15 (mOf f g).1.f0 B15 b15 (mOf f g).1.f1 (mOf f g).1.f2 (mOf f g).1.f3 A16 a16 (mOf f g).1.f0 B16 b16 (mOf f g).1.f1 (mOf f g).1.f2 (mOf f g).1.f3 _ X15'.out.h0 X15'.out.l0 X15'.out.h1 X15'.out.l1 X16.out.h0 X16.out.l0 X16.out.h1 X16.out.l1 hq.out).mono ?_); rintro e w2 ⟨rfl, hb⟩; have HB2 := Aside0.mk (below_step HB14.out hb); have E0 := Aside0.mk (blk_below T0.out hb); have E1 := Aside0.mk (blk_below T1.out hb); have E7 := Aside0.mk (blk_below N15'.out hb); have Y7 := Aside0.mk (X15'.out.below hb); clear hb x0 x1 x2 x3 y0 y1 y2 y3)
                    go_meet
                    case rel => exact ⟨rfl, HB2, E0, E1, E7, Y7⟩
                  · have c0 : decide ((mOf f g).2 = 0) = false := decide_eq_false hc
                    have c1 : ((mOf f g).2 == 0) = false := beq_eq_false_iff_ne.mpr hc
                    have c2 : ((mOf f g).2 != 0) = true := bne_iff_ne.mpr hc
                    have hq := Aside0.mk (show manystrandlaw07_zero.f (mOf f g).1.f0 (mOf f g).1.f1 (mOf f g).1.f2 (mOf f g).1.f3 = some true by rw [show (mOf f g).1 = z37' from hv]; exact zero_t)
                    clear hc hv
                    go_wp2_with (go_at_call 19; (refine (manystrandlaw07_zero.calls A15 a15 (mOf f g).1.f0 B15 b15 (mOf f g).1.f1 (mOf f g).1.f2 (mOf f g).1.f3 true _ X15'.out.h0 X15'.out.l0 X15'.out.h1 X15'.out.l1 hq.out).mono ?_); rintro e w2 ⟨rfl, hb⟩; have HB2 := Aside0.mk (below_step HB14.out hb); have E0 := Aside0.mk (blk_below T0.out hb); have E1 := Aside0.mk (blk_below T1.out hb); have E7 := Aside0.mk (blk_below N15'.out hb); have Y7 := Aside0.mk (X15'.out.below hb); clear hb x0 x1 x2 x3 y0 y1 y2 y3)
                    go_meet
                    case rel => exact ⟨rfl, HB2, E0, E1, E7, Y7⟩
                case rest =>
                  obtain ⟨rfl, HB15, U0, U1, U15, XU⟩ := hcut
                  clear HB14 T0 T1 N15' X15' N16 X16
                  go_upto_region 17 with fail
                  (try simp only [Act.put, List.setIfInBounds_toArray, List.set_cons_zero, List.set_cons_succ])
                  have L0 := fun x : Go.Proofs.Ytgfbgfbnmiainaa.RegCl.Cl wc => (blk_cell (blk_below U0.out x.b) 0).trans rfl
                  have L1 := fun x : Go.Proofs.Ytgfbgfbnmiainaa.RegCl.Cl wc => (blk_cell (blk_below U0.out x.b) 1).trans rfl
                  have L2 := fun x : Go.Proofs.Ytgfbgfbnmiainaa.RegCl.Cl wc => (blk_cell (blk_below U0.out x.b) 2).trans rfl
                  have L3 := fun x : Go.Proofs.Ytgfbgfbnmiainaa.RegCl.Cl wc => (blk_cell (blk_below U0.out x.b) 3).trans rfl
                  have G0 := fun x : Go.Proofs.Ytgfbgfbnmiainaa.RegCl.Cl wc => (blk_cell (blk_below U1.out x.b) 0).trans rfl
                  have G1 := fun x : Go.Proofs.Ytgfbgfbnmiainaa.RegCl.Cl wc => (blk_cell (blk_below U1.out x.b) 1).trans rfl
                  have G2 := fun x : Go.Proofs.Ytgfbgfbnmiainaa.RegCl.Cl wc => (blk_cell (blk_below U1.out x.b) 2).trans rfl
                  have G3 := fun x : Go.Proofs.Ytgfbgfbnmiainaa.RegCl.Cl wc => (blk_cell (blk_below U1.out x.b) 3).trans rfl
                  have M0 := fun x : Go.Proofs.Ytgfbgfbnmiainaa.RegCl.Cl wc => (blk_cell (blk_below U15.out x.b) 0).trans rfl
                  have M1 := fun x : Go.Proofs.Ytgfbgfbnmiainaa.RegCl.Cl wc => (blk_cell (blk_below U15.out x.b) 1).trans rfl
                  have M2 := fun x : Go.Proofs.Ytgfbgfbnmiainaa.RegCl.Cl wc => (blk_cell (blk_below U15.out x.b) 2).trans rfl
                  have M3 := fun x : Go.Proofs.Ytgfbgfbnmiainaa.RegCl.Cl wc => (blk_cell (blk_below U15.out x.b) 3).trans rfl
                  rcases m_cases f g s with ⟨hc, hh⟩ | hc
                  · have c0 : decide ((mOf f g).2 = 0) = true := decide_eq_true hc
                    have c1 : ((mOf f g).2 == 0) = true := beq_iff_eq.mpr hc
                    have c2 : ((mOf f g).2 != 0) = false := bne_eq_false_iff_eq.mpr hc
                    have HF0 := hasF_t (s := s) HF.out (by have := HS.out; omega) (by omega : 1000 < 1002)
                    have HG0 := hasF_t (s := s) HG.out (by have := HS.out; omega) (by omega : 1000 < 1002)
                    have HM := hasF_t (s := s) (mOf_facts f g).1.1 (by have := HS.out; omega) (by omega : 1000 < 1002)
                    rw [hh] at HM
                    clear hc hh
                    cases hf : hasB f s
                    · rw [hf] at HM HF0
                      have HM := Aside0.mk (show _ = some false from HM)
                      have HF0 := Aside0.mk HF0
                      have HG0 := Aside0.mk HG0
                      clear hf
                      refine Go.Proofs.Ytgfbgfbnmiainaa.RegCl.wp_region_cl (by kernel_rfl) (by kernel_rfl) ?_
                      repeat (go_big_quiet_step (first | (go_at_call 26; (refine (has_c ?hx (Kd.C_below H3.out.1 (below_then HB15.out HB15.out.size (Go.Proofs.Ytgfbgfbnmiainaa.RegCl.Cl.b _))) H3.out.2 ?hv (v := false)).mono ?_); (case hx => first | with_reducible exact XU.out.below (Go.Proofs.Ytgfbgfbnmiainaa.RegCl.Cl.b _) | with_reducible exact H1.out.below (below_then HB15.out HB15.out.size (Go.Proofs.Ytgfbgfbnmiainaa.RegCl.Cl.b _)) | with_reducible exact H2.out.below (below_then HB15.out HB15.out.size (Go.Proofs.Ytgfbgfbnmiainaa.RegCl.Cl.b _))); (case hv => first | with_reducible exact HM.out | with_reducible exact HF0.out | with_reducible exact HG0.out); rintro e wz ⟨rfl, hb⟩; exact ⟨rfl, ⟨wz, below_then (Go.Proofs.Ytgfbgfbnmiainaa.RegCl.Cl.b _) (Go.Proofs.Ytgfbgfbnmiainaa.RegCl.Cl.b _).size hb⟩, rfl⟩) | (go_at_call 10; (refine (awake_tell _).mono ?_); rintro e wz ⟨rfl, hb⟩; exact ⟨rfl, ⟨wz, below_then (Go.Proofs.Ytgfbgfbnmiainaa.RegCl.Cl.b _) (Go.Proofs.Ytgfbgfbnmiainaa.RegCl.Cl.b _).size hb⟩, rfl⟩)))
                      refine wpQuiet_nil ?_
                      rintro ⟨w2, hb⟩
                      dsimp only
                      have HZ := Aside0.mk hb
                      clear hb L0 L1 L2 L3 G0 G1 G2 G3 M0 M1 M2 M3
                      go_wp2
                      go_ret
                      exact ⟨rfl, below_then HB15.out HB15.out.size HZ.out⟩
                    · rw [hf] at HM HF0
                      cases hg : hasB g s
                      · rw [hg] at HM HG0
                        have HM := Aside0.mk (show _ = some false from HM)
                        have HF0 := Aside0.mk HF0
                        have HG0 := Aside0.mk HG0
                        clear hf hg
                        refine Go.Proofs.Ytgfbgfbnmiainaa.RegCl.wp_region_cl (by kernel_rfl) (by kernel_rfl) ?_
                        repeat (go_big_quiet_step (first | (go_at_call 26; (refine (has_c ?hx (Kd.C_below H3.out.1 (below_then HB15.out HB15.out.size (Go.Proofs.Ytgfbgfbnmiainaa.RegCl.Cl.b _))) H3.out.2 ?hv (v := false)).mono ?_); (case hx => first | with_reducible exact XU.out.below (Go.Proofs.Ytgfbgfbnmiainaa.RegCl.Cl.b _) | with_reducible exact H1.out.below (below_then HB15.out HB15.out.size (Go.Proofs.Ytgfbgfbnmiainaa.RegCl.Cl.b _)) | with_reducible exact H2.out.below (below_then HB15.out HB15.out.size (Go.Proofs.Ytgfbgfbnmiainaa.RegCl.Cl.b _))); (case hv => first | with_reducible exact HM.out | with_reducible exact HF0.out | with_reducible exact HG0.out); rintro e wz ⟨rfl, hb⟩; exact ⟨rfl, ⟨wz, below_then (Go.Proofs.Ytgfbgfbnmiainaa.RegCl.Cl.b _) (Go.Proofs.Ytgfbgfbnmiainaa.RegCl.Cl.b _).size hb⟩, rfl⟩) | (go_at_call 26; (refine (has_c ?hx (Kd.C_below H3.out.1 (below_then HB15.out HB15.out.size (Go.Proofs.Ytgfbgfbnmiainaa.RegCl.Cl.b _))) H3.out.2 ?hv (v := true)).mono ?_); (case hx => first | with_reducible exact XU.out.below (Go.Proofs.Ytgfbgfbnmiainaa.RegCl.Cl.b _) | with_reducible exact H1.out.below (below_then HB15.out HB15.out.size (Go.Proofs.Ytgfbgfbnmiainaa.RegCl.Cl.b _)) | with_reducible exact H2.out.below (below_then HB15.out HB15.out.size (Go.Proofs.Ytgfbgfbnmiainaa.RegCl.Cl.b _))); (case hv => first | with_reducible exact HM.out | with_reducible exact HF0.out | with_reducible exact HG0.out); rintro e wz ⟨rfl, hb⟩; exact ⟨rfl, ⟨wz, below_then (Go.Proofs.Ytgfbgfbnmiainaa.RegCl.Cl.b _) (Go.Proofs.Ytgfbgfbnmiainaa.RegCl.Cl.b _).size hb⟩, rfl⟩) | (go_at_call 10; (refine (awake_tell _).mono ?_); rintro e wz ⟨rfl, hb⟩; exact ⟨rfl, ⟨wz, below_then (Go.Proofs.Ytgfbgfbnmiainaa.RegCl.Cl.b _) (Go.Proofs.Ytgfbgfbnmiainaa.RegCl.Cl.b _).size hb⟩, rfl⟩)))
                        refine wpQuiet_nil ?_
                        rintro ⟨w2, hb⟩
                        dsimp only
                        have HZ := Aside0.mk hb
                        clear hb L0 L1 L2 L3 G0 G1 G2 G3 M0 M1 M2 M3
                        go_wp2
                        go_ret
                        exact ⟨rfl, below_then HB15.out HB15.out.size HZ.out⟩
                      · rw [hg] at HM HG0
                        have HM := Aside0.mk (show _ = some true from HM)
                        have HF0 := Aside0.mk HF0
                        have HG0 := Aside0.mk HG0
                        clear hf hg
                        refine Go.Proofs.Ytgfbgfbnmiainaa.RegCl.wp_region_cl (by kernel_rfl) (by kernel_rfl) ?_
                        repeat (go_big_quiet_step (first | (go_at_call 26; (refine (has_c ?hx (Kd.C_below H3.out.1 (below_then HB15.out HB15.out.size (Go.Proofs.Ytgfbgfbnmiainaa.RegCl.Cl.b _))) H3.out.2 ?hv (v := true)).mono ?_); (case hx => first | with_reducible exact XU.out.below (Go.Proofs.Ytgfbgfbnmiainaa.RegCl.Cl.b _) | with_reducible exact H1.out.below (below_then HB15.out HB15.out.size (Go.Proofs.Ytgfbgfbnmiainaa.RegCl.Cl.b _)) | with_reducible exact H2.out.below (below_then HB15.out HB15.out.size (Go.Proofs.Ytgfbgfbnmiainaa.RegCl.Cl.b _))); (case hv => first | with_reducible exact HM.out | with_reducible exact HF0.out | with_reducible exact HG0.out); rintro e wz ⟨rfl, hb⟩; exact ⟨rfl, ⟨wz, below_then (Go.Proofs.Ytgfbgfbnmiainaa.RegCl.Cl.b _) (Go.Proofs.Ytgfbgfbnmiainaa.RegCl.Cl.b _).size hb⟩, rfl⟩) | (go_at_call 10; (refine (awake_tell _).mono ?_); rintro e wz ⟨rfl, hb⟩; exact ⟨rfl, ⟨wz, below_then (Go.Proofs.Ytgfbgfbnmiainaa.RegCl.Cl.b _) (Go.Proofs.Ytgfbgfbnmiainaa.RegCl.Cl.b _).size hb⟩, rfl⟩)))
                        refine wpQuiet_nil ?_
                        rintro ⟨w2, hb⟩
                        dsimp only
                        have HZ := Aside0.mk hb
                        clear hb L0 L1 L2 L3 G0 G1 G2 G3 M0 M1 M2 M3
                        go_wp2
                        go_ret
                        exact ⟨rfl, below_then HB15.out HB15.out.size HZ.out⟩
                  · have c0 : decide ((mOf f g).2 = 0) = false := decide_eq_false hc
                    have c1 : ((mOf f g).2 == 0) = false := beq_eq_false_iff_ne.mpr hc
                    have c2 : ((mOf f g).2 != 0) = true := bne_iff_ne.mpr hc
                    clear hc
                    refine Go.Proofs.Ytgfbgfbnmiainaa.RegCl.wp_region_cl (by kernel_rfl) (by kernel_rfl) ?_
                    repeat (go_big_quiet_step ((go_at_call 10; (refine (awake_tell _).mono ?_); rintro e wz ⟨rfl, hb⟩; exact ⟨rfl, ⟨wz, below_then (Go.Proofs.Ytgfbgfbnmiainaa.RegCl.Cl.b _) (Go.Proofs.Ytgfbgfbnmiainaa.RegCl.Cl.b _).size hb⟩, rfl⟩)))
                    refine wpQuiet_nil ?_
                    rintro ⟨w2, hb⟩
                    dsimp only
                    have HZ := Aside0.mk hb
                    clear hb L0 L1 L2 L3 G0 G1 G2 G3 M0 M1 M2 M3
                    go_wp2
                    go_ret
                    exact ⟨rfl, below_then HB15.out HB15.out.size HZ.out⟩
include h3 h3'
theorem tells_any :
    Calls Try.prog 4 #[.agg #[.slice A f.f0.length a, .slice B f.f1.length b, .int .i64 f.f2, .int .i64 f.f3], .agg #[.slice C g.f0.length c, .slice D g.f1.length d, .int .i64 g.f2, .int .i64 g.f3], .slice E s.length e0] w (TellEnd w) := by
  cases hf : okL f && okL g
  · exact tells_heavy f g s A a B b C c D d E e0 w h1 h2 hf
  · by_cases hs : s.length ≤ 100
    · exact tells_light f g s A a B b C c D d E e0 w h1 h2 h3 h3' hf hs
    · exact tells_long f g s A a B b C c D d E e0 w h1 h2 hf hs
end
end Go.Proofs.Ytgfbgfbnmiainaa.Fam
/-! What came in, read: numbers, texts, lists, structs. -/
namespace Go.Proofs.Ytgfbgfbnmiainaa.Fam
set_option linter.unusedVariables false
set_option linter.unusedSimpArgs false
open Go.RowKit Go.Proofs.YtgfbgfbnmiainaaW.PrintWords Go.Proofs.YtgfbgfbnmiainaaW.PrintLast Go.Proofs.YtgfbgfbnmiainaaW.PrintMore Go.Proofs.Ytgfbgfbnmiainaa.Q
section
variable {H : Type} {enc : TypeId × Value → H} {w : World} {base : Nat} {spare : Nat → Bool} {held : Bool} {fuel : Nat} {cs : List Value} {x : DataW H × List MemPlace}
theorem in_int {t : TypeId} {k : IntKind} (ht : Try.prog.underlying t = some (.int k)) (h : DataW.trod enc Try.prog w base spare held fuel t cs = some x) : ∃ n, cs = [.int k n] ∧ (Lit.int k n).wf = true := by
  cases fuel with
  | zero => simp [DataW.trod] at h
  | succ n =>
    unfold DataW.trod at h
    rw [ht] at h
    split at h <;> simp_all
theorem in_string {t : TypeId} (ht : Try.prog.underlying t = some .string) (h : DataW.trod enc Try.prog w base spare held fuel t cs = some x) : ∃ s, cs = [.string s] := by
  cases fuel with
  | zero => simp [DataW.trod] at h
  | succ n =>
    unfold DataW.trod at h
    rw [ht] at h
    split at h <;> simp_all
/-- A list of what can be read. -/
theorem in_slice {α : Type} (d : Kd α) {t e : TypeId} (ht : Try.prog.underlying t = some (.slice e)) (hc : Try.prog.cellsOf e = d.sz) (hd : ∀ (n : Nat) (cs : List Value) (y : DataW H × List MemPlace), DataW.trod enc Try.prog w base spare held n e cs = some y → ∃ p, d.K w p cs)
    (h : DataW.trod enc Try.prog w base spare held fuel t cs = some x) : ∃ (xs : List α) (A : Option Addr) (c : Nat), cs = [.slice A xs.length c] ∧ xs.length ≤ c ∧ d.C w A xs.length xs := by
  rcases DataW.trod_slice ht h with ⟨rfl, _⟩ | ⟨a, len, cap, elems, rest, n, _, rfl, _, hb, hl, hm, hlen, hel, _, _⟩
  · exact ⟨[], none, 0, rfl, Nat.le_refl _, rfl, by simp, fun h => absurd h (by simp)⟩
  · have each : ∀ i, i < len → ∃ (ci : List Value) (p : α), w.cells? base (a.add (i * d.sz)) d.sz = some ci ∧ d.K w p ci := by
      intro i hi
      have h1 := hel i hi
      rw [List.getElem?_eq_getElem (by omega), hc] at h1
      obtain ⟨ci, h2, h3⟩ := Option.bind_eq_some_iff.1 h1
      obtain ⟨p, hp⟩ := hd _ _ _ h3
      exact ⟨ci, p, h2, hp⟩
    have hex : ∃ xs : List α, xs.length = len ∧ ∀ i (hi : i < xs.length), ∃ ci, w.cells? base (a.add (i * d.sz)) d.sz = some ci ∧ d.K w xs[i] ci := by
      clear hel hlen
      have key : ∀ m, m ≤ len → ∃ xs : List α, xs.length = m ∧ ∀ i (hi : i < xs.length), ∃ ci, w.cells? base (a.add (i * d.sz)) d.sz = some ci ∧ d.K w xs[i] ci := by
        intro m
        induction m with
        | zero => exact fun _ => ⟨[], rfl, fun i hi => absurd hi (by simp)⟩
        | succ m ih =>
          intro hm'
          obtain ⟨xs, hxl, hx⟩ := ih (by omega)
          obtain ⟨ci, p, h1, h2⟩ := each m (by omega)
          refine ⟨xs ++ [p], by simp [hxl], fun i hi => ?_⟩
          rcases Nat.lt_or_ge i xs.length with hlt | hge
          · obtain ⟨cj, h3, h4⟩ := hx i hlt
            exact ⟨cj, h3, by rw [List.getElem_append_left hlt]; exact h4⟩
          · simp only [List.length_append, List.length_cons, List.length_nil] at hi
            obtain rfl : i = m := by omega
            exact ⟨ci, h1, by rw [List.getElem_append_right hge]; simpa [hxl] using h2⟩
      exact key len (Nat.le_refl _)
    obtain ⟨xs, hxl, hx⟩ := hex
    refine ⟨xs, some a, cap, by rw [hxl], by omega, rfl, by simp only [maxLen] at hm; omega, fun _ => ⟨a, rfl, fun j p hj => ?_⟩⟩
    obtain ⟨hj1, hj2⟩ := List.getElem?_eq_some_iff.1 hj
    obtain ⟨ci, h1, h2⟩ := hx j hj1
    rw [hj2] at h2
    refine ⟨ci, d.K_len h2, h2, fun i u hu => ?_⟩
    obtain ⟨hb1, hb2, hb3⟩ := World.cells?_some h1
    have hi : i < d.sz := by rw [← d.K_len h2]; exact (List.getElem?_eq_some_iff.1 hu).1
    rw [← Addr.add_add]
    exact (hb3 i hi).trans hu
theorem size9 : Try.prog.cellsOf 9 = 1 := by kernel_rfl
theorem size31 : Try.prog.cellsOf 31 = 1 := by kernel_rfl
theorem size3 : Try.prog.cellsOf 3 = 1 := by kernel_rfl
theorem size33 : Try.prog.cellsOf 33 = 3 := by kernel_rfl
theorem in_ints (h : DataW.trod enc Try.prog w base spare held fuel 31 cs = some x) : ∃ (xs : List Int) (A : Option Addr) (c : Nat), cs = [.slice A xs.length c] ∧ xs.length ≤ c ∧ (Kd.int .i64).C w A xs.length xs :=
  in_slice (Kd.int .i64) Try.underlying31 size3 (fun n cs y hy => by obtain ⟨m, rfl, _⟩ := in_int Try.underlying3 hy; exact ⟨m, rfl⟩) h
set_option maxRecDepth 100000 in
theorem in_33 (h : DataW.trod enc Try.prog w base spare held fuel 33 cs = some x) : ∃ p : S33, k33.K w p cs := by
  obtain ⟨xs, n, _, _, hl, hxl, hf⟩ := DataW.trod_struct Try.underlying33 h
  rw [size33] at hl
  have hg : ∀ i, i < 3 → ∃ y, xs[i]? = some y := fun i hi => ⟨_, List.getElem?_eq_getElem (by simp at hxl; omega)⟩
  match cs, hl with
  | [c0, c1, c2], _ =>
    obtain ⟨y0, e0⟩ := hg 0 (by decide)
    obtain ⟨y1, e1⟩ := hg 1 (by decide)
    obtain ⟨y2, e2⟩ := hg 2 (by decide)
    have h0 : DataW.trod enc Try.prog w base spare held n 9 (([c0, c1, c2].drop 0).take (Try.prog.cellsOf 9)) = some y0 := (hf 0 _ rfl).trans e0
    have h1 : DataW.trod enc Try.prog w base spare held n 31 (([c0, c1, c2].drop 1).take (Try.prog.cellsOf 31)) = some y1 := (hf 1 _ rfl).trans e1
    have h2 : DataW.trod enc Try.prog w base spare held n 3 (([c0, c1, c2].drop 2).take (Try.prog.cellsOf 3)) = some y2 := (hf 2 _ rfl).trans e2
    rw [size9] at h0
    rw [size31] at h1
    rw [size3] at h2
    obtain ⟨s, g0⟩ := in_string Try.underlying9 h0
    obtain ⟨vs, A, c, g1, hv, hC⟩ := in_ints h1
    obtain ⟨m, g2, _⟩ := in_int Try.underlying3 h2
    simp at g0 g1 g2
    subst g0 g1 g2
    exact ⟨⟨s, vs, m⟩, k33_mk w ⟨s, vs, m⟩ hv hC⟩
theorem in_lists (h : DataW.trod enc Try.prog w base spare held fuel 51 cs = some x) : ∃ (L : List (List Int)) (A : Option Addr) (c : Nat), cs = [.slice A L.length c] ∧ L.length ≤ c ∧ (Kd.slice 3 (Kd.int .i64)).C w A L.length L :=
  in_slice (Kd.slice 3 (Kd.int .i64)) Try.underlying51 size31 (fun n cs y hy => by obtain ⟨xs, A, c, rfl, hc, hC⟩ := in_ints hy; exact ⟨xs, A, c, rfl, hc, hC⟩) h
end
end Go.Proofs.Ytgfbgfbnmiainaa.Fam
/-! What came in, read: families, lists of families, lists of relations. -/
namespace Go.Proofs.Ytgfbgfbnmiainaa.Fam
set_option linter.unusedVariables false
set_option linter.unusedSimpArgs false
open Go.RowKit Go.Proofs.YtgfbgfbnmiainaaW.PrintWords Go.Proofs.YtgfbgfbnmiainaaW.PrintLast Go.Proofs.YtgfbgfbnmiainaaW.PrintMore Go.Proofs.Ytgfbgfbnmiainaa.Q
section
variable {H : Type} {enc : TypeId × Value → H} {w : World} {base : Nat} {spare : Nat → Bool} {held : Bool} {fuel : Nat} {cs : List Value} {x : DataW H × List MemPlace}
theorem size37 : Try.prog.cellsOf 37 = 4 := by kernel_rfl
set_option maxRecDepth 100000 in
theorem in_37 (h : DataW.trod enc Try.prog w base spare held fuel 37 cs = some x) : ∃ p : S37, k37.K w p cs := by
  obtain ⟨xs, n, _, _, hl, hxl, hf⟩ := DataW.trod_struct Try.underlying37 h
  rw [size37] at hl
  have hg : ∀ i, i < 4 → ∃ y, xs[i]? = some y := fun i hi => ⟨_, List.getElem?_eq_getElem (by simp at hxl; omega)⟩
  match cs, hl with
  | [c0, c1, c2, c3], _ =>
    obtain ⟨y0, e0⟩ := hg 0 (by decide)
    obtain ⟨y1, e1⟩ := hg 1 (by decide)
    obtain ⟨y2, e2⟩ := hg 2 (by decide)
    obtain ⟨y3, e3⟩ := hg 3 (by decide)
    have h0 : DataW.trod enc Try.prog w base spare held n 31 (([c0, c1, c2, c3].drop 0).take (Try.prog.cellsOf 31)) = some y0 := (hf 0 _ rfl).trans e0
    have h1 : DataW.trod enc Try.prog w base spare held n 31 (([c0, c1, c2, c3].drop 1).take (Try.prog.cellsOf 31)) = some y1 := (hf 1 _ rfl).trans e1
    have h2 : DataW.trod enc Try.prog w base spare held n 3 (([c0, c1, c2, c3].drop 2).take (Try.prog.cellsOf 3)) = some y2 := (hf 2 _ rfl).trans e2
    have h3 : DataW.trod enc Try.prog w base spare held n 3 (([c0, c1, c2, c3].drop 3).take (Try.prog.cellsOf 3)) = some y3 := (hf 3 _ rfl).trans e3
    rw [size31] at h0 h1
    rw [size3] at h2 h3
    obtain ⟨v0, A0, a0, g0, hv0, hC0⟩ := in_ints h0
    obtain ⟨v1, A1, a1, g1, hv1, hC1⟩ := in_ints h1
    obtain ⟨m2, g2, _⟩ := in_int Try.underlying3 h2
    obtain ⟨m3, g3, _⟩ := in_int Try.underlying3 h3
    simp at g0 g1 g2 g3
    subst g0 g1 g2 g3
    exact ⟨⟨v0, v1, m2, m3⟩, k37_mk w ⟨v0, v1, m2, m3⟩ hv0 hC0 hv1 hC1⟩
theorem in_fams (h : DataW.trod enc Try.prog w base spare held fuel 23 cs = some x) : ∃ (l : List S37) (A : Option Addr) (c : Nat), cs = [.slice A l.length c] ∧ l.length ≤ c ∧ Kd.C k37 w A l.length l :=
  in_slice k37 Try.underlying23 size37 (fun n cs y hy => in_37 hy) h
theorem in_rels (h : DataW.trod enc Try.prog w base spare held fuel 22 cs = some x) : ∃ (l : List S33) (A : Option Addr) (c : Nat), cs = [.slice A l.length c] ∧ l.length ≤ c ∧ Kd.C k33 w A l.length l :=
  in_slice k33 Try.underlying22 size33 (fun n cs y hy => in_33 hy) h
end
end Go.Proofs.Ytgfbgfbnmiainaa.Fam
