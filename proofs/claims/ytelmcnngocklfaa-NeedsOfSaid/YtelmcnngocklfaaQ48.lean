-- Walks of Go functions; written by own_print.py of this repo (see NOTES.md).
import Derived.Test.YtelmcnngocklfaaQ0
import Derived.Test.YtelmcnngocklfaaQ47
namespace Go.Proofs.Ytelmcnngocklfaa.Q
open Go.RowKit Go.Proofs.YtelmcnngocklfaaW.PrintWords Go.Proofs.YtelmcnngocklfaaW.PrintLast Go.Proofs.YtelmcnngocklfaaW.PrintMore Go.Proofs.YtelmcnngocklfaaW.OwnWords
attribute [local go_sem] Go.Proofs.YtelmcnngocklfaaW.OwnWords.isSome_setCell max2_int min2_int max_two min_two max_three min_three max_four min_four
set_option linter.unusedVariables false
set_option linter.unusedSimpArgs false

/-! ### manystrandref03_Op: function 25 -/
def manystrandref03_Op.l0 : Nat → ByteArray → List (S56) → Int → Option (ByteArray × Int × Int × Bool)
 | 0, _, _, _ => none
 | k + 1, x0, x4, x5 => if x5 < (x4.length : Int) then (if 0 ≤ x5 then (if ((rd_T56 x4 x5).f0).toList = x0.toList then (some ((rd_T56 x4 x5).f0, (rd_T56 x4 x5).f1, (rd_T56 x4 x5).f2, true)) else (manystrandref03_Op.l0 k x0 x4 (wrap64 (x5 + 1)))) else (none)) else (some ((⟨#[]⟩ : ByteArray), 0, 0, false))
def manystrandref03_Op.f (k : Nat) (a0 : ByteArray) : Option (ByteArray × Int × Int × Bool) := (manystrandref03_Ops.f).bind fun t194 => (manystrandref03_Op.l0 k a0 t194 0)
theorem manystrandref03_Op.mono_l : ∀ k, (∀ y0 y1 y2, LeO (manystrandref03_Op.l0 k y0 y1 y2) (manystrandref03_Op.l0 (k + 1) y0 y1 y2))
 | 0 => fun _ _ _ r h => by simp [manystrandref03_Op.l0] at h
 | k + 1 => by
  have ih0 := manystrandref03_Op.mono_l k
  ·intro y0 y1 y2
   unfold manystrandref03_Op.l0
   repeat' first
   | (with_reducible exact ih0 _ _ _)
   | (with_reducible exact LeO.refl _)
   | (with_reducible exact LeO.none _)
   | (with_reducible refine LeO.ite ?_ ?_)
   | (with_reducible refine LeO.bind ?_ (fun _ => ?_))
   | exact ih0 _ _ _
   | exact LeO.none _
   | refine LeO.ite ?_ ?_
   | refine LeO.bind ?_ (fun _ => ?_)
theorem manystrandref03_Op.mono : ∀ a0 k, LeO (manystrandref03_Op.f k a0) (manystrandref03_Op.f (k + 1) a0) := by
 intro a0 k
 have ih0 := manystrandref03_Op.mono_l k
 unfold manystrandref03_Op.f
 repeat' first
   | (with_reducible exact ih0 _ _ _)
   | (with_reducible exact LeO.refl _)
   | (with_reducible exact LeO.none _)
   | (with_reducible refine LeO.ite ?_ ?_)
   | (with_reducible refine LeO.bind ?_ (fun _ => ?_))
   | exact ih0 _ _ _
   | exact LeO.none _
   | refine LeO.ite ?_ ?_
   | refine LeO.bind ?_ (fun _ => ?_)
set_option maxHeartbeats 8000000 in
set_option maxRecDepth 100000 in
theorem manystrandref03_Op.calls (k : Nat) (a0 : ByteArray) (r1 : ByteArray) (r2 : Int) (r3 : Int) (r4 : Bool) (w : World) (h : manystrandref03_Op.f k a0 = some (r1, r2, r3, r4)) :
  Calls Try.prog 25 #[.string a0] w fun e w' => e = .returned (.tuple #[.agg #[.string r1, .int .i64 r2, .int .i64 r3], .bool r4]) ∧ Below w.heap.size w w' := by
 have hu56 := Try.underlying56
 have HB := Aside0.mk (Below.refl w.heap.size w)
 have H : ((manystrandref03_Ops.f).bind fun t194 => (manystrandref03_Op.l0 k a0 t194 0)) = some (r1, r2, r3, r4) := h
 clear h
 replace H := Option.bind_eq_some_iff.mp H
 obtain ⟨t194, A20, H⟩ := H
 replace H : (manystrandref03_Op.l0 k a0 t194 0) = some (r1, r2, r3, r4) := H
 have A2 := Aside0.mk A20
 clear A20
 have H' := Aside0.mk H
 clear H
 go_enter Try.func25, Try.ntmps25
 go_wp2_with (first | ((with_reducible refine gate_dst (N := 2) rfl ?_); refine box_event ?hg (N := 2) ?hd (cs := #[.string (⟨#[]⟩ : ByteArray), .int .i64 0, .int .i64 0]) (t := 56) ?hr ?_; (case hd => rfl); (case hg => rfl); (case hr => first | (go_simp; done) | (go_simp; rfl)); intro gb193 hg w3 hbox hb; have n0_ := Aside0.mk (below_step bSt_ hb); have n1_ := Aside0.mk (hbox); have n2_ := Aside0.mk ((by rw [hg]; exact (below_size bSt_) : w.heap.size ≤ gb193)); have n3_ := Aside0.mk ((by rw [hg]; exact (below_size bSt_) : w.heap.size ≤ gb193)); clear HB; have HB := n0_; have BK193 := n1_; have GW193 := n2_; have GE193 := n3_; clear n0_ n1_ n2_ n3_; clear hb hbox hg) | ((with_reducible refine gate_callee (f := 37) rfl ?_); refine goesL_ (some 6) rfl rfl Try.func37 (by kernel_rfl) rfl #[] rfl (by (try simp only [List.map_toArray, List.map_cons, List.map_nil]); first | done | rfl | (simp only [List.length_drop, List.length_take]; rfl)) ?_; (with_reducible refine (manystrandref03_Ops.calls  t194 _ A2.out).mono ?_); rintro e w4 ⟨v195, rfl, ho0, hb⟩; refine ⟨_, rfl, ?_⟩; have n0_ := Aside0.mk (Kd.R_lower (Kd.R_newB ho0 (g := gb193) (o := .cells #[.string (⟨#[]⟩ : ByteArray), .int .i64 0, .int .i64 0] 56 (0, 0)) (bKq_ BK193.out)) (below_size bSt_)); have n1_ := Aside0.mk (blk_below (bKq_ BK193.out) hb); have n2_ := Aside0.mk (below_step bSt_ hb); clear BK193; clear HB; have HO196 := n0_; have BK193 := n1_; have HB := n2_; clear n0_ n1_ n2_; (try clear hb); (try clear hb2); (try clear hk); (try clear hi); (try clear ho0)))
 try simp only [Act.put, List.setIfInBounds_toArray, List.set_cons_zero, List.set_cons_succ]
 go_loopg [5] k (fun kq v5 w' => ∃ (x5_1 : Int) (x194000_1 : ByteArray) (x194001_1 : Int) (x194002_1 : Int), v5 = .int .i64 x5_1 ∧ Aside0 (manystrandref03_Op.l0 kq a0 t194 x5_1 = some (r1, r2, r3, r4)) ∧ Aside0 (kq ≤ k) ∧ Aside0 (Kd.R k56 56 w' w.heap.size (fun k_ => k_ ≠ gb193) v195 t194) ∧ Aside0 (w'.heap[gb193]? = some (.cells #[.string x194000_1, .int .i64 x194001_1, .int .i64 x194002_1] 56 (0, 0))) ∧ Aside0 (Below w.heap.size w w'))
 case atStart => exact ⟨(0), ((⟨#[]⟩ : ByteArray)), (0), (0), (by first | rfl | (simp; done) | (simp [*]; done)), H', ⟨Nat.le_refl _⟩, ⟨by (with_reducible repeat (first | apply Kd.R_alloc | apply Kd.R_drewN | apply Kd.R_drew)); exact Kd.R_mono HO196.out (fun _ hk => hk.2)⟩, ⟨bKq_ BK193.out⟩, ⟨bSt_⟩⟩
 case round =>
  clear H'
  try clear c2
  try clear p2
  try clear c3
  obtain ⟨x5_1, x194000_1, x194001_1, x194002_1, rfl, HA, HK1, HO_4, BK193, HB⟩ := hrel
  cases gk with
  | zero => exact absurd HA.out (by simp [manystrandref03_Op.l0])
  | succ k1 =>
   have H := HA.out
   clear HA
   simp only [manystrandref03_Op.l0] at H
   by_cases c5 : x5_1 < (t194.length : Int)
   ·rw [if_pos c5] at H
    have c5b0 : decide (x5_1 < (t194.length : Int)) = true := decide_eq_true c5
    clear c5
    by_cases c6 : 0 ≤ x5_1
    ·rw [if_pos c6] at H
     have c6b0 : decide (0 ≤ x5_1) = true := decide_eq_true c6
     clear c6
     by_cases c7 : ((rd_T56 t194 x5_1).f0).toList = a0.toList
     ·rw [if_pos c7] at H
      have c7b0 : (((rd_T56 t194 x5_1).f0).toList == a0.toList) = true := beq_iff_eq.mpr c7
      have c7b1 : (((rd_T56 t194 x5_1).f0).toList != a0.toList) = false := bne_eq_false_iff_eq.mpr c7
      clear c7
      simp only [Option.some.injEq, Prod.mk.injEq] at H
      obtain ⟨rfl, rfl, rfl, rfl⟩ := H
      obtain ⟨Ao8, co8, eo8⟩ := Kd.R_slice HO_4.out
      subst eo8
      have p197 : 0 ≤ (x5_1 : Int) := of_decide_eq_true (by first | (with_reducible assumption) | assumption)
      have q197 : x5_1 < (t194.length : Int) := of_decide_eq_true (by first | (with_reducible assumption) | assumption)
      obtain ⟨ad197, e197, hx197_0, hx197_1, hx197_2⟩ := at_T56 (Kd.R_reads' HO_4.out).2.2 x5_1 p197 q197
      cases e197
      replace p197 := eq_true p197
      replace q197 := eq_true q197
      have p198 : 0 ≤ (x5_1 : Int) := of_decide_eq_true (by first | (with_reducible assumption) | assumption)
      have q198 : x5_1 < (t194.length : Int) := of_decide_eq_true (by first | (with_reducible assumption) | assumption)
      obtain ⟨ad198, e198, hx198_0, hx198_1, hx198_2⟩ := at_T56 (Kd.R_reads' HO_4.out).2.2 x5_1 p198 q198
      obtain rfl : ad197 = ad198 := (by injection e198)
      replace p198 := eq_true p198
      replace q198 := eq_true q198
      have hcz9_0 : wr.cell? ⟨gb193, 0, none⟩ = some (.string x194000_1) := (blk_cell BK193.out 0).trans rfl
      have hcz9_1 : wr.cell? ⟨gb193, 1, none⟩ = some (.int .i64 x194001_1) := (blk_cell BK193.out 1).trans rfl
      have hcz9_2 : wr.cell? ⟨gb193, 2, none⟩ = some (.int .i64 x194002_1) := (blk_cell BK193.out 2).trans rfl
      have hfz9_0 := blk_frozen BK193.out 0
      have hfz9_1 := blk_frozen BK193.out 1
      have hfz9_2 := blk_frozen BK193.out 2
      go_wp2
      refine bodyPost_ret (results_ct rfl _ _ gb193 56 #[.string ((rd_T56 t194 x5_1).f0), .int .i64 ((rd_T56 t194 x5_1).f1), .int .i64 ((rd_T56 t194 x5_1).f2)] (0, 0) _ rfl (bKq_ BK193.out) Try.underlying56 rfl (by kernel_rfl)) rfl ?_
      exact ⟨by first | rfl | (simp [errW_none, errW_some] <;> rfl) | (simp [*, errW_none, errW_some] <;> rfl) | (simp [errW_none, errW_some]; exact Go.Proofs.YtelmcnngocklfaaW.OwnWords.isEmpty_bne _), bSt_⟩
     ·rw [if_neg c7] at H
      have c7b0 : (((rd_T56 t194 x5_1).f0).toList == a0.toList) = false := beq_eq_false_iff_ne.mpr c7
      have c7b1 : (((rd_T56 t194 x5_1).f0).toList != a0.toList) = true := bne_iff_ne.mpr c7
      have H' := Aside0.mk H
      clear H
      obtain ⟨Ao10, co10, eo10⟩ := Kd.R_slice HO_4.out
      subst eo10
      have p197 : 0 ≤ (x5_1 : Int) := of_decide_eq_true (by first | (with_reducible assumption) | assumption)
      have q197 : x5_1 < (t194.length : Int) := of_decide_eq_true (by first | (with_reducible assumption) | assumption)
      obtain ⟨ad197, e197, hx197_0, hx197_1, hx197_2⟩ := at_T56 (Kd.R_reads' HO_4.out).2.2 x5_1 p197 q197
      cases e197
      replace p197 := eq_true p197
      replace q197 := eq_true q197
      go_wp2
      go_roundg k1
      case measure => have := HK1.out; omega
      case rel => exact ⟨(wrap64 (x5_1 + 1)), (x194000_1), (x194001_1), (x194002_1), (by first | rfl | (simp; done) | (simp [*]; done)), H', ⟨by have := HK1.out; omega⟩, ⟨by (with_reducible repeat (first | apply Kd.R_alloc | apply Kd.R_drewN | apply Kd.R_drew)); exact HO_4.out⟩, ⟨bKq_ BK193.out⟩, ⟨bSt_⟩⟩
    ·rw [if_neg c6] at H
     exact absurd H (by simp)
   ·rw [if_neg c5] at H
    have c5b0 : decide (x5_1 < (t194.length : Int)) = false := decide_eq_false c5
    clear c5
    simp only [Option.some.injEq, Prod.mk.injEq] at H
    obtain ⟨rfl, rfl, rfl, rfl⟩ := H
    obtain ⟨Ao11, co11, eo11⟩ := Kd.R_slice HO_4.out
    subst eo11
    have hcz12_0 : wr.cell? ⟨gb193, 0, none⟩ = some (.string x194000_1) := (blk_cell BK193.out 0).trans rfl
    have hcz12_1 : wr.cell? ⟨gb193, 1, none⟩ = some (.int .i64 x194001_1) := (blk_cell BK193.out 1).trans rfl
    have hcz12_2 : wr.cell? ⟨gb193, 2, none⟩ = some (.int .i64 x194002_1) := (blk_cell BK193.out 2).trans rfl
    have hfz12_0 := blk_frozen BK193.out 0
    have hfz12_1 := blk_frozen BK193.out 1
    have hfz12_2 := blk_frozen BK193.out 2
    go_wp2
    refine bodyPost_ret (results_ct rfl _ _ gb193 56 #[.string (⟨#[]⟩ : ByteArray), .int .i64 0, .int .i64 0] (0, 0) _ rfl (bKq_ BK193.out) Try.underlying56 rfl (by kernel_rfl)) rfl ?_
    exact ⟨by first | rfl | (simp [errW_none, errW_some] <;> rfl) | (simp [*, errW_none, errW_some] <;> rfl) | (simp [errW_none, errW_some]; exact Go.Proofs.YtelmcnngocklfaaW.OwnWords.isEmpty_bne _), bSt_⟩

end Go.Proofs.Ytelmcnngocklfaa.Q
