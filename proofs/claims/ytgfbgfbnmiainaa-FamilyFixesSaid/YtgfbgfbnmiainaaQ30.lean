-- Walks of Go functions; written by own_print.py of this repo (see NOTES.md).
import Derived.Test.YtgfbgfbnmiainaaQ0
import Derived.Test.YtgfbgfbnmiainaaQ2
import Derived.Test.YtgfbgfbnmiainaaQ29
namespace Go.Proofs.Ytgfbgfbnmiainaa.Q
open Go.RowKit Go.Proofs.YtgfbgfbnmiainaaW.PrintWords Go.Proofs.YtgfbgfbnmiainaaW.PrintLast Go.Proofs.YtgfbgfbnmiainaaW.PrintMore
attribute [local go_sem] Go.Proofs.YtgfbgfbnmiainaaW.OwnWords.isSome_setCell max2_int min2_int max_two min_two max_three min_three max_four min_four   -- for this text's walks alone
set_option linter.unusedVariables false
set_option linter.unusedSimpArgs false

attribute [local go_sem high] eqA68
/-! ### manystrandref07_normal: function 40 -/
mutual
def manystrandref07_normal.l0 : Nat → Int → Int → Int → Int → Bool → Option (Int × Int × Int × Int × Bool)
 | 0, _, _, _, _, _ => none
 | k + 1, x220000, x220001, x220002, x220003, x220004 => (manystrandref07_size.f k x220000).bind fun t222 => ((manystrandref07_size.f k x220001).bind fun t223 => (if x220004 = true then (manystrandref07_normal.j1 k true x220000 x220001 x220002 x220003 x220004 x220000 x220001 (mx x220002 t222) (mn x220003 t223) x220004) else (if (Go.bits .andNot .u64 x220000 x220001) = 0 then (manystrandref07_normal.j1 k (decide ((mx x220002 t222) > (mn x220003 t223))) x220000 x220001 x220002 x220003 x220004 x220000 x220001 (mx x220002 t222) (mn x220003 t223) x220004) else (manystrandref07_normal.j1 k true x220000 x220001 x220002 x220003 x220004 x220000 x220001 (mx x220002 t222) (mn x220003 t223) x220004))))
def manystrandref07_normal.j1 : Nat → Bool → Int → Int → Int → Int → Bool → Int → Int → Int → Int → Bool → Option (Int × Int × Int × Int × Bool)
 | 0, _, _, _, _, _, _, _, _, _, _, _ => none
 | k + 1, x35, x220000, x220001, x220002, x220003, x220004, x222000, x222001, x222002, x222003, x222004 => if x35 = true then (some (0, 0, 0, 0, true)) else ((manystrandref07_size.f k x222001).bind fun t224 => (if x222002 = t224 then (manystrandref07_normal.j2 k x220000 x220001 x220002 x220003 x220004 x222001 x222001 x222002 x222003 x222004) else (manystrandref07_normal.j2 k x220000 x220001 x220002 x220003 x220004 x222000 x222001 x222002 x222003 x222004)))
def manystrandref07_normal.j2 : Nat → Int → Int → Int → Int → Bool → Int → Int → Int → Int → Bool → Option (Int × Int × Int × Int × Bool)
 | 0, _, _, _, _, _, _, _, _, _, _ => none
 | k + 1, x220000, x220001, x220002, x220003, x220004, x222000, x222001, x222002, x222003, x222004 => (manystrandref07_size.f k x222000).bind fun t225 => (if x222003 = t225 then (if (x222000 == x220000 && (x222000 == x220001 && (x222002 == x220002 && (x222003 == x220003 && (x222004 == x220004))))) = true then (some (x220000, x220001, x220002, x220003, x220004)) else (manystrandref07_normal.l0 k x222000 x222000 x222002 x222003 x222004)) else (if (x222000 == x220000 && (x222001 == x220001 && (x222002 == x220002 && (x222003 == x220003 && (x222004 == x220004))))) = true then (some (x220000, x220001, x220002, x220003, x220004)) else (manystrandref07_normal.l0 k x222000 x222001 x222002 x222003 x222004)))
end
def manystrandref07_normal.f (k : Nat) (a0_0 : Int) (a0_1 : Int) (a0_2 : Int) (a0_3 : Int) (a0_4 : Bool) : Option (Int × Int × Int × Int × Bool) := manystrandref07_normal.l0 k a0_0 a0_1 a0_2 a0_3 a0_4
theorem manystrandref07_normal.mono_l : ∀ k, (∀ y0 y1 y2 y3 y4, LeO (manystrandref07_normal.l0 k y0 y1 y2 y3 y4) (manystrandref07_normal.l0 (k + 1) y0 y1 y2 y3 y4)) ∧ (∀ y0 y1 y2 y3 y4 y5 y6 y7 y8 y9 y10, LeO (manystrandref07_normal.j1 k y0 y1 y2 y3 y4 y5 y6 y7 y8 y9 y10) (manystrandref07_normal.j1 (k + 1) y0 y1 y2 y3 y4 y5 y6 y7 y8 y9 y10)) ∧ (∀ y0 y1 y2 y3 y4 y5 y6 y7 y8 y9, LeO (manystrandref07_normal.j2 k y0 y1 y2 y3 y4 y5 y6 y7 y8 y9) (manystrandref07_normal.j2 (k + 1) y0 y1 y2 y3 y4 y5 y6 y7 y8 y9))
 | 0 => ⟨fun _ _ _ _ _ r h => by simp [manystrandref07_normal.l0] at h, fun _ _ _ _ _ _ _ _ _ _ _ r h => by simp [manystrandref07_normal.j1] at h, fun _ _ _ _ _ _ _ _ _ _ r h => by simp [manystrandref07_normal.j2] at h⟩
 | k + 1 => by
  obtain ⟨ih0, ih1, ih2⟩ := manystrandref07_normal.mono_l k
  refine ⟨?_, ?_, ?_⟩
  ·intro y0 y1 y2 y3 y4
   unfold manystrandref07_normal.l0
   repeat' first
   | (with_reducible exact ih0 _ _ _ _ _)
   | (with_reducible exact ih1 _ _ _ _ _ _ _ _ _ _ _)
   | (with_reducible exact ih2 _ _ _ _ _ _ _ _ _ _)
   | (with_reducible exact manystrandref07_size.mono _ _)
   | (with_reducible exact LeO.refl _)
   | (with_reducible exact LeO.none _)
   | (with_reducible refine LeO.ite ?_ ?_)
   | (with_reducible refine LeO.bind ?_ (fun _ => ?_))
   | exact ih0 _ _ _ _ _
   | exact ih1 _ _ _ _ _ _ _ _ _ _ _
   | exact ih2 _ _ _ _ _ _ _ _ _ _
   | exact manystrandref07_size.mono _ _
   | exact LeO.none _
   | refine LeO.ite ?_ ?_
   | refine LeO.bind ?_ (fun _ => ?_)
  ·intro y0 y1 y2 y3 y4 y5 y6 y7 y8 y9 y10
   unfold manystrandref07_normal.j1
   repeat' first
   | (with_reducible exact ih0 _ _ _ _ _)
   | (with_reducible exact ih1 _ _ _ _ _ _ _ _ _ _ _)
   | (with_reducible exact ih2 _ _ _ _ _ _ _ _ _ _)
   | (with_reducible exact manystrandref07_size.mono _ _)
   | (with_reducible exact LeO.refl _)
   | (with_reducible exact LeO.none _)
   | (with_reducible refine LeO.ite ?_ ?_)
   | (with_reducible refine LeO.bind ?_ (fun _ => ?_))
   | exact ih0 _ _ _ _ _
   | exact ih1 _ _ _ _ _ _ _ _ _ _ _
   | exact ih2 _ _ _ _ _ _ _ _ _ _
   | exact manystrandref07_size.mono _ _
   | exact LeO.none _
   | refine LeO.ite ?_ ?_
   | refine LeO.bind ?_ (fun _ => ?_)
  ·intro y0 y1 y2 y3 y4 y5 y6 y7 y8 y9
   unfold manystrandref07_normal.j2
   repeat' first
   | (with_reducible exact ih0 _ _ _ _ _)
   | (with_reducible exact ih1 _ _ _ _ _ _ _ _ _ _ _)
   | (with_reducible exact ih2 _ _ _ _ _ _ _ _ _ _)
   | (with_reducible exact manystrandref07_size.mono _ _)
   | (with_reducible exact LeO.refl _)
   | (with_reducible exact LeO.none _)
   | (with_reducible refine LeO.ite ?_ ?_)
   | (with_reducible refine LeO.bind ?_ (fun _ => ?_))
   | exact ih0 _ _ _ _ _
   | exact ih1 _ _ _ _ _ _ _ _ _ _ _
   | exact ih2 _ _ _ _ _ _ _ _ _ _
   | exact manystrandref07_size.mono _ _
   | exact LeO.none _
   | refine LeO.ite ?_ ?_
   | refine LeO.bind ?_ (fun _ => ?_)
theorem manystrandref07_normal.mono : ∀ a0 a1 a2 a3 a4 k, LeO (manystrandref07_normal.f k a0 a1 a2 a3 a4) (manystrandref07_normal.f (k + 1) a0 a1 a2 a3 a4) := by
 intro a0 a1 a2 a3 a4 k
 obtain ⟨ih0, ih1, ih2⟩ := manystrandref07_normal.mono_l k
 unfold manystrandref07_normal.f
 repeat' first
   | (with_reducible exact ih0 _ _ _ _ _)
   | (with_reducible exact ih1 _ _ _ _ _ _ _ _ _ _ _)
   | (with_reducible exact ih2 _ _ _ _ _ _ _ _ _ _)
   | (with_reducible exact manystrandref07_size.mono _ _)
   | (with_reducible exact LeO.refl _)
   | (with_reducible exact LeO.none _)
   | (with_reducible refine LeO.ite ?_ ?_)
   | (with_reducible refine LeO.bind ?_ (fun _ => ?_))
   | exact ih0 _ _ _ _ _
   | exact ih1 _ _ _ _ _ _ _ _ _ _ _
   | exact ih2 _ _ _ _ _ _ _ _ _ _
   | exact manystrandref07_size.mono _ _
   | exact LeO.none _
   | refine LeO.ite ?_ ?_
   | refine LeO.bind ?_ (fun _ => ?_)
def manystrandref07_normal.T2 : Bool × List (List Nat × List Nat) := (true, [([], []), ([0], [0]), ([], []), ([2], [2]), ([3], [3]), ([1, 4], [1, 4]), ([], []), ([6], [6]), ([], []), ([8], [8]), ([9, 4], [9]), ([7, 10], [7, 10]), ([0, 1, 2, 3, 4, 5, 6, 7, 8, 9], []), ([12, 5, 10, 0, 1, 2, 3, 4, 5, 6, 7, 8, 9], [5, 12]), ([0, 1, 2, 3, 4, 5, 6, 7, 8, 9, 10, 11, 12, 13], []), ([14, 11, 13, 0, 1, 2, 3, 4, 5, 6, 7, 8, 9, 10, 11, 12, 13], [11, 14])])
def manystrandref07_normal.B2 : List Nat := [0, 1, 0, 4, 12, 31, 0, 64, 0, 256, 796, 2012, 1023, 6143, 16383, 32767]
theorem manystrandref07_normal.tab2 : rtab .any (opsOf Try.f40 2) = manystrandref07_normal.T2 := by kernel_rfl
theorem manystrandref07_normal.bits2 : waitsOk manystrandref07_normal.T2.2 manystrandref07_normal.B2 = true := by kernel_rfl
set_option maxHeartbeats 8000000 in
set_option maxRecDepth 100000 in
theorem manystrandref07_normal.calls (k : Nat) (a0_0 : Int) (a0_1 : Int) (a0_2 : Int) (a0_3 : Int) (a0_4 : Bool) (r1 : Int) (r2 : Int) (r3 : Int) (r4 : Int) (r5 : Bool) (w : World) (h : manystrandref07_normal.f k a0_0 a0_1 a0_2 a0_3 a0_4 = some (r1, r2, r3, r4, r5)) :
  Calls Try.prog 40 #[.agg #[.int .u64 a0_0, .int .u64 a0_1, .int .i64 a0_2, .int .i64 a0_3, .bool a0_4]] w fun e w' => e = .returned (.agg #[.int .u64 r1, .int .u64 r2, .int .i64 r3, .int .i64 r4, .bool r5]) ∧ Below w.heap.size w w' := by
 have hu68 := Try.underlying68
 have HB := Aside0.mk (Below.refl w.heap.size w)
 have H : (manystrandref07_normal.l0 k a0_0 a0_1 a0_2 a0_3 a0_4) = some (r1, r2, r3, r4, r5) := h
 clear h
 have H' := Aside0.mk H
 clear H
 go_enter Try.func40, Try.ntmps40
 go_wp2_with (first | ((with_reducible refine gate_dst (N := 1) rfl ?_); refine box_event ?hg (N := 1) ?hd (cs := #[.int .u64 a0_0, .int .u64 a0_1, .int .i64 a0_2, .int .i64 a0_3, .bool a0_4]) (t := 68) ?hr ?_; (case hd => rfl); (case hg => rfl); (case hr => first | (go_simp; done) | (go_simp; rfl)); intro gb219 hg w2 hbox hb; have n0_ := Aside0.mk (below_step (by repeat (first | (with_reducible first | exact HB.out | apply below_alloc | apply pw_below_drewN | apply below_drew1) | exact HB.out)) hb); have n1_ := Aside0.mk (hbox); have n2_ := Aside0.mk ((by rw [hg]; exact (below_size (by repeat (first | (with_reducible first | exact HB.out | apply below_alloc | apply pw_below_drewN | apply below_drew1) | exact HB.out))) : w.heap.size ≤ gb219)); have n3_ := Aside0.mk ((by rw [hg]; exact (below_size (by repeat (first | (with_reducible first | exact HB.out | apply below_alloc | apply pw_below_drewN | apply below_drew1) | exact HB.out))) : w.heap.size ≤ gb219)); clear HB; have HB := n0_; have BK219 := n1_; have GW219 := n2_; have GE219 := n3_; clear n0_ n1_ n2_ n3_; clear hb hbox hg) | ((with_reducible refine gate_dst (N := 2) rfl ?_); refine box_event ?hg (N := 2) ?hd (cs := #[.int .u64 0, .int .u64 0, .int .i64 0, .int .i64 0, .bool false]) (t := 68) ?hr ?_; (case hd => rfl); (case hg => rfl); (case hr => first | (go_simp; done) | (go_simp; rfl)); intro gb220 hg w3 hbox hb; have n0_ := Aside0.mk (blk_below (g := gb219) (o := .cells #[.int .u64 a0_0, .int .u64 a0_1, .int .i64 a0_2, .int .i64 a0_3, .bool a0_4] 68 (0, 0)) (by (with_reducible repeat (first | refine blk_drewN ?_ _ | refine blk_drew ?_ | refine blk_alloc ?_ _)); exact BK219.out) hb); have n1_ := Aside0.mk (below_step (by repeat (first | (with_reducible first | exact HB.out | apply below_alloc | apply pw_below_drewN | apply below_drew1 | refine below_set ?_ GE219.out) | exact HB.out)) hb); have n2_ := Aside0.mk (hbox); have n3_ := Aside0.mk ((by rw [hg]; exact (below_size (by repeat (first | (with_reducible first | exact HB.out | apply below_alloc | apply pw_below_drewN | apply below_drew1 | refine below_set ?_ GE219.out) | exact HB.out))) : w.heap.size ≤ gb220)); have n4_ := Aside0.mk ((by rw [hg]; exact (below_size (by repeat (first | (with_reducible first | exact HB.out | apply below_alloc | apply pw_below_drewN | apply below_drew1 | refine below_set ?_ GE219.out) | exact HB.out))) : w.heap.size ≤ gb220)); have n5_ := Aside0.mk ((by rw [hg]; exact Nat.ne_of_lt (blk_lt (g := gb219) (o := .cells #[.int .u64 a0_0, .int .u64 a0_1, .int .i64 a0_2, .int .i64 a0_3, .bool a0_4] 68 (0, 0)) (by (with_reducible repeat (first | refine blk_drewN ?_ _ | refine blk_drew ?_ | refine blk_alloc ?_ _)); exact BK219.out)) : gb219 ≠ gb220)); have n6_ := Aside0.mk ((by rw [hg]; exact Nat.ne_of_gt (blk_lt (g := gb219) (o := .cells #[.int .u64 a0_0, .int .u64 a0_1, .int .i64 a0_2, .int .i64 a0_3, .bool a0_4] 68 (0, 0)) (by (with_reducible repeat (first | refine blk_drewN ?_ _ | refine blk_drew ?_ | refine blk_alloc ?_ _)); exact BK219.out)) : gb220 ≠ gb219)); clear BK219; clear HB; have BK219 := n0_; have HB := n1_; have BK220 := n2_; have GW220 := n3_; have GE220 := n4_; have NB219_220 := n5_; have NB220_219 := n6_; clear n0_ n1_ n2_ n3_ n4_ n5_ n6_; clear hb hbox hg))
 try simp only [Act.put, List.setIfInBounds_toArray, List.set_cons_zero, List.set_cons_succ]
 go_loopg [] k (fun kq w' => ∃ (x220000_1 : Int) (x220001_1 : Int) (x220002_1 : Int) (x220003_1 : Int) (x220004_1 : Bool) (x221000_1 : Int) (x221001_1 : Int) (x221002_1 : Int) (x221003_1 : Int) (x221004_1 : Bool), Aside0 (manystrandref07_normal.l0 kq x220000_1 x220001_1 x220002_1 x220003_1 x220004_1 = some (r1, r2, r3, r4, r5)) ∧ Aside0 (kq ≤ k) ∧ Aside0 (w'.heap[gb219]? = some (.cells #[.int .u64 x220000_1, .int .u64 x220001_1, .int .i64 x220002_1, .int .i64 x220003_1, .bool x220004_1] 68 (0, 0))) ∧ Aside0 (w'.heap[gb220]? = some (.cells #[.int .u64 x221000_1, .int .u64 x221001_1, .int .i64 x221002_1, .int .i64 x221003_1, .bool x221004_1] 68 (0, 0))) ∧ Aside0 (Below w.heap.size w w'))
 case atStart => exact ⟨(a0_0), (a0_1), (a0_2), (a0_3), (a0_4), (0), (0), (0), (0), (false), H', ⟨Nat.le_refl _⟩, ⟨by (with_reducible repeat (first | refine blk_drewN ?_ _ | refine blk_drew ?_ | refine blk_alloc ?_ _)); exact BK219.out⟩, ⟨by (with_reducible repeat (first | refine blk_drewN ?_ _ | refine blk_drew ?_ | refine blk_alloc ?_ _)); exact BK220.out⟩, ⟨by repeat (first | (with_reducible first | exact HB.out | apply below_alloc | apply pw_below_drewN | apply below_drew1 | refine below_set ?_ GE219.out | refine below_set ?_ GE220.out) | exact HB.out)⟩⟩
 case round =>
  clear H'
  try clear p2
  obtain ⟨x220000_1, x220001_1, x220002_1, x220003_1, x220004_1, x221000_1, x221001_1, x221002_1, x221003_1, x221004_1, HA, HK1, BK219, BK220, HB⟩ := hrel
  cases gk with
  | zero => exact absurd HA.out (by simp [manystrandref07_normal.l0])
  | succ k1 =>
   have H := HA.out
   clear HA
   simp only [manystrandref07_normal.l0] at H
   replace H := Option.bind_eq_some_iff.mp H
   obtain ⟨t222, A40, H⟩ := H
   replace H : ((manystrandref07_size.f k1 x220001_1).bind fun t223 => (if x220004_1 = true then (manystrandref07_normal.j1 k1 true x220000_1 x220001_1 x220002_1 x220003_1 x220004_1 x220000_1 x220001_1 (mx x220002_1 t222) (mn x220003_1 t223) x220004_1) else (if (Go.bits .andNot .u64 x220000_1 x220001_1) = 0 then (manystrandref07_normal.j1 k1 (decide ((mx x220002_1 t222) > (mn x220003_1 t223))) x220000_1 x220001_1 x220002_1 x220003_1 x220004_1 x220000_1 x220001_1 (mx x220002_1 t222) (mn x220003_1 t223) x220004_1) else (manystrandref07_normal.j1 k1 true x220000_1 x220001_1 x220002_1 x220003_1 x220004_1 x220000_1 x220001_1 (mx x220002_1 t222) (mn x220003_1 t223) x220004_1)))) = some (r1, r2, r3, r4, r5) := H
   have A4 := Aside0.mk A40
   clear A40
   obtain ⟨ji5, hji5⟩ : ∃ j_ : Int, (mx x220002_1 t222) = j_ := ⟨_, rfl⟩
   replace H : ((manystrandref07_size.f k1 x220001_1).bind fun t223 => (if x220004_1 = true then (manystrandref07_normal.j1 k1 true x220000_1 x220001_1 x220002_1 x220003_1 x220004_1 x220000_1 x220001_1 ji5 (mn x220003_1 t223) x220004_1) else (if (Go.bits .andNot .u64 x220000_1 x220001_1) = 0 then (manystrandref07_normal.j1 k1 (decide ((ji5) > (mn x220003_1 t223))) x220000_1 x220001_1 x220002_1 x220003_1 x220004_1 x220000_1 x220001_1 ji5 (mn x220003_1 t223) x220004_1) else (manystrandref07_normal.j1 k1 true x220000_1 x220001_1 x220002_1 x220003_1 x220004_1 x220000_1 x220001_1 ji5 (mn x220003_1 t223) x220004_1)))) = some (r1, r2, r3, r4, r5) := by first | (rw [hji5] at H; exact H) | (simp only [hji5] at H ⊢; exact H)
   (try rw [hji5] at A4)
   have hji5_ : (if x220002_1 < t222 then t222 else x220002_1) = ji5 := hji5
   replace H := Option.bind_eq_some_iff.mp H
   obtain ⟨t223, A60, H⟩ := H
   replace H : (if x220004_1 = true then (manystrandref07_normal.j1 k1 true x220000_1 x220001_1 x220002_1 x220003_1 x220004_1 x220000_1 x220001_1 ji5 (mn x220003_1 t223) x220004_1) else (if (Go.bits .andNot .u64 x220000_1 x220001_1) = 0 then (manystrandref07_normal.j1 k1 (decide ((ji5) > (mn x220003_1 t223))) x220000_1 x220001_1 x220002_1 x220003_1 x220004_1 x220000_1 x220001_1 ji5 (mn x220003_1 t223) x220004_1) else (manystrandref07_normal.j1 k1 true x220000_1 x220001_1 x220002_1 x220003_1 x220004_1 x220000_1 x220001_1 ji5 (mn x220003_1 t223) x220004_1))) = some (r1, r2, r3, r4, r5) := H
   have A6 := Aside0.mk A60
   clear A60
   obtain ⟨ji7, hji7⟩ : ∃ j_ : Int, (mn x220003_1 t223) = j_ := ⟨_, rfl⟩
   replace H : (if x220004_1 = true then (manystrandref07_normal.j1 k1 true x220000_1 x220001_1 x220002_1 x220003_1 x220004_1 x220000_1 x220001_1 ji5 ji7 x220004_1) else (if (Go.bits .andNot .u64 x220000_1 x220001_1) = 0 then (manystrandref07_normal.j1 k1 (decide ((ji5) > (ji7))) x220000_1 x220001_1 x220002_1 x220003_1 x220004_1 x220000_1 x220001_1 ji5 ji7 x220004_1) else (manystrandref07_normal.j1 k1 true x220000_1 x220001_1 x220002_1 x220003_1 x220004_1 x220000_1 x220001_1 ji5 ji7 x220004_1))) = some (r1, r2, r3, r4, r5) := by first | (rw [hji7] at H; exact H) | (simp only [hji7] at H ⊢; exact H)
   (try rw [hji7] at A4)
   (try rw [hji7] at A6)
   have hji7_ : (if t223 < x220003_1 then t223 else x220003_1) = ji7 := hji7
   have HC8 := Aside0.mk H
   clear H
   have hnb9 := NB219_220.out
   have hnc9 := NB220_219.out
   have hcz10_0 : wr.cell? ⟨gb219, 0, none⟩ = some (.int .u64 x220000_1) := (blk_cell BK219.out 0).trans rfl
   have hcz10_1 : wr.cell? ⟨gb219, 1, none⟩ = some (.int .u64 x220001_1) := (blk_cell BK219.out 1).trans rfl
   have hcz10_2 : wr.cell? ⟨gb219, 2, none⟩ = some (.int .i64 x220002_1) := (blk_cell BK219.out 2).trans rfl
   have hcz10_3 : wr.cell? ⟨gb219, 3, none⟩ = some (.int .i64 x220003_1) := (blk_cell BK219.out 3).trans rfl
   have hcz10_4 : wr.cell? ⟨gb219, 4, none⟩ = some (.bool x220004_1) := (blk_cell BK219.out 4).trans rfl
   have hfz10_0 := blk_frozen BK219.out 0
   have hfz10_1 := blk_frozen BK219.out 1
   have hfz10_2 := blk_frozen BK219.out 2
   have hfz10_3 := blk_frozen BK219.out 3
   have hfz10_4 := blk_frozen BK219.out 4
   try go_wp2_with (first | ((with_reducible refine gate_dst (N := 3) rfl ?_); refine box_event ?hg (N := 3) ?hd (cs := #[.int .u64 0, .int .u64 0, .int .i64 0, .int .i64 0, .bool false]) (t := 68) ?hr ?_; (case hd => rfl); (case hg => rfl); (case hr => first | (go_simp; done) | (go_simp; rfl)); intro gb221 hg w11 hbox hb; have n0_ := Aside0.mk (blk_below (g := gb219) (o := .cells #[.int .u64 x220000_1, .int .u64 x220001_1, .int .i64 x220002_1, .int .i64 x220003_1, .bool x220004_1] 68 (0, 0)) (by (with_reducible repeat (first | refine blk_drewN ?_ _ | refine blk_drew ?_ | refine blk_alloc ?_ _)); exact BK219.out) hb); have n1_ := Aside0.mk (blk_below (g := gb220) (o := .cells #[.int .u64 x221000_1, .int .u64 x221001_1, .int .i64 x221002_1, .int .i64 x221003_1, .bool x221004_1] 68 (0, 0)) (by (with_reducible repeat (first | refine blk_drewN ?_ _ | refine blk_drew ?_ | refine blk_alloc ?_ _)); exact BK220.out) hb); have n2_ := Aside0.mk (below_step (by repeat (first | (with_reducible first | exact HB.out | apply below_alloc | apply pw_below_drewN | apply below_drew1 | refine below_set ?_ GE219.out | refine below_set ?_ GE220.out) | exact HB.out)) hb); have n3_ := Aside0.mk (hbox); have n4_ := Aside0.mk ((by rw [hg]; exact (below_size (by repeat (first | (with_reducible first | exact HB.out | apply below_alloc | apply pw_below_drewN | apply below_drew1 | refine below_set ?_ GE219.out | refine below_set ?_ GE220.out) | exact HB.out))) : w.heap.size ≤ gb221)); have n5_ := Aside0.mk ((by rw [hg]; exact (below_size (by repeat (first | (with_reducible first | exact HB.out | apply below_alloc | apply pw_below_drewN | apply below_drew1 | refine below_set ?_ GE219.out | refine below_set ?_ GE220.out) | exact HB.out))) : w.heap.size ≤ gb221)); have n6_ := Aside0.mk ((by rw [hg]; exact Nat.ne_of_lt (blk_lt (g := gb219) (o := .cells #[.int .u64 x220000_1, .int .u64 x220001_1, .int .i64 x220002_1, .int .i64 x220003_1, .bool x220004_1] 68 (0, 0)) (by (with_reducible repeat (first | refine blk_drewN ?_ _ | refine blk_drew ?_ | refine blk_alloc ?_ _)); exact BK219.out)) : gb219 ≠ gb221)); have n7_ := Aside0.mk ((by rw [hg]; exact Nat.ne_of_gt (blk_lt (g := gb219) (o := .cells #[.int .u64 x220000_1, .int .u64 x220001_1, .int .i64 x220002_1, .int .i64 x220003_1, .bool x220004_1] 68 (0, 0)) (by (with_reducible repeat (first | refine blk_drewN ?_ _ | refine blk_drew ?_ | refine blk_alloc ?_ _)); exact BK219.out)) : gb221 ≠ gb219)); have n8_ := Aside0.mk ((by rw [hg]; exact Nat.ne_of_lt (blk_lt (g := gb220) (o := .cells #[.int .u64 x221000_1, .int .u64 x221001_1, .int .i64 x221002_1, .int .i64 x221003_1, .bool x221004_1] 68 (0, 0)) (by (with_reducible repeat (first | refine blk_drewN ?_ _ | refine blk_drew ?_ | refine blk_alloc ?_ _)); exact BK220.out)) : gb220 ≠ gb221)); have n9_ := Aside0.mk ((by rw [hg]; exact Nat.ne_of_gt (blk_lt (g := gb220) (o := .cells #[.int .u64 x221000_1, .int .u64 x221001_1, .int .i64 x221002_1, .int .i64 x221003_1, .bool x221004_1] 68 (0, 0)) (by (with_reducible repeat (first | refine blk_drewN ?_ _ | refine blk_drew ?_ | refine blk_alloc ?_ _)); exact BK220.out)) : gb221 ≠ gb220)); clear BK219; clear BK220; clear HB; have BK219 := n0_; have BK220 := n1_; have HB := n2_; have BK221 := n3_; have GW221 := n4_; have GE221 := n5_; have NB219_221 := n6_; have NB221_219 := n7_; have NB220_221 := n8_; have NB221_220 := n9_; clear n0_ n1_ n2_ n3_ n4_ n5_ n6_ n7_ n8_ n9_; clear hb hbox hg; have hnb12 := NB221_219.out; have hnc12 := NB219_221.out; have hnb13 := NB221_220.out; have hnc13 := NB220_221.out; have hcz14_0 : w11.cell? ⟨gb221, 0, none⟩ = some (.int .u64 0) := (blk_cell BK221.out 0).trans rfl; have hcz14_1 : w11.cell? ⟨gb221, 1, none⟩ = some (.int .u64 0) := (blk_cell BK221.out 1).trans rfl; have hcz14_2 : w11.cell? ⟨gb221, 2, none⟩ = some (.int .i64 0) := (blk_cell BK221.out 2).trans rfl; have hcz14_3 : w11.cell? ⟨gb221, 3, none⟩ = some (.int .i64 0) := (blk_cell BK221.out 3).trans rfl; have hcz14_4 : w11.cell? ⟨gb221, 4, none⟩ = some (.bool false) := (blk_cell BK221.out 4).trans rfl; have hfz14_0 := blk_frozen BK221.out 0; have hfz14_1 := blk_frozen BK221.out 1; have hfz14_2 := blk_frozen BK221.out 2; have hfz14_3 := blk_frozen BK221.out 3; have hfz14_4 := blk_frozen BK221.out 4))
   have n0_ : Aside0 ((((((w11.setCell ⟨gb221, 0, none⟩ (.int .u64 x220000_1)).setCell ⟨gb221, 1, none⟩ (.int .u64 x220001_1)).setCell ⟨gb221, 2, none⟩ (.int .i64 x220002_1)).setCell ⟨gb221, 3, none⟩ (.int .i64 x220003_1)).setCell ⟨gb221, 4, none⟩ (.bool x220004_1)).heap[gb219]? = some (.cells #[.int .u64 x220000_1, .int .u64 x220001_1, .int .i64 x220002_1, .int .i64 x220003_1, .bool x220004_1] 68 (0, 0))) := ⟨by (with_reducible repeat (first | refine blk_drewN ?_ _ | refine blk_drew ?_ | refine blk_alloc ?_ _)); refine blk_far ?_ NB219_221.out _; (with_reducible repeat (first | refine blk_drewN ?_ _ | refine blk_drew ?_ | refine blk_alloc ?_ _)); refine blk_far ?_ NB219_221.out _; (with_reducible repeat (first | refine blk_drewN ?_ _ | refine blk_drew ?_ | refine blk_alloc ?_ _)); refine blk_far ?_ NB219_221.out _; (with_reducible repeat (first | refine blk_drewN ?_ _ | refine blk_drew ?_ | refine blk_alloc ?_ _)); refine blk_far ?_ NB219_221.out _; (with_reducible repeat (first | refine blk_drewN ?_ _ | refine blk_drew ?_ | refine blk_alloc ?_ _)); refine blk_far ?_ NB219_221.out _; (with_reducible repeat (first | refine blk_drewN ?_ _ | refine blk_drew ?_ | refine blk_alloc ?_ _)); exact BK219.out⟩
   have n1_ : Aside0 ((((((w11.setCell ⟨gb221, 0, none⟩ (.int .u64 x220000_1)).setCell ⟨gb221, 1, none⟩ (.int .u64 x220001_1)).setCell ⟨gb221, 2, none⟩ (.int .i64 x220002_1)).setCell ⟨gb221, 3, none⟩ (.int .i64 x220003_1)).setCell ⟨gb221, 4, none⟩ (.bool x220004_1)).heap[gb220]? = some (.cells #[.int .u64 x221000_1, .int .u64 x221001_1, .int .i64 x221002_1, .int .i64 x221003_1, .bool x221004_1] 68 (0, 0))) := ⟨by (with_reducible repeat (first | refine blk_drewN ?_ _ | refine blk_drew ?_ | refine blk_alloc ?_ _)); refine blk_far ?_ NB220_221.out _; (with_reducible repeat (first | refine blk_drewN ?_ _ | refine blk_drew ?_ | refine blk_alloc ?_ _)); refine blk_far ?_ NB220_221.out _; (with_reducible repeat (first | refine blk_drewN ?_ _ | refine blk_drew ?_ | refine blk_alloc ?_ _)); refine blk_far ?_ NB220_221.out _; (with_reducible repeat (first | refine blk_drewN ?_ _ | refine blk_drew ?_ | refine blk_alloc ?_ _)); refine blk_far ?_ NB220_221.out _; (with_reducible repeat (first | refine blk_drewN ?_ _ | refine blk_drew ?_ | refine blk_alloc ?_ _)); refine blk_far ?_ NB220_221.out _; (with_reducible repeat (first | refine blk_drewN ?_ _ | refine blk_drew ?_ | refine blk_alloc ?_ _)); exact BK220.out⟩
   have n2_ : Aside0 ((((((w11.setCell ⟨gb221, 0, none⟩ (.int .u64 x220000_1)).setCell ⟨gb221, 1, none⟩ (.int .u64 x220001_1)).setCell ⟨gb221, 2, none⟩ (.int .i64 x220002_1)).setCell ⟨gb221, 3, none⟩ (.int .i64 x220003_1)).setCell ⟨gb221, 4, none⟩ (.bool x220004_1)).heap[gb221]? = some (.cells #[.int .u64 x220000_1, .int .u64 x220001_1, .int .i64 x220002_1, .int .i64 x220003_1, .bool x220004_1] 68 (0, 0))) := ⟨by (with_reducible repeat (first | refine blk_drewN ?_ _ | refine blk_drew ?_ | refine blk_alloc ?_ _)); refine blk_put (cs := #[.int .u64 x220000_1, .int .u64 x220001_1, .int .i64 x220002_1, .int .i64 x220003_1, .bool false]) ?_ 4 _ rfl; (with_reducible repeat (first | refine blk_drewN ?_ _ | refine blk_drew ?_ | refine blk_alloc ?_ _)); refine blk_put (cs := #[.int .u64 x220000_1, .int .u64 x220001_1, .int .i64 x220002_1, .int .i64 0, .bool false]) ?_ 3 _ rfl; (with_reducible repeat (first | refine blk_drewN ?_ _ | refine blk_drew ?_ | refine blk_alloc ?_ _)); refine blk_put (cs := #[.int .u64 x220000_1, .int .u64 x220001_1, .int .i64 0, .int .i64 0, .bool false]) ?_ 2 _ rfl; (with_reducible repeat (first | refine blk_drewN ?_ _ | refine blk_drew ?_ | refine blk_alloc ?_ _)); refine blk_put (cs := #[.int .u64 x220000_1, .int .u64 0, .int .i64 0, .int .i64 0, .bool false]) ?_ 1 _ rfl; (with_reducible repeat (first | refine blk_drewN ?_ _ | refine blk_drew ?_ | refine blk_alloc ?_ _)); refine blk_put (cs := #[.int .u64 0, .int .u64 0, .int .i64 0, .int .i64 0, .bool false]) ?_ 0 _ rfl; (with_reducible repeat (first | refine blk_drewN ?_ _ | refine blk_drew ?_ | refine blk_alloc ?_ _)); exact BK221.out⟩
   have n3_ : Aside0 (Below w.heap.size w (((((w11.setCell ⟨gb221, 0, none⟩ (.int .u64 x220000_1)).setCell ⟨gb221, 1, none⟩ (.int .u64 x220001_1)).setCell ⟨gb221, 2, none⟩ (.int .i64 x220002_1)).setCell ⟨gb221, 3, none⟩ (.int .i64 x220003_1)).setCell ⟨gb221, 4, none⟩ (.bool x220004_1))) := ⟨by repeat (first | (with_reducible first | exact HB.out | apply below_alloc | apply pw_below_drewN | apply below_drew1 | refine below_set ?_ GE219.out | refine below_set ?_ GE220.out | refine below_set ?_ GE221.out) | exact HB.out)⟩
   (try clear BK219)
   (try clear BK220)
   (try clear BK221)
   (try clear HB)
   generalize (((((w11.setCell ⟨gb221, 0, none⟩ (.int .u64 x220000_1)).setCell ⟨gb221, 1, none⟩ (.int .u64 x220001_1)).setCell ⟨gb221, 2, none⟩ (.int .i64 x220002_1)).setCell ⟨gb221, 3, none⟩ (.int .i64 x220003_1)).setCell ⟨gb221, 4, none⟩ (.bool x220004_1)) = w15 at n0_ n1_ n2_ n3_ ⊢
   have BK219 := n0_
   have BK220 := n1_
   have BK221 := n2_
   have HB := n3_
   clear n0_ n1_ n2_ n3_
   have n0_ := Aside0.mk (blk_drew BK219.out)
   have n1_ := Aside0.mk (blk_drew BK220.out)
   have n2_ := Aside0.mk (blk_drew BK221.out)
   have n3_ := Aside0.mk (below_drew1 HB.out)
   clear BK219
   clear BK220
   clear BK221
   clear HB
   have BK219 := n0_
   have BK220 := n1_
   have BK221 := n2_
   have HB := n3_
   clear n0_ n1_ n2_ n3_
   refine start_ (n := 16) (S := fun w' => w'.cell? ⟨gb221, 0, none⟩ = some (.int .u64 x220000_1) ∧ w'.cell? ⟨gb221, 1, none⟩ = some (.int .u64 x220001_1) ∧ w'.cell? ⟨gb221, 2, none⟩ = some (.int .i64 x220002_1) ∧ w'.cell? ⟨gb221, 3, none⟩ = some (.int .i64 x220003_1) ∧ w'.cell? ⟨gb221, 4, none⟩ = some (.bool x220004_1)) (ds := [13, 15]) #[false, false, false, false, false, false, false, false, false, false, false, false, false, false, false, false] (by kernel_rfl) rfl rfl ⟨(blk_cell BK221.out 0).trans rfl, (blk_cell BK221.out 1).trans rfl, (blk_cell BK221.out 2).trans rfl, (blk_cell BK221.out 3).trans rfl, (blk_cell BK221.out 4).trans rfl⟩ (fun hHeld => ?_); refine with_tabW manystrandref07_normal.tab2 manystrandref07_normal.bits2 (fun HT_ HW_ => ?_)
   generalize w15.drew = w16 at BK219 BK220 BK221 HB hHeld ⊢
   refine pure_ (i := 0) (N := some 5) (v := ?_) (a' := ?_) #[true, false, false, false, false, false, false, false, false, false, false, false, false, false, false, false] rfl rfl (any_of HT_.out (by kernel_rfl)) (fun _ _ _ h => h) (Or.inl ⟨by rfl, ?_⟩) ?_ ?_
   rotate_left
   ·intro w'
    go_simp
    with_reducible rfl
   rotate_left
   ·simp only [Act.put, List.setIfInBounds_toArray, List.set_cons_zero, List.set_cons_succ, i64_w, i32_w]
    rfl
   refine pure_ (i := 2) (N := some 7) (v := ?_) (a' := ?_) #[true, false, true, false, false, false, false, false, false, false, false, false, false, false, false, false] rfl rfl (any_of HT_.out (by kernel_rfl)) (fun _ _ _ h => h) (Or.inl ⟨by rfl, ?_⟩) ?_ ?_
   rotate_left
   ·intro w'
    go_simp
    with_reducible rfl
   rotate_left
   ·simp only [Act.put, List.setIfInBounds_toArray, List.set_cons_zero, List.set_cons_succ, i64_w, i32_w]
    rfl
   refine pure_ (i := 6) (N := some 11) (v := ?_) (a' := ?_) #[true, false, true, false, false, false, true, false, false, false, false, false, false, false, false, false] rfl rfl (any_of HT_.out (by kernel_rfl)) (fun _ _ _ h => h) (Or.inl ⟨by rfl, ?_⟩) ?_ ?_
   rotate_left
   ·intro w'
    go_simp
    with_reducible rfl
   rotate_left
   ·simp only [Act.put, List.setIfInBounds_toArray, List.set_cons_zero, List.set_cons_succ, i64_w, i32_w]
    rfl
   refine pure_ (i := 8) (N := some 13) (v := ?_) (a' := ?_) #[true, false, true, false, false, false, true, false, true, false, false, false, false, false, false, false] rfl rfl (any_of HT_.out (by kernel_rfl)) (fun _ _ _ h => h) (Or.inl ⟨by rfl, ?_⟩) ?_ ?_
   rotate_left
   ·intro w'
    go_simp
    with_reducible rfl
   rotate_left
   ·simp only [Act.put, List.setIfInBounds_toArray, List.set_cons_zero, List.set_cons_succ, i64_w, i32_w]
    rfl
   refine take_ (i := 1) (N := some 6) (v := ?_) (a' := ?_) #[true, true, true, false, false, false, true, false, true, false, false, false, false, false, false, false] rfl rfl (take_ofW HT_.out HW_.out (by kernel_rfl)) (fun _ _ _ h => h) (Or.inl ⟨by rfl, ?_⟩) hHeld ?_ ?_
   rotate_left
   ·rintro w' ⟨s0, s1, s2, s3, s4⟩
    go_simp
    with_reducible rfl
   rotate_left
   ·simp only [Act.put, List.setIfInBounds_toArray, List.set_cons_zero, List.set_cons_succ, i64_w, i32_w]
    rfl
   refine take_ (i := 3) (N := some 8) (v := ?_) (a' := ?_) #[true, true, true, true, false, false, true, false, true, false, false, false, false, false, false, false] rfl rfl (take_ofW HT_.out HW_.out (by kernel_rfl)) (fun _ _ _ h => h) (Or.inl ⟨by rfl, ?_⟩) hHeld ?_ ?_
   rotate_left
   ·rintro w' ⟨s0, s1, s2, s3, s4⟩
    go_simp
    with_reducible rfl
   rotate_left
   ·simp only [Act.put, List.setIfInBounds_toArray, List.set_cons_zero, List.set_cons_succ, i64_w, i32_w]
    rfl
   refine take_ (i := 7) (N := some 12) (v := ?_) (a' := ?_) #[true, true, true, true, false, false, true, true, true, false, false, false, false, false, false, false] rfl rfl (take_ofW HT_.out HW_.out (by kernel_rfl)) (fun _ _ _ h => h) (Or.inl ⟨by rfl, ?_⟩) hHeld ?_ ?_
   rotate_left
   ·rintro w' ⟨s0, s1, s2, s3, s4⟩
    go_simp
    with_reducible rfl
   rotate_left
   ·simp only [Act.put, List.setIfInBounds_toArray, List.set_cons_zero, List.set_cons_succ, i64_w, i32_w]
    rfl
   refine take_ (i := 9) (N := some 14) (v := ?_) (a' := ?_) #[true, true, true, true, false, false, true, true, true, true, false, false, false, false, false, false] rfl rfl (take_ofW HT_.out HW_.out (by kernel_rfl)) (fun _ _ _ h => h) (Or.inl ⟨by rfl, ?_⟩) hHeld ?_ ?_
   rotate_left
   ·rintro w' ⟨s0, s1, s2, s3, s4⟩
    go_simp
    with_reducible rfl
   rotate_left
   ·simp only [Act.put, List.setIfInBounds_toArray, List.set_cons_zero, List.set_cons_succ, i64_w, i32_w]
    rfl
   refine one_ (i := 4) (N := some 9) #[true, true, true, true, true, false, true, true, true, true, false, false, false, false, false, false] rfl rfl (one_of HT_.out (by kernel_rfl)) (by decide) (fun K hK => ?_)
   refine goes_ Try.func48 (by kernel_rfl) rfl #[.int .u64 x220000_1] (by rfl) rfl rfl (by (try simp only [List.map_toArray, List.map_cons, List.map_nil]); first | done | rfl | (simp only [List.length_drop, List.length_take]; rfl)) ?_
   with_reducible refine (manystrandref07_size.calls k1 x220000_1 t222 _ A4.out).mono ?_
   rintro e w17 ⟨rfl, hb⟩
   refine ⟨_, rfl, ?_⟩
   have n0_ := Aside0.mk (blk_below (g := gb219) (o := .cells #[.int .u64 x220000_1, .int .u64 x220001_1, .int .i64 x220002_1, .int .i64 x220003_1, .bool x220004_1] 68 (0, 0)) (by (with_reducible repeat (first | refine blk_drewN ?_ _ | refine blk_drew ?_ | refine blk_alloc ?_ _)); exact BK219.out) hb)
   have n1_ := Aside0.mk (blk_below (g := gb220) (o := .cells #[.int .u64 x221000_1, .int .u64 x221001_1, .int .i64 x221002_1, .int .i64 x221003_1, .bool x221004_1] 68 (0, 0)) (by (with_reducible repeat (first | refine blk_drewN ?_ _ | refine blk_drew ?_ | refine blk_alloc ?_ _)); exact BK220.out) hb)
   have n2_ := Aside0.mk (blk_below (g := gb221) (o := .cells #[.int .u64 x220000_1, .int .u64 x220001_1, .int .i64 x220002_1, .int .i64 x220003_1, .bool x220004_1] 68 (0, 0)) (by (with_reducible repeat (first | refine blk_drewN ?_ _ | refine blk_drew ?_ | refine blk_alloc ?_ _)); exact BK221.out) hb)
   have n3_ := Aside0.mk (below_step (by repeat (first | (with_reducible first | exact HB.out | apply below_alloc | apply pw_below_drewN | apply below_drew1 | refine below_set ?_ GE219.out | refine below_set ?_ GE220.out | refine below_set ?_ GE221.out) | exact HB.out)) hb)
   clear BK219
   clear BK220
   clear BK221
   clear HB
   have BK219 := n0_
   have BK220 := n1_
   have BK221 := n2_
   have HB := n3_
   clear n0_ n1_ n2_ n3_
   (try clear hb)
   (try clear hb2)
   (try clear hk)
   (try clear hi)
   refine hK.out _ _ ⟨(blk_cell BK221.out 0).trans rfl, (blk_cell BK221.out 1).trans rfl, (blk_cell BK221.out 2).trans rfl, (blk_cell BK221.out 3).trans rfl, (blk_cell BK221.out 4).trans rfl⟩ (fun hHeld => ?_)
   clear hK K
   refine norm_ (a' := ?_) ?_ ?_
   rotate_left
   ·show Act.put _ (some 9) _ = _
    simp only [Act.put, List.setIfInBounds_toArray, List.set_cons_zero, List.set_cons_succ, i64_w, i32_w]
    rfl
   refine pure_ (i := 5) (N := some 10) (v := ?_) (a' := ?_) #[true, true, true, true, true, true, true, true, true, true, false, false, false, false, false, false] rfl rfl (any_of HT_.out (by kernel_rfl)) (fun _ _ _ h => h) (Or.inl ⟨by rfl, ?_⟩) ?_ ?_
   rotate_left
   ·intro w'
    go_simp
    with_reducible rfl
   rotate_left
   ·simp only [Act.put, List.setIfInBounds_toArray, List.set_cons_zero, List.set_cons_succ, i64_w, i32_w]
    rfl
   refine pure_ (i := 12) (N := some 17) (v := ?_) (a' := ?_) #[true, true, true, true, true, true, true, true, true, true, false, false, true, false, false, false] rfl rfl (any_of HT_.out (by kernel_rfl)) (fun _ _ _ h => h) (Or.inl ⟨by rfl, ?_⟩) ?_ ?_
   rotate_left
   ·intro w'
    go_simp
    with_reducible rfl
   rotate_left
   ·simp only [Act.put, List.setIfInBounds_toArray, List.set_cons_zero, List.set_cons_succ, i64_w, i32_w]
    rfl
   refine one_ (i := 10) (N := some 15) #[true, true, true, true, true, true, true, true, true, true, true, false, true, false, false, false] rfl rfl (one_of HT_.out (by kernel_rfl)) (by decide) (fun K hK => ?_)
   refine goes_ Try.func48 (by kernel_rfl) rfl #[.int .u64 x220001_1] (by rfl) rfl rfl (by (try simp only [List.map_toArray, List.map_cons, List.map_nil]); first | done | rfl | (simp only [List.length_drop, List.length_take]; rfl)) ?_
   with_reducible refine (manystrandref07_size.calls k1 x220001_1 t223 _ A6.out).mono ?_
   rintro e w18 ⟨rfl, hb⟩
   refine ⟨_, rfl, ?_⟩
   have n0_ := Aside0.mk (blk_below (g := gb219) (o := .cells #[.int .u64 x220000_1, .int .u64 x220001_1, .int .i64 x220002_1, .int .i64 x220003_1, .bool x220004_1] 68 (0, 0)) (by (with_reducible repeat (first | refine blk_drewN ?_ _ | refine blk_drew ?_ | refine blk_alloc ?_ _)); exact BK219.out) hb)
   have n1_ := Aside0.mk (blk_below (g := gb220) (o := .cells #[.int .u64 x221000_1, .int .u64 x221001_1, .int .i64 x221002_1, .int .i64 x221003_1, .bool x221004_1] 68 (0, 0)) (by (with_reducible repeat (first | refine blk_drewN ?_ _ | refine blk_drew ?_ | refine blk_alloc ?_ _)); exact BK220.out) hb)
   have n2_ := Aside0.mk (blk_below (g := gb221) (o := .cells #[.int .u64 x220000_1, .int .u64 x220001_1, .int .i64 x220002_1, .int .i64 x220003_1, .bool x220004_1] 68 (0, 0)) (by (with_reducible repeat (first | refine blk_drewN ?_ _ | refine blk_drew ?_ | refine blk_alloc ?_ _)); exact BK221.out) hb)
   have n3_ := Aside0.mk (below_step (by repeat (first | (with_reducible first | exact HB.out | apply below_alloc | apply pw_below_drewN | apply below_drew1 | refine below_set ?_ GE219.out | refine below_set ?_ GE220.out | refine below_set ?_ GE221.out) | exact HB.out)) hb)
   clear BK219
   clear BK220
   clear BK221
   clear HB
   have BK219 := n0_
   have BK220 := n1_
   have BK221 := n2_
   have HB := n3_
   clear n0_ n1_ n2_ n3_
   (try clear hb)
   (try clear hb2)
   (try clear hk)
   (try clear hi)
   refine hK.out _ _ ⟨(blk_cell BK221.out 0).trans rfl, (blk_cell BK221.out 1).trans rfl, (blk_cell BK221.out 2).trans rfl, (blk_cell BK221.out 3).trans rfl, (blk_cell BK221.out 4).trans rfl⟩ (fun hHeld => ?_)
   clear hK K
   refine norm_ (a' := ?_) ?_ ?_
   rotate_left
   ·show Act.put _ (some 15) _ = _
    simp only [Act.put, List.setIfInBounds_toArray, List.set_cons_zero, List.set_cons_succ, i64_w, i32_w]
    rfl
   refine pure_ (i := 11) (N := some 16) (v := ?_) (a' := ?_) #[true, true, true, true, true, true, true, true, true, true, true, true, true, false, false, false] rfl rfl (any_of HT_.out (by kernel_rfl)) (fun _ _ _ h => h) (Or.inl ⟨by rfl, ?_⟩) ?_ ?_
   rotate_left
   ·intro w'
    go_simp
    with_reducible rfl
   rotate_left
   ·simp only [Act.put, List.setIfInBounds_toArray, List.set_cons_zero, List.set_cons_succ, i64_w, i32_w]
    rfl
   refine last_ (i := 13) (N := none) #[true, true, true, true, true, true, true, true, true, true, true, true, true, true, false, false] rfl rfl (one_of HT_.out (by kernel_rfl)) (by decide) (fun K hK => ?_)
   have hs19 : w18.cell? ⟨gb221, 2, none⟩ = some (.int .i64 x220002_1) := (blk_cell BK221.out 2).trans rfl
   have hfs19 := blk_frozen BK221.out 2
   have hns19_0 := NB219_221.out
   have hns19_1 := NB220_221.out
   have hms19_0 := NB221_219.out
   have hms19_1 := NB221_220.out
   refine skip_ (w1 := ?_) (by rfl) rfl ?_ ?_
   rotate_left
   ·go_simp
    rfl
   refine hK.out _ _ ?_
   clear hK K
   refine pure_ (i := 14) (N := some 18) (v := ?_) (a' := ?_) #[true, true, true, true, true, true, true, true, true, true, true, true, true, true, true, false] rfl rfl (any_of HT_.out (by kernel_rfl)) (fun _ _ _ h => h) (Or.inl ⟨by rfl, ?_⟩) ?_ ?_
   rotate_left
   ·intro w'
    go_simp
    with_reducible rfl
   rotate_left
   ·simp only [Act.put, List.setIfInBounds_toArray, List.set_cons_zero, List.set_cons_succ, i64_w, i32_w]
    rfl
   refine last_ (i := 15) (N := none) #[true, true, true, true, true, true, true, true, true, true, true, true, true, true, true, true] rfl rfl (one_of HT_.out (by kernel_rfl)) (by decide) (fun K hK => ?_)
   have hs20 : w18.cell? ⟨gb221, 3, none⟩ = some (.int .i64 x220003_1) := (blk_cell BK221.out 3).trans rfl
   have hfs20 := blk_frozen BK221.out 3
   have hns20_0 := NB219_221.out
   have hns20_1 := NB220_221.out
   have hms20_0 := NB221_219.out
   have hms20_1 := NB221_220.out
   refine skip_ (w1 := ?_) (by rfl) rfl ?_ ?_
   rotate_left
   ·go_simp
    rfl
   refine hK.out _ _ ?_
   clear hK K
   refine done_ (done_of HT_.out (by kernel_rfl)) ?_
   go_upto_region 3 with (fail)
   go_cut [35] (fun v35 wc => ∃ (kq : Nat) (x35_7 : Bool), v35 = .bool x35_7 ∧ Aside0 (manystrandref07_normal.j1 kq x35_7 x220000_1 x220001_1 x220002_1 x220003_1 x220004_1 x220000_1 x220001_1 ji5 ji7 x220004_1 = some (r1, r2, r3, r4, r5)) ∧ Aside0 (kq ≤ k1) ∧ Aside0 (wc.heap[gb219]? = some (.cells #[.int .u64 x220000_1, .int .u64 x220001_1, .int .i64 x220002_1, .int .i64 x220003_1, .bool x220004_1] 68 (0, 0))) ∧ Aside0 (wc.heap[gb220]? = some (.cells #[.int .u64 x221000_1, .int .u64 x221001_1, .int .i64 x221002_1, .int .i64 x221003_1, .bool x221004_1] 68 (0, 0))) ∧ Aside0 (wc.heap[gb221]? = some (.cells #[.int .u64 x220000_1, .int .u64 x220001_1, .int .i64 ji5, .int .i64 ji7, .bool x220004_1] 68 (0, 0))) ∧ Aside0 (Below w.heap.size w wc))
   case first =>
    have H := HC8.out
    clear HC8
    by_cases c21 : x220004_1 = true
    ·subst c21
     have H1 : (manystrandref07_normal.j1 k1 true x220000_1 x220001_1 x220002_1 x220003_1 true x220000_1 x220001_1 ji5 ji7 true) = some (r1, r2, r3, r4, r5) := by rw [if_pos rfl] at H; exact H
     clear H
     have H := H1
     clear H1
     have H' := Aside0.mk H
     clear H
     have hnb22 := NB221_219.out
     have hnc22 := NB219_221.out
     have hnb23 := NB221_220.out
     have hnc23 := NB220_221.out
     have hcz24_0 : w18.cell? ⟨gb221, 0, none⟩ = some (.int .u64 x220000_1) := (blk_cell BK221.out 0).trans rfl
     have hcz24_1 : w18.cell? ⟨gb221, 1, none⟩ = some (.int .u64 x220001_1) := (blk_cell BK221.out 1).trans rfl
     have hcz24_2 : w18.cell? ⟨gb221, 2, none⟩ = some (.int .i64 x220002_1) := (blk_cell BK221.out 2).trans rfl
     have hcz24_3 : w18.cell? ⟨gb221, 3, none⟩ = some (.int .i64 x220003_1) := (blk_cell BK221.out 3).trans rfl
     have hcz24_4 : w18.cell? ⟨gb221, 4, none⟩ = some (.bool true) := (blk_cell BK221.out 4).trans rfl
     have hfz24_0 := blk_frozen BK221.out 0
     have hfz24_1 := blk_frozen BK221.out 1
     have hfz24_2 := blk_frozen BK221.out 2
     have hfz24_3 := blk_frozen BK221.out 3
     have hfz24_4 := blk_frozen BK221.out 4
     go_wp2
     go_meet
     case rel => exact ⟨_, (true), (by first | rfl | (simp; done) | (simp [*]; done)), H', ⟨by have := HK1.out; first | omega | exact Nat.le_refl _⟩, ⟨by (with_reducible repeat (first | refine blk_drewN ?_ _ | refine blk_drew ?_ | refine blk_alloc ?_ _)); refine blk_far ?_ NB219_221.out _; (with_reducible repeat (first | refine blk_drewN ?_ _ | refine blk_drew ?_ | refine blk_alloc ?_ _)); refine blk_far ?_ NB219_221.out _; (with_reducible repeat (first | refine blk_drewN ?_ _ | refine blk_drew ?_ | refine blk_alloc ?_ _)); exact BK219.out⟩, ⟨by (with_reducible repeat (first | refine blk_drewN ?_ _ | refine blk_drew ?_ | refine blk_alloc ?_ _)); refine blk_far ?_ NB220_221.out _; (with_reducible repeat (first | refine blk_drewN ?_ _ | refine blk_drew ?_ | refine blk_alloc ?_ _)); refine blk_far ?_ NB220_221.out _; (with_reducible repeat (first | refine blk_drewN ?_ _ | refine blk_drew ?_ | refine blk_alloc ?_ _)); exact BK220.out⟩, ⟨by (with_reducible repeat (first | refine blk_drewN ?_ _ | refine blk_drew ?_ | refine blk_alloc ?_ _)); refine blk_put (cs := #[.int .u64 x220000_1, .int .u64 x220001_1, .int .i64 ji5, .int .i64 x220003_1, .bool true]) ?_ 3 _ rfl; (with_reducible repeat (first | refine blk_drewN ?_ _ | refine blk_drew ?_ | refine blk_alloc ?_ _)); refine blk_put (cs := #[.int .u64 x220000_1, .int .u64 x220001_1, .int .i64 x220002_1, .int .i64 x220003_1, .bool true]) ?_ 2 _ rfl; (with_reducible repeat (first | refine blk_drewN ?_ _ | refine blk_drew ?_ | refine blk_alloc ?_ _)); exact BK221.out⟩, ⟨by repeat (first | (with_reducible first | exact HB.out | apply below_alloc | apply pw_below_drewN | apply below_drew1 | refine below_set ?_ GE219.out | refine below_set ?_ GE220.out | refine below_set ?_ GE221.out) | exact HB.out)⟩⟩
    ·replace c21 := Bool.eq_false_iff.mpr c21
     subst c21
     have H1 : (if (Go.bits .andNot .u64 x220000_1 x220001_1) = 0 then (manystrandref07_normal.j1 k1 (decide ((ji5) > (ji7))) x220000_1 x220001_1 x220002_1 x220003_1 false x220000_1 x220001_1 ji5 ji7 false) else (manystrandref07_normal.j1 k1 true x220000_1 x220001_1 x220002_1 x220003_1 false x220000_1 x220001_1 ji5 ji7 false)) = some (r1, r2, r3, r4, r5) := by rw [if_neg (show ¬ (false = true) by decide)] at H; exact H
     clear H
     have H := H1
     clear H1
     by_cases c25 : (Go.bits .andNot .u64 x220000_1 x220001_1) = 0
     ·rw [if_pos c25] at H
      have c25b0 : ((Go.bits .andNot .u64 x220000_1 x220001_1) == 0) = true := beq_iff_eq.mpr c25
      have c25b1 : ((Go.bits .andNot .u64 x220000_1 x220001_1) != 0) = false := bne_eq_false_iff_eq.mpr c25
      clear c25
      (first | rw [c25b0] | (simp only [i64_w, i32_w]; rw [c25b0]) | skip)
      have H' := Aside0.mk H
      clear H
      have hnb26 := NB221_219.out
      have hnc26 := NB219_221.out
      have hnb27 := NB221_220.out
      have hnc27 := NB220_221.out
      have hcz28_0 : w18.cell? ⟨gb221, 0, none⟩ = some (.int .u64 x220000_1) := (blk_cell BK221.out 0).trans rfl
      have hcz28_1 : w18.cell? ⟨gb221, 1, none⟩ = some (.int .u64 x220001_1) := (blk_cell BK221.out 1).trans rfl
      have hcz28_2 : w18.cell? ⟨gb221, 2, none⟩ = some (.int .i64 x220002_1) := (blk_cell BK221.out 2).trans rfl
      have hcz28_3 : w18.cell? ⟨gb221, 3, none⟩ = some (.int .i64 x220003_1) := (blk_cell BK221.out 3).trans rfl
      have hcz28_4 : w18.cell? ⟨gb221, 4, none⟩ = some (.bool false) := (blk_cell BK221.out 4).trans rfl
      have hfz28_0 := blk_frozen BK221.out 0
      have hfz28_1 := blk_frozen BK221.out 1
      have hfz28_2 := blk_frozen BK221.out 2
      have hfz28_3 := blk_frozen BK221.out 3
      have hfz28_4 := blk_frozen BK221.out 4
      go_wp2
      go_meet
      case rel => exact ⟨_, (decide ((ji5) > (ji7))), (by first | rfl | (simp; done) | (simp only [← hji5, ← hji7] <;> (first | rfl | simp); done) | (simp [*]; done)), H', ⟨by have := HK1.out; first | omega | exact Nat.le_refl _⟩, ⟨by (with_reducible repeat (first | refine blk_drewN ?_ _ | refine blk_drew ?_ | refine blk_alloc ?_ _)); refine blk_far ?_ NB219_221.out _; (with_reducible repeat (first | refine blk_drewN ?_ _ | refine blk_drew ?_ | refine blk_alloc ?_ _)); refine blk_far ?_ NB219_221.out _; (with_reducible repeat (first | refine blk_drewN ?_ _ | refine blk_drew ?_ | refine blk_alloc ?_ _)); exact BK219.out⟩, ⟨by (with_reducible repeat (first | refine blk_drewN ?_ _ | refine blk_drew ?_ | refine blk_alloc ?_ _)); refine blk_far ?_ NB220_221.out _; (with_reducible repeat (first | refine blk_drewN ?_ _ | refine blk_drew ?_ | refine blk_alloc ?_ _)); refine blk_far ?_ NB220_221.out _; (with_reducible repeat (first | refine blk_drewN ?_ _ | refine blk_drew ?_ | refine blk_alloc ?_ _)); exact BK220.out⟩, ⟨by (with_reducible repeat (first | refine blk_drewN ?_ _ | refine blk_drew ?_ | refine blk_alloc ?_ _)); refine blk_put (cs := #[.int .u64 x220000_1, .int .u64 x220001_1, .int .i64 ji5, .int .i64 x220003_1, .bool false]) ?_ 3 _ rfl; (with_reducible repeat (first | refine blk_drewN ?_ _ | refine blk_drew ?_ | refine blk_alloc ?_ _)); refine blk_put (cs := #[.int .u64 x220000_1, .int .u64 x220001_1, .int .i64 x220002_1, .int .i64 x220003_1, .bool false]) ?_ 2 _ rfl; (with_reducible repeat (first | refine blk_drewN ?_ _ | refine blk_drew ?_ | refine blk_alloc ?_ _)); exact BK221.out⟩, ⟨by repeat (first | (with_reducible first | exact HB.out | apply below_alloc | apply pw_below_drewN | apply below_drew1 | refine below_set ?_ GE219.out | refine below_set ?_ GE220.out | refine below_set ?_ GE221.out) | exact HB.out)⟩⟩
     ·rw [if_neg c25] at H
      have c25b0 : ((Go.bits .andNot .u64 x220000_1 x220001_1) == 0) = false := beq_eq_false_iff_ne.mpr c25
      have c25b1 : ((Go.bits .andNot .u64 x220000_1 x220001_1) != 0) = true := bne_iff_ne.mpr c25
      (first | rw [c25b0] | (simp only [i64_w, i32_w]; rw [c25b0]) | skip)
      have H' := Aside0.mk H
      clear H
      have hnb29 := NB221_219.out
      have hnc29 := NB219_221.out
      have hnb30 := NB221_220.out
      have hnc30 := NB220_221.out
      have hcz31_0 : w18.cell? ⟨gb221, 0, none⟩ = some (.int .u64 x220000_1) := (blk_cell BK221.out 0).trans rfl
      have hcz31_1 : w18.cell? ⟨gb221, 1, none⟩ = some (.int .u64 x220001_1) := (blk_cell BK221.out 1).trans rfl
      have hcz31_2 : w18.cell? ⟨gb221, 2, none⟩ = some (.int .i64 x220002_1) := (blk_cell BK221.out 2).trans rfl
      have hcz31_3 : w18.cell? ⟨gb221, 3, none⟩ = some (.int .i64 x220003_1) := (blk_cell BK221.out 3).trans rfl
      have hcz31_4 : w18.cell? ⟨gb221, 4, none⟩ = some (.bool false) := (blk_cell BK221.out 4).trans rfl
      have hfz31_0 := blk_frozen BK221.out 0
      have hfz31_1 := blk_frozen BK221.out 1
      have hfz31_2 := blk_frozen BK221.out 2
      have hfz31_3 := blk_frozen BK221.out 3
      have hfz31_4 := blk_frozen BK221.out 4
      go_wp2
      go_meet
      case rel => exact ⟨_, (true), (by first | rfl | (simp; done) | (simp [*]; done)), H', ⟨by have := HK1.out; first | omega | exact Nat.le_refl _⟩, ⟨by (with_reducible repeat (first | refine blk_drewN ?_ _ | refine blk_drew ?_ | refine blk_alloc ?_ _)); refine blk_far ?_ NB219_221.out _; (with_reducible repeat (first | refine blk_drewN ?_ _ | refine blk_drew ?_ | refine blk_alloc ?_ _)); refine blk_far ?_ NB219_221.out _; (with_reducible repeat (first | refine blk_drewN ?_ _ | refine blk_drew ?_ | refine blk_alloc ?_ _)); exact BK219.out⟩, ⟨by (with_reducible repeat (first | refine blk_drewN ?_ _ | refine blk_drew ?_ | refine blk_alloc ?_ _)); refine blk_far ?_ NB220_221.out _; (with_reducible repeat (first | refine blk_drewN ?_ _ | refine blk_drew ?_ | refine blk_alloc ?_ _)); refine blk_far ?_ NB220_221.out _; (with_reducible repeat (first | refine blk_drewN ?_ _ | refine blk_drew ?_ | refine blk_alloc ?_ _)); exact BK220.out⟩, ⟨by (with_reducible repeat (first | refine blk_drewN ?_ _ | refine blk_drew ?_ | refine blk_alloc ?_ _)); refine blk_put (cs := #[.int .u64 x220000_1, .int .u64 x220001_1, .int .i64 ji5, .int .i64 x220003_1, .bool false]) ?_ 3 _ rfl; (with_reducible repeat (first | refine blk_drewN ?_ _ | refine blk_drew ?_ | refine blk_alloc ?_ _)); refine blk_put (cs := #[.int .u64 x220000_1, .int .u64 x220001_1, .int .i64 x220002_1, .int .i64 x220003_1, .bool false]) ?_ 2 _ rfl; (with_reducible repeat (first | refine blk_drewN ?_ _ | refine blk_drew ?_ | refine blk_alloc ?_ _)); exact BK221.out⟩, ⟨by repeat (first | (with_reducible first | exact HB.out | apply below_alloc | apply pw_below_drewN | apply below_drew1 | refine below_set ?_ GE219.out | refine below_set ?_ GE220.out | refine below_set ?_ GE221.out) | exact HB.out)⟩⟩
   case rest =>
    clear HC8
    try clear c1
    try clear c2
    try clear p2
    try clear c3
    try clear c4
    try clear c9
    try clear c12
    try clear c13
    try clear c21
    try clear c22
    try clear c23
    try clear c25
    try clear c25b0
    try clear c25b1
    try clear c26
    try clear c27
    try clear c29
    try clear c30
    try clear hcz10_0
    try clear hcz10_1
    try clear hcz10_2
    try clear hcz10_3
    try clear hcz10_4
    try clear hcz14_0
    try clear hcz14_1
    try clear hcz14_2
    try clear hcz14_3
    try clear hcz14_4
    try clear hcz24_0
    try clear hcz24_1
    try clear hcz24_2
    try clear hcz24_3
    try clear hcz24_4
    try clear hcz28_0
    try clear hcz28_1
    try clear hcz28_2
    try clear hcz28_3
    try clear hcz28_4
    try clear hcz31_0
    try clear hcz31_1
    try clear hcz31_2
    try clear hcz31_3
    try clear hcz31_4
    try clear hfz10_0
    try clear hfz10_1
    try clear hfz10_2
    try clear hfz10_3
    try clear hfz10_4
    try clear hfz14_0
    try clear hfz14_1
    try clear hfz14_2
    try clear hfz14_3
    try clear hfz14_4
    try clear hfz24_0
    try clear hfz24_1
    try clear hfz24_2
    try clear hfz24_3
    try clear hfz24_4
    try clear hfz28_0
    try clear hfz28_1
    try clear hfz28_2
    try clear hfz28_3
    try clear hfz28_4
    try clear hfz31_0
    try clear hfz31_1
    try clear hfz31_2
    try clear hfz31_3
    try clear hfz31_4
    try clear p2
    obtain ⟨kq, x35_7, rfl, HA, HJ7, BK219, BK220, BK221, HB⟩ := hcut
    cases kq with
    | zero => exact absurd HA.out (by simp [manystrandref07_normal.j1])
    | succ kj7 =>
     have H := HA.out
     clear HA
     simp only [manystrandref07_normal.j1] at H
     by_cases c32 : x35_7 = true
     ·subst c32
      have H1 : (some (0, 0, 0, 0, true)) = some (r1, r2, r3, r4, r5) := by rw [if_pos rfl] at H; exact H
      clear H
      have H := H1
      clear H1
      simp only [Option.some.injEq, Prod.mk.injEq] at H
      obtain ⟨rfl, rfl, rfl, rfl, rfl⟩ := H
      have hnb33 := NB220_219.out
      have hnc33 := NB219_220.out
      have hnb34 := NB220_221.out
      have hnc34 := NB221_220.out
      have hcz35_0 : wc.cell? ⟨gb220, 0, none⟩ = some (.int .u64 x221000_1) := (blk_cell BK220.out 0).trans rfl
      have hcz35_1 : wc.cell? ⟨gb220, 1, none⟩ = some (.int .u64 x221001_1) := (blk_cell BK220.out 1).trans rfl
      have hcz35_2 : wc.cell? ⟨gb220, 2, none⟩ = some (.int .i64 x221002_1) := (blk_cell BK220.out 2).trans rfl
      have hcz35_3 : wc.cell? ⟨gb220, 3, none⟩ = some (.int .i64 x221003_1) := (blk_cell BK220.out 3).trans rfl
      have hcz35_4 : wc.cell? ⟨gb220, 4, none⟩ = some (.bool x221004_1) := (blk_cell BK220.out 4).trans rfl
      have hfz35_0 := blk_frozen BK220.out 0
      have hfz35_1 := blk_frozen BK220.out 1
      have hfz35_2 := blk_frozen BK220.out 2
      have hfz35_3 := blk_frozen BK220.out 3
      have hfz35_4 := blk_frozen BK220.out 4
      go_wp2
      refine bodyPost_ret (results_cell_row rfl _ _ gb220 68 #[.int .u64 0, .int .u64 0, .int .i64 0, .int .i64 0, .bool true] (0, 0) _ rfl (by (with_reducible repeat (first | refine blk_drewN ?_ _ | refine blk_drew ?_ | refine blk_alloc ?_ _)); refine blk_put (cs := #[.int .u64 0, .int .u64 0, .int .i64 0, .int .i64 0, .bool x221004_1]) ?_ 4 _ rfl; (with_reducible repeat (first | refine blk_drewN ?_ _ | refine blk_drew ?_ | refine blk_alloc ?_ _)); refine blk_put (cs := #[.int .u64 0, .int .u64 0, .int .i64 0, .int .i64 x221003_1, .bool x221004_1]) ?_ 3 _ rfl; (with_reducible repeat (first | refine blk_drewN ?_ _ | refine blk_drew ?_ | refine blk_alloc ?_ _)); refine blk_put (cs := #[.int .u64 0, .int .u64 0, .int .i64 x221002_1, .int .i64 x221003_1, .bool x221004_1]) ?_ 2 _ rfl; (with_reducible repeat (first | refine blk_drewN ?_ _ | refine blk_drew ?_ | refine blk_alloc ?_ _)); refine blk_put (cs := #[.int .u64 0, .int .u64 x221001_1, .int .i64 x221002_1, .int .i64 x221003_1, .bool x221004_1]) ?_ 1 _ rfl; (with_reducible repeat (first | refine blk_drewN ?_ _ | refine blk_drew ?_ | refine blk_alloc ?_ _)); refine blk_put (cs := #[.int .u64 x221000_1, .int .u64 x221001_1, .int .i64 x221002_1, .int .i64 x221003_1, .bool x221004_1]) ?_ 0 _ rfl; (with_reducible repeat (first | refine blk_drewN ?_ _ | refine blk_drew ?_ | refine blk_alloc ?_ _)); exact BK220.out) Try.underlying68 rfl (by kernel_rfl)) rfl ?_
      exact ⟨by first | rfl | (simp [errW_none, errW_some] <;> rfl) | (simp only [← hji5, ← hji7]; first | rfl | (simp [errW_none, errW_some] <;> rfl)) | (simp [*, errW_none, errW_some] <;> rfl) | (simp [errW_none, errW_some]; exact Go.Proofs.YtgfbgfbnmiainaaW.OwnWords.isEmpty_bne _), by repeat (first | (with_reducible first | exact HB.out | apply below_alloc | apply pw_below_drewN | apply below_drew1 | refine below_set ?_ GE219.out | refine below_set ?_ GE220.out | refine below_set ?_ GE221.out) | exact HB.out)⟩
     ·replace c32 := Bool.eq_false_iff.mpr c32
      subst c32
      have H1 : ((manystrandref07_size.f kj7 x220001_1).bind fun t224 => (if ji5 = t224 then (manystrandref07_normal.j2 kj7 x220000_1 x220001_1 x220002_1 x220003_1 x220004_1 x220001_1 x220001_1 ji5 ji7 x220004_1) else (manystrandref07_normal.j2 kj7 x220000_1 x220001_1 x220002_1 x220003_1 x220004_1 x220000_1 x220001_1 ji5 ji7 x220004_1))) = some (r1, r2, r3, r4, r5) := by rw [if_neg (show ¬ (false = true) by decide)] at H; exact H
      clear H
      have H := H1
      clear H1
      replace H := Option.bind_eq_some_iff.mp H
      obtain ⟨t224, A360, H⟩ := H
      replace H : (if ji5 = t224 then (manystrandref07_normal.j2 kj7 x220000_1 x220001_1 x220002_1 x220003_1 x220004_1 x220001_1 x220001_1 ji5 ji7 x220004_1) else (manystrandref07_normal.j2 kj7 x220000_1 x220001_1 x220002_1 x220003_1 x220004_1 x220000_1 x220001_1 ji5 ji7 x220004_1)) = some (r1, r2, r3, r4, r5) := H
      have A36 := Aside0.mk A360
      clear A360
      have HC37 := Aside0.mk H
      clear H
      try go_wp2
      have n0_ := Aside0.mk (blk_drew BK219.out)
      have n1_ := Aside0.mk (blk_drew BK220.out)
      have n2_ := Aside0.mk (blk_drew BK221.out)
      have n3_ := Aside0.mk (below_drew1 HB.out)
      clear BK219
      clear BK220
      clear BK221
      clear HB
      have BK219 := n0_
      have BK220 := n1_
      have BK221 := n2_
      have HB := n3_
      clear n0_ n1_ n2_ n3_
      refine start_ (n := 6) (S := fun w' => w'.cell? ⟨gb221, 0, none⟩ = some (.int .u64 x220000_1) ∧ w'.cell? ⟨gb221, 1, none⟩ = some (.int .u64 x220001_1) ∧ w'.cell? ⟨gb221, 2, none⟩ = some (.int .i64 ji5) ∧ w'.cell? ⟨gb221, 3, none⟩ = some (.int .i64 ji7) ∧ w'.cell? ⟨gb221, 4, none⟩ = some (.bool x220004_1)) (ds := []) #[false, false, false, false, false, false] (by kernel_rfl) rfl rfl ⟨(blk_cell BK221.out 0).trans rfl, (blk_cell BK221.out 1).trans rfl, (blk_cell BK221.out 2).trans rfl, (blk_cell BK221.out 3).trans rfl, (blk_cell BK221.out 4).trans rfl⟩ (fun hHeld => ?_)
      generalize wc.drew = w38 at BK219 BK220 BK221 HB hHeld ⊢
      refine pure_ (i := 0) (N := some 37) (v := ?_) (a' := ?_) #[true, false, false, false, false, false] rfl rfl (by kernel_rfl) (fun _ _ _ h => h) (Or.inl ⟨by rfl, ?_⟩) ?_ ?_
      rotate_left
      ·intro w'
       go_simp
       with_reducible rfl
      rotate_left
      ·simp only [Act.put, List.setIfInBounds_toArray, List.set_cons_zero, List.set_cons_succ, i64_w, i32_w]
       rfl
      refine pure_ (i := 2) (N := some 39) (v := ?_) (a' := ?_) #[true, false, true, false, false, false] rfl rfl (by kernel_rfl) (fun _ _ _ h => h) (Or.inl ⟨by rfl, ?_⟩) ?_ ?_
      rotate_left
      ·intro w'
       go_simp
       with_reducible rfl
      rotate_left
      ·simp only [Act.put, List.setIfInBounds_toArray, List.set_cons_zero, List.set_cons_succ, i64_w, i32_w]
       rfl
      refine take_ (i := 1) (N := some 38) (v := ?_) (a' := ?_) #[true, true, true, false, false, false] rfl rfl (by kernel_rfl) (fun _ _ _ h => h) (Or.inl ⟨by rfl, ?_⟩) hHeld ?_ ?_
      rotate_left
      ·rintro w' ⟨s0, s1, s2, s3, s4⟩
       go_simp
       with_reducible rfl
      rotate_left
      ·simp only [Act.put, List.setIfInBounds_toArray, List.set_cons_zero, List.set_cons_succ, i64_w, i32_w]
       rfl
      refine take_ (i := 3) (N := some 40) (v := ?_) (a' := ?_) #[true, true, true, true, false, false] rfl rfl (by kernel_rfl) (fun _ _ _ h => h) (Or.inl ⟨by rfl, ?_⟩) hHeld ?_ ?_
      rotate_left
      ·rintro w' ⟨s0, s1, s2, s3, s4⟩
       go_simp
       with_reducible rfl
      rotate_left
      ·simp only [Act.put, List.setIfInBounds_toArray, List.set_cons_zero, List.set_cons_succ, i64_w, i32_w]
       rfl
      refine one_ (i := 4) (N := some 41) #[true, true, true, true, true, false] rfl rfl (by kernel_rfl) (by decide) (fun K hK => ?_)
      refine goes_ Try.func48 (by kernel_rfl) rfl #[.int .u64 x220001_1] (by rfl) rfl rfl (by (try simp only [List.map_toArray, List.map_cons, List.map_nil]); first | done | rfl | (simp only [List.length_drop, List.length_take]; rfl)) ?_
      with_reducible refine (manystrandref07_size.calls kj7 x220001_1 t224 _ A36.out).mono ?_
      rintro e w39 ⟨rfl, hb⟩
      refine ⟨_, rfl, ?_⟩
      have n0_ := Aside0.mk (blk_below (g := gb219) (o := .cells #[.int .u64 x220000_1, .int .u64 x220001_1, .int .i64 x220002_1, .int .i64 x220003_1, .bool x220004_1] 68 (0, 0)) (by (with_reducible repeat (first | refine blk_drewN ?_ _ | refine blk_drew ?_ | refine blk_alloc ?_ _)); exact BK219.out) hb)
      have n1_ := Aside0.mk (blk_below (g := gb220) (o := .cells #[.int .u64 x221000_1, .int .u64 x221001_1, .int .i64 x221002_1, .int .i64 x221003_1, .bool x221004_1] 68 (0, 0)) (by (with_reducible repeat (first | refine blk_drewN ?_ _ | refine blk_drew ?_ | refine blk_alloc ?_ _)); exact BK220.out) hb)
      have n2_ := Aside0.mk (blk_below (g := gb221) (o := .cells #[.int .u64 x220000_1, .int .u64 x220001_1, .int .i64 ji5, .int .i64 ji7, .bool x220004_1] 68 (0, 0)) (by (with_reducible repeat (first | refine blk_drewN ?_ _ | refine blk_drew ?_ | refine blk_alloc ?_ _)); exact BK221.out) hb)
      have n3_ := Aside0.mk (below_step (by repeat (first | (with_reducible first | exact HB.out | apply below_alloc | apply pw_below_drewN | apply below_drew1 | refine below_set ?_ GE219.out | refine below_set ?_ GE220.out | refine below_set ?_ GE221.out) | exact HB.out)) hb)
      clear BK219
      clear BK220
      clear BK221
      clear HB
      have BK219 := n0_
      have BK220 := n1_
      have BK221 := n2_
      have HB := n3_
      clear n0_ n1_ n2_ n3_
      (try clear hb)
      (try clear hb2)
      (try clear hk)
      (try clear hi)
      refine hK.out _ _ ⟨(blk_cell BK221.out 0).trans rfl, (blk_cell BK221.out 1).trans rfl, (blk_cell BK221.out 2).trans rfl, (blk_cell BK221.out 3).trans rfl, (blk_cell BK221.out 4).trans rfl⟩ (fun hHeld => ?_)
      clear hK K
      refine norm_ (a' := ?_) ?_ ?_
      rotate_left
      ·show Act.put _ (some 41) _ = _
       simp only [Act.put, List.setIfInBounds_toArray, List.set_cons_zero, List.set_cons_succ, i64_w, i32_w]
       rfl
      refine pure_ (i := 5) (N := some 42) (v := ?_) (a' := ?_) #[true, true, true, true, true, true] rfl rfl (by kernel_rfl) (fun _ _ _ h => h) (Or.inl ⟨by rfl, ?_⟩) ?_ ?_
      rotate_left
      ·intro w'
       go_simp
       with_reducible rfl
      rotate_left
      ·simp only [Act.put, List.setIfInBounds_toArray, List.set_cons_zero, List.set_cons_succ, i64_w, i32_w]
       rfl
      refine done_ (by kernel_rfl) ?_
      go_upto_if 42 with (fail)
      go_cut [] (fun wc => ∃ (kq : Nat) (x222000_36 : Int), Aside0 (manystrandref07_normal.j2 kq x220000_1 x220001_1 x220002_1 x220003_1 x220004_1 x222000_36 x220001_1 ji5 ji7 x220004_1 = some (r1, r2, r3, r4, r5)) ∧ Aside0 (kq ≤ kj7) ∧ Aside0 (wc.heap[gb219]? = some (.cells #[.int .u64 x220000_1, .int .u64 x220001_1, .int .i64 x220002_1, .int .i64 x220003_1, .bool x220004_1] 68 (0, 0))) ∧ Aside0 (wc.heap[gb220]? = some (.cells #[.int .u64 x221000_1, .int .u64 x221001_1, .int .i64 x221002_1, .int .i64 x221003_1, .bool x221004_1] 68 (0, 0))) ∧ Aside0 (wc.heap[gb221]? = some (.cells #[.int .u64 x222000_36, .int .u64 x220001_1, .int .i64 ji5, .int .i64 ji7, .bool x220004_1] 68 (0, 0))) ∧ Aside0 (Below w.heap.size w wc))
      case first =>
       have H := HC37.out
       clear HC37
       by_cases c40 : ji5 = t224
       ·rw [if_pos c40] at H
        have c40b0 : (ji5 == t224) = true := beq_iff_eq.mpr c40
        have c40b1 : (ji5 != t224) = false := bne_eq_false_iff_eq.mpr c40
        clear c40
        (first | rw [c40b0] | (simp only [i64_w, i32_w]; rw [c40b0]) | skip)
        have H' := Aside0.mk H
        clear H
        have hnb41 := NB221_219.out
        have hnc41 := NB219_221.out
        have hnb42 := NB221_220.out
        have hnc42 := NB220_221.out
        have hcz43_0 : w39.cell? ⟨gb221, 0, none⟩ = some (.int .u64 x220000_1) := (blk_cell BK221.out 0).trans rfl
        have hcz43_1 : w39.cell? ⟨gb221, 1, none⟩ = some (.int .u64 x220001_1) := (blk_cell BK221.out 1).trans rfl
        have hcz43_2 : w39.cell? ⟨gb221, 2, none⟩ = some (.int .i64 ji5) := (blk_cell BK221.out 2).trans rfl
        have hcz43_3 : w39.cell? ⟨gb221, 3, none⟩ = some (.int .i64 ji7) := (blk_cell BK221.out 3).trans rfl
        have hcz43_4 : w39.cell? ⟨gb221, 4, none⟩ = some (.bool x220004_1) := (blk_cell BK221.out 4).trans rfl
        have hfz43_0 := blk_frozen BK221.out 0
        have hfz43_1 := blk_frozen BK221.out 1
        have hfz43_2 := blk_frozen BK221.out 2
        have hfz43_3 := blk_frozen BK221.out 3
        have hfz43_4 := blk_frozen BK221.out 4
        go_wp2
        go_meet
        case rel => exact ⟨_, (x220001_1), H', ⟨by have := HK1.out; have := HJ7.out; first | omega | exact Nat.le_refl _⟩, ⟨by (with_reducible repeat (first | refine blk_drewN ?_ _ | refine blk_drew ?_ | refine blk_alloc ?_ _)); refine blk_far ?_ NB219_221.out _; (with_reducible repeat (first | refine blk_drewN ?_ _ | refine blk_drew ?_ | refine blk_alloc ?_ _)); exact BK219.out⟩, ⟨by (with_reducible repeat (first | refine blk_drewN ?_ _ | refine blk_drew ?_ | refine blk_alloc ?_ _)); refine blk_far ?_ NB220_221.out _; (with_reducible repeat (first | refine blk_drewN ?_ _ | refine blk_drew ?_ | refine blk_alloc ?_ _)); exact BK220.out⟩, ⟨by (with_reducible repeat (first | refine blk_drewN ?_ _ | refine blk_drew ?_ | refine blk_alloc ?_ _)); refine blk_put (cs := #[.int .u64 x220000_1, .int .u64 x220001_1, .int .i64 ji5, .int .i64 ji7, .bool x220004_1]) ?_ 0 _ rfl; (with_reducible repeat (first | refine blk_drewN ?_ _ | refine blk_drew ?_ | refine blk_alloc ?_ _)); exact BK221.out⟩, ⟨by repeat (first | (with_reducible first | exact HB.out | apply below_alloc | apply pw_below_drewN | apply below_drew1 | refine below_set ?_ GE219.out | refine below_set ?_ GE220.out | refine below_set ?_ GE221.out) | exact HB.out)⟩⟩
       ·rw [if_neg c40] at H
        have c40b0 : (ji5 == t224) = false := beq_eq_false_iff_ne.mpr c40
        have c40b1 : (ji5 != t224) = true := bne_iff_ne.mpr c40
        (first | rw [c40b0] | (simp only [i64_w, i32_w]; rw [c40b0]) | skip)
        have H' := Aside0.mk H
        clear H
        go_wp2
        go_meet
        case rel => exact ⟨_, (x220000_1), H', ⟨by have := HK1.out; have := HJ7.out; first | omega | exact Nat.le_refl _⟩, ⟨by (with_reducible repeat (first | refine blk_drewN ?_ _ | refine blk_drew ?_ | refine blk_alloc ?_ _)); exact BK219.out⟩, ⟨by (with_reducible repeat (first | refine blk_drewN ?_ _ | refine blk_drew ?_ | refine blk_alloc ?_ _)); exact BK220.out⟩, ⟨by (with_reducible repeat (first | refine blk_drewN ?_ _ | refine blk_drew ?_ | refine blk_alloc ?_ _)); exact BK221.out⟩, ⟨by repeat (first | (with_reducible first | exact HB.out | apply below_alloc | apply pw_below_drewN | apply below_drew1 | refine below_set ?_ GE219.out | refine below_set ?_ GE220.out | refine below_set ?_ GE221.out) | exact HB.out)⟩⟩
      case rest =>
       clear HC37
       try clear c1
       try clear c2
       try clear p2
       try clear c3
       try clear c4
       try clear c9
       try clear c12
       try clear c13
       try clear c21
       try clear c22
       try clear c23
       try clear c25
       try clear c25b0
       try clear c25b1
       try clear c26
       try clear c27
       try clear c29
       try clear c30
       try clear c32
       try clear c33
       try clear c34
       try clear c40
       try clear c40b0
       try clear c40b1
       try clear c41
       try clear c42
       try clear hcz10_0
       try clear hcz10_1
       try clear hcz10_2
       try clear hcz10_3
       try clear hcz10_4
       try clear hcz14_0
       try clear hcz14_1
       try clear hcz14_2
       try clear hcz14_3
       try clear hcz14_4
       try clear hcz24_0
       try clear hcz24_1
       try clear hcz24_2
       try clear hcz24_3
       try clear hcz24_4
       try clear hcz28_0
       try clear hcz28_1
       try clear hcz28_2
       try clear hcz28_3
       try clear hcz28_4
       try clear hcz31_0
       try clear hcz31_1
       try clear hcz31_2
       try clear hcz31_3
       try clear hcz31_4
       try clear hcz35_0
       try clear hcz35_1
       try clear hcz35_2
       try clear hcz35_3
       try clear hcz35_4
       try clear hcz43_0
       try clear hcz43_1
       try clear hcz43_2
       try clear hcz43_3
       try clear hcz43_4
       try clear hfz10_0
       try clear hfz10_1
       try clear hfz10_2
       try clear hfz10_3
       try clear hfz10_4
       try clear hfz14_0
       try clear hfz14_1
       try clear hfz14_2
       try clear hfz14_3
       try clear hfz14_4
       try clear hfz24_0
       try clear hfz24_1
       try clear hfz24_2
       try clear hfz24_3
       try clear hfz24_4
       try clear hfz28_0
       try clear hfz28_1
       try clear hfz28_2
       try clear hfz28_3
       try clear hfz28_4
       try clear hfz31_0
       try clear hfz31_1
       try clear hfz31_2
       try clear hfz31_3
       try clear hfz31_4
       try clear hfz35_0
       try clear hfz35_1
       try clear hfz35_2
       try clear hfz35_3
       try clear hfz35_4
       try clear hfz43_0
       try clear hfz43_1
       try clear hfz43_2
       try clear hfz43_3
       try clear hfz43_4
       try clear p2
       obtain ⟨kq, x222000_36, HA, HJ36, BK219, BK220, BK221, HB⟩ := hcut
       cases kq with
       | zero => exact absurd HA.out (by simp [manystrandref07_normal.j2])
       | succ kj36 =>
        have H := HA.out
        clear HA
        simp only [manystrandref07_normal.j2] at H
        replace H := Option.bind_eq_some_iff.mp H
        obtain ⟨t225, A440, H⟩ := H
        replace H : (if ji7 = t225 then (if (x222000_36 == x220000_1 && (x222000_36 == x220001_1 && (ji5 == x220002_1 && (ji7 == x220003_1 && (x220004_1 == x220004_1))))) = true then (some (x220000_1, x220001_1, x220002_1, x220003_1, x220004_1)) else (manystrandref07_normal.l0 kj36 x222000_36 x222000_36 ji5 ji7 x220004_1)) else (if (x222000_36 == x220000_1 && (x220001_1 == x220001_1 && (ji5 == x220002_1 && (ji7 == x220003_1 && (x220004_1 == x220004_1))))) = true then (some (x220000_1, x220001_1, x220002_1, x220003_1, x220004_1)) else (manystrandref07_normal.l0 kj36 x222000_36 x220001_1 ji5 ji7 x220004_1))) = some (r1, r2, r3, r4, r5) := H
        have A44 := Aside0.mk A440
        clear A440
        by_cases c45 : ji7 = t225
        ·rw [if_pos c45] at H
         have c45b0 : (ji7 == t225) = true := beq_iff_eq.mpr c45
         have c45b1 : (ji7 != t225) = false := bne_eq_false_iff_eq.mpr c45
         clear c45
         by_cases c46 : (x222000_36 == x220000_1 && (x222000_36 == x220001_1 && (ji5 == x220002_1 && (ji7 == x220003_1 && (x220004_1 == x220004_1))))) = true
         ·rw [if_pos c46] at H
          have c46b0 : (x222000_36 == x220000_1 && (x222000_36 == x220001_1 && (ji5 == x220002_1 && (ji7 == x220003_1 && (x220004_1 == x220004_1))))) = true := c46
          try have c46z9 : (x222000_36 == x220000_1 && (x222000_36 == x220001_1 && (ji5 == x220002_1 && (ji7 == x220003_1)))) = true := by simpa using c46b0
          (try (have c46b1 : decide (x222000_36 = x220000_1 && (x222000_36 == x220001_1 && (ji5 == x220002_1 && (ji7 == x220003_1 && (x220004_1 == x220004_1))))) = true := by simpa using c46))
          (try (have c46b2 : (x222000_36 == x220000_1 && (x222000_36 == x220001_1 && (ji5 == x220002_1 && (ji7 == x220003_1 && (x220004_1 == x220004_1))))) = true := by simpa using c46))
          clear c46
          simp only [Option.some.injEq, Prod.mk.injEq] at H
          obtain ⟨rfl, rfl, rfl, rfl, rfl⟩ := H
          try go_wp2
          have n0_ := Aside0.mk (blk_drew BK219.out)
          have n1_ := Aside0.mk (blk_drew BK220.out)
          have n2_ := Aside0.mk (blk_drew BK221.out)
          have n3_ := Aside0.mk (below_drew1 HB.out)
          clear BK219
          clear BK220
          clear BK221
          clear HB
          have BK219 := n0_
          have BK220 := n1_
          have BK221 := n2_
          have HB := n3_
          clear n0_ n1_ n2_ n3_
          refine start_ (n := 6) (S := fun w' => w'.cell? ⟨gb221, 0, none⟩ = some (.int .u64 x222000_36) ∧ w'.cell? ⟨gb221, 1, none⟩ = some (.int .u64 x220001_1) ∧ w'.cell? ⟨gb221, 2, none⟩ = some (.int .i64 ji5) ∧ w'.cell? ⟨gb221, 3, none⟩ = some (.int .i64 ji7) ∧ w'.cell? ⟨gb221, 4, none⟩ = some (.bool x220004_1)) (ds := []) #[false, false, false, false, false, false] (by kernel_rfl) rfl rfl ⟨(blk_cell BK221.out 0).trans rfl, (blk_cell BK221.out 1).trans rfl, (blk_cell BK221.out 2).trans rfl, (blk_cell BK221.out 3).trans rfl, (blk_cell BK221.out 4).trans rfl⟩ (fun hHeld => ?_)
          generalize wc.drew = w47 at BK219 BK220 BK221 HB hHeld ⊢
          refine pure_ (i := 0) (N := some 46) (v := ?_) (a' := ?_) #[true, false, false, false, false, false] rfl rfl (by kernel_rfl) (fun _ _ _ h => h) (Or.inl ⟨by rfl, ?_⟩) ?_ ?_
          rotate_left
          ·intro w'
           go_simp
           with_reducible rfl
          rotate_left
          ·simp only [Act.put, List.setIfInBounds_toArray, List.set_cons_zero, List.set_cons_succ, i64_w, i32_w]
           rfl
          refine pure_ (i := 2) (N := some 48) (v := ?_) (a' := ?_) #[true, false, true, false, false, false] rfl rfl (by kernel_rfl) (fun _ _ _ h => h) (Or.inl ⟨by rfl, ?_⟩) ?_ ?_
          rotate_left
          ·intro w'
           go_simp
           with_reducible rfl
          rotate_left
          ·simp only [Act.put, List.setIfInBounds_toArray, List.set_cons_zero, List.set_cons_succ, i64_w, i32_w]
           rfl
          refine take_ (i := 1) (N := some 47) (v := ?_) (a' := ?_) #[true, true, true, false, false, false] rfl rfl (by kernel_rfl) (fun _ _ _ h => h) (Or.inl ⟨by rfl, ?_⟩) hHeld ?_ ?_
          rotate_left
          ·rintro w' ⟨s0, s1, s2, s3, s4⟩
           go_simp
           with_reducible rfl
          rotate_left
          ·simp only [Act.put, List.setIfInBounds_toArray, List.set_cons_zero, List.set_cons_succ, i64_w, i32_w]
           rfl
          refine take_ (i := 3) (N := some 49) (v := ?_) (a' := ?_) #[true, true, true, true, false, false] rfl rfl (by kernel_rfl) (fun _ _ _ h => h) (Or.inl ⟨by rfl, ?_⟩) hHeld ?_ ?_
          rotate_left
          ·rintro w' ⟨s0, s1, s2, s3, s4⟩
           go_simp
           with_reducible rfl
          rotate_left
          ·simp only [Act.put, List.setIfInBounds_toArray, List.set_cons_zero, List.set_cons_succ, i64_w, i32_w]
           rfl
          refine one_ (i := 4) (N := some 50) #[true, true, true, true, true, false] rfl rfl (by kernel_rfl) (by decide) (fun K hK => ?_)
          refine goes_ Try.func48 (by kernel_rfl) rfl #[.int .u64 x222000_36] (by rfl) rfl rfl (by (try simp only [List.map_toArray, List.map_cons, List.map_nil]); first | done | rfl | (simp only [List.length_drop, List.length_take]; rfl)) ?_
          with_reducible refine (manystrandref07_size.calls kj36 x222000_36 t225 _ A44.out).mono ?_
          rintro e w48 ⟨rfl, hb⟩
          refine ⟨_, rfl, ?_⟩
          have n0_ := Aside0.mk (blk_below (g := gb219) (o := .cells #[.int .u64 x220000_1, .int .u64 x220001_1, .int .i64 x220002_1, .int .i64 x220003_1, .bool x220004_1] 68 (0, 0)) (by (with_reducible repeat (first | refine blk_drewN ?_ _ | refine blk_drew ?_ | refine blk_alloc ?_ _)); exact BK219.out) hb)
          have n1_ := Aside0.mk (blk_below (g := gb220) (o := .cells #[.int .u64 x221000_1, .int .u64 x221001_1, .int .i64 x221002_1, .int .i64 x221003_1, .bool x221004_1] 68 (0, 0)) (by (with_reducible repeat (first | refine blk_drewN ?_ _ | refine blk_drew ?_ | refine blk_alloc ?_ _)); exact BK220.out) hb)
          have n2_ := Aside0.mk (blk_below (g := gb221) (o := .cells #[.int .u64 x222000_36, .int .u64 x220001_1, .int .i64 ji5, .int .i64 ji7, .bool x220004_1] 68 (0, 0)) (by (with_reducible repeat (first | refine blk_drewN ?_ _ | refine blk_drew ?_ | refine blk_alloc ?_ _)); exact BK221.out) hb)
          have n3_ := Aside0.mk (below_step (by repeat (first | (with_reducible first | exact HB.out | apply below_alloc | apply pw_below_drewN | apply below_drew1 | refine below_set ?_ GE219.out | refine below_set ?_ GE220.out | refine below_set ?_ GE221.out) | exact HB.out)) hb)
          clear BK219
          clear BK220
          clear BK221
          clear HB
          have BK219 := n0_
          have BK220 := n1_
          have BK221 := n2_
          have HB := n3_
          clear n0_ n1_ n2_ n3_
          (try clear hb)
          (try clear hb2)
          (try clear hk)
          (try clear hi)
          refine hK.out _ _ ⟨(blk_cell BK221.out 0).trans rfl, (blk_cell BK221.out 1).trans rfl, (blk_cell BK221.out 2).trans rfl, (blk_cell BK221.out 3).trans rfl, (blk_cell BK221.out 4).trans rfl⟩ (fun hHeld => ?_)
          clear hK K
          refine norm_ (a' := ?_) ?_ ?_
          rotate_left
          ·show Act.put _ (some 50) _ = _
           simp only [Act.put, List.setIfInBounds_toArray, List.set_cons_zero, List.set_cons_succ, i64_w, i32_w]
           rfl
          refine pure_ (i := 5) (N := some 51) (v := ?_) (a' := ?_) #[true, true, true, true, true, true] rfl rfl (by kernel_rfl) (fun _ _ _ h => h) (Or.inl ⟨by rfl, ?_⟩) ?_ ?_
          rotate_left
          ·intro w'
           go_simp
           with_reducible rfl
          rotate_left
          ·simp only [Act.put, List.setIfInBounds_toArray, List.set_cons_zero, List.set_cons_succ, i64_w, i32_w]
           rfl
          refine done_ (by kernel_rfl) ?_
          have hnb49 := NB221_219.out
          have hnc49 := NB219_221.out
          have hnb50 := NB221_220.out
          have hnc50 := NB220_221.out
          have hcz51_0 : w48.cell? ⟨gb221, 0, none⟩ = some (.int .u64 x222000_36) := (blk_cell BK221.out 0).trans rfl
          have hcz51_1 : w48.cell? ⟨gb221, 1, none⟩ = some (.int .u64 x220001_1) := (blk_cell BK221.out 1).trans rfl
          have hcz51_2 : w48.cell? ⟨gb221, 2, none⟩ = some (.int .i64 ji5) := (blk_cell BK221.out 2).trans rfl
          have hcz51_3 : w48.cell? ⟨gb221, 3, none⟩ = some (.int .i64 ji7) := (blk_cell BK221.out 3).trans rfl
          have hcz51_4 : w48.cell? ⟨gb221, 4, none⟩ = some (.bool x220004_1) := (blk_cell BK221.out 4).trans rfl
          have hfz51_0 := blk_frozen BK221.out 0
          have hfz51_1 := blk_frozen BK221.out 1
          have hfz51_2 := blk_frozen BK221.out 2
          have hfz51_3 := blk_frozen BK221.out 3
          have hfz51_4 := blk_frozen BK221.out 4
          have hnb52 := NB219_220.out
          have hnc52 := NB220_219.out
          have hcz53_0 : w48.cell? ⟨gb219, 0, none⟩ = some (.int .u64 x220000_1) := (blk_cell BK219.out 0).trans rfl
          have hcz53_1 : w48.cell? ⟨gb219, 1, none⟩ = some (.int .u64 x220001_1) := (blk_cell BK219.out 1).trans rfl
          have hcz53_2 : w48.cell? ⟨gb219, 2, none⟩ = some (.int .i64 x220002_1) := (blk_cell BK219.out 2).trans rfl
          have hcz53_3 : w48.cell? ⟨gb219, 3, none⟩ = some (.int .i64 x220003_1) := (blk_cell BK219.out 3).trans rfl
          have hcz53_4 : w48.cell? ⟨gb219, 4, none⟩ = some (.bool x220004_1) := (blk_cell BK219.out 4).trans rfl
          have hfz53_0 := blk_frozen BK219.out 0
          have hfz53_1 := blk_frozen BK219.out 1
          have hfz53_2 := blk_frozen BK219.out 2
          have hfz53_3 := blk_frozen BK219.out 3
          have hfz53_4 := blk_frozen BK219.out 4
          have hcz54_0 : w48.cell? ⟨gb220, 0, none⟩ = some (.int .u64 x221000_1) := (blk_cell BK220.out 0).trans rfl
          have hcz54_1 : w48.cell? ⟨gb220, 1, none⟩ = some (.int .u64 x221001_1) := (blk_cell BK220.out 1).trans rfl
          have hcz54_2 : w48.cell? ⟨gb220, 2, none⟩ = some (.int .i64 x221002_1) := (blk_cell BK220.out 2).trans rfl
          have hcz54_3 : w48.cell? ⟨gb220, 3, none⟩ = some (.int .i64 x221003_1) := (blk_cell BK220.out 3).trans rfl
          have hcz54_4 : w48.cell? ⟨gb220, 4, none⟩ = some (.bool x221004_1) := (blk_cell BK220.out 4).trans rfl
          have hfz54_0 := blk_frozen BK220.out 0
          have hfz54_1 := blk_frozen BK220.out 1
          have hfz54_2 := blk_frozen BK220.out 2
          have hfz54_3 := blk_frozen BK220.out 3
          have hfz54_4 := blk_frozen BK220.out 4
          try go_wp2
          refine bodyPost_ret (results_cell_row rfl _ _ gb220 68 #[.int .u64 x220000_1, .int .u64 x220001_1, .int .i64 x220002_1, .int .i64 x220003_1, .bool x220004_1] (0, 0) _ rfl (by (with_reducible repeat (first | refine blk_drewN ?_ _ | refine blk_drew ?_ | refine blk_alloc ?_ _)); refine blk_put (cs := #[.int .u64 x220000_1, .int .u64 x220001_1, .int .i64 x220002_1, .int .i64 x220003_1, .bool x221004_1]) ?_ 4 _ rfl; (with_reducible repeat (first | refine blk_drewN ?_ _ | refine blk_drew ?_ | refine blk_alloc ?_ _)); refine blk_put (cs := #[.int .u64 x220000_1, .int .u64 x220001_1, .int .i64 x220002_1, .int .i64 x221003_1, .bool x221004_1]) ?_ 3 _ rfl; (with_reducible repeat (first | refine blk_drewN ?_ _ | refine blk_drew ?_ | refine blk_alloc ?_ _)); refine blk_put (cs := #[.int .u64 x220000_1, .int .u64 x220001_1, .int .i64 x221002_1, .int .i64 x221003_1, .bool x221004_1]) ?_ 2 _ rfl; (with_reducible repeat (first | refine blk_drewN ?_ _ | refine blk_drew ?_ | refine blk_alloc ?_ _)); refine blk_put (cs := #[.int .u64 x220000_1, .int .u64 x221001_1, .int .i64 x221002_1, .int .i64 x221003_1, .bool x221004_1]) ?_ 1 _ rfl; (with_reducible repeat (first | refine blk_drewN ?_ _ | refine blk_drew ?_ | refine blk_alloc ?_ _)); refine blk_put (cs := #[.int .u64 x221000_1, .int .u64 x221001_1, .int .i64 x221002_1, .int .i64 x221003_1, .bool x221004_1]) ?_ 0 _ rfl; (with_reducible repeat (first | refine blk_drewN ?_ _ | refine blk_drew ?_ | refine blk_alloc ?_ _)); refine blk_far ?_ NB220_221.out _; (with_reducible repeat (first | refine blk_drewN ?_ _ | refine blk_drew ?_ | refine blk_alloc ?_ _)); exact BK220.out) Try.underlying68 rfl (by kernel_rfl)) rfl ?_
          exact ⟨by first | rfl | (simp [errW_none, errW_some] <;> rfl) | (simp only [← hji5, ← hji7]; first | rfl | (simp [errW_none, errW_some] <;> rfl)) | (simp [*, errW_none, errW_some] <;> rfl) | (simp [errW_none, errW_some]; exact Go.Proofs.YtgfbgfbnmiainaaW.OwnWords.isEmpty_bne _), by repeat (first | (with_reducible first | exact HB.out | apply below_alloc | apply pw_below_drewN | apply below_drew1 | refine below_set ?_ GE219.out | refine below_set ?_ GE220.out | refine below_set ?_ GE221.out) | exact HB.out)⟩
         ·rw [if_neg c46] at H
          have c46b0 : (x222000_36 == x220000_1 && (x222000_36 == x220001_1 && (ji5 == x220002_1 && (ji7 == x220003_1 && (x220004_1 == x220004_1))))) = false := by simpa using c46
          try have c46z9 : (x222000_36 == x220000_1 && (x222000_36 == x220001_1 && (ji5 == x220002_1 && (ji7 == x220003_1)))) = false := by simpa using c46b0
          (try (have c46b1 : decide (x222000_36 = x220000_1 && (x222000_36 == x220001_1 && (ji5 == x220002_1 && (ji7 == x220003_1 && (x220004_1 == x220004_1))))) = false := by simpa using c46))
          (try (have c46b2 : (x222000_36 == x220000_1 && (x222000_36 == x220001_1 && (ji5 == x220002_1 && (ji7 == x220003_1 && (x220004_1 == x220004_1))))) = false := by simpa using c46))
          (try (have c46b3 : ¬ (x222000_36 = x220000_1 && (x222000_36 == x220001_1 && (ji5 == x220002_1 && (ji7 == x220003_1 && (x220004_1 == x220004_1))))) := by simpa using c46))
          clear c46
          have H' := Aside0.mk H
          clear H
          try go_wp2
          have n0_ := Aside0.mk (blk_drew BK219.out)
          have n1_ := Aside0.mk (blk_drew BK220.out)
          have n2_ := Aside0.mk (blk_drew BK221.out)
          have n3_ := Aside0.mk (below_drew1 HB.out)
          clear BK219
          clear BK220
          clear BK221
          clear HB
          have BK219 := n0_
          have BK220 := n1_
          have BK221 := n2_
          have HB := n3_
          clear n0_ n1_ n2_ n3_
          refine start_ (n := 6) (S := fun w' => w'.cell? ⟨gb221, 0, none⟩ = some (.int .u64 x222000_36) ∧ w'.cell? ⟨gb221, 1, none⟩ = some (.int .u64 x220001_1) ∧ w'.cell? ⟨gb221, 2, none⟩ = some (.int .i64 ji5) ∧ w'.cell? ⟨gb221, 3, none⟩ = some (.int .i64 ji7) ∧ w'.cell? ⟨gb221, 4, none⟩ = some (.bool x220004_1)) (ds := []) #[false, false, false, false, false, false] (by kernel_rfl) rfl rfl ⟨(blk_cell BK221.out 0).trans rfl, (blk_cell BK221.out 1).trans rfl, (blk_cell BK221.out 2).trans rfl, (blk_cell BK221.out 3).trans rfl, (blk_cell BK221.out 4).trans rfl⟩ (fun hHeld => ?_)
          generalize wc.drew = w55 at BK219 BK220 BK221 HB hHeld ⊢
          refine pure_ (i := 0) (N := some 46) (v := ?_) (a' := ?_) #[true, false, false, false, false, false] rfl rfl (by kernel_rfl) (fun _ _ _ h => h) (Or.inl ⟨by rfl, ?_⟩) ?_ ?_
          rotate_left
          ·intro w'
           go_simp
           with_reducible rfl
          rotate_left
          ·simp only [Act.put, List.setIfInBounds_toArray, List.set_cons_zero, List.set_cons_succ, i64_w, i32_w]
           rfl
          refine pure_ (i := 2) (N := some 48) (v := ?_) (a' := ?_) #[true, false, true, false, false, false] rfl rfl (by kernel_rfl) (fun _ _ _ h => h) (Or.inl ⟨by rfl, ?_⟩) ?_ ?_
          rotate_left
          ·intro w'
           go_simp
           with_reducible rfl
          rotate_left
          ·simp only [Act.put, List.setIfInBounds_toArray, List.set_cons_zero, List.set_cons_succ, i64_w, i32_w]
           rfl
          refine take_ (i := 1) (N := some 47) (v := ?_) (a' := ?_) #[true, true, true, false, false, false] rfl rfl (by kernel_rfl) (fun _ _ _ h => h) (Or.inl ⟨by rfl, ?_⟩) hHeld ?_ ?_
          rotate_left
          ·rintro w' ⟨s0, s1, s2, s3, s4⟩
           go_simp
           with_reducible rfl
          rotate_left
          ·simp only [Act.put, List.setIfInBounds_toArray, List.set_cons_zero, List.set_cons_succ, i64_w, i32_w]
           rfl
          refine take_ (i := 3) (N := some 49) (v := ?_) (a' := ?_) #[true, true, true, true, false, false] rfl rfl (by kernel_rfl) (fun _ _ _ h => h) (Or.inl ⟨by rfl, ?_⟩) hHeld ?_ ?_
          rotate_left
          ·rintro w' ⟨s0, s1, s2, s3, s4⟩
           go_simp
           with_reducible rfl
          rotate_left
          ·simp only [Act.put, List.setIfInBounds_toArray, List.set_cons_zero, List.set_cons_succ, i64_w, i32_w]
           rfl
          refine one_ (i := 4) (N := some 50) #[true, true, true, true, true, false] rfl rfl (by kernel_rfl) (by decide) (fun K hK => ?_)
          refine goes_ Try.func48 (by kernel_rfl) rfl #[.int .u64 x222000_36] (by rfl) rfl rfl (by (try simp only [List.map_toArray, List.map_cons, List.map_nil]); first | done | rfl | (simp only [List.length_drop, List.length_take]; rfl)) ?_
          with_reducible refine (manystrandref07_size.calls kj36 x222000_36 t225 _ A44.out).mono ?_
          rintro e w56 ⟨rfl, hb⟩
          refine ⟨_, rfl, ?_⟩
          have n0_ := Aside0.mk (blk_below (g := gb219) (o := .cells #[.int .u64 x220000_1, .int .u64 x220001_1, .int .i64 x220002_1, .int .i64 x220003_1, .bool x220004_1] 68 (0, 0)) (by (with_reducible repeat (first | refine blk_drewN ?_ _ | refine blk_drew ?_ | refine blk_alloc ?_ _)); exact BK219.out) hb)
          have n1_ := Aside0.mk (blk_below (g := gb220) (o := .cells #[.int .u64 x221000_1, .int .u64 x221001_1, .int .i64 x221002_1, .int .i64 x221003_1, .bool x221004_1] 68 (0, 0)) (by (with_reducible repeat (first | refine blk_drewN ?_ _ | refine blk_drew ?_ | refine blk_alloc ?_ _)); exact BK220.out) hb)
          have n2_ := Aside0.mk (blk_below (g := gb221) (o := .cells #[.int .u64 x222000_36, .int .u64 x220001_1, .int .i64 ji5, .int .i64 ji7, .bool x220004_1] 68 (0, 0)) (by (with_reducible repeat (first | refine blk_drewN ?_ _ | refine blk_drew ?_ | refine blk_alloc ?_ _)); exact BK221.out) hb)
          have n3_ := Aside0.mk (below_step (by repeat (first | (with_reducible first | exact HB.out | apply below_alloc | apply pw_below_drewN | apply below_drew1 | refine below_set ?_ GE219.out | refine below_set ?_ GE220.out | refine below_set ?_ GE221.out) | exact HB.out)) hb)
          clear BK219
          clear BK220
          clear BK221
          clear HB
          have BK219 := n0_
          have BK220 := n1_
          have BK221 := n2_
          have HB := n3_
          clear n0_ n1_ n2_ n3_
          (try clear hb)
          (try clear hb2)
          (try clear hk)
          (try clear hi)
          refine hK.out _ _ ⟨(blk_cell BK221.out 0).trans rfl, (blk_cell BK221.out 1).trans rfl, (blk_cell BK221.out 2).trans rfl, (blk_cell BK221.out 3).trans rfl, (blk_cell BK221.out 4).trans rfl⟩ (fun hHeld => ?_)
          clear hK K
          refine norm_ (a' := ?_) ?_ ?_
          rotate_left
          ·show Act.put _ (some 50) _ = _
           simp only [Act.put, List.setIfInBounds_toArray, List.set_cons_zero, List.set_cons_succ, i64_w, i32_w]
           rfl
          refine pure_ (i := 5) (N := some 51) (v := ?_) (a' := ?_) #[true, true, true, true, true, true] rfl rfl (by kernel_rfl) (fun _ _ _ h => h) (Or.inl ⟨by rfl, ?_⟩) ?_ ?_
          rotate_left
          ·intro w'
           go_simp
           with_reducible rfl
          rotate_left
          ·simp only [Act.put, List.setIfInBounds_toArray, List.set_cons_zero, List.set_cons_succ, i64_w, i32_w]
           rfl
          refine done_ (by kernel_rfl) ?_
          have hnb57 := NB221_219.out
          have hnc57 := NB219_221.out
          have hnb58 := NB221_220.out
          have hnc58 := NB220_221.out
          have hcz59_0 : w56.cell? ⟨gb221, 0, none⟩ = some (.int .u64 x222000_36) := (blk_cell BK221.out 0).trans rfl
          have hcz59_1 : w56.cell? ⟨gb221, 1, none⟩ = some (.int .u64 x220001_1) := (blk_cell BK221.out 1).trans rfl
          have hcz59_2 : w56.cell? ⟨gb221, 2, none⟩ = some (.int .i64 ji5) := (blk_cell BK221.out 2).trans rfl
          have hcz59_3 : w56.cell? ⟨gb221, 3, none⟩ = some (.int .i64 ji7) := (blk_cell BK221.out 3).trans rfl
          have hcz59_4 : w56.cell? ⟨gb221, 4, none⟩ = some (.bool x220004_1) := (blk_cell BK221.out 4).trans rfl
          have hfz59_0 := blk_frozen BK221.out 0
          have hfz59_1 := blk_frozen BK221.out 1
          have hfz59_2 := blk_frozen BK221.out 2
          have hfz59_3 := blk_frozen BK221.out 3
          have hfz59_4 := blk_frozen BK221.out 4
          have hnb60 := NB219_220.out
          have hnc60 := NB220_219.out
          have hcz61_0 : w56.cell? ⟨gb219, 0, none⟩ = some (.int .u64 x220000_1) := (blk_cell BK219.out 0).trans rfl
          have hcz61_1 : w56.cell? ⟨gb219, 1, none⟩ = some (.int .u64 x220001_1) := (blk_cell BK219.out 1).trans rfl
          have hcz61_2 : w56.cell? ⟨gb219, 2, none⟩ = some (.int .i64 x220002_1) := (blk_cell BK219.out 2).trans rfl
          have hcz61_3 : w56.cell? ⟨gb219, 3, none⟩ = some (.int .i64 x220003_1) := (blk_cell BK219.out 3).trans rfl
          have hcz61_4 : w56.cell? ⟨gb219, 4, none⟩ = some (.bool x220004_1) := (blk_cell BK219.out 4).trans rfl
          have hfz61_0 := blk_frozen BK219.out 0
          have hfz61_1 := blk_frozen BK219.out 1
          have hfz61_2 := blk_frozen BK219.out 2
          have hfz61_3 := blk_frozen BK219.out 3
          have hfz61_4 := blk_frozen BK219.out 4
          try go_wp2
          go_roundg kj36
          case measure => have := HK1.out; have := HJ7.out; have := HJ36.out; omega
          case rel => exact ⟨(x222000_36), (x222000_36), (ji5), (ji7), (x220004_1), (x221000_1), (x221001_1), (x221002_1), (x221003_1), (x221004_1), H', ⟨by have := HK1.out; have := HJ7.out; have := HJ36.out; omega⟩, ⟨by (with_reducible repeat (first | refine blk_drewN ?_ _ | refine blk_drew ?_ | refine blk_alloc ?_ _)); refine blk_put (cs := #[.int .u64 x222000_36, .int .u64 x222000_36, .int .i64 ji5, .int .i64 ji7, .bool x220004_1]) ?_ 4 _ rfl; (with_reducible repeat (first | refine blk_drewN ?_ _ | refine blk_drew ?_ | refine blk_alloc ?_ _)); refine blk_put (cs := #[.int .u64 x222000_36, .int .u64 x222000_36, .int .i64 ji5, .int .i64 x220003_1, .bool x220004_1]) ?_ 3 _ rfl; (with_reducible repeat (first | refine blk_drewN ?_ _ | refine blk_drew ?_ | refine blk_alloc ?_ _)); refine blk_put (cs := #[.int .u64 x222000_36, .int .u64 x222000_36, .int .i64 x220002_1, .int .i64 x220003_1, .bool x220004_1]) ?_ 2 _ rfl; (with_reducible repeat (first | refine blk_drewN ?_ _ | refine blk_drew ?_ | refine blk_alloc ?_ _)); refine blk_put (cs := #[.int .u64 x222000_36, .int .u64 x220001_1, .int .i64 x220002_1, .int .i64 x220003_1, .bool x220004_1]) ?_ 1 _ rfl; (with_reducible repeat (first | refine blk_drewN ?_ _ | refine blk_drew ?_ | refine blk_alloc ?_ _)); refine blk_put (cs := #[.int .u64 x220000_1, .int .u64 x220001_1, .int .i64 x220002_1, .int .i64 x220003_1, .bool x220004_1]) ?_ 0 _ rfl; (with_reducible repeat (first | refine blk_drewN ?_ _ | refine blk_drew ?_ | refine blk_alloc ?_ _)); refine blk_far ?_ NB219_221.out _; (with_reducible repeat (first | refine blk_drewN ?_ _ | refine blk_drew ?_ | refine blk_alloc ?_ _)); exact BK219.out⟩, ⟨by (with_reducible repeat (first | refine blk_drewN ?_ _ | refine blk_drew ?_ | refine blk_alloc ?_ _)); refine blk_far ?_ NB220_219.out _; (with_reducible repeat (first | refine blk_drewN ?_ _ | refine blk_drew ?_ | refine blk_alloc ?_ _)); refine blk_far ?_ NB220_219.out _; (with_reducible repeat (first | refine blk_drewN ?_ _ | refine blk_drew ?_ | refine blk_alloc ?_ _)); refine blk_far ?_ NB220_219.out _; (with_reducible repeat (first | refine blk_drewN ?_ _ | refine blk_drew ?_ | refine blk_alloc ?_ _)); refine blk_far ?_ NB220_219.out _; (with_reducible repeat (first | refine blk_drewN ?_ _ | refine blk_drew ?_ | refine blk_alloc ?_ _)); refine blk_far ?_ NB220_219.out _; (with_reducible repeat (first | refine blk_drewN ?_ _ | refine blk_drew ?_ | refine blk_alloc ?_ _)); refine blk_far ?_ NB220_221.out _; (with_reducible repeat (first | refine blk_drewN ?_ _ | refine blk_drew ?_ | refine blk_alloc ?_ _)); exact BK220.out⟩, ⟨by repeat (first | (with_reducible first | exact HB.out | apply below_alloc | apply pw_below_drewN | apply below_drew1 | refine below_set ?_ GE219.out | refine below_set ?_ GE220.out | refine below_set ?_ GE221.out) | exact HB.out)⟩⟩
        ·rw [if_neg c45] at H
         have c45b0 : (ji7 == t225) = false := beq_eq_false_iff_ne.mpr c45
         have c45b1 : (ji7 != t225) = true := bne_iff_ne.mpr c45
         by_cases c62 : (x222000_36 == x220000_1 && (x220001_1 == x220001_1 && (ji5 == x220002_1 && (ji7 == x220003_1 && (x220004_1 == x220004_1))))) = true
         ·rw [if_pos c62] at H
          have c62b0 : (x222000_36 == x220000_1 && (x220001_1 == x220001_1 && (ji5 == x220002_1 && (ji7 == x220003_1 && (x220004_1 == x220004_1))))) = true := c62
          try have c62z9 : (x222000_36 == x220000_1 && (ji5 == x220002_1 && (ji7 == x220003_1))) = true := by simpa using c62b0
          (try (have c62b1 : decide (x222000_36 = x220000_1 && (x220001_1 == x220001_1 && (ji5 == x220002_1 && (ji7 == x220003_1 && (x220004_1 == x220004_1))))) = true := by simpa using c62))
          (try (have c62b2 : (x222000_36 == x220000_1 && (x220001_1 == x220001_1 && (ji5 == x220002_1 && (ji7 == x220003_1 && (x220004_1 == x220004_1))))) = true := by simpa using c62))
          clear c62
          simp only [Option.some.injEq, Prod.mk.injEq] at H
          obtain ⟨rfl, rfl, rfl, rfl, rfl⟩ := H
          try go_wp2
          have n0_ := Aside0.mk (blk_drew BK219.out)
          have n1_ := Aside0.mk (blk_drew BK220.out)
          have n2_ := Aside0.mk (blk_drew BK221.out)
          have n3_ := Aside0.mk (below_drew1 HB.out)
          clear BK219
          clear BK220
          clear BK221
          clear HB
          have BK219 := n0_
          have BK220 := n1_
          have BK221 := n2_
          have HB := n3_
          clear n0_ n1_ n2_ n3_
          refine start_ (n := 6) (S := fun w' => w'.cell? ⟨gb221, 0, none⟩ = some (.int .u64 x222000_36) ∧ w'.cell? ⟨gb221, 1, none⟩ = some (.int .u64 x220001_1) ∧ w'.cell? ⟨gb221, 2, none⟩ = some (.int .i64 ji5) ∧ w'.cell? ⟨gb221, 3, none⟩ = some (.int .i64 ji7) ∧ w'.cell? ⟨gb221, 4, none⟩ = some (.bool x220004_1)) (ds := []) #[false, false, false, false, false, false] (by kernel_rfl) rfl rfl ⟨(blk_cell BK221.out 0).trans rfl, (blk_cell BK221.out 1).trans rfl, (blk_cell BK221.out 2).trans rfl, (blk_cell BK221.out 3).trans rfl, (blk_cell BK221.out 4).trans rfl⟩ (fun hHeld => ?_)
          generalize wc.drew = w63 at BK219 BK220 BK221 HB hHeld ⊢
          refine pure_ (i := 0) (N := some 46) (v := ?_) (a' := ?_) #[true, false, false, false, false, false] rfl rfl (by kernel_rfl) (fun _ _ _ h => h) (Or.inl ⟨by rfl, ?_⟩) ?_ ?_
          rotate_left
          ·intro w'
           go_simp
           with_reducible rfl
          rotate_left
          ·simp only [Act.put, List.setIfInBounds_toArray, List.set_cons_zero, List.set_cons_succ, i64_w, i32_w]
           rfl
          refine pure_ (i := 2) (N := some 48) (v := ?_) (a' := ?_) #[true, false, true, false, false, false] rfl rfl (by kernel_rfl) (fun _ _ _ h => h) (Or.inl ⟨by rfl, ?_⟩) ?_ ?_
          rotate_left
          ·intro w'
           go_simp
           with_reducible rfl
          rotate_left
          ·simp only [Act.put, List.setIfInBounds_toArray, List.set_cons_zero, List.set_cons_succ, i64_w, i32_w]
           rfl
          refine take_ (i := 1) (N := some 47) (v := ?_) (a' := ?_) #[true, true, true, false, false, false] rfl rfl (by kernel_rfl) (fun _ _ _ h => h) (Or.inl ⟨by rfl, ?_⟩) hHeld ?_ ?_
          rotate_left
          ·rintro w' ⟨s0, s1, s2, s3, s4⟩
           go_simp
           with_reducible rfl
          rotate_left
          ·simp only [Act.put, List.setIfInBounds_toArray, List.set_cons_zero, List.set_cons_succ, i64_w, i32_w]
           rfl
          refine take_ (i := 3) (N := some 49) (v := ?_) (a' := ?_) #[true, true, true, true, false, false] rfl rfl (by kernel_rfl) (fun _ _ _ h => h) (Or.inl ⟨by rfl, ?_⟩) hHeld ?_ ?_
          rotate_left
          ·rintro w' ⟨s0, s1, s2, s3, s4⟩
           go_simp
           with_reducible rfl
          rotate_left
          ·simp only [Act.put, List.setIfInBounds_toArray, List.set_cons_zero, List.set_cons_succ, i64_w, i32_w]
           rfl
          refine one_ (i := 4) (N := some 50) #[true, true, true, true, true, false] rfl rfl (by kernel_rfl) (by decide) (fun K hK => ?_)
          refine goes_ Try.func48 (by kernel_rfl) rfl #[.int .u64 x222000_36] (by rfl) rfl rfl (by (try simp only [List.map_toArray, List.map_cons, List.map_nil]); first | done | rfl | (simp only [List.length_drop, List.length_take]; rfl)) ?_
          with_reducible refine (manystrandref07_size.calls kj36 x222000_36 t225 _ A44.out).mono ?_
          rintro e w64 ⟨rfl, hb⟩
          refine ⟨_, rfl, ?_⟩
          have n0_ := Aside0.mk (blk_below (g := gb219) (o := .cells #[.int .u64 x220000_1, .int .u64 x220001_1, .int .i64 x220002_1, .int .i64 x220003_1, .bool x220004_1] 68 (0, 0)) (by (with_reducible repeat (first | refine blk_drewN ?_ _ | refine blk_drew ?_ | refine blk_alloc ?_ _)); exact BK219.out) hb)
          have n1_ := Aside0.mk (blk_below (g := gb220) (o := .cells #[.int .u64 x221000_1, .int .u64 x221001_1, .int .i64 x221002_1, .int .i64 x221003_1, .bool x221004_1] 68 (0, 0)) (by (with_reducible repeat (first | refine blk_drewN ?_ _ | refine blk_drew ?_ | refine blk_alloc ?_ _)); exact BK220.out) hb)
          have n2_ := Aside0.mk (blk_below (g := gb221) (o := .cells #[.int .u64 x222000_36, .int .u64 x220001_1, .int .i64 ji5, .int .i64 ji7, .bool x220004_1] 68 (0, 0)) (by (with_reducible repeat (first | refine blk_drewN ?_ _ | refine blk_drew ?_ | refine blk_alloc ?_ _)); exact BK221.out) hb)
          have n3_ := Aside0.mk (below_step (by repeat (first | (with_reducible first | exact HB.out | apply below_alloc | apply pw_below_drewN | apply below_drew1 | refine below_set ?_ GE219.out | refine below_set ?_ GE220.out | refine below_set ?_ GE221.out) | exact HB.out)) hb)
          clear BK219
          clear BK220
          clear BK221
          clear HB
          have BK219 := n0_
          have BK220 := n1_
          have BK221 := n2_
          have HB := n3_
          clear n0_ n1_ n2_ n3_
          (try clear hb)
          (try clear hb2)
          (try clear hk)
          (try clear hi)
          refine hK.out _ _ ⟨(blk_cell BK221.out 0).trans rfl, (blk_cell BK221.out 1).trans rfl, (blk_cell BK221.out 2).trans rfl, (blk_cell BK221.out 3).trans rfl, (blk_cell BK221.out 4).trans rfl⟩ (fun hHeld => ?_)
          clear hK K
          refine norm_ (a' := ?_) ?_ ?_
          rotate_left
          ·show Act.put _ (some 50) _ = _
           simp only [Act.put, List.setIfInBounds_toArray, List.set_cons_zero, List.set_cons_succ, i64_w, i32_w]
           rfl
          refine pure_ (i := 5) (N := some 51) (v := ?_) (a' := ?_) #[true, true, true, true, true, true] rfl rfl (by kernel_rfl) (fun _ _ _ h => h) (Or.inl ⟨by rfl, ?_⟩) ?_ ?_
          rotate_left
          ·intro w'
           go_simp
           with_reducible rfl
          rotate_left
          ·simp only [Act.put, List.setIfInBounds_toArray, List.set_cons_zero, List.set_cons_succ, i64_w, i32_w]
           rfl
          refine done_ (by kernel_rfl) ?_
          have hnb65 := NB221_219.out
          have hnc65 := NB219_221.out
          have hnb66 := NB221_220.out
          have hnc66 := NB220_221.out
          have hcz67_0 : w64.cell? ⟨gb221, 0, none⟩ = some (.int .u64 x222000_36) := (blk_cell BK221.out 0).trans rfl
          have hcz67_1 : w64.cell? ⟨gb221, 1, none⟩ = some (.int .u64 x220001_1) := (blk_cell BK221.out 1).trans rfl
          have hcz67_2 : w64.cell? ⟨gb221, 2, none⟩ = some (.int .i64 ji5) := (blk_cell BK221.out 2).trans rfl
          have hcz67_3 : w64.cell? ⟨gb221, 3, none⟩ = some (.int .i64 ji7) := (blk_cell BK221.out 3).trans rfl
          have hcz67_4 : w64.cell? ⟨gb221, 4, none⟩ = some (.bool x220004_1) := (blk_cell BK221.out 4).trans rfl
          have hfz67_0 := blk_frozen BK221.out 0
          have hfz67_1 := blk_frozen BK221.out 1
          have hfz67_2 := blk_frozen BK221.out 2
          have hfz67_3 := blk_frozen BK221.out 3
          have hfz67_4 := blk_frozen BK221.out 4
          have hnb68 := NB219_220.out
          have hnc68 := NB220_219.out
          have hcz69_0 : w64.cell? ⟨gb219, 0, none⟩ = some (.int .u64 x220000_1) := (blk_cell BK219.out 0).trans rfl
          have hcz69_1 : w64.cell? ⟨gb219, 1, none⟩ = some (.int .u64 x220001_1) := (blk_cell BK219.out 1).trans rfl
          have hcz69_2 : w64.cell? ⟨gb219, 2, none⟩ = some (.int .i64 x220002_1) := (blk_cell BK219.out 2).trans rfl
          have hcz69_3 : w64.cell? ⟨gb219, 3, none⟩ = some (.int .i64 x220003_1) := (blk_cell BK219.out 3).trans rfl
          have hcz69_4 : w64.cell? ⟨gb219, 4, none⟩ = some (.bool x220004_1) := (blk_cell BK219.out 4).trans rfl
          have hfz69_0 := blk_frozen BK219.out 0
          have hfz69_1 := blk_frozen BK219.out 1
          have hfz69_2 := blk_frozen BK219.out 2
          have hfz69_3 := blk_frozen BK219.out 3
          have hfz69_4 := blk_frozen BK219.out 4
          have hcz70_0 : w64.cell? ⟨gb220, 0, none⟩ = some (.int .u64 x221000_1) := (blk_cell BK220.out 0).trans rfl
          have hcz70_1 : w64.cell? ⟨gb220, 1, none⟩ = some (.int .u64 x221001_1) := (blk_cell BK220.out 1).trans rfl
          have hcz70_2 : w64.cell? ⟨gb220, 2, none⟩ = some (.int .i64 x221002_1) := (blk_cell BK220.out 2).trans rfl
          have hcz70_3 : w64.cell? ⟨gb220, 3, none⟩ = some (.int .i64 x221003_1) := (blk_cell BK220.out 3).trans rfl
          have hcz70_4 : w64.cell? ⟨gb220, 4, none⟩ = some (.bool x221004_1) := (blk_cell BK220.out 4).trans rfl
          have hfz70_0 := blk_frozen BK220.out 0
          have hfz70_1 := blk_frozen BK220.out 1
          have hfz70_2 := blk_frozen BK220.out 2
          have hfz70_3 := blk_frozen BK220.out 3
          have hfz70_4 := blk_frozen BK220.out 4
          try go_wp2
          refine bodyPost_ret (results_cell_row rfl _ _ gb220 68 #[.int .u64 x220000_1, .int .u64 x220001_1, .int .i64 x220002_1, .int .i64 x220003_1, .bool x220004_1] (0, 0) _ rfl (by (with_reducible repeat (first | refine blk_drewN ?_ _ | refine blk_drew ?_ | refine blk_alloc ?_ _)); refine blk_put (cs := #[.int .u64 x220000_1, .int .u64 x220001_1, .int .i64 x220002_1, .int .i64 x220003_1, .bool x221004_1]) ?_ 4 _ rfl; (with_reducible repeat (first | refine blk_drewN ?_ _ | refine blk_drew ?_ | refine blk_alloc ?_ _)); refine blk_put (cs := #[.int .u64 x220000_1, .int .u64 x220001_1, .int .i64 x220002_1, .int .i64 x221003_1, .bool x221004_1]) ?_ 3 _ rfl; (with_reducible repeat (first | refine blk_drewN ?_ _ | refine blk_drew ?_ | refine blk_alloc ?_ _)); refine blk_put (cs := #[.int .u64 x220000_1, .int .u64 x220001_1, .int .i64 x221002_1, .int .i64 x221003_1, .bool x221004_1]) ?_ 2 _ rfl; (with_reducible repeat (first | refine blk_drewN ?_ _ | refine blk_drew ?_ | refine blk_alloc ?_ _)); refine blk_put (cs := #[.int .u64 x220000_1, .int .u64 x221001_1, .int .i64 x221002_1, .int .i64 x221003_1, .bool x221004_1]) ?_ 1 _ rfl; (with_reducible repeat (first | refine blk_drewN ?_ _ | refine blk_drew ?_ | refine blk_alloc ?_ _)); refine blk_put (cs := #[.int .u64 x221000_1, .int .u64 x221001_1, .int .i64 x221002_1, .int .i64 x221003_1, .bool x221004_1]) ?_ 0 _ rfl; (with_reducible repeat (first | refine blk_drewN ?_ _ | refine blk_drew ?_ | refine blk_alloc ?_ _)); exact BK220.out) Try.underlying68 rfl (by kernel_rfl)) rfl ?_
          exact ⟨by first | rfl | (simp [errW_none, errW_some] <;> rfl) | (simp only [← hji5, ← hji7]; first | rfl | (simp [errW_none, errW_some] <;> rfl)) | (simp [*, errW_none, errW_some] <;> rfl) | (simp [errW_none, errW_some]; exact Go.Proofs.YtgfbgfbnmiainaaW.OwnWords.isEmpty_bne _), by repeat (first | (with_reducible first | exact HB.out | apply below_alloc | apply pw_below_drewN | apply below_drew1 | refine below_set ?_ GE219.out | refine below_set ?_ GE220.out | refine below_set ?_ GE221.out) | exact HB.out)⟩
         ·rw [if_neg c62] at H
          have c62b0 : (x222000_36 == x220000_1 && (x220001_1 == x220001_1 && (ji5 == x220002_1 && (ji7 == x220003_1 && (x220004_1 == x220004_1))))) = false := by simpa using c62
          try have c62z9 : (x222000_36 == x220000_1 && (ji5 == x220002_1 && (ji7 == x220003_1))) = false := by simpa using c62b0
          (try (have c62b1 : decide (x222000_36 = x220000_1 && (x220001_1 == x220001_1 && (ji5 == x220002_1 && (ji7 == x220003_1 && (x220004_1 == x220004_1))))) = false := by simpa using c62))
          (try (have c62b2 : (x222000_36 == x220000_1 && (x220001_1 == x220001_1 && (ji5 == x220002_1 && (ji7 == x220003_1 && (x220004_1 == x220004_1))))) = false := by simpa using c62))
          (try (have c62b3 : ¬ (x222000_36 = x220000_1 && (x220001_1 == x220001_1 && (ji5 == x220002_1 && (ji7 == x220003_1 && (x220004_1 == x220004_1))))) := by simpa using c62))
          clear c62
          have H' := Aside0.mk H
          clear H
          try go_wp2
          have n0_ := Aside0.mk (blk_drew BK219.out)
          have n1_ := Aside0.mk (blk_drew BK220.out)
          have n2_ := Aside0.mk (blk_drew BK221.out)
          have n3_ := Aside0.mk (below_drew1 HB.out)
          clear BK219
          clear BK220
          clear BK221
          clear HB
          have BK219 := n0_
          have BK220 := n1_
          have BK221 := n2_
          have HB := n3_
          clear n0_ n1_ n2_ n3_
          refine start_ (n := 6) (S := fun w' => w'.cell? ⟨gb221, 0, none⟩ = some (.int .u64 x222000_36) ∧ w'.cell? ⟨gb221, 1, none⟩ = some (.int .u64 x220001_1) ∧ w'.cell? ⟨gb221, 2, none⟩ = some (.int .i64 ji5) ∧ w'.cell? ⟨gb221, 3, none⟩ = some (.int .i64 ji7) ∧ w'.cell? ⟨gb221, 4, none⟩ = some (.bool x220004_1)) (ds := []) #[false, false, false, false, false, false] (by kernel_rfl) rfl rfl ⟨(blk_cell BK221.out 0).trans rfl, (blk_cell BK221.out 1).trans rfl, (blk_cell BK221.out 2).trans rfl, (blk_cell BK221.out 3).trans rfl, (blk_cell BK221.out 4).trans rfl⟩ (fun hHeld => ?_)
          generalize wc.drew = w71 at BK219 BK220 BK221 HB hHeld ⊢
          refine pure_ (i := 0) (N := some 46) (v := ?_) (a' := ?_) #[true, false, false, false, false, false] rfl rfl (by kernel_rfl) (fun _ _ _ h => h) (Or.inl ⟨by rfl, ?_⟩) ?_ ?_
          rotate_left
          ·intro w'
           go_simp
           with_reducible rfl
          rotate_left
          ·simp only [Act.put, List.setIfInBounds_toArray, List.set_cons_zero, List.set_cons_succ, i64_w, i32_w]
           rfl
          refine pure_ (i := 2) (N := some 48) (v := ?_) (a' := ?_) #[true, false, true, false, false, false] rfl rfl (by kernel_rfl) (fun _ _ _ h => h) (Or.inl ⟨by rfl, ?_⟩) ?_ ?_
          rotate_left
          ·intro w'
           go_simp
           with_reducible rfl
          rotate_left
          ·simp only [Act.put, List.setIfInBounds_toArray, List.set_cons_zero, List.set_cons_succ, i64_w, i32_w]
           rfl
          refine take_ (i := 1) (N := some 47) (v := ?_) (a' := ?_) #[true, true, true, false, false, false] rfl rfl (by kernel_rfl) (fun _ _ _ h => h) (Or.inl ⟨by rfl, ?_⟩) hHeld ?_ ?_
          rotate_left
          ·rintro w' ⟨s0, s1, s2, s3, s4⟩
           go_simp
           with_reducible rfl
          rotate_left
          ·simp only [Act.put, List.setIfInBounds_toArray, List.set_cons_zero, List.set_cons_succ, i64_w, i32_w]
           rfl
          refine take_ (i := 3) (N := some 49) (v := ?_) (a' := ?_) #[true, true, true, true, false, false] rfl rfl (by kernel_rfl) (fun _ _ _ h => h) (Or.inl ⟨by rfl, ?_⟩) hHeld ?_ ?_
          rotate_left
          ·rintro w' ⟨s0, s1, s2, s3, s4⟩
           go_simp
           with_reducible rfl
          rotate_left
          ·simp only [Act.put, List.setIfInBounds_toArray, List.set_cons_zero, List.set_cons_succ, i64_w, i32_w]
           rfl
          refine one_ (i := 4) (N := some 50) #[true, true, true, true, true, false] rfl rfl (by kernel_rfl) (by decide) (fun K hK => ?_)
          refine goes_ Try.func48 (by kernel_rfl) rfl #[.int .u64 x222000_36] (by rfl) rfl rfl (by (try simp only [List.map_toArray, List.map_cons, List.map_nil]); first | done | rfl | (simp only [List.length_drop, List.length_take]; rfl)) ?_
          with_reducible refine (manystrandref07_size.calls kj36 x222000_36 t225 _ A44.out).mono ?_
          rintro e w72 ⟨rfl, hb⟩
          refine ⟨_, rfl, ?_⟩
          have n0_ := Aside0.mk (blk_below (g := gb219) (o := .cells #[.int .u64 x220000_1, .int .u64 x220001_1, .int .i64 x220002_1, .int .i64 x220003_1, .bool x220004_1] 68 (0, 0)) (by (with_reducible repeat (first | refine blk_drewN ?_ _ | refine blk_drew ?_ | refine blk_alloc ?_ _)); exact BK219.out) hb)
          have n1_ := Aside0.mk (blk_below (g := gb220) (o := .cells #[.int .u64 x221000_1, .int .u64 x221001_1, .int .i64 x221002_1, .int .i64 x221003_1, .bool x221004_1] 68 (0, 0)) (by (with_reducible repeat (first | refine blk_drewN ?_ _ | refine blk_drew ?_ | refine blk_alloc ?_ _)); exact BK220.out) hb)
          have n2_ := Aside0.mk (blk_below (g := gb221) (o := .cells #[.int .u64 x222000_36, .int .u64 x220001_1, .int .i64 ji5, .int .i64 ji7, .bool x220004_1] 68 (0, 0)) (by (with_reducible repeat (first | refine blk_drewN ?_ _ | refine blk_drew ?_ | refine blk_alloc ?_ _)); exact BK221.out) hb)
          have n3_ := Aside0.mk (below_step (by repeat (first | (with_reducible first | exact HB.out | apply below_alloc | apply pw_below_drewN | apply below_drew1 | refine below_set ?_ GE219.out | refine below_set ?_ GE220.out | refine below_set ?_ GE221.out) | exact HB.out)) hb)
          clear BK219
          clear BK220
          clear BK221
          clear HB
          have BK219 := n0_
          have BK220 := n1_
          have BK221 := n2_
          have HB := n3_
          clear n0_ n1_ n2_ n3_
          (try clear hb)
          (try clear hb2)
          (try clear hk)
          (try clear hi)
          refine hK.out _ _ ⟨(blk_cell BK221.out 0).trans rfl, (blk_cell BK221.out 1).trans rfl, (blk_cell BK221.out 2).trans rfl, (blk_cell BK221.out 3).trans rfl, (blk_cell BK221.out 4).trans rfl⟩ (fun hHeld => ?_)
          clear hK K
          refine norm_ (a' := ?_) ?_ ?_
          rotate_left
          ·show Act.put _ (some 50) _ = _
           simp only [Act.put, List.setIfInBounds_toArray, List.set_cons_zero, List.set_cons_succ, i64_w, i32_w]
           rfl
          refine pure_ (i := 5) (N := some 51) (v := ?_) (a' := ?_) #[true, true, true, true, true, true] rfl rfl (by kernel_rfl) (fun _ _ _ h => h) (Or.inl ⟨by rfl, ?_⟩) ?_ ?_
          rotate_left
          ·intro w'
           go_simp
           with_reducible rfl
          rotate_left
          ·simp only [Act.put, List.setIfInBounds_toArray, List.set_cons_zero, List.set_cons_succ, i64_w, i32_w]
           rfl
          refine done_ (by kernel_rfl) ?_
          have hnb73 := NB221_219.out
          have hnc73 := NB219_221.out
          have hnb74 := NB221_220.out
          have hnc74 := NB220_221.out
          have hcz75_0 : w72.cell? ⟨gb221, 0, none⟩ = some (.int .u64 x222000_36) := (blk_cell BK221.out 0).trans rfl
          have hcz75_1 : w72.cell? ⟨gb221, 1, none⟩ = some (.int .u64 x220001_1) := (blk_cell BK221.out 1).trans rfl
          have hcz75_2 : w72.cell? ⟨gb221, 2, none⟩ = some (.int .i64 ji5) := (blk_cell BK221.out 2).trans rfl
          have hcz75_3 : w72.cell? ⟨gb221, 3, none⟩ = some (.int .i64 ji7) := (blk_cell BK221.out 3).trans rfl
          have hcz75_4 : w72.cell? ⟨gb221, 4, none⟩ = some (.bool x220004_1) := (blk_cell BK221.out 4).trans rfl
          have hfz75_0 := blk_frozen BK221.out 0
          have hfz75_1 := blk_frozen BK221.out 1
          have hfz75_2 := blk_frozen BK221.out 2
          have hfz75_3 := blk_frozen BK221.out 3
          have hfz75_4 := blk_frozen BK221.out 4
          have hnb76 := NB219_220.out
          have hnc76 := NB220_219.out
          have hcz77_0 : w72.cell? ⟨gb219, 0, none⟩ = some (.int .u64 x220000_1) := (blk_cell BK219.out 0).trans rfl
          have hcz77_1 : w72.cell? ⟨gb219, 1, none⟩ = some (.int .u64 x220001_1) := (blk_cell BK219.out 1).trans rfl
          have hcz77_2 : w72.cell? ⟨gb219, 2, none⟩ = some (.int .i64 x220002_1) := (blk_cell BK219.out 2).trans rfl
          have hcz77_3 : w72.cell? ⟨gb219, 3, none⟩ = some (.int .i64 x220003_1) := (blk_cell BK219.out 3).trans rfl
          have hcz77_4 : w72.cell? ⟨gb219, 4, none⟩ = some (.bool x220004_1) := (blk_cell BK219.out 4).trans rfl
          have hfz77_0 := blk_frozen BK219.out 0
          have hfz77_1 := blk_frozen BK219.out 1
          have hfz77_2 := blk_frozen BK219.out 2
          have hfz77_3 := blk_frozen BK219.out 3
          have hfz77_4 := blk_frozen BK219.out 4
          try go_wp2
          go_roundg kj36
          case measure => have := HK1.out; have := HJ7.out; have := HJ36.out; omega
          case rel => exact ⟨(x222000_36), (x220001_1), (ji5), (ji7), (x220004_1), (x221000_1), (x221001_1), (x221002_1), (x221003_1), (x221004_1), H', ⟨by have := HK1.out; have := HJ7.out; have := HJ36.out; omega⟩, ⟨by (with_reducible repeat (first | refine blk_drewN ?_ _ | refine blk_drew ?_ | refine blk_alloc ?_ _)); refine blk_put (cs := #[.int .u64 x222000_36, .int .u64 x220001_1, .int .i64 ji5, .int .i64 ji7, .bool x220004_1]) ?_ 4 _ rfl; (with_reducible repeat (first | refine blk_drewN ?_ _ | refine blk_drew ?_ | refine blk_alloc ?_ _)); refine blk_put (cs := #[.int .u64 x222000_36, .int .u64 x220001_1, .int .i64 ji5, .int .i64 x220003_1, .bool x220004_1]) ?_ 3 _ rfl; (with_reducible repeat (first | refine blk_drewN ?_ _ | refine blk_drew ?_ | refine blk_alloc ?_ _)); refine blk_put (cs := #[.int .u64 x222000_36, .int .u64 x220001_1, .int .i64 x220002_1, .int .i64 x220003_1, .bool x220004_1]) ?_ 2 _ rfl; (with_reducible repeat (first | refine blk_drewN ?_ _ | refine blk_drew ?_ | refine blk_alloc ?_ _)); refine blk_put (cs := #[.int .u64 x222000_36, .int .u64 x220001_1, .int .i64 x220002_1, .int .i64 x220003_1, .bool x220004_1]) ?_ 1 _ rfl; (with_reducible repeat (first | refine blk_drewN ?_ _ | refine blk_drew ?_ | refine blk_alloc ?_ _)); refine blk_put (cs := #[.int .u64 x220000_1, .int .u64 x220001_1, .int .i64 x220002_1, .int .i64 x220003_1, .bool x220004_1]) ?_ 0 _ rfl; (with_reducible repeat (first | refine blk_drewN ?_ _ | refine blk_drew ?_ | refine blk_alloc ?_ _)); exact BK219.out⟩, ⟨by (with_reducible repeat (first | refine blk_drewN ?_ _ | refine blk_drew ?_ | refine blk_alloc ?_ _)); refine blk_far ?_ NB220_219.out _; (with_reducible repeat (first | refine blk_drewN ?_ _ | refine blk_drew ?_ | refine blk_alloc ?_ _)); refine blk_far ?_ NB220_219.out _; (with_reducible repeat (first | refine blk_drewN ?_ _ | refine blk_drew ?_ | refine blk_alloc ?_ _)); refine blk_far ?_ NB220_219.out _; (with_reducible repeat (first | refine blk_drewN ?_ _ | refine blk_drew ?_ | refine blk_alloc ?_ _)); refine blk_far ?_ NB220_219.out _; (with_reducible repeat (first | refine blk_drewN ?_ _ | refine blk_drew ?_ | refine blk_alloc ?_ _)); refine blk_far ?_ NB220_219.out _; (with_reducible repeat (first | refine blk_drewN ?_ _ | refine blk_drew ?_ | refine blk_alloc ?_ _)); exact BK220.out⟩, ⟨by repeat (first | (with_reducible first | exact HB.out | apply below_alloc | apply pw_below_drewN | apply below_drew1 | refine below_set ?_ GE219.out | refine below_set ?_ GE220.out | refine below_set ?_ GE221.out) | exact HB.out)⟩⟩

end Go.Proofs.Ytgfbgfbnmiainaa.Q
