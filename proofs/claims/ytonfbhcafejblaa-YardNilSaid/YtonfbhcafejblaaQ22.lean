-- Walks of Go functions; written by own_print.py of this repo (see NOTES.md).
import Derived.Test.YtonfbhcafejblaaQ0
namespace Go.Proofs.Ytonfbhcafejblaa.Q
open Go.RowKit Go.Proofs.YtonfbhcafejblaaW.PrintWords Go.Proofs.YtonfbhcafejblaaW.PrintLast Go.Proofs.YtonfbhcafejblaaW.PrintMore
attribute [local go_sem] Go.Proofs.YtonfbhcafejblaaW.OwnWords.isSome_setCell max2_int min2_int max_two min_two max_three min_three max_four min_four   -- for this text's walks alone
set_option linter.unusedVariables false
set_option linter.unusedSimpArgs false

/-! ### manystrandlaw11_short: function 14 -/
mutual
def manystrandlaw11_short.l0 : Nat → Int → List (S43) → Int → Int → Option (Bool)
 | 0, _, _, _, _ => none
 | k + 1, x3, x9, x10, x11 => if x11 < x10 then (if 0 ≤ x11 then (if x11 < (x9.length : Int) then (if (((rd_T43 x9 x11).f1).size : Int) > 100 then (manystrandlaw11_short.j1 k x3 x9 x10 x11 true ((rd_T43 x9 x11).f0) ((rd_T43 x9 x11).f1) ((rd_T43 x9 x11).f2) ((rd_T43 x9 x11).f3) ((rd_T43 x9 x11).f4) ((rd_T43 x9 x11).f5) ((rd_T43 x9 x11).f6.f0) ((rd_T43 x9 x11).f6.f1)) else (manystrandlaw11_short.j1 k x3 x9 x10 x11 (decide ((((rd_T43 x9 x11).f6.f1).size : Int) > 200)) ((rd_T43 x9 x11).f0) ((rd_T43 x9 x11).f1) ((rd_T43 x9 x11).f2) ((rd_T43 x9 x11).f3) ((rd_T43 x9 x11).f4) ((rd_T43 x9 x11).f5) ((rd_T43 x9 x11).f6.f0) ((rd_T43 x9 x11).f6.f1))) else (none)) else (none)) else (some (decide (x3 ≤ 60)))
def manystrandlaw11_short.j1 : Nat → Int → List (S43) → Int → Int → Bool → Int → ByteArray → Int → Int → Int → Int → Int → ByteArray → Option (Bool)
 | 0, _, _, _, _, _, _, _, _, _, _, _, _, _ => none
 | k + 1, x3, x9, x10, x11, x25, x110000, x110001, x110002, x110003, x110004, x110005, x110006, x110007 => if x25 = true then (some false) else (if x110000 = 1 then (manystrandlaw11_short.l0 k (wrap64 (x3 + 1)) x9 x10 (wrap64 (x11 + 1))) else (if x110000 = 12 then (manystrandlaw11_short.l0 k (wrap64 (x3 + 1)) x9 x10 (wrap64 (x11 + 1))) else (manystrandlaw11_short.l0 k x3 x9 x10 (wrap64 (x11 + 1)))))
end
def manystrandlaw11_short.f (k : Nat) (l0 : List (S43)) : Option (Bool) := if (l0.length : Int) > 200 then (some false) else (manystrandlaw11_short.l0 k 0 l0 (l0.length : Int) 0)
theorem manystrandlaw11_short.mono_l : ∀ k, (∀ y0 y1 y2 y3, LeO (manystrandlaw11_short.l0 k y0 y1 y2 y3) (manystrandlaw11_short.l0 (k + 1) y0 y1 y2 y3)) ∧ (∀ y0 y1 y2 y3 y4 y5 y6 y7 y8 y9 y10 y11 y12, LeO (manystrandlaw11_short.j1 k y0 y1 y2 y3 y4 y5 y6 y7 y8 y9 y10 y11 y12) (manystrandlaw11_short.j1 (k + 1) y0 y1 y2 y3 y4 y5 y6 y7 y8 y9 y10 y11 y12))
 | 0 => ⟨fun _ _ _ _ r h => by simp [manystrandlaw11_short.l0] at h, fun _ _ _ _ _ _ _ _ _ _ _ _ _ r h => by simp [manystrandlaw11_short.j1] at h⟩
 | k + 1 => by
  obtain ⟨ih0, ih1⟩ := manystrandlaw11_short.mono_l k
  refine ⟨?_, ?_⟩
  ·intro y0 y1 y2 y3
   unfold manystrandlaw11_short.l0
   repeat' first
   | (with_reducible exact ih0 _ _ _ _)
   | (with_reducible exact ih1 _ _ _ _ _ _ _ _ _ _ _ _ _)
   | (with_reducible exact LeO.refl _)
   | (with_reducible exact LeO.none _)
   | (with_reducible refine LeO.ite ?_ ?_)
   | (with_reducible refine LeO.bind ?_ (fun _ => ?_))
   | exact ih0 _ _ _ _
   | exact ih1 _ _ _ _ _ _ _ _ _ _ _ _ _
   | exact LeO.none _
   | refine LeO.ite ?_ ?_
   | refine LeO.bind ?_ (fun _ => ?_)
  ·intro y0 y1 y2 y3 y4 y5 y6 y7 y8 y9 y10 y11 y12
   unfold manystrandlaw11_short.j1
   repeat' first
   | (with_reducible exact ih0 _ _ _ _)
   | (with_reducible exact ih1 _ _ _ _ _ _ _ _ _ _ _ _ _)
   | (with_reducible exact LeO.refl _)
   | (with_reducible exact LeO.none _)
   | (with_reducible refine LeO.ite ?_ ?_)
   | (with_reducible refine LeO.bind ?_ (fun _ => ?_))
   | exact ih0 _ _ _ _
   | exact ih1 _ _ _ _ _ _ _ _ _ _ _ _ _
   | exact LeO.none _
   | refine LeO.ite ?_ ?_
   | refine LeO.bind ?_ (fun _ => ?_)
theorem manystrandlaw11_short.mono : ∀ a0 k, LeO (manystrandlaw11_short.f k a0) (manystrandlaw11_short.f (k + 1) a0) := by
 intro a0 k
 obtain ⟨ih0, ih1⟩ := manystrandlaw11_short.mono_l k
 unfold manystrandlaw11_short.f
 repeat' first
   | (with_reducible exact ih0 _ _ _ _)
   | (with_reducible exact ih1 _ _ _ _ _ _ _ _ _ _ _ _ _)
   | (with_reducible exact LeO.refl _)
   | (with_reducible exact LeO.none _)
   | (with_reducible refine LeO.ite ?_ ?_)
   | (with_reducible refine LeO.bind ?_ (fun _ => ?_))
   | exact ih0 _ _ _ _
   | exact ih1 _ _ _ _ _ _ _ _ _ _ _ _ _
   | exact LeO.none _
   | refine LeO.ite ?_ ?_
   | refine LeO.bind ?_ (fun _ => ?_)
set_option maxHeartbeats 8000000 in
set_option maxRecDepth 100000 in
theorem manystrandlaw11_short.calls (k : Nat) (A0 : Option Addr) (c0 : Nat) (l0 : List (S43)) (r : Bool) (w : World) (hr0 : Kd.C k43 w A0 l0.length l0) (hc0 : l0.length ≤ c0) (h : manystrandlaw11_short.f k l0 = some r) :
  Calls Try.prog 14 #[.slice A0 l0.length c0] w fun e w' => e = .returned (.bool r) ∧ Below w.heap.size w w' := by
 have hu43 := Try.underlying43
 have HR0 := Aside0.mk hr0
 have HC0 := Aside0.mk hc0
 clear hr0 hc0
 have HB := Aside0.mk (Below.refl w.heap.size w)
 have H : (if (l0.length : Int) > 200 then (some false) else (manystrandlaw11_short.l0 k 0 l0 (l0.length : Int) 0)) = some r := h
 clear h
 by_cases c2 : (l0.length : Int) > 200
 ·rw [if_pos c2] at H
  have c2b0 : decide (200 < (l0.length : Int)) = true := decide_eq_true c2
  have c2b1 : decide (200 < l0.length) = true := decide_eq_true (by omega)
  clear c2
  obtain rfl := Option.some.inj H
  go_enter Try.func14, Try.ntmps14
  go_wp2
  go_ret
  exact ⟨by first | rfl | (simp [errW_none, errW_some] <;> rfl) | (simp [*, errW_none, errW_some] <;> rfl) | (simp [errW_none, errW_some]; exact Go.Proofs.YtonfbhcafejblaaW.OwnWords.isEmpty_bne _), by repeat (first | (with_reducible first | exact HB.out | apply below_alloc | apply pw_below_drewN | apply below_drew1) | exact HB.out)⟩
 ·rw [if_neg c2] at H
  have c2b0 : decide (200 < (l0.length : Int)) = false := decide_eq_false c2
  have c2b1 : decide (200 < l0.length) = false := decide_eq_false (by omega)
  clear c2
  have H' := Aside0.mk H
  clear H
  go_enter Try.func14, Try.ntmps14
  go_wp2
  go_loopg [3, 11] k (fun kq v3 v11 w' => ∃ (x3_1 : Int) (x11_1 : Int), v3 = .int .i64 x3_1 ∧ v11 = .int .i64 x11_1 ∧ Aside0 (manystrandlaw11_short.l0 kq x3_1 l0 (l0.length : Int) x11_1 = some r) ∧ Aside0 (kq ≤ k) ∧ Aside0 (Below w.heap.size w w'))
  case atStart => exact ⟨(0), (0), (by first | rfl | (simp; done) | (simp [*]; done)), (by first | rfl | (simp; done) | (simp [*]; done)), H', ⟨Nat.le_refl _⟩, ⟨by repeat (first | (with_reducible first | exact HB.out | apply below_alloc | apply pw_below_drewN | apply below_drew1) | exact HB.out)⟩⟩
  case round =>
   clear H'
   try clear c1
   try clear c2
   try clear c2b0
   try clear c2b1
   try clear p2
   obtain ⟨x3_1, x11_1, rfl, rfl, HA, HK1, HB⟩ := hrel
   cases gk with
   | zero => exact absurd HA.out (by simp [manystrandlaw11_short.l0])
   | succ k1 =>
    have H := HA.out
    clear HA
    simp only [manystrandlaw11_short.l0] at H
    by_cases c3 : x11_1 < (l0.length : Int)
    ·rw [if_pos c3] at H
     have c3b0 : decide (x11_1 < (l0.length : Int)) = true := decide_eq_true c3
     clear c3
     by_cases c4 : 0 ≤ x11_1
     ·rw [if_pos c4] at H
      have c4b0 : decide (0 ≤ x11_1) = true := decide_eq_true c4
      clear c4
      by_cases c5 : x11_1 < (l0.length : Int)
      ·rw [if_pos c5] at H
       have c5b0 : decide (x11_1 < (l0.length : Int)) = true := decide_eq_true c5
       clear c5
       have HC6 := Aside0.mk H
       clear H
       have p108 : 0 ≤ (x11_1 : Int) := of_decide_eq_true (by first | (with_reducible assumption) | assumption)
       have q108 : x11_1 < (l0.length : Int) := of_decide_eq_true (by first | (with_reducible assumption) | assumption)
       obtain ⟨ad108, e108, hx108_0, hx108_1, hx108_2, hx108_3, hx108_4, hx108_5, hx108_6, hx108_7⟩ := at_T43 HR0.out x11_1 p108 q108
       cases e108
       replace hx108_0 := (HB.out.cell (World.block_lt_of_cell? w _ hx108_0)).trans hx108_0
       replace hx108_1 := (HB.out.cell (World.block_lt_of_cell? w _ hx108_1)).trans hx108_1
       replace hx108_2 := (HB.out.cell (World.block_lt_of_cell? w _ hx108_2)).trans hx108_2
       replace hx108_3 := (HB.out.cell (World.block_lt_of_cell? w _ hx108_3)).trans hx108_3
       replace hx108_4 := (HB.out.cell (World.block_lt_of_cell? w _ hx108_4)).trans hx108_4
       replace hx108_5 := (HB.out.cell (World.block_lt_of_cell? w _ hx108_5)).trans hx108_5
       replace hx108_6 := (HB.out.cell (World.block_lt_of_cell? w _ hx108_6)).trans hx108_6
       replace hx108_7 := (HB.out.cell (World.block_lt_of_cell? w _ hx108_7)).trans hx108_7
       replace p108 := eq_true p108
       replace q108 := eq_true q108
       go_upto_region 7 with (first | ((with_reducible refine gate_dst (N := 5) rfl ?_); (try (refine gate_guard (by rfl) ?_; dsimp only)); refine box_event ?hg (N := 5) ?hd (cs := #[.int .i64 0, .string (⟨#[]⟩ : ByteArray), .int .i64 0, .int .i64 0, .int .i64 0, .int .i64 0, .int .i64 0, .string (⟨#[]⟩ : ByteArray)]) (t := 43) ?hr ?_; (case hd => rfl); (case hg => rfl); (case hr => first | (go_simp; done) | (go_simp; rfl)); intro gb109 hg w7 hbox hb; have n0_ := Aside0.mk (below_step (by repeat (first | (with_reducible first | exact HB.out | apply below_alloc | apply pw_below_drewN | apply below_drew1) | exact HB.out)) hb); have n1_ := Aside0.mk (hbox); have n2_ := Aside0.mk ((by rw [hg]; exact (below_size (by repeat (first | (with_reducible first | exact HB.out | apply below_alloc | apply pw_below_drewN | apply below_drew1) | exact HB.out))) : w.heap.size ≤ gb109)); have n3_ := Aside0.mk ((by rw [hg]; exact (below_size (by repeat (first | (with_reducible first | exact HB.out | apply below_alloc | apply pw_below_drewN | apply below_drew1) | exact HB.out))) : w.heap.size ≤ gb109)); clear HB; have HB := n0_; have BK109 := n1_; have GW109 := n2_; have GE109 := n3_; clear n0_ n1_ n2_ n3_; clear hb hbox hg; have hcz8_0 : w7.cell? ⟨gb109, 0, none⟩ = some (.int .i64 0) := (blk_cell BK109.out 0).trans rfl; have hcz8_1 : w7.cell? ⟨gb109, 1, none⟩ = some (.string (⟨#[]⟩ : ByteArray)) := (blk_cell BK109.out 1).trans rfl; have hcz8_2 : w7.cell? ⟨gb109, 2, none⟩ = some (.int .i64 0) := (blk_cell BK109.out 2).trans rfl; have hcz8_3 : w7.cell? ⟨gb109, 3, none⟩ = some (.int .i64 0) := (blk_cell BK109.out 3).trans rfl; have hcz8_4 : w7.cell? ⟨gb109, 4, none⟩ = some (.int .i64 0) := (blk_cell BK109.out 4).trans rfl; have hcz8_5 : w7.cell? ⟨gb109, 5, none⟩ = some (.int .i64 0) := (blk_cell BK109.out 5).trans rfl; have hcz8_6 : w7.cell? ⟨gb109, 6, none⟩ = some (.int .i64 0) := (blk_cell BK109.out 6).trans rfl; have hcz8_7 : w7.cell? ⟨gb109, 7, none⟩ = some (.string (⟨#[]⟩ : ByteArray)) := (blk_cell BK109.out 7).trans rfl; have hfz8_0 := blk_frozen BK109.out 0; have hfz8_1 := blk_frozen BK109.out 1; have hfz8_2 := blk_frozen BK109.out 2; have hfz8_3 := blk_frozen BK109.out 3; have hfz8_4 := blk_frozen BK109.out 4; have hfz8_5 := blk_frozen BK109.out 5; have hfz8_6 := blk_frozen BK109.out 6; have hfz8_7 := blk_frozen BK109.out 7))
       (try simp only [Act.put, List.setIfInBounds_toArray, List.set_cons_zero, List.set_cons_succ])
       go_cut [25] (fun v25 wc => ∃ (kq : Nat) (x25_5 : Bool), v25 = .bool x25_5 ∧ Aside0 (manystrandlaw11_short.j1 kq x3_1 l0 (l0.length : Int) x11_1 x25_5 ((rd_T43 l0 x11_1).f0) ((rd_T43 l0 x11_1).f1) ((rd_T43 l0 x11_1).f2) ((rd_T43 l0 x11_1).f3) ((rd_T43 l0 x11_1).f4) ((rd_T43 l0 x11_1).f5) ((rd_T43 l0 x11_1).f6.f0) ((rd_T43 l0 x11_1).f6.f1) = some r) ∧ Aside0 (kq ≤ k1) ∧ Aside0 (wc.heap[gb109]? = some (.cells #[.int .i64 ((rd_T43 l0 x11_1).f0), .string ((rd_T43 l0 x11_1).f1), .int .i64 ((rd_T43 l0 x11_1).f2), .int .i64 ((rd_T43 l0 x11_1).f3), .int .i64 ((rd_T43 l0 x11_1).f4), .int .i64 ((rd_T43 l0 x11_1).f5), .int .i64 ((rd_T43 l0 x11_1).f6.f0), .string ((rd_T43 l0 x11_1).f6.f1)] 43 (0, 0))) ∧ Aside0 (Below w.heap.size w wc))
       case first =>
        have H := HC6.out
        clear HC6
        by_cases c9 : (((rd_T43 l0 x11_1).f1).size : Int) > 100
        ·rw [if_pos c9] at H
         have c9b0 : decide (100 < (((rd_T43 l0 x11_1).f1).size : Int)) = true := decide_eq_true c9
         have c9b1 : decide (100 < ((rd_T43 l0 x11_1).f1).size) = true := decide_eq_true (by omega)
         clear c9
         (first | rw [c9b0] | (simp only [i64_w, i32_w]; rw [c9b0]) | skip)
         have H' := Aside0.mk H
         clear H
         have hcz10_0 : w7.cell? ⟨gb109, 0, none⟩ = some (.int .i64 0) := (blk_cell BK109.out 0).trans rfl
         have hcz10_1 : w7.cell? ⟨gb109, 1, none⟩ = some (.string (⟨#[]⟩ : ByteArray)) := (blk_cell BK109.out 1).trans rfl
         have hcz10_2 : w7.cell? ⟨gb109, 2, none⟩ = some (.int .i64 0) := (blk_cell BK109.out 2).trans rfl
         have hcz10_3 : w7.cell? ⟨gb109, 3, none⟩ = some (.int .i64 0) := (blk_cell BK109.out 3).trans rfl
         have hcz10_4 : w7.cell? ⟨gb109, 4, none⟩ = some (.int .i64 0) := (blk_cell BK109.out 4).trans rfl
         have hcz10_5 : w7.cell? ⟨gb109, 5, none⟩ = some (.int .i64 0) := (blk_cell BK109.out 5).trans rfl
         have hcz10_6 : w7.cell? ⟨gb109, 6, none⟩ = some (.int .i64 0) := (blk_cell BK109.out 6).trans rfl
         have hcz10_7 : w7.cell? ⟨gb109, 7, none⟩ = some (.string (⟨#[]⟩ : ByteArray)) := (blk_cell BK109.out 7).trans rfl
         have hfz10_0 := blk_frozen BK109.out 0
         have hfz10_1 := blk_frozen BK109.out 1
         have hfz10_2 := blk_frozen BK109.out 2
         have hfz10_3 := blk_frozen BK109.out 3
         have hfz10_4 := blk_frozen BK109.out 4
         have hfz10_5 := blk_frozen BK109.out 5
         have hfz10_6 := blk_frozen BK109.out 6
         have hfz10_7 := blk_frozen BK109.out 7
         go_wp2
         go_meet
         case rel => exact ⟨_, (true), (by first | rfl | (simp; done) | (simp [*]; done)), H', ⟨by have := HK1.out; first | omega | exact Nat.le_refl _⟩, ⟨by (with_reducible repeat (first | refine blk_drewN ?_ _ | refine blk_drew ?_ | refine blk_alloc ?_ _)); refine blk_put (cs := #[.int .i64 ((rd_T43 l0 x11_1).f0), .string ((rd_T43 l0 x11_1).f1), .int .i64 ((rd_T43 l0 x11_1).f2), .int .i64 ((rd_T43 l0 x11_1).f3), .int .i64 ((rd_T43 l0 x11_1).f4), .int .i64 ((rd_T43 l0 x11_1).f5), .int .i64 ((rd_T43 l0 x11_1).f6.f0), .string (⟨#[]⟩ : ByteArray)]) ?_ 7 _ rfl; (with_reducible repeat (first | refine blk_drewN ?_ _ | refine blk_drew ?_ | refine blk_alloc ?_ _)); refine blk_put (cs := #[.int .i64 ((rd_T43 l0 x11_1).f0), .string ((rd_T43 l0 x11_1).f1), .int .i64 ((rd_T43 l0 x11_1).f2), .int .i64 ((rd_T43 l0 x11_1).f3), .int .i64 ((rd_T43 l0 x11_1).f4), .int .i64 ((rd_T43 l0 x11_1).f5), .int .i64 0, .string (⟨#[]⟩ : ByteArray)]) ?_ 6 _ rfl; (with_reducible repeat (first | refine blk_drewN ?_ _ | refine blk_drew ?_ | refine blk_alloc ?_ _)); refine blk_put (cs := #[.int .i64 ((rd_T43 l0 x11_1).f0), .string ((rd_T43 l0 x11_1).f1), .int .i64 ((rd_T43 l0 x11_1).f2), .int .i64 ((rd_T43 l0 x11_1).f3), .int .i64 ((rd_T43 l0 x11_1).f4), .int .i64 0, .int .i64 0, .string (⟨#[]⟩ : ByteArray)]) ?_ 5 _ rfl; (with_reducible repeat (first | refine blk_drewN ?_ _ | refine blk_drew ?_ | refine blk_alloc ?_ _)); refine blk_put (cs := #[.int .i64 ((rd_T43 l0 x11_1).f0), .string ((rd_T43 l0 x11_1).f1), .int .i64 ((rd_T43 l0 x11_1).f2), .int .i64 ((rd_T43 l0 x11_1).f3), .int .i64 0, .int .i64 0, .int .i64 0, .string (⟨#[]⟩ : ByteArray)]) ?_ 4 _ rfl; (with_reducible repeat (first | refine blk_drewN ?_ _ | refine blk_drew ?_ | refine blk_alloc ?_ _)); refine blk_put (cs := #[.int .i64 ((rd_T43 l0 x11_1).f0), .string ((rd_T43 l0 x11_1).f1), .int .i64 ((rd_T43 l0 x11_1).f2), .int .i64 0, .int .i64 0, .int .i64 0, .int .i64 0, .string (⟨#[]⟩ : ByteArray)]) ?_ 3 _ rfl; (with_reducible repeat (first | refine blk_drewN ?_ _ | refine blk_drew ?_ | refine blk_alloc ?_ _)); refine blk_put (cs := #[.int .i64 ((rd_T43 l0 x11_1).f0), .string ((rd_T43 l0 x11_1).f1), .int .i64 0, .int .i64 0, .int .i64 0, .int .i64 0, .int .i64 0, .string (⟨#[]⟩ : ByteArray)]) ?_ 2 _ rfl; (with_reducible repeat (first | refine blk_drewN ?_ _ | refine blk_drew ?_ | refine blk_alloc ?_ _)); refine blk_put (cs := #[.int .i64 ((rd_T43 l0 x11_1).f0), .string (⟨#[]⟩ : ByteArray), .int .i64 0, .int .i64 0, .int .i64 0, .int .i64 0, .int .i64 0, .string (⟨#[]⟩ : ByteArray)]) ?_ 1 _ rfl; (with_reducible repeat (first | refine blk_drewN ?_ _ | refine blk_drew ?_ | refine blk_alloc ?_ _)); refine blk_put (cs := #[.int .i64 0, .string (⟨#[]⟩ : ByteArray), .int .i64 0, .int .i64 0, .int .i64 0, .int .i64 0, .int .i64 0, .string (⟨#[]⟩ : ByteArray)]) ?_ 0 _ rfl; (with_reducible repeat (first | refine blk_drewN ?_ _ | refine blk_drew ?_ | refine blk_alloc ?_ _)); exact BK109.out⟩, ⟨by repeat (first | (with_reducible first | exact HB.out | apply below_alloc | apply pw_below_drewN | apply below_drew1 | refine below_set ?_ GE109.out) | exact HB.out)⟩⟩
        ·rw [if_neg c9] at H
         have c9b0 : decide (100 < (((rd_T43 l0 x11_1).f1).size : Int)) = false := decide_eq_false c9
         have c9b1 : decide (100 < ((rd_T43 l0 x11_1).f1).size) = false := decide_eq_false (by omega)
         clear c9
         (first | rw [c9b0] | (simp only [i64_w, i32_w]; rw [c9b0]) | skip)
         have H' := Aside0.mk H
         clear H
         have hcz11_0 : w7.cell? ⟨gb109, 0, none⟩ = some (.int .i64 0) := (blk_cell BK109.out 0).trans rfl
         have hcz11_1 : w7.cell? ⟨gb109, 1, none⟩ = some (.string (⟨#[]⟩ : ByteArray)) := (blk_cell BK109.out 1).trans rfl
         have hcz11_2 : w7.cell? ⟨gb109, 2, none⟩ = some (.int .i64 0) := (blk_cell BK109.out 2).trans rfl
         have hcz11_3 : w7.cell? ⟨gb109, 3, none⟩ = some (.int .i64 0) := (blk_cell BK109.out 3).trans rfl
         have hcz11_4 : w7.cell? ⟨gb109, 4, none⟩ = some (.int .i64 0) := (blk_cell BK109.out 4).trans rfl
         have hcz11_5 : w7.cell? ⟨gb109, 5, none⟩ = some (.int .i64 0) := (blk_cell BK109.out 5).trans rfl
         have hcz11_6 : w7.cell? ⟨gb109, 6, none⟩ = some (.int .i64 0) := (blk_cell BK109.out 6).trans rfl
         have hcz11_7 : w7.cell? ⟨gb109, 7, none⟩ = some (.string (⟨#[]⟩ : ByteArray)) := (blk_cell BK109.out 7).trans rfl
         have hfz11_0 := blk_frozen BK109.out 0
         have hfz11_1 := blk_frozen BK109.out 1
         have hfz11_2 := blk_frozen BK109.out 2
         have hfz11_3 := blk_frozen BK109.out 3
         have hfz11_4 := blk_frozen BK109.out 4
         have hfz11_5 := blk_frozen BK109.out 5
         have hfz11_6 := blk_frozen BK109.out 6
         have hfz11_7 := blk_frozen BK109.out 7
         go_wp2
         go_meet
         case rel => exact ⟨_, (decide ((((rd_T43 l0 x11_1).f6.f1).size : Int) > 200)), (by first | rfl | (simp; done) | (simp [*]; done)), H', ⟨by have := HK1.out; first | omega | exact Nat.le_refl _⟩, ⟨by (with_reducible repeat (first | refine blk_drewN ?_ _ | refine blk_drew ?_ | refine blk_alloc ?_ _)); refine blk_put (cs := #[.int .i64 ((rd_T43 l0 x11_1).f0), .string ((rd_T43 l0 x11_1).f1), .int .i64 ((rd_T43 l0 x11_1).f2), .int .i64 ((rd_T43 l0 x11_1).f3), .int .i64 ((rd_T43 l0 x11_1).f4), .int .i64 ((rd_T43 l0 x11_1).f5), .int .i64 ((rd_T43 l0 x11_1).f6.f0), .string (⟨#[]⟩ : ByteArray)]) ?_ 7 _ rfl; (with_reducible repeat (first | refine blk_drewN ?_ _ | refine blk_drew ?_ | refine blk_alloc ?_ _)); refine blk_put (cs := #[.int .i64 ((rd_T43 l0 x11_1).f0), .string ((rd_T43 l0 x11_1).f1), .int .i64 ((rd_T43 l0 x11_1).f2), .int .i64 ((rd_T43 l0 x11_1).f3), .int .i64 ((rd_T43 l0 x11_1).f4), .int .i64 ((rd_T43 l0 x11_1).f5), .int .i64 0, .string (⟨#[]⟩ : ByteArray)]) ?_ 6 _ rfl; (with_reducible repeat (first | refine blk_drewN ?_ _ | refine blk_drew ?_ | refine blk_alloc ?_ _)); refine blk_put (cs := #[.int .i64 ((rd_T43 l0 x11_1).f0), .string ((rd_T43 l0 x11_1).f1), .int .i64 ((rd_T43 l0 x11_1).f2), .int .i64 ((rd_T43 l0 x11_1).f3), .int .i64 ((rd_T43 l0 x11_1).f4), .int .i64 0, .int .i64 0, .string (⟨#[]⟩ : ByteArray)]) ?_ 5 _ rfl; (with_reducible repeat (first | refine blk_drewN ?_ _ | refine blk_drew ?_ | refine blk_alloc ?_ _)); refine blk_put (cs := #[.int .i64 ((rd_T43 l0 x11_1).f0), .string ((rd_T43 l0 x11_1).f1), .int .i64 ((rd_T43 l0 x11_1).f2), .int .i64 ((rd_T43 l0 x11_1).f3), .int .i64 0, .int .i64 0, .int .i64 0, .string (⟨#[]⟩ : ByteArray)]) ?_ 4 _ rfl; (with_reducible repeat (first | refine blk_drewN ?_ _ | refine blk_drew ?_ | refine blk_alloc ?_ _)); refine blk_put (cs := #[.int .i64 ((rd_T43 l0 x11_1).f0), .string ((rd_T43 l0 x11_1).f1), .int .i64 ((rd_T43 l0 x11_1).f2), .int .i64 0, .int .i64 0, .int .i64 0, .int .i64 0, .string (⟨#[]⟩ : ByteArray)]) ?_ 3 _ rfl; (with_reducible repeat (first | refine blk_drewN ?_ _ | refine blk_drew ?_ | refine blk_alloc ?_ _)); refine blk_put (cs := #[.int .i64 ((rd_T43 l0 x11_1).f0), .string ((rd_T43 l0 x11_1).f1), .int .i64 0, .int .i64 0, .int .i64 0, .int .i64 0, .int .i64 0, .string (⟨#[]⟩ : ByteArray)]) ?_ 2 _ rfl; (with_reducible repeat (first | refine blk_drewN ?_ _ | refine blk_drew ?_ | refine blk_alloc ?_ _)); refine blk_put (cs := #[.int .i64 ((rd_T43 l0 x11_1).f0), .string (⟨#[]⟩ : ByteArray), .int .i64 0, .int .i64 0, .int .i64 0, .int .i64 0, .int .i64 0, .string (⟨#[]⟩ : ByteArray)]) ?_ 1 _ rfl; (with_reducible repeat (first | refine blk_drewN ?_ _ | refine blk_drew ?_ | refine blk_alloc ?_ _)); refine blk_put (cs := #[.int .i64 0, .string (⟨#[]⟩ : ByteArray), .int .i64 0, .int .i64 0, .int .i64 0, .int .i64 0, .int .i64 0, .string (⟨#[]⟩ : ByteArray)]) ?_ 0 _ rfl; (with_reducible repeat (first | refine blk_drewN ?_ _ | refine blk_drew ?_ | refine blk_alloc ?_ _)); exact BK109.out⟩, ⟨by repeat (first | (with_reducible first | exact HB.out | apply below_alloc | apply pw_below_drewN | apply below_drew1 | refine below_set ?_ GE109.out) | exact HB.out)⟩⟩
       case rest =>
        clear HC6
        try clear c1
        try clear p1
        try clear q1
        try clear hx1
        try clear c2
        try clear c2b0
        try clear c2b1
        try clear p2
        try clear c3
        try clear c3b0
        try clear c4
        try clear c4b0
        try clear c5
        try clear c5b0
        try clear c9
        try clear c9b0
        try clear c9b1
        try clear p10
        try clear q10
        try clear hx10
        try clear hcz10_0
        try clear hcz10_1
        try clear hcz10_2
        try clear hcz10_3
        try clear hcz10_4
        try clear hcz10_5
        try clear hcz10_6
        try clear hcz10_7
        try clear hcz11_0
        try clear hcz11_1
        try clear hcz11_2
        try clear hcz11_3
        try clear hcz11_4
        try clear hcz11_5
        try clear hcz11_6
        try clear hcz11_7
        try clear hcz8_0
        try clear hcz8_1
        try clear hcz8_2
        try clear hcz8_3
        try clear hcz8_4
        try clear hcz8_5
        try clear hcz8_6
        try clear hcz8_7
        try clear hfz10_0
        try clear hfz10_1
        try clear hfz10_2
        try clear hfz10_3
        try clear hfz10_4
        try clear hfz10_5
        try clear hfz10_6
        try clear hfz10_7
        try clear hfz11_0
        try clear hfz11_1
        try clear hfz11_2
        try clear hfz11_3
        try clear hfz11_4
        try clear hfz11_5
        try clear hfz11_6
        try clear hfz11_7
        try clear hfz8_0
        try clear hfz8_1
        try clear hfz8_2
        try clear hfz8_3
        try clear hfz8_4
        try clear hfz8_5
        try clear hfz8_6
        try clear hfz8_7
        try clear hx108_0
        try clear hx108_1
        try clear hx108_2
        try clear hx108_3
        try clear hx108_4
        try clear hx108_5
        try clear hx108_6
        try clear hx108_7
        try clear p108
        try clear p2
        try clear q108
        obtain ⟨kq, x25_5, rfl, HA, HJ5, BK109, HB⟩ := hcut
        cases kq with
        | zero => exact absurd HA.out (by simp [manystrandlaw11_short.j1])
        | succ kj5 =>
         have H := HA.out
         clear HA
         simp only [manystrandlaw11_short.j1] at H
         by_cases c12 : x25_5 = true
         ·subst c12
          have H1 : (some false) = some r := by rw [if_pos rfl] at H; exact H
          clear H
          have H := H1
          clear H1
          obtain rfl := Option.some.inj H
          go_wp2
          go_ret
          exact ⟨by first | rfl | (simp [errW_none, errW_some] <;> rfl) | (simp [*, errW_none, errW_some] <;> rfl) | (simp [errW_none, errW_some]; exact Go.Proofs.YtonfbhcafejblaaW.OwnWords.isEmpty_bne _), by repeat (first | (with_reducible first | exact HB.out | apply below_alloc | apply pw_below_drewN | apply below_drew1 | refine below_set ?_ GE109.out) | exact HB.out)⟩
         ·replace c12 := Bool.eq_false_iff.mpr c12
          subst c12
          have H1 : (if ((rd_T43 l0 x11_1).f0) = 1 then (manystrandlaw11_short.l0 kj5 (wrap64 (x3_1 + 1)) l0 (l0.length : Int) (wrap64 (x11_1 + 1))) else (if ((rd_T43 l0 x11_1).f0) = 12 then (manystrandlaw11_short.l0 kj5 (wrap64 (x3_1 + 1)) l0 (l0.length : Int) (wrap64 (x11_1 + 1))) else (manystrandlaw11_short.l0 kj5 x3_1 l0 (l0.length : Int) (wrap64 (x11_1 + 1))))) = some r := by rw [if_neg (show ¬ (false = true) by decide)] at H; exact H
          clear H
          have H := H1
          clear H1
          by_cases c13 : ((rd_T43 l0 x11_1).f0) = 1
          ·rw [if_pos c13] at H
           have c13b0 : (((rd_T43 l0 x11_1).f0) == 1) = true := beq_iff_eq.mpr c13
           have c13b1 : (((rd_T43 l0 x11_1).f0) != 1) = false := bne_eq_false_iff_eq.mpr c13
           clear c13
           have H' := Aside0.mk H
           clear H
           have hcz14_0 : wc.cell? ⟨gb109, 0, none⟩ = some (.int .i64 ((rd_T43 l0 x11_1).f0)) := (blk_cell BK109.out 0).trans rfl
           have hcz14_1 : wc.cell? ⟨gb109, 1, none⟩ = some (.string ((rd_T43 l0 x11_1).f1)) := (blk_cell BK109.out 1).trans rfl
           have hcz14_2 : wc.cell? ⟨gb109, 2, none⟩ = some (.int .i64 ((rd_T43 l0 x11_1).f2)) := (blk_cell BK109.out 2).trans rfl
           have hcz14_3 : wc.cell? ⟨gb109, 3, none⟩ = some (.int .i64 ((rd_T43 l0 x11_1).f3)) := (blk_cell BK109.out 3).trans rfl
           have hcz14_4 : wc.cell? ⟨gb109, 4, none⟩ = some (.int .i64 ((rd_T43 l0 x11_1).f4)) := (blk_cell BK109.out 4).trans rfl
           have hcz14_5 : wc.cell? ⟨gb109, 5, none⟩ = some (.int .i64 ((rd_T43 l0 x11_1).f5)) := (blk_cell BK109.out 5).trans rfl
           have hcz14_6 : wc.cell? ⟨gb109, 6, none⟩ = some (.int .i64 ((rd_T43 l0 x11_1).f6.f0)) := (blk_cell BK109.out 6).trans rfl
           have hcz14_7 : wc.cell? ⟨gb109, 7, none⟩ = some (.string ((rd_T43 l0 x11_1).f6.f1)) := (blk_cell BK109.out 7).trans rfl
           have hfz14_0 := blk_frozen BK109.out 0
           have hfz14_1 := blk_frozen BK109.out 1
           have hfz14_2 := blk_frozen BK109.out 2
           have hfz14_3 := blk_frozen BK109.out 3
           have hfz14_4 := blk_frozen BK109.out 4
           have hfz14_5 := blk_frozen BK109.out 5
           have hfz14_6 := blk_frozen BK109.out 6
           have hfz14_7 := blk_frozen BK109.out 7
           go_wp2
           go_roundg kj5
           case measure => have := HK1.out; have := HJ5.out; omega
           case rel => exact ⟨(wrap64 (x3_1 + 1)), (wrap64 (x11_1 + 1)), (by first | rfl | (simp; done) | (simp [*]; done)), (by first | rfl | (simp; done) | (simp [*]; done)), H', ⟨by have := HK1.out; have := HJ5.out; omega⟩, ⟨by repeat (first | (with_reducible first | exact HB.out | apply below_alloc | apply pw_below_drewN | apply below_drew1 | refine below_set ?_ GE109.out) | exact HB.out)⟩⟩
          ·rw [if_neg c13] at H
           have c13b0 : (((rd_T43 l0 x11_1).f0) == 1) = false := beq_eq_false_iff_ne.mpr c13
           have c13b1 : (((rd_T43 l0 x11_1).f0) != 1) = true := bne_iff_ne.mpr c13
           by_cases c15 : ((rd_T43 l0 x11_1).f0) = 12
           ·rw [if_pos c15] at H
            have c15b0 : (((rd_T43 l0 x11_1).f0) == 12) = true := beq_iff_eq.mpr c15
            have c15b1 : (((rd_T43 l0 x11_1).f0) != 12) = false := bne_eq_false_iff_eq.mpr c15
            clear c15
            have H' := Aside0.mk H
            clear H
            have hcz16_0 : wc.cell? ⟨gb109, 0, none⟩ = some (.int .i64 ((rd_T43 l0 x11_1).f0)) := (blk_cell BK109.out 0).trans rfl
            have hcz16_1 : wc.cell? ⟨gb109, 1, none⟩ = some (.string ((rd_T43 l0 x11_1).f1)) := (blk_cell BK109.out 1).trans rfl
            have hcz16_2 : wc.cell? ⟨gb109, 2, none⟩ = some (.int .i64 ((rd_T43 l0 x11_1).f2)) := (blk_cell BK109.out 2).trans rfl
            have hcz16_3 : wc.cell? ⟨gb109, 3, none⟩ = some (.int .i64 ((rd_T43 l0 x11_1).f3)) := (blk_cell BK109.out 3).trans rfl
            have hcz16_4 : wc.cell? ⟨gb109, 4, none⟩ = some (.int .i64 ((rd_T43 l0 x11_1).f4)) := (blk_cell BK109.out 4).trans rfl
            have hcz16_5 : wc.cell? ⟨gb109, 5, none⟩ = some (.int .i64 ((rd_T43 l0 x11_1).f5)) := (blk_cell BK109.out 5).trans rfl
            have hcz16_6 : wc.cell? ⟨gb109, 6, none⟩ = some (.int .i64 ((rd_T43 l0 x11_1).f6.f0)) := (blk_cell BK109.out 6).trans rfl
            have hcz16_7 : wc.cell? ⟨gb109, 7, none⟩ = some (.string ((rd_T43 l0 x11_1).f6.f1)) := (blk_cell BK109.out 7).trans rfl
            have hfz16_0 := blk_frozen BK109.out 0
            have hfz16_1 := blk_frozen BK109.out 1
            have hfz16_2 := blk_frozen BK109.out 2
            have hfz16_3 := blk_frozen BK109.out 3
            have hfz16_4 := blk_frozen BK109.out 4
            have hfz16_5 := blk_frozen BK109.out 5
            have hfz16_6 := blk_frozen BK109.out 6
            have hfz16_7 := blk_frozen BK109.out 7
            go_wp2
            go_roundg kj5
            case measure => have := HK1.out; have := HJ5.out; omega
            case rel => exact ⟨(wrap64 (x3_1 + 1)), (wrap64 (x11_1 + 1)), (by first | rfl | (simp; done) | (simp [*]; done)), (by first | rfl | (simp; done) | (simp [*]; done)), H', ⟨by have := HK1.out; have := HJ5.out; omega⟩, ⟨by repeat (first | (with_reducible first | exact HB.out | apply below_alloc | apply pw_below_drewN | apply below_drew1 | refine below_set ?_ GE109.out) | exact HB.out)⟩⟩
           ·rw [if_neg c15] at H
            have c15b0 : (((rd_T43 l0 x11_1).f0) == 12) = false := beq_eq_false_iff_ne.mpr c15
            have c15b1 : (((rd_T43 l0 x11_1).f0) != 12) = true := bne_iff_ne.mpr c15
            have H' := Aside0.mk H
            clear H
            have hcz17_0 : wc.cell? ⟨gb109, 0, none⟩ = some (.int .i64 ((rd_T43 l0 x11_1).f0)) := (blk_cell BK109.out 0).trans rfl
            have hcz17_1 : wc.cell? ⟨gb109, 1, none⟩ = some (.string ((rd_T43 l0 x11_1).f1)) := (blk_cell BK109.out 1).trans rfl
            have hcz17_2 : wc.cell? ⟨gb109, 2, none⟩ = some (.int .i64 ((rd_T43 l0 x11_1).f2)) := (blk_cell BK109.out 2).trans rfl
            have hcz17_3 : wc.cell? ⟨gb109, 3, none⟩ = some (.int .i64 ((rd_T43 l0 x11_1).f3)) := (blk_cell BK109.out 3).trans rfl
            have hcz17_4 : wc.cell? ⟨gb109, 4, none⟩ = some (.int .i64 ((rd_T43 l0 x11_1).f4)) := (blk_cell BK109.out 4).trans rfl
            have hcz17_5 : wc.cell? ⟨gb109, 5, none⟩ = some (.int .i64 ((rd_T43 l0 x11_1).f5)) := (blk_cell BK109.out 5).trans rfl
            have hcz17_6 : wc.cell? ⟨gb109, 6, none⟩ = some (.int .i64 ((rd_T43 l0 x11_1).f6.f0)) := (blk_cell BK109.out 6).trans rfl
            have hcz17_7 : wc.cell? ⟨gb109, 7, none⟩ = some (.string ((rd_T43 l0 x11_1).f6.f1)) := (blk_cell BK109.out 7).trans rfl
            have hfz17_0 := blk_frozen BK109.out 0
            have hfz17_1 := blk_frozen BK109.out 1
            have hfz17_2 := blk_frozen BK109.out 2
            have hfz17_3 := blk_frozen BK109.out 3
            have hfz17_4 := blk_frozen BK109.out 4
            have hfz17_5 := blk_frozen BK109.out 5
            have hfz17_6 := blk_frozen BK109.out 6
            have hfz17_7 := blk_frozen BK109.out 7
            go_wp2
            go_roundg kj5
            case measure => have := HK1.out; have := HJ5.out; omega
            case rel => exact ⟨(x3_1), (wrap64 (x11_1 + 1)), (by first | rfl | (simp; done) | (simp [*]; done)), (by first | rfl | (simp; done) | (simp [*]; done)), H', ⟨by have := HK1.out; have := HJ5.out; omega⟩, ⟨by repeat (first | (with_reducible first | exact HB.out | apply below_alloc | apply pw_below_drewN | apply below_drew1 | refine below_set ?_ GE109.out) | exact HB.out)⟩⟩
      ·rw [if_neg c5] at H
       exact absurd H (by simp)
     ·rw [if_neg c4] at H
      exact absurd H (by simp)
    ·rw [if_neg c3] at H
     have c3b0 : decide (x11_1 < (l0.length : Int)) = false := decide_eq_false c3
     clear c3
     obtain rfl := Option.some.inj H
     go_wp2
     go_ret
     exact ⟨by first | rfl | (simp [errW_none, errW_some] <;> rfl) | (simp [*, errW_none, errW_some] <;> rfl) | (simp [errW_none, errW_some]; exact Go.Proofs.YtonfbhcafejblaaW.OwnWords.isEmpty_bne _), by repeat (first | (with_reducible first | exact HB.out | apply below_alloc | apply pw_below_drewN | apply below_drew1) | exact HB.out)⟩

end Go.Proofs.Ytonfbhcafejblaa.Q
