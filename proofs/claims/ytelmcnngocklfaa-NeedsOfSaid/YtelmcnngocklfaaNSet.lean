import Derived.Test.YtelmcnngocklfaaNOpen
import Derived.Test.YtelmcnngocklfaaNReach
/-! needs.set at awake's statement. -/
namespace Go.Proofs.Ytelmcnngocklfaa.Need
set_option linter.unusedVariables false
set_option linter.unusedSimpArgs false
open Go.RowKit Go.Proofs.YtelmcnngocklfaaW.PrintWords Go.Proofs.YtelmcnngocklfaaW.PrintLast Go.Proofs.YtelmcnngocklfaaW.PrintMore
theorem Lie.below {w w' : World} {q5 b3 : Nat} (h : Lie w q5 b3) (hb : Below w.heap.size w w') : Lie w' q5 b3 := by
  obtain ⟨B4, q6, d4, d5, C3, C4, q7, e3, e4, e5, D3, D4, D5, f3, f4, f5, y1, k1, y2, k2, y3, k3⟩ := h.e
  exact ⟨B4, q6, d4, d5, C3, C4, q7, e3, e4, e5, D3, D4, D5, f3, f4, f5, y1.below hb, blk_below k1 hb, y2.below hb, blk_below k2 hb, y3.below hb, blk_below k3 hb⟩
abbrev no9 : Array Value := #[.bool false, .bool false, .bool false, .bool false, .bool false, .bool false, .bool false, .bool false, .bool false]
abbrev one9 : Array Value := #[.bool true, .bool false, .bool false, .bool false, .bool false, .bool false, .bool false, .bool false, .bool false]
structure SetS (w wx : World) (pb lb lc g : Nat) (nm lo pr us v : Value) : Prop where
  a2 : wx.heap[w.heap.size + 1]? = some (.cells no9 46 (0, 0))
  a4 : wx.heap[w.heap.size + 1 + 1]? = some (.cells one9 46 (0, 0))
  P : wx.heap[pb]? = some (.cells #[nm, lo, pr, us, .slice (some ⟨lb, 0, none⟩) 2 lc] 68 (0, 0))
  rl : wx.ownsRow w.heap.size 29 1 (.slice (some ⟨lb, 0, none⟩) 2 lc) 2 [.slice none 0 0, v]
  is : wx.heap[g]? = some (.cells #[.bool false] 4 (0, 0))
  bel : Below w.heap.size w wx
theorem three_new (w : World) (o o' o'' : Obj) : (((w.alloc o).alloc o').alloc o'').heap[w.heap.size]? = some o ∧ (((w.alloc o).alloc o').alloc o'').heap[w.heap.size + 1]? = some o' ∧ (((w.alloc o).alloc o').alloc o'').heap[w.heap.size + 1 + 1]? = some o'' ∧ Below w.heap.size w (((w.alloc o).alloc o').alloc o'') := by
  have s1 : (w.alloc o).heap.size = w.heap.size + 1 := by simp
  have s2 : ((w.alloc o).alloc o').heap.size = w.heap.size + 1 + 1 := by simp
  refine ⟨blk_alloc (blk_alloc (blk_new _ _) _) _, ?_, ?_, below_alloc (below_alloc (below_alloc (Below.refl _ _) _) _) _⟩
  · rw [← s1]; exact blk_alloc (blk_new _ _) _
  · rw [← s2]; exact blk_new _ _
set_option maxHeartbeats 4000000 in
set_option maxRecDepth 100000 in
theorem set_walk (w : World) {A3 A4 : Option Addr} {q5 b3 c3 c4 c5 : Nat} (h : SF w s0 A3 c3 A4 c4 (some ⟨q5, 0, none⟩) c5) (hl : Lie w q5 b3) :
    Calls Try.prog 20 #[ag nLocal A3 1 c3 A4 c4 (some ⟨q5, 0, none⟩) 1 c5] w (fun e w' => e = .returned (.tuple #[.agg one9, .int .i64 0]) ∧ Below w.heap.size w w') := by
  obtain ⟨t0, t1, t2, hS⟩ := three_new w (.cells #[.string nLocal, .string no, .int .i64 0, .slice A3 1 c3, .slice A4 0 c4, .slice (some ⟨q5, 0, none⟩) 1 c5] 26 (0, 0)) (.cells no9 46 (0, 0)) (.cells no9 46 (0, 0))
  have H := Aside0.mk (And.intro h hl)
  have T := Aside0.mk (And.intro t0 (And.intro t1 (And.intro t2 hS)))
  have x0 := (blk_cell t0 0).trans rfl
  have x1 := (blk_cell t0 1).trans rfl
  have x2 := (blk_cell t0 2).trans rfl
  have x3 := (blk_cell t0 3).trans rfl
  have x4 := (blk_cell t0 4).trans rfl
  have x5 := (blk_cell t0 5).trans rfl
  have hn : (w.heap.size + 1 + 1) + 1 ≤ (((w.alloc (.cells #[.string nLocal, .string no, .int .i64 0, .slice A3 1 c3, .slice A4 0 c4, .slice (some ⟨q5, 0, none⟩) 1 c5] 26 (0, 0))).alloc (.cells no9 46 (0, 0))).alloc (.cells no9 46 (0, 0))).heap.size := by simp
  have HN := Aside0.mk hn
  clear h hl t0 t1 t2 hS hn
  go_enter Try.func20, Try.ntmps20
  go_wp2_with (first
    | (go_at_call 29; go_loud ((refine (Valid_walk _ (H.out.1.below T.out.2.2.2) (H.out.2.below T.out.2.2.2)).mono ?_); rintro e w2 ⟨rfl, hb⟩; have HB2 := Aside0.mk hb; have HW2 := Aside0.mk (below_then T.out.2.2.2 T.out.2.2.2.size hb); have y0 := (blk_cell (blk_below T.out.1 hb) 0).trans rfl; have y1 := (blk_cell (blk_below T.out.1 hb) 1).trans rfl; have y2 := (blk_cell (blk_below T.out.1 hb) 2).trans rfl; have y3 := (blk_cell (blk_below T.out.1 hb) 3).trans rfl; have y4 := (blk_cell (blk_below T.out.1 hb) 4).trans rfl; have y5 := (blk_cell (blk_below T.out.1 hb) 5).trans rfl; clear hb x0 x1 x2 x3 x4 x5))
    | (go_at_call 30; go_loud ((refine (open_walk _ (H.out.1.below HW2.out) (H.out.2.below HW2.out)).mono ?_); rintro e w3 ⟨pb, nm, lo, pr, us, lb, lc, v, rfl, h1, h2, h3, h4, h5, h6, h7, h8⟩; have H1 := Aside0.mk h1; have H2 := Aside0.mk h2; have H3 := Aside0.mk h3; have H4 := Aside0.mk h4; have H5 := Aside0.mk h5; have H6 := Aside0.mk h6; have H7 := Aside0.mk h7; have H8 := Aside0.mk h8; clear h1 h2 h3 h4 h5 h6 h7 h8 y0 y1 y2 y3 y4 y5))
    | (go_at_call 31; go_loud ((refine (reached_walk _ _ pb nm lo pr us _ H2.out H3.out H4.out H5.out).mono ?_); rintro e w4 ⟨g, rfl, h1, h2⟩; have HI := Aside0.mk h1; have HB4 := Aside0.mk h2; have A4' := Aside0.mk (blk_below (blk_below (blk_below T.out.2.2.1 HB2.out) H8.out) h2); have P4 := Aside0.mk (blk_below H2.out h2); have z0 := (blk_cell A4'.out 0).trans rfl; have zf := blk_frozen A4'.out 0; have p4 := (blk_cell (blk_far P4.out (p := ⟨w.heap.size + 1 + 1, 0, none⟩) (blk_apart P4.out A4'.out (by decide)) (.bool true)) 4).trans rfl; clear h1 h2)))
  go_loopg [25] 3 (fun kq v25 wx => ∃ i : Nat, v25 = .int .i64 (i : Int) ∧ Aside0 (i + kq = 3 ∧ i ≤ 2) ∧ Aside0 (SetS w wx pb lb lc g nm lo pr us v))
  case atStart =>
    refine ⟨0, rfl, ⟨by omega⟩, ⟨⟨?_, ?_, ?_, ?_, ?_, ?_⟩⟩⟩
    · exact blk_far (blk_below (blk_below (blk_below T.out.2.1 HB2.out) H8.out) HB4.out) (by show w.heap.size + 1 ≠ w.heap.size + 1 + 1; omega) _
    · exact blk_put A4'.out 0 _ rfl
    · exact blk_far P4.out (blk_apart P4.out A4'.out (by decide)) _
    · exact own_weak (own_put (own_below H7.out HB4.out) (by have := HB2.out.size; have := HN.out; omega) _) HW2.out.size
    · exact blk_far HI.out (blk_apart HI.out A4'.out (by decide)) _
    · exact below_set (below_then (below_then HW2.out HW2.out.size H8.out) (Nat.le_trans HW2.out.size H8.out.size) HB4.out) (by omega)
  case round =>
    clear z0 zf p4 HI A4' P4 HB4 H1 H2 H3 H4 H5 H6 H7 H8 HB2 HW2
    obtain ⟨i, rfl, HJ, HX⟩ := hrel
    cases gk with
    | zero => have := HJ.out; omega
    | succ k1 =>
      match i with
      | 0 =>
        have p0 := (HX.out.rl.cellAt 0 (by decide)).trans rfl
        go_wp2_with fail
        go_loopg [42] 1 (fun kq v42 wx => v42 = .int .i64 0 ∧ wr = wx)
        case atStart => exact ⟨rfl, rfl⟩
        case round =>
          obtain ⟨rfl, rfl⟩ := hrel
          clear p0
          go_wp2_with fail
          go_roundg k1
          case measure => have := HJ.out; omega
          case rel => exact ⟨1, by first | rfl | (simp; done), ⟨by have := HJ.out; omega⟩, HX⟩
      | 1 =>
        have p0 := (HX.out.rl.cellAt 1 (by decide)).trans rfl
        have p1 := (blk_cell HX.out.is 0).trans rfl
        go_wp2_with fail
        go_roundg k1
        case measure => have := HJ.out; omega
        case rel => exact ⟨2, by first | rfl | (simp; done), ⟨by have := HJ.out; omega⟩, HX⟩
      | 2 =>
        have q0 := (blk_cell HX.out.a4 0).trans rfl
        have q1 := (blk_cell HX.out.a4 1).trans rfl
        have q2 := (blk_cell HX.out.a4 2).trans rfl
        have q3 := (blk_cell HX.out.a4 3).trans rfl
        have q4 := (blk_cell HX.out.a4 4).trans rfl
        have q5' := (blk_cell HX.out.a4 5).trans rfl
        have q6 := (blk_cell HX.out.a4 6).trans rfl
        have q7 := (blk_cell HX.out.a4 7).trans rfl
        have q8 := (blk_cell HX.out.a4 8).trans rfl
        have r0 := (blk_cell HX.out.a2 0).trans rfl
        have r1 := (blk_cell HX.out.a2 1).trans rfl
        have r2 := (blk_cell HX.out.a2 2).trans rfl
        have r3 := (blk_cell HX.out.a2 3).trans rfl
        have r4 := (blk_cell HX.out.a2 4).trans rfl
        have r5 := (blk_cell HX.out.a2 5).trans rfl
        have r6 := (blk_cell HX.out.a2 6).trans rfl
        have r7 := (blk_cell HX.out.a2 7).trans rfl
        have r8 := (blk_cell HX.out.a2 8).trans rfl
        have s0' := blk_frozen HX.out.a2 0
        have s1' := blk_frozen HX.out.a2 1
        have s2' := blk_frozen HX.out.a2 2
        have s3' := blk_frozen HX.out.a2 3
        have s4 := blk_frozen HX.out.a2 4
        have s5 := blk_frozen HX.out.a2 5
        have s6 := blk_frozen HX.out.a2 6
        have s7 := blk_frozen HX.out.a2 7
        have s8 := blk_frozen HX.out.a2 8
        have H2 := Aside0.mk HX.out
        clear HX
        go_wp2_with fail
        refine bodyPost_ret (results_ct rfl _ _ (w.heap.size + 1) 46 one9 (0, 0) _ rfl (by (with_reducible repeat (first | refine blk_drewN ?_ _ | refine blk_drew ?_)); exact blk_put (blk_put (blk_put (blk_put (blk_put (blk_put (blk_put (blk_put (blk_put H2.out.a2 0 _ rfl) 1 _ rfl) 2 _ rfl) 3 _ rfl) 4 _ rfl) 5 _ rfl) 6 _ rfl) 7 _ rfl) 8 _ rfl) Try.underlying46 rfl (by kernel_rfl)) rfl ?_
        refine ⟨rfl, ?_⟩
        repeat (first | (with_reducible first | exact H2.out.bel | apply pw_below_drewN | apply below_drew1) | (refine below_set ?_ (by omega)) | exact H2.out.bel)
      | i + 3 => have := HJ.out; omega
end Go.Proofs.Ytelmcnngocklfaa.Need
