import Derived.Test.YtelmcnngocklfaaNThread
/-! needs.reached at what awake has. -/
namespace Go.Proofs.Ytelmcnngocklfaa.Need
set_option linter.unusedVariables false
set_option linter.unusedSimpArgs false
open Go.RowKit Go.Proofs.YtelmcnngocklfaaW.PrintWords Go.Proofs.YtelmcnngocklfaaW.PrintLast Go.Proofs.YtelmcnngocklfaaW.PrintMore
theorem made1 : madeCells #[Value.bool false] 1 = #[.bool false] := by kernel_rfl
theorem make1 (W : World) : Sem.run Try.prog (Instr.makeSlice 62 (.int .i64 1) (.int .i64 1)) W = .ok (.slice (some ⟨W.heap.size, 0, none⟩) 1 1) (W.alloc (.cells #[.bool false] 4)) :=
  (run_make_row' (P := Try.prog) 62 4 (.bool false) 1 Try.underlying62 inf4 rfl .i64 .i64 1 (by decide) (by decide) W).trans (by rw [made1])
attribute [local go_sem high] make1
structure RcS (w wx : World) (B pb gl cl gp cp gu cu : Nat) (nm la : Value) : Prop where
  P : wx.heap[pb]? = some (.cells #[nm, .slice (some ⟨gl, 0, none⟩) 1 cl, .slice (some ⟨gp, 0, none⟩) 1 cp, .slice (some ⟨gu, 0, none⟩) 1 cu, la] 68 (0, 0))
  rl : wx.ownsRow B 4 1 (.slice (some ⟨gl, 0, none⟩) 1 cl) 1 [.bool true]
  rp : wx.ownsRow B 86 2 (.slice (some ⟨gp, 0, none⟩) 1 cp) 1 [.int .i64 0, .int .i64 (-1)]
  ru : wx.ownsRow B 88 4 (.slice (some ⟨gu, 0, none⟩) 1 cu) 1 [.int .i64 0, .int .i64 (-1), .int .i64 0, .bool false]
  is : wx.heap[w.heap.size]? = some (.cells #[.bool false] 4 (0, 0))
  bx : wx.heap[w.heap.size + 1]? = some (.cells #[.slice (some ⟨w.heap.size, 0, none⟩) 1 1] 62 (0, 0))
  bel : Below w.heap.size w wx
theorem RcS.below {w wx w' : World} {B pb gl cl gp cp gu cu : Nat} {nm la : Value} (h : RcS w wx B pb gl cl gp cp gu cu nm la) (hb : Below wx.heap.size wx w') : RcS w w' B pb gl cl gp cp gu cu nm la :=
  ⟨blk_below h.P hb, own_below h.rl hb, own_below h.rp hb, own_below h.ru hb, blk_below h.is hb, blk_below h.bx hb, below_then h.bel h.bel.size hb⟩
theorem own_one {w : World} {B e size : Nat} {v : Value} {xs : List Value} (h : w.ownsRow B e size v 1 xs) : ∃ g cap, v = .slice (some ⟨g, 0, none⟩) 1 cap ∧ B ≤ g ∧ g < w.heap.size := own_slice (n := 0) h
theorem two_new (w : World) (o o' : Obj) : ((w.alloc o).alloc o').heap[w.heap.size + 1]? = some o' := by
  have s1 : (w.alloc o).heap.size = w.heap.size + 1 := by simp
  rw [← s1]
  exact blk_new _ _
theorem in_neg (w : World) (g : Nat) : Calls Try.prog 46 #[.int .i64 (-1), .pointer (some ⟨g, 0, none⟩)] w (fun e w' => e = .returned (.bool true) ∧ w' = w) := by
  go_enter Try.func46, Try.ntmps46
  go_wp2_with fail
  go_ret
  exact ⟨rfl, rfl⟩
set_option maxHeartbeats 4000000 in
set_option maxRecDepth 100000 in
theorem reached_walk (w : World) (B pb : Nat) (nm lo pr us la : Value) (hp : w.heap[pb]? = some (.cells #[nm, lo, pr, us, la] 68 (0, 0))) (hlo : w.ownsRow B 4 1 lo 1 [.bool true]) (hpr : w.ownsRow B 86 2 pr 1 [.int .i64 0, .int .i64 (-1)]) (hus : w.ownsRow B 88 4 us 1 [.int .i64 0, .int .i64 (-1), .int .i64 0, .bool false]) :
    Calls Try.prog 31 #[.pointer (some ⟨pb, 0, none⟩)] w (fun e w' => ∃ g, e = .returned (.slice (some ⟨g, 0, none⟩) 1 1) ∧ w'.heap[g]? = some (.cells #[.bool false] 4 (0, 0)) ∧ Below w.heap.size w w') := by
  obtain ⟨gl, cl, rfl, -, -⟩ := own_one hlo
  obtain ⟨gp, cp, rfl, -, -⟩ := own_one hpr
  obtain ⟨gu, cu, rfl, -, -⟩ := own_one hus
  have hb1 := below_alloc (below_alloc (Below.refl w.heap.size w) (.cells #[.bool false] 4 (0, 0))) (.cells #[.slice (some ⟨w.heap.size, 0, none⟩) 1 1] 62 (0, 0))
  have HS := Aside0.mk (show RcS w ((w.alloc (.cells #[.bool false] 4 (0, 0))).alloc (.cells #[.slice (some ⟨w.heap.size, 0, none⟩) 1 1] 62 (0, 0))) B pb gl cl gp cp gu cu nm la from ⟨blk_below hp hb1, own_below hlo hb1, own_below hpr hb1, own_below hus hb1, blk_alloc (blk_new _ _) _, two_new _ _ _, hb1⟩)
  have y2 := (blk_cell hp 2).trans rfl
  clear hb1 hp hlo hpr hus
  go_enter Try.func31, Try.ntmps31
  go_wp2_with fail
  go_loopg [5] 2 (fun kq v5 wx => ∃ j : Nat, v5 = .bool (decide (j = 0)) ∧ Aside0 (j + kq = 2 ∧ j ≤ 1) ∧ Aside0 (RcS w wx B pb gl cl gp cp gu cu nm la))
  case atStart => exact ⟨0, rfl, ⟨by omega⟩, HS⟩
  case round =>
    clear HS y2
    obtain ⟨j, rfl, HJ, HX⟩ := hrel
    cases gk with
    | zero => have := HJ.out; omega
    | succ k1 =>
      match j with
      | 0 =>
        have d0 : decide (0 = 0) = true := rfl
        have y2 := (blk_cell HX.out.P 2).trans rfl
        go_wp2_with fail
        go_loopg [5, 23] 2 (fun kq v5 v23 wx => v5 = .bool false ∧ ∃ i : Nat, v23 = .int .i64 (i : Int) ∧ Aside0 (i + kq = 2 ∧ i ≤ 1) ∧ Aside0 (RcS w wx B pb gl cl gp cp gu cu nm la))
        case atStart => exact ⟨rfl, 0, rfl, ⟨by omega⟩, HX⟩
        case round =>
          clear HX y2
          obtain ⟨rfl, i, rfl, HI, HY⟩ := hrel
          cases gk with
          | zero => have := HI.out; omega
          | succ k2 =>
            match i with
            | 0 =>
              have HZ := Aside0.mk (HY.out.below (below_alloc (Below.refl wr.heap.size wr) (.cells #[.int .i64 0, .int .i64 (-1)] 86 (0, 0))))
              have p0 := (HY.out.rp.cellAt 0 (by decide)).trans rfl
              have p1 := (HY.out.rp.cellAt 1 (by decide)).trans rfl
              have z0 := (blk_cell HZ.out.bx 0).trans rfl
              have z1 := (blk_cell HZ.out.is 0).trans rfl
              have z2 := (blk_cell HZ.out.P 1).trans rfl
              have z3 := (blk_cell HZ.out.P 3).trans rfl
              have z4 := (HZ.out.rl.cellAt 0 (by decide)).trans rfl
              have n0 := (blk_cell (blk_new wr (.cells #[.int .i64 0, .int .i64 (-1)] 86 (0, 0))) 0).trans rfl
              have NB := Aside0.mk (blk_new wr (.cells #[.int .i64 0, .int .i64 (-1)] 86 (0, 0)))
              go_wp2_with (go_at_call 46; (refine (in_neg _ _).mono ?_); rintro e w3 ⟨rfl, rfl⟩)
              go_quiet (fail)
              go_wp2_with fail
              go_loopg [5, 56] 2 (fun kq v5 v56 wx => v5 = .bool false ∧ ∃ l : Nat, v56 = .int .i64 (l : Int) ∧ Aside0 (l + kq = 2 ∧ l ≤ 1) ∧ Aside0 (Below (wr.alloc (.cells #[.int .i64 0, .int .i64 (-1)] 86 (0, 0))).heap.size (wr.alloc (.cells #[.int .i64 0, .int .i64 (-1)] 86 (0, 0))) wx))
              case atStart => exact ⟨rfl, 0, rfl, ⟨by omega⟩, by first | exact ⟨Below.refl _ _⟩ | exact ⟨below_drew1 (Below.refl _ _)⟩ | exact ⟨pw_below_drewN (Below.refl _ _) _⟩⟩
              case round =>
                clear p0 p1 z0 z1 z2 z3 z4 n0
                obtain ⟨rfl, l, rfl, HLL, HB3⟩ := hrel
                cases gk with
                | zero => have := HLL.out; omega
                | succ k3 =>
                  match l with
                  | 0 =>
                    have HC := Aside0.mk (HZ.out.below HB3.out)
                    have HB4 := Aside0.mk (below_alloc HB3.out (.cells #[.int .i64 0, .int .i64 (-1), .int .i64 0, .bool false] 88 (0, 0)))
                    have p0 := (HC.out.ru.cellAt 0 (by decide)).trans rfl
                    have p1 := (HC.out.ru.cellAt 1 (by decide)).trans rfl
                    have p2 := (HC.out.ru.cellAt 2 (by decide)).trans rfl
                    have p3 := (HC.out.ru.cellAt 3 (by decide)).trans rfl
                    have n0 := (blk_cell (blk_below NB.out HB4.out) 0).trans rfl
                    go_wp2_with fail
                    go_roundg k3
                    case measure => have := HLL.out; omega
                    case rel => exact ⟨rfl, 1, by first | rfl | (simp; done), ⟨by have := HLL.out; omega⟩, HB4⟩
                  | 1 =>
                    have HC := Aside0.mk (HZ.out.below HB3.out)
                    clear HZ NB
                    go_wp2_with fail
                    go_roundg k2
                    case measure => have := HI.out; omega
                    case rel => exact ⟨rfl, 1, by first | rfl | (simp; done), ⟨by have := HI.out; omega⟩, HC⟩
                  | l + 2 => have := HLL.out; omega
            | 1 =>
              go_wp2_with fail
              go_roundg k1
              case measure => have := HJ.out; omega
              case rel => exact ⟨1, rfl, ⟨by have := HJ.out; omega⟩, HY⟩
            | i + 2 => have := HI.out; omega
      | 1 =>
        have d0 : decide (1 = 0) = false := rfl
        have y0 := (blk_cell HX.out.bx 0).trans rfl
        have H2 := Aside0.mk HX.out
        clear HX
        go_wp2_with fail
        go_ret
        exact ⟨_, rfl, H2.out.is, H2.out.bel⟩
      | j + 2 => have := HJ.out; omega
end Go.Proofs.Ytelmcnngocklfaa.Need
