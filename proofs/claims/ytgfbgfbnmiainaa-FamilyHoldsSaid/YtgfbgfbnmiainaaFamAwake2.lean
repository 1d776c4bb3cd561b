import Derived.Test.YtgfbgfbnmiainaaFamAwake
import Derived.Deep.RegionHeld3
/-! awake, the walk. -/
namespace Go.Proofs.Ytgfbgfbnmiainaa.Fam
set_option linter.unusedVariables false
set_option linter.unusedSimpArgs false
open Go.RowKit Go.Proofs.YtgfbgfbnmiainaaW.PrintWords Go.Proofs.YtgfbgfbnmiainaaW.PrintLast Go.Proofs.YtgfbgfbnmiainaaW.PrintMore Go.Proofs.Ytgfbgfbnmiainaa.Q
attribute [local go_sem] Go.Proofs.YtgfbgfbnmiainaaW.OwnWords.isSome_setCell max2_int min2_int
attribute [local go_sem high] eqA59
def aS (gb : Nat) (B0 : Option Addr) (b0 : Nat) (B1 : Option Addr) (b1 : Nat) (D0 : Option Addr) (d0 : Nat) (D1 : Option Addr) (d1 : Nat) (w2 w' : World) : Prop :=
  Below w2.heap.size w2 w' ∧ w'.cell? ⟨gb, 0, none⟩ = some (.slice B0 1 b0) ∧ w'.cell? ⟨gb, 1, none⟩ = some (.slice B1 1 b1) ∧ w'.cell? ⟨gb, 2, none⟩ = some (.int .i64 1) ∧ w'.cell? ⟨gb, 3, none⟩ = some (.int .i64 1) ∧ w'.cell? ⟨gb, 4, none⟩ = some (.slice D0 1 d0) ∧ w'.cell? ⟨gb, 5, none⟩ = some (.slice D1 1 d1) ∧ w'.cell? ⟨gb, 6, none⟩ = some (.int .i64 1) ∧ w'.cell? ⟨gb, 7, none⟩ = some (.int .i64 1)
theorem aS_below {gb : Nat} {B0 : Option Addr} {b0 : Nat} {B1 : Option Addr} {b1 : Nat} {D0 : Option Addr} {d0 : Nat} {D1 : Option Addr} {d1 : Nat} {w2 w w' : World} (h : aS gb B0 b0 B1 b1 D0 d0 D1 d1 w2 w) (hb : Below w.heap.size w w') : aS gb B0 b0 B1 b1 D0 d0 D1 d1 w2 w' := by
  obtain ⟨h0, a0, a1, a2, a3, a4, a5, a6, a7⟩ := h
  exact ⟨below_then h0 h0.size hb, pw_cell_below hb a0, pw_cell_below hb a1, pw_cell_below hb a2, pw_cell_below hb a3, pw_cell_below hb a4, pw_cell_below hb a5, pw_cell_below hb a6, pw_cell_below hb a7⟩
theorem aS_alloc {gb : Nat} {B0 : Option Addr} {b0 : Nat} {B1 : Option Addr} {b1 : Nat} {D0 : Option Addr} {d0 : Nat} {D1 : Option Addr} {d1 : Nat} {w2 w : World} (h : aS gb B0 b0 B1 b1 D0 d0 D1 d1 w2 w) (o : Obj) : aS gb B0 b0 B1 b1 D0 d0 D1 d1 w2 (w.alloc o) := aS_below h (below_alloc (Below.refl _ _) o)
theorem aS_drew {gb : Nat} {B0 : Option Addr} {b0 : Nat} {B1 : Option Addr} {b1 : Nat} {D0 : Option Addr} {d0 : Nat} {D1 : Option Addr} {d1 : Nat} {w2 w : World} (h : aS gb B0 b0 B1 b1 D0 d0 D1 d1 w2 w) : aS gb B0 b0 B1 b1 D0 d0 D1 d1 w2 w.drew := aS_below h (below_drew (Below.refl _ _))
set_option maxHeartbeats 8000000 in
set_option maxRecDepth 100000 in
theorem awake_walk (w : World) :
    Calls Try.prog 10 #[] w fun e w' => e = .returned (.bool true) ∧ Below w.heap.size w w' := by
  have HA := Aside0.mk (a_args w)
  have HB0 := Aside0.mk (show Below w.heap.size w (aW w) from below_alloc (below_alloc (below_alloc (below_alloc (below_alloc (below_alloc (below_alloc (Below.refl _ _) _) _) _) _) _) _) _)
  go_enter Try.func10, Try.ntmps10
  go_upto_region 2 with (first | (go_at_call 11; (refine (a_fix _ 2 _ 2 _ HA.out.1 (by decide) HA.out.2 (by decide)).mono ?_); rintro e w2 ⟨v, rfl, hR, hb2⟩; obtain ⟨gb, cp, rfl⟩ : ∃ gb cp, v = .slice (some ⟨gb, 0, none⟩) 2 cp := (by obtain ⟨gb, cp, h_, _⟩ := Kd.R_form hR (by decide); exact ⟨gb, cp, h_⟩); have HR := Aside0.mk hR; have HB := Aside0.mk (below_then HB0.out HB0.out.size hb2); clear hR hb2))
  obtain ⟨k1, k2, hC⟩ := Kd.R_reads' HR.out
  clear k1 k2
  obtain ⟨ad, B0, b0, B1, b1, e0, x0, x1, x2, x3, m0, M0, m1, M1⟩ := at_T37 hC 0 (by decide) (by decide)
  cases e0
  obtain ⟨ad, D0, d0, D1, d1, e0, y0, y1, y2, y3, n0, N0, n1, N1⟩ := at_T37 hC 1 (by decide) (by decide)
  cases e0
  have HM0 : Aside0 ([3].length ≤ b0 ∧ (Kd.int .i64).C w2 B0 [3].length [3]) := ⟨m0, M0⟩
  have HM1 : Aside0 ([3].length ≤ b1 ∧ (Kd.int .i64).C w2 B1 [3].length [3]) := ⟨m1, M1⟩
  have HM2 : Aside0 ([3].length ≤ d0 ∧ (Kd.int .i64).C w2 D0 [3].length [3]) := ⟨n0, N0⟩
  have HM3 : Aside0 ([3].length ≤ d1 ∧ (Kd.int .i64).C w2 D1 [3].length [3]) := ⟨n1, N1⟩
  clear hC m0 M0 m1 M1 n0 N0 n1 N1
  replace x0 : w2.cell? ⟨gb, 0, none⟩ = some (.slice B0 1 b0) := x0
  replace x1 : w2.cell? ⟨gb, 1, none⟩ = some (.slice B1 1 b1) := x1
  replace x2 : w2.cell? ⟨gb, 2, none⟩ = some (.int .i64 1) := x2
  replace x3 : w2.cell? ⟨gb, 3, none⟩ = some (.int .i64 1) := x3
  replace y0 : w2.cell? ⟨gb, 4, none⟩ = some (.slice D0 1 d0) := y0
  replace y1 : w2.cell? ⟨gb, 5, none⟩ = some (.slice D1 1 d1) := y1
  replace y2 : w2.cell? ⟨gb, 6, none⟩ = some (.int .i64 1) := y2
  replace y3 : w2.cell? ⟨gb, 7, none⟩ = some (.int .i64 1) := y3
  have HS := Aside0.mk (show aS gb B0 b0 B1 b1 D0 d0 D1 d1 w2 w2 from ⟨Below.refl _ _, x0, x1, x2, x3, y0, y1, y2, y3⟩)
  have HS1 := Aside0.mk (aS_drew (aS_alloc HS.out (.cells #[.int .i64 3] 3)))
  have HS2 := Aside0.mk (aS_drew (aS_alloc (aS_alloc HS.out (.cells #[.int .i64 3] 3)) (.cells #[.int .i64 3] 3)))
  have HL1 := Aside0.mk (Kd.C_drew (Kd.C_alloc (ints_lit (xs := [3]) (blk_new w2 (.cells #[.int .i64 3] 3)) rfl (by decide)) (.cells #[.int .i64 3] 3)))
  have HL2 := Aside0.mk (Kd.C_drew (ints_lit (xs := [3]) (blk_new' (w := w2.alloc (.cells #[.int .i64 3] 3)) (o := .cells #[.int .i64 3] 3) (n := w2.heap.size + 1) rfl (by simp)).1 rfl (by decide)))
  clear x0 x1 x2 x3 y0 y1 y2 y3
  go_region_held3 (fun w' => Below w2.heap.size w2 w' ∧ w'.cell? ⟨gb, 0, none⟩ = some (.slice B0 1 b0) ∧ w'.cell? ⟨gb, 1, none⟩ = some (.slice B1 1 b1) ∧ w'.cell? ⟨gb, 2, none⟩ = some (.int .i64 1) ∧ w'.cell? ⟨gb, 3, none⟩ = some (.int .i64 1) ∧ w'.cell? ⟨gb, 4, none⟩ = some (.slice D0 1 d0) ∧ w'.cell? ⟨gb, 5, none⟩ = some (.slice D1 1 d1) ∧ w'.cell? ⟨gb, 6, none⟩ = some (.int .i64 1) ∧ w'.cell? ⟨gb, 7, none⟩ = some (.int .i64 1))
    (first | exact HT.out | exact HU.out | exact HS.out | exact aS_drew HS.out | exact HS1.out | exact HS2.out)
    (first
      | (go_at_call 18; (refine (manystrandref07_Same.calls 100 B0 b0 [3] B1 b1 [3] 1 1 D0 d0 [3] D1 d1 [3] 1 1 true _ (Kd.C_below HM0.out.2 HT.out.1) HM0.out.1 (Kd.C_below HM1.out.2 HT.out.1) HM1.out.1 (Kd.C_below HM2.out.2 HT.out.1) HM2.out.1 (Kd.C_below HM3.out.2 HT.out.1) HM3.out.1 a_same).mono ?_); rintro e w4 ⟨rfl, hb⟩; have HU := Aside0.mk (aS_below HT.out hb); clear hb)
      | (go_at_call 18; (refine (manystrandref07_Same.calls 100 B0 b0 [3] B1 b1 [3] 1 1 _ 1 [3] _ 1 [3] 1 1 true _ (Kd.C_below HM0.out.2 HS2.out.1) HM0.out.1 (Kd.C_below HM1.out.2 HS2.out.1) HM1.out.1 ?r2 ?c2 ?r3 ?c3 a_same).mono ?_); (case r2 => first | exact HL1.out | exact HL2.out); (case c2 => decide); (case r3 => first | exact HL1.out | exact HL2.out); (case c3 => decide); rintro e w3 ⟨rfl, hb⟩; have HT := Aside0.mk (aS_below HS2.out hb); clear hb))
  all_goals
    try go_wp2
    go_ret
    first
      | exact ⟨rfl, below_then HB.out HB.out.size HU.out.1⟩
      | (trace_state; fail)
end Go.Proofs.Ytgfbgfbnmiainaa.Fam
