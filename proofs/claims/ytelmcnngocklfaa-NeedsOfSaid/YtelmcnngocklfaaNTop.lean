import Derived.Test.YtelmcnngocklfaaNSet
/-! What is promised of awake's statement. -/
namespace Go.Proofs.Ytelmcnngocklfaa.Need
set_option linter.unusedVariables false
set_option linter.unusedSimpArgs false
open Go.RowKit Go.Proofs.YtelmcnngocklfaaW.PrintWords Go.Proofs.YtelmcnngocklfaaW.PrintLast Go.Proofs.YtelmcnngocklfaaW.PrintMore
theorem idx0 (w : World) : Sem.run Try.prog (Instr.index 46 (.agg #[.bool true, .bool false, .bool false, .bool false, .bool false, .bool false, .bool false, .bool false, .bool false]) (.int .i64 0)) w = .ok (.bool true) w := by kernel_rfl
theorem idx1 (w : World) : Sem.run Try.prog (Instr.index 46 (.agg #[.bool true, .bool false, .bool false, .bool false, .bool false, .bool false, .bool false, .bool false, .bool false]) (.int .i64 1)) w = .ok (.bool false) w := by kernel_rfl
theorem idx2 (w : World) : Sem.run Try.prog (Instr.index 46 (.agg #[.bool true, .bool false, .bool false, .bool false, .bool false, .bool false, .bool false, .bool false, .bool false]) (.int .i64 2)) w = .ok (.bool false) w := by kernel_rfl
theorem idx3 (w : World) : Sem.run Try.prog (Instr.index 46 (.agg #[.bool true, .bool false, .bool false, .bool false, .bool false, .bool false, .bool false, .bool false, .bool false]) (.int .i64 3)) w = .ok (.bool false) w := by kernel_rfl
theorem idx4 (w : World) : Sem.run Try.prog (Instr.index 46 (.agg #[.bool true, .bool false, .bool false, .bool false, .bool false, .bool false, .bool false, .bool false, .bool false]) (.int .i64 4)) w = .ok (.bool false) w := by kernel_rfl
theorem idx5 (w : World) : Sem.run Try.prog (Instr.index 46 (.agg #[.bool true, .bool false, .bool false, .bool false, .bool false, .bool false, .bool false, .bool false, .bool false]) (.int .i64 5)) w = .ok (.bool false) w := by kernel_rfl
theorem idx6 (w : World) : Sem.run Try.prog (Instr.index 46 (.agg #[.bool true, .bool false, .bool false, .bool false, .bool false, .bool false, .bool false, .bool false, .bool false]) (.int .i64 6)) w = .ok (.bool false) w := by kernel_rfl
theorem idx7 (w : World) : Sem.run Try.prog (Instr.index 46 (.agg #[.bool true, .bool false, .bool false, .bool false, .bool false, .bool false, .bool false, .bool false, .bool false]) (.int .i64 7)) w = .ok (.bool false) w := by kernel_rfl
theorem idx8 (w : World) : Sem.run Try.prog (Instr.index 46 (.agg #[.bool true, .bool false, .bool false, .bool false, .bool false, .bool false, .bool false, .bool false, .bool false]) (.int .i64 8)) w = .ok (.bool false) w := by kernel_rfl
attribute [local go_sem high] idx0 idx1 idx2 idx3 idx4 idx5 idx6 idx7 idx8
set_option maxHeartbeats 4000000 in
set_option maxRecDepth 100000 in
theorem promise_walk (w : World) {A3 A4 : Option Addr} {q5 b3 c3 c4 c5 : Nat} (h : SF w s0 A3 c3 A4 c4 (some ⟨q5, 0, none⟩) c5) (hl : Lie w q5 b3) :
    Calls Try.prog 17 #[ag nLocal A3 1 c3 A4 c4 (some ⟨q5, 0, none⟩) 1 c5] w (fun e w' => e = .returned (.tuple #[.string ⟨#[111, 110, 101, 32, 114, 101, 115, 117, 108, 116]⟩, .int .i64 0]) ∧ Below w.heap.size w w') := by
  have H := Aside0.mk (And.intro h hl)
  have HS := Aside0.mk (below_alloc (Below.refl w.heap.size w) (.cells #[.string nLocal, .string no, .int .i64 0, .slice A3 1 c3, .slice A4 0 c4, .slice (some ⟨q5, 0, none⟩) 1 c5] 26 (0, 0)))
  clear h hl
  go_enter Try.func17, Try.ntmps17
  go_wp2_with (go_at_call 20; go_loud ((refine (set_walk _ (H.out.1.below HS.out) (H.out.2.below HS.out)).mono ?_); rintro e w2 ⟨rfl, hb⟩; have HB := Aside0.mk hb; clear hb))
  go_ret2
  exact ⟨rfl, below_alloc (below_then HS.out HS.out.size HB.out) _⟩
set_option maxHeartbeats 4000000 in
set_option maxRecDepth 100000 in
theorem without_walk (w : World) {A3 A4 : Option Addr} {q5 b3 c3 c4 c5 : Nat} (h : SF w s0 A3 c3 A4 c4 (some ⟨q5, 0, none⟩) c5) (hl : Lie w q5 b3) :
    Calls Try.prog 10 #[ag nLocal A3 1 c3 A4 c4 (some ⟨q5, 0, none⟩) 1 c5, .int .i64 1] w (fun e w' => e = .returned (.bool true) ∧ Below w.heap.size w w') := by
  have H := Aside0.mk (And.intro h hl)
  have HS := Aside0.mk (below_alloc (Below.refl w.heap.size w) (.cells #[.string nLocal, .string no, .int .i64 0, .slice A3 1 c3, .slice A4 0 c4, .slice (some ⟨q5, 0, none⟩) 1 c5] 26 (0, 0)))
  clear h hl
  go_enter Try.func10, Try.ntmps10
  go_wp2_with (go_at_call 20; go_loud ((refine (set_walk _ (H.out.1.below HS.out) (H.out.2.below HS.out)).mono ?_); rintro e w2 ⟨rfl, hb⟩; have HB := Aside0.mk hb; clear hb))
  go_ret
  exact ⟨rfl, below_alloc (below_then HS.out HS.out.size HB.out) _⟩
set_option maxHeartbeats 4000000 in
set_option maxRecDepth 100000 in
theorem needs_walk (w : World) {A3 A4 : Option Addr} {q5 b3 c3 c4 c5 : Nat} (h : SF w s0 A3 c3 A4 c4 (some ⟨q5, 0, none⟩) c5) (hl : Lie w q5 b3) :
    Calls Try.prog 9 #[ag nLocal A3 1 c3 A4 c4 (some ⟨q5, 0, none⟩) 1 c5] w (fun e w' => ∃ v, e = .returned (.tuple #[v, .int .i64 0]) ∧ w'.ownsRow w.heap.size 3 1 v 1 [.int .i64 0] ∧ Below w.heap.size w w') := by
  have H := Aside0.mk (And.intro h hl)
  have HS := Aside0.mk (below_alloc (Below.refl w.heap.size w) (.cells #[.string nLocal, .string no, .int .i64 0, .slice A3 1 c3, .slice A4 0 c4, .slice (some ⟨q5, 0, none⟩) 1 c5] 26 (0, 0)))
  clear h hl
  go_enter Try.func9, Try.ntmps9
  go_wp2_with (go_at_call 20; go_loud ((refine (set_walk _ (H.out.1.below HS.out) (H.out.2.below HS.out)).mono ?_); rintro e w2 ⟨rfl, hb⟩; have HB := Aside0.mk hb; clear hb))
  go_loopg [6, 18] 10 (fun kq v6 v18 wx => ∃ i : Nat, v18 = .int .i64 (i : Int) ∧ Aside0 (i + kq = 10 ∧ i ≤ 9) ∧ Aside0 (Below w.heap.size w wx) ∧ Aside0 ((i = 0 → v6 = .slice none 0 0) ∧ (1 ≤ i → wx.ownsRow w.heap.size 3 1 v6 1 [.int .i64 0])))
  case atStart => exact ⟨0, rfl, ⟨by omega⟩, ⟨below_alloc (below_then HS.out HS.out.size HB.out) _⟩, ⟨fun _ => rfl, fun e => absurd e (by decide)⟩⟩
  case round =>
    clear HB HS H
    obtain ⟨i, rfl, HJ, HX, HV⟩ := hrel
    cases gk with
    | zero => have := HJ.out; omega
    | succ k1 =>
      match i with
      | 0 =>
        obtain rfl := HV.out.1 rfl
        clear HV
        have HG := Aside0.mk (blk_new wr (.cells #[.int .i64 0] 3 (0, 0)))
        have HA := Aside0.mk (below_alloc (Below.refl wr.heap.size wr) (.cells #[.int .i64 0] 3 (0, 0)))
        go_wp2_with (at_builtin; (refine app_nil _ rfl (.tmp 23) (.tmp 25) 29 3 1 8 (.int .i64 0) rfl Try.underlying29 inf3 rfl (by decide) rfl wr.heap.size [.int .i64 0] rfl rfl HG.out (by intro u hu; rw [List.mem_singleton] at hu; subst hu; rfl) (by decide) 26 rfl ?_); intro v' w3 hr hbb; have HR := Aside0.mk (own_weak hr (Nat.le_trans HX.out.size HA.out.size)); have HBB := Aside0.mk (below_then (below_alloc HX.out _) (Nat.le_trans HX.out.size HA.out.size) hbb); clear hr hbb)
        go_roundg k1
        case measure => have := HJ.out; omega
        case rel => exact ⟨1, by first | rfl | (simp; done), ⟨by have := HJ.out; omega⟩, HBB, ⟨fun e => absurd e (by decide), fun _ => HR.out⟩⟩
      | 1 =>
        have HR := Aside0.mk (HV.out.2 (by decide))
        clear HV
        go_wp2_with fail
        go_roundg k1
        case measure => have := HJ.out; omega
        case rel => exact ⟨2, by first | rfl | (simp; done), ⟨by have := HJ.out; omega⟩, HX, ⟨fun e => absurd e (by decide), fun _ => HR.out⟩⟩
      | 2 =>
        have HR := Aside0.mk (HV.out.2 (by decide))
        clear HV
        go_wp2_with fail
        go_roundg k1
        case measure => have := HJ.out; omega
        case rel => exact ⟨3, by first | rfl | (simp; done), ⟨by have := HJ.out; omega⟩, HX, ⟨fun e => absurd e (by decide), fun _ => HR.out⟩⟩
      | 3 =>
        have HR := Aside0.mk (HV.out.2 (by decide))
        clear HV
        go_wp2_with fail
        go_roundg k1
        case measure => have := HJ.out; omega
        case rel => exact ⟨4, by first | rfl | (simp; done), ⟨by have := HJ.out; omega⟩, HX, ⟨fun e => absurd e (by decide), fun _ => HR.out⟩⟩
      | 4 =>
        have HR := Aside0.mk (HV.out.2 (by decide))
        clear HV
        go_wp2_with fail
        go_roundg k1
        case measure => have := HJ.out; omega
        case rel => exact ⟨5, by first | rfl | (simp; done), ⟨by have := HJ.out; omega⟩, HX, ⟨fun e => absurd e (by decide), fun _ => HR.out⟩⟩
      | 5 =>
        have HR := Aside0.mk (HV.out.2 (by decide))
        clear HV
        go_wp2_with fail
        go_roundg k1
        case measure => have := HJ.out; omega
        case rel => exact ⟨6, by first | rfl | (simp; done), ⟨by have := HJ.out; omega⟩, HX, ⟨fun e => absurd e (by decide), fun _ => HR.out⟩⟩
      | 6 =>
        have HR := Aside0.mk (HV.out.2 (by decide))
        clear HV
        go_wp2_with fail
        go_roundg k1
        case measure => have := HJ.out; omega
        case rel => exact ⟨7, by first | rfl | (simp; done), ⟨by have := HJ.out; omega⟩, HX, ⟨fun e => absurd e (by decide), fun _ => HR.out⟩⟩
      | 7 =>
        have HR := Aside0.mk (HV.out.2 (by decide))
        clear HV
        go_wp2_with fail
        go_roundg k1
        case measure => have := HJ.out; omega
        case rel => exact ⟨8, by first | rfl | (simp; done), ⟨by have := HJ.out; omega⟩, HX, ⟨fun e => absurd e (by decide), fun _ => HR.out⟩⟩
      | 8 =>
        have HR := Aside0.mk (HV.out.2 (by decide))
        clear HV
        go_wp2_with fail
        go_roundg k1
        case measure => have := HJ.out; omega
        case rel => exact ⟨9, by first | rfl | (simp; done), ⟨by have := HJ.out; omega⟩, HX, ⟨fun e => absurd e (by decide), fun _ => HR.out⟩⟩
      | 9 =>
        have HR := Aside0.mk (HV.out.2 (by decide))
        clear HV
        go_wp2_with fail
        go_ret2
        exact ⟨_, rfl, HR.out, HX.out⟩
      | i + 10 => have := HJ.out; omega
set_option maxHeartbeats 4000000 in
set_option maxRecDepth 100000 in
theorem least_walk (w : World) {A3 A4 : Option Addr} {q5 b3 c3 c4 c5 : Nat} (h : SF w s0 A3 c3 A4 c4 (some ⟨q5, 0, none⟩) c5) (hl : Lie w q5 b3) :
    Calls Try.prog 16 #[ag nLocal A3 1 c3 A4 c4 (some ⟨q5, 0, none⟩) 1 c5] w (fun e w' => e = .returned (.tuple #[.int .i64 0, .int .i64 0]) ∧ Below w.heap.size w w') := by
  have H := Aside0.mk (And.intro h hl)
  have HS := Aside0.mk (below_alloc (Below.refl w.heap.size w) (.cells #[.string nLocal, .string no, .int .i64 0, .slice A3 1 c3, .slice A4 0 c4, .slice (some ⟨q5, 0, none⟩) 1 c5] 26 (0, 0)))
  clear h hl
  go_enter Try.func16, Try.ntmps16
  go_wp2_with (go_at_call 9; go_loud ((refine (needs_walk _ (H.out.1.below HS.out) (H.out.2.below HS.out)).mono ?_); rintro e w2 ⟨v, rfl, hr, hb⟩; obtain ⟨g, c, rfl, -, -⟩ := own_one hr; have HB := Aside0.mk hb; have y0 := (hr.cellAt 0 (by decide)).trans rfl; clear hb hr))
  go_ret2
  exact ⟨rfl, below_then HS.out HS.out.size HB.out⟩
end Go.Proofs.Ytelmcnngocklfaa.Need
