import Derived.Test.YtelmcnngocklfaaNSkip
/-! look at 'thread skip'. -/
namespace Go.Proofs.Ytelmcnngocklfaa.Need
set_option linter.unusedVariables false
set_option linter.unusedSimpArgs false
open Go.RowKit Go.Proofs.YtelmcnngocklfaaW.PrintWords Go.Proofs.YtelmcnngocklfaaW.PrintLast Go.Proofs.YtelmcnngocklfaaW.PrintMore
theorem five (w : World) (o0 o1 o2 o3 o4 : Obj) : (((((w.alloc o0).alloc o1).alloc o2).alloc o3).alloc o4).heap[w.heap.size]? = some o0 ∧ (((((w.alloc o0).alloc o1).alloc o2).alloc o3).alloc o4).heap[w.heap.size + 1]? = some o1 ∧ (((((w.alloc o0).alloc o1).alloc o2).alloc o3).alloc o4).heap[w.heap.size + 1 + 1]? = some o2 ∧ (((((w.alloc o0).alloc o1).alloc o2).alloc o3).alloc o4).heap[w.heap.size + 1 + 1 + 1]? = some o3 ∧ (((((w.alloc o0).alloc o1).alloc o2).alloc o3).alloc o4).heap[w.heap.size + 1 + 1 + 1 + 1]? = some o4 ∧ Below w.heap.size w (((((w.alloc o0).alloc o1).alloc o2).alloc o3).alloc o4) := by
  have s1 : (w.alloc o0).heap.size = w.heap.size + 1 := by simp
  have s2 : ((w.alloc o0).alloc o1).heap.size = w.heap.size + 1 + 1 := by simp
  have s3 : (((w.alloc o0).alloc o1).alloc o2).heap.size = w.heap.size + 1 + 1 + 1 := by simp
  have s4 : ((((w.alloc o0).alloc o1).alloc o2).alloc o3).heap.size = w.heap.size + 1 + 1 + 1 + 1 := by simp
  refine ⟨blk_alloc (blk_alloc (blk_alloc (blk_alloc (blk_new _ _) _) _) _) _, ?_, ?_, ?_, ?_, below_alloc (below_alloc (below_alloc (below_alloc (below_alloc (Below.refl _ _) _) _) _) _) _⟩
  · rw [← s1]; exact blk_alloc (blk_alloc (blk_alloc (blk_new _ _) _) _) _
  · rw [← s2]; exact blk_alloc (blk_alloc (blk_new _ _) _) _
  · rw [← s3]; exact blk_alloc (blk_new _ _) _
  · rw [← s4]; exact blk_new _ _
theorem five_new (w : World) (o0 o1 o2 o3 o4 o : Obj) : ((((((w.alloc o0).alloc o1).alloc o2).alloc o3).alloc o4).alloc o).heap[w.heap.size + 1 + 1 + 1 + 1 + 1]? = some o := by
  have s5 : (((((w.alloc o0).alloc o1).alloc o2).alloc o3).alloc o4).heap.size = w.heap.size + 1 + 1 + 1 + 1 + 1 := by simp
  rw [← s5]
  exact blk_new _ _
theorem off_row {w : World} {B size n lb lc g t : Nat} {cs : Array Value} {xs : List Value} {e : Nat} (h : w.ownsRow B e size (.slice (some ⟨lb, 0, none⟩) n lc) n xs) (hg : w.heap[g]? = some (.cells cs t (0, 0))) (ht : t ≠ e) : g ≠ lb := fun e' => own_apart h hg ht (by rw [e']; rfl)
theorem two_keep {w w1 w2 : World} {g : Nat} (h : Below w.heap.size w w1) (k : KB w1 w2 g none) : KB w w2 g none := KB.trans (KB.of_below h g none) k (.inl rfl)
theorem then_keep {w w1 w2 : World} {g : Nat} (h : KB w w1 g none) (k : Below w1.heap.size w1 w2) : KB w w2 g none := KB.trans h (KB.of_below k g none) (.inl rfl)
set_option maxHeartbeats 4000000 in
set_option maxRecDepth 100000 in
theorem look_thread (w : World) (B pb lb lc sb : Nat) (m : Option Nat) (nm lo pr us : Value) {A3 A4 : Option Addr} {q5 c3 c4 c5 : Nat} {B3 B4 B5 : Option Addr} {d3 d4 d5 : Nat} (hk : Kid w q5 s3 B3 d3 B4 d4 B5 d5)
    (hp : w.heap[pb]? = some (.cells #[nm, lo, pr, us, .slice (some ⟨lb, 0, none⟩) 2 lc] 68 (0, 0))) (hl : w.ownsRow B 29 1 (.slice (some ⟨lb, 0, none⟩) 2 lc) 2 [.slice none 0 0, .slice none 0 0]) :
    Calls Try.prog 45 #[.pointer (some ⟨pb, 0, none⟩), ag nThread A3 0 c3 A4 c4 (some ⟨q5, 0, none⟩) 1 c5, .pointer (some ⟨sb, 0, none⟩), .map m, .int .i64 0] w (fun e w' => (∃ r, e = .returned r) ∧ ∃ v, w'.ownsRow w.heap.size 3 1 v 1 [.int .i64 1] ∧ w'.ownsRow B 29 1 (.slice (some ⟨lb, 0, none⟩) 2 lc) 2 [.slice none 0 0, v] ∧ KB w w' lb none) := by
  obtain ⟨k0, k1, k2, k3, k4, hS⟩ := five w (.cells #[.pointer (some ⟨pb, 0, none⟩)] 60 (0, 0)) (.cells #[.string nThread, .string no, .int .i64 0, .slice A3 0 c3, .slice A4 0 c4, .slice (some ⟨q5, 0, none⟩) 1 c5] 26 (0, 0)) (.cells #[.pointer (some ⟨sb, 0, none⟩)] 100 (0, 0)) (.cells #[.map m] 81 (0, 0)) (.cells #[.int .i64 0] 3 (0, 0))
  have K0 := Aside0.mk k0
  have K1 := Aside0.mk k1
  have K2 := Aside0.mk k2
  have K3 := Aside0.mk k3
  have K4 := Aside0.mk k4
  have HS := Aside0.mk hS
  have HK := Aside0.mk hk
  have HP := Aside0.mk hp
  have HL := Aside0.mk hl
  have x0 := (blk_cell k0 0).trans rfl
  have x1 := (blk_cell k1 0).trans rfl
  have x4 := (blk_cell k4 0).trans rfl
  clear k0 k1 k2 k3 k4 hS hk hp hl
  go_enter Try.func45, Try.ntmps45
  go_wp2_with (first
    | (go_at_call 57; go_loud ((refine (need_walk _ B pb lb lc nm lo pr us (blk_below HP.out HS.out) (own_below HL.out HS.out)).mono ?_); rintro e w2 ⟨⟨rr, rfl⟩, v, h1, h2, h3⟩; have H1 := Aside0.mk h1; have H2 := Aside0.mk h2; have H3 := Aside0.mk h3; have J0 := Aside0.mk (blk_keep K0.out h3 (off_row (own_below HL.out HS.out) K0.out (by decide))); have J1 := Aside0.mk (blk_keep K1.out h3 (off_row (own_below HL.out HS.out) K1.out (by decide))); have J2 := Aside0.mk (blk_keep K2.out h3 (off_row (own_below HL.out HS.out) K2.out (by decide))); have J3 := Aside0.mk (blk_keep K3.out h3 (off_row (own_below HL.out HS.out) K3.out (by decide))); have J4 := Aside0.mk (blk_keep K4.out h3 (off_row (own_below HL.out HS.out) K4.out (by decide))); have JK := Aside0.mk (blk_keep (blk_below HK.out HS.out) h3 (off_row (own_below HL.out HS.out) (blk_below HK.out HS.out) (by decide))); have y3 := (blk_cell J1.out 3).trans rfl; clear h1 h2 h3 x0 x1 x4))
    | (go_at_call 54; go_loud ((refine (see_nil _ _ _ _ _ _ _ _ _).mono ?_); rintro e w3 ⟨⟨rr3, rfl⟩, hb⟩; have HB3 := Aside0.mk hb; have y5 := (blk_cell (blk_below J1.out hb) 5).trans rfl; clear hb y3)))
  go_loopg [217] 2 (fun kq v217 wx => ∃ j : Nat, v217 = .int .i64 (j : Int) ∧ Aside0 (j + kq = 2 ∧ j ≤ 1) ∧ Aside0 (Below w2.heap.size w2 wx))
  case atStart => exact ⟨0, rfl, ⟨by omega⟩, HB3⟩
  case round =>
    obtain ⟨j, rfl, HJ, HX⟩ := hrel
    clear HB3 y5 K0 K1 K2 K3 K4
    cases gk with
    | zero => have := HJ.out; omega
    | succ k1 =>
      match j with
      | 0 =>
        have HX3 := Aside0.mk (show Below w2.heap.size w2 wr from HX.out)
        have p0 := (blk_cell (blk_alloc (blk_below J0.out HX3.out) (.cells #[.string nSkip, .string no, .int .i64 0, .slice B3 0 d3, .slice B4 0 d4, .slice B5 0 d5] 26 (0, 0))) 0).trans rfl
        have p2 := (blk_cell (blk_alloc (blk_below J2.out HX3.out) (.cells #[.string nSkip, .string no, .int .i64 0, .slice B3 0 d3, .slice B4 0 d4, .slice B5 0 d5] 26 (0, 0))) 0).trans rfl
        have p3 := (blk_cell (blk_alloc (blk_below J3.out HX3.out) (.cells #[.string nSkip, .string no, .int .i64 0, .slice B3 0 d3, .slice B4 0 d4, .slice B5 0 d5] 26 (0, 0))) 0).trans rfl
        have p4 := (blk_cell (blk_alloc (blk_below J4.out HX3.out) (.cells #[.string nSkip, .string no, .int .i64 0, .slice B3 0 d3, .slice B4 0 d4, .slice B5 0 d5] 26 (0, 0))) 0).trans rfl
        have q0 := (blk_cell (blk_below JK.out HX3.out) 0).trans rfl
        have q1 := (blk_cell (blk_below JK.out HX3.out) 1).trans rfl
        have q2 := (blk_cell (blk_below JK.out HX3.out) 2).trans rfl
        have q3 := (blk_cell (blk_below JK.out HX3.out) 3).trans rfl
        have q4 := (blk_cell (blk_below JK.out HX3.out) 4).trans rfl
        have q5' := (blk_cell (blk_below JK.out HX3.out) 5).trans rfl
        clear HX
        go_wp2_with (go_at_call 45; go_loud ((refine (look_skip _ _ _ _ _).mono ?_); rintro e w4 ⟨⟨rr4, rfl⟩, hb⟩; have HB4 := Aside0.mk (below_then (below_alloc HX3.out _) (by simp; have := HX3.out.size; omega) hb); clear hb p0 p2 p3 p4 q0 q1 q2 q3 q4 q5'))
        go_roundg k1
        case measure => have := HJ.out; omega
        case rel => exact ⟨1, by first | rfl | (simp; done), ⟨by have := HJ.out; omega⟩, HB4⟩
      | 1 =>
        clear JK
        go_wp2_with fail
        go_end0
        exact ⟨⟨_, rfl⟩, v, own_below (own_weak H1.out HS.out.size) HX.out, own_below H2.out HX.out, then_keep (two_keep HS.out H3.out) HX.out⟩
      | j + 2 => have := HJ.out; omega
end Go.Proofs.Ytelmcnngocklfaa.Need
