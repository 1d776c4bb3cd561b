-- Walks of Go functions; written by own_print.py of this repo (see NOTES.md).
import Derived.Test.YtlabfjaddgakkaaGreatBTreeFeatsm1
import Derived.Defers
import Derived.Recover
import Derived.Test.YtlabfjaddgakkaaGreatBTreeFeatsm0
section
/-! The parser of trees at awake's text: product, sum. -/
namespace Go.Proofs.YtlabfjaddgakkaaGreat.Need
set_option linter.unusedVariables false
set_option linter.unusedSimpArgs false
open Go.RowKit Go.Proofs.YtlabfjaddgakkaaGreatW.PrintWords Go.Proofs.YtlabfjaddgakkaaGreatW.PrintLast Go.Proofs.YtlabfjaddgakkaaGreatW.PrintMore Go.Proofs.YtlabfjaddgakkaaGreat.Q
theorem fld59 (k t : ByteArray) (a : Int) (w : World) : Sem.run Tryz.prog (Instr.field 59 (.agg #[.string k, .string t, .int .i64 a]) 1) w = .ok (.string t) w := by kernel_rfl
theorem kb_drop {w w1 w2 : World} {p y : Nat} (h : KB w w1 p none) (k : KB w1 w2 p (some y)) (hy : w.heap.size ≤ y) : KB w w2 p none :=
  ⟨Nat.le_trans h.1 k.1, fun i hi hp _ => (k.2 i (Nat.lt_of_lt_of_le hi h.1) hp (by intro e; injection e with e; omega)).trans (h.2 i hi hp (by simp)), k.3.1.trans h.3.1, k.3.2.1.trans h.3.2.1, k.3.2.2.trans h.3.2.2⟩
set_option maxHeartbeats 2000000 in
set_option maxRecDepth 100000 in
theorem product0 (T : TT) (w : World) (pb g c : Nat) (hi : ∀ w, Pr w pb g c 0 → Calls Tryz.prog 159 #[.pointer (some ⟨pb, 0, none⟩)] w (Post T w pb g c 1)) (h : Pr w pb g c 0) :
    Calls Tryz.prog 158 #[.pointer (some ⟨pb, 0, none⟩)] w (Post T w pb g c 1) := by
  have hl := h.lt
  have HP := Aside0.mk (h.below (below_alloc (Below.refl w.heap.size w) (.cells C0 30 (0, 0))))
  have HG := Aside0.mk (blk_new w (.cells C0 30 (0, 0)))
  have HL := Aside0.mk hl
  have sz1 : (w.alloc (.cells C0 30 (0, 0))).heap.size = w.heap.size + 1 := by simp
  have HZ := Aside0.mk sz1
  clear h hl sz1
  have HI := Aside0.mk hi
  clear hi
  go_enter Tryz.func158, Tryz.ntmps158
  go_wp2_with (go_at_call 159; go_loud ((refine (HI.out _ HP.out).mono ?_); rintro e w3 ⟨A, n, k, rfl, ht, hp, hk⟩; have HT := Aside0.mk ((ht.mono (ok' := fun q => (w.alloc (.cells C0 30 (0, 0))).heap.size ≤ q ∧ q < w3.heap.size) (fun q hq hl => ⟨hq, hl⟩)).below (below_alloc (Below.refl w3.heap.size w3) (.cells (Cs T A n k) 30 (0, 0)))); have HP4 := Aside0.mk (hp.below (below_alloc (Below.refl w3.heap.size w3) (.cells (Cs T A n k) 30 (0, 0)))); have HS3 := Aside0.mk hk.1; have HK4 := Aside0.mk (then_keep (two_keep (below_alloc (Below.refl w.heap.size w) (.cells C0 30 (0, 0))) hk) (below_alloc (Below.refl w3.heap.size w3) (.cells (Cs T A n k) 30 (0, 0)))); have HG4 := Aside0.mk (blk_alloc (blk_keep HG.out hk (by have := HL.out.1; omega)) (.cells (Cs T A n k) 30 (0, 0))); have HX4 := Aside0.mk (blk_new w3 (.cells (Cs T A n k) 30 (0, 0))); clear ht hp hk))
  go_loopg [4] 1 (fun kq v4 wx => Aside0 (Below (w3.alloc (.cells (Cs T A n k) 30 (0, 0))).heap.size (w3.alloc (.cells (Cs T A n k) 30 (0, 0))) wx))
  case atStart => exact ⟨Below.refl _ _⟩
  case round =>
    have HB5 := Aside0.mk hrel.out
    clear hrel
    go_wp2_with (first
    | (go_at_call 153; have := HC1; go_loud ((refine (is1 _ pb g c _ false (by decide +kernel) (HP4.out.below HC1.out)).mono ?_); rintro e w22 ⟨rfl, hb⟩; have HC2 := Aside0.mk (below_then HC1.out HC1.out.size hb); clear hb; have xc0 := (blk_cell (blk_below HX4.out HC2.out) 0).trans rfl; have gc0 := (blk_cell (blk_below HG4.out HC2.out) 0).trans rfl; have gf0 := blk_frozen (blk_below HG4.out HC2.out) 0; have xc1 := (blk_cell (blk_below HX4.out HC2.out) 1).trans rfl; have gc1 := (blk_cell (blk_below HG4.out HC2.out) 1).trans rfl; have gf1 := blk_frozen (blk_below HG4.out HC2.out) 1; have xc2 := (blk_cell (blk_below HX4.out HC2.out) 2).trans rfl; have gc2 := (blk_cell (blk_below HG4.out HC2.out) 2).trans rfl; have gf2 := blk_frozen (blk_below HG4.out HC2.out) 2; have xc3 := (blk_cell (blk_below HX4.out HC2.out) 3).trans rfl; have gc3 := (blk_cell (blk_below HG4.out HC2.out) 3).trans rfl; have gf3 := blk_frozen (blk_below HG4.out HC2.out) 3))
    | (go_at_call 153; have := HC0; go_loud ((refine (is1 _ pb g c _ false (by decide +kernel) (HP4.out.below HC0.out)).mono ?_); rintro e w21 ⟨rfl, hb⟩; have HC1 := Aside0.mk (below_then HC0.out HC0.out.size hb); clear hb))
    | (go_at_call 153; have := HB5; go_loud ((refine (is1 _ pb g c _ false (by decide +kernel) (HP4.out.below HB5.out)).mono ?_); rintro e w20 ⟨rfl, hb⟩; have HC0 := Aside0.mk (below_then HB5.out HB5.out.size hb); clear hb)))
    refine bodyPost_ret (results_cell_row rfl _ _ w.heap.size 30 (Cs T A n k) (0, 0) _ rfl (by (with_reducible repeat (first | refine blk_drewN ?_ _ | refine blk_drew ?_)); exact put4_blk (blk_below HG4.out HC2.out) _ _ _ _) Tryz.underlying30 rfl (by kernel_rfl)) rfl ?_
    exact ⟨A, n, k, rfl, (put4_tr (HT.out.below HC2.out) (fun q hq => by have := HZ.out; omega) _ _ _ _).mono (fun q hq _ => by have := HZ.out; omega), put4_pr (HP4.out.below HC2.out) (by have := HL.out; omega) (by have := HL.out; omega) _ _ _ _, put4_kb (then_keep HK4.out HC2.out) (Nat.le_refl _) _ _ _ _⟩
set_option maxHeartbeats 2000000 in
set_option maxRecDepth 100000 in
theorem product6 (T : TT) (w : World) (pb g c : Nat) (hi : ∀ w, Pr w pb g c 6 → Calls Tryz.prog 159 #[.pointer (some ⟨pb, 0, none⟩)] w (Post T w pb g c 7)) (h : Pr w pb g c 6) :
    Calls Tryz.prog 158 #[.pointer (some ⟨pb, 0, none⟩)] w (Post T w pb g c 7) := by
  have hl := h.lt
  have HP := Aside0.mk (h.below (below_alloc (Below.refl w.heap.size w) (.cells C0 30 (0, 0))))
  have HG := Aside0.mk (blk_new w (.cells C0 30 (0, 0)))
  have HL := Aside0.mk hl
  have sz1 : (w.alloc (.cells C0 30 (0, 0))).heap.size = w.heap.size + 1 := by simp
  have HZ := Aside0.mk sz1
  clear h hl sz1
  have HI := Aside0.mk hi
  clear hi
  go_enter Tryz.func158, Tryz.ntmps158
  go_wp2_with (go_at_call 159; go_loud ((refine (HI.out _ HP.out).mono ?_); rintro e w3 ⟨A, n, k, rfl, ht, hp, hk⟩; have HT := Aside0.mk ((ht.mono (ok' := fun q => (w.alloc (.cells C0 30 (0, 0))).heap.size ≤ q ∧ q < w3.heap.size) (fun q hq hl => ⟨hq, hl⟩)).below (below_alloc (Below.refl w3.heap.size w3) (.cells (Cs T A n k) 30 (0, 0)))); have HP4 := Aside0.mk (hp.below (below_alloc (Below.refl w3.heap.size w3) (.cells (Cs T A n k) 30 (0, 0)))); have HS3 := Aside0.mk hk.1; have HK4 := Aside0.mk (then_keep (two_keep (below_alloc (Below.refl w.heap.size w) (.cells C0 30 (0, 0))) hk) (below_alloc (Below.refl w3.heap.size w3) (.cells (Cs T A n k) 30 (0, 0)))); have HG4 := Aside0.mk (blk_alloc (blk_keep HG.out hk (by have := HL.out.1; omega)) (.cells (Cs T A n k) 30 (0, 0))); have HX4 := Aside0.mk (blk_new w3 (.cells (Cs T A n k) 30 (0, 0))); clear ht hp hk))
  go_loopg [4] 1 (fun kq v4 wx => Aside0 (Below (w3.alloc (.cells (Cs T A n k) 30 (0, 0))).heap.size (w3.alloc (.cells (Cs T A n k) 30 (0, 0))) wx))
  case atStart => exact ⟨Below.refl _ _⟩
  case round =>
    have HB5 := Aside0.mk hrel.out
    clear hrel
    go_wp2_with (first
    | (go_at_call 153; have := HC1; go_loud ((refine (is7 _ pb g c _ (HP4.out.below HC1.out)).mono ?_); rintro e w22 ⟨rfl, hb⟩; have HC2 := Aside0.mk (below_then HC1.out HC1.out.size hb); clear hb; have xc0 := (blk_cell (blk_below HX4.out HC2.out) 0).trans rfl; have gc0 := (blk_cell (blk_below HG4.out HC2.out) 0).trans rfl; have gf0 := blk_frozen (blk_below HG4.out HC2.out) 0; have xc1 := (blk_cell (blk_below HX4.out HC2.out) 1).trans rfl; have gc1 := (blk_cell (blk_below HG4.out HC2.out) 1).trans rfl; have gf1 := blk_frozen (blk_below HG4.out HC2.out) 1; have xc2 := (blk_cell (blk_below HX4.out HC2.out) 2).trans rfl; have gc2 := (blk_cell (blk_below HG4.out HC2.out) 2).trans rfl; have gf2 := blk_frozen (blk_below HG4.out HC2.out) 2; have xc3 := (blk_cell (blk_below HX4.out HC2.out) 3).trans rfl; have gc3 := (blk_cell (blk_below HG4.out HC2.out) 3).trans rfl; have gf3 := blk_frozen (blk_below HG4.out HC2.out) 3))
    | (go_at_call 153; have := HC0; go_loud ((refine (is7 _ pb g c _ (HP4.out.below HC0.out)).mono ?_); rintro e w21 ⟨rfl, hb⟩; have HC1 := Aside0.mk (below_then HC0.out HC0.out.size hb); clear hb))
    | (go_at_call 153; have := HB5; go_loud ((refine (is7 _ pb g c _ (HP4.out.below HB5.out)).mono ?_); rintro e w20 ⟨rfl, hb⟩; have HC0 := Aside0.mk (below_then HB5.out HB5.out.size hb); clear hb)))
    refine bodyPost_ret (results_cell_row rfl _ _ w.heap.size 30 (Cs T A n k) (0, 0) _ rfl (by (with_reducible repeat (first | refine blk_drewN ?_ _ | refine blk_drew ?_)); exact put4_blk (blk_below HG4.out HC2.out) _ _ _ _) Tryz.underlying30 rfl (by kernel_rfl)) rfl ?_
    exact ⟨A, n, k, rfl, (put4_tr (HT.out.below HC2.out) (fun q hq => by have := HZ.out; omega) _ _ _ _).mono (fun q hq _ => by have := HZ.out; omega), put4_pr (HP4.out.below HC2.out) (by have := HL.out; omega) (by have := HL.out; omega) _ _ _ _, put4_kb (then_keep HK4.out HC2.out) (Nat.le_refl _) _ _ _ _⟩
set_option maxHeartbeats 2000000 in
set_option maxRecDepth 100000 in
theorem sum6 (T : TT) (w : World) (pb g c : Nat) (hi : ∀ w, Pr w pb g c 6 → Calls Tryz.prog 158 #[.pointer (some ⟨pb, 0, none⟩)] w (Post T w pb g c 7)) (h : Pr w pb g c 6) :
    Calls Tryz.prog 157 #[.pointer (some ⟨pb, 0, none⟩)] w (Post T w pb g c 7) := by
  have hl := h.lt
  have HP := Aside0.mk (h.below (below_alloc (Below.refl w.heap.size w) (.cells C0 30 (0, 0))))
  have HG := Aside0.mk (blk_new w (.cells C0 30 (0, 0)))
  have HL := Aside0.mk hl
  have sz1 : (w.alloc (.cells C0 30 (0, 0))).heap.size = w.heap.size + 1 := by simp
  have HZ := Aside0.mk sz1
  clear h hl sz1
  have HI := Aside0.mk hi
  clear hi
  go_enter Tryz.func157, Tryz.ntmps157
  go_wp2_with (go_at_call 158; go_loud ((refine (HI.out _ HP.out).mono ?_); rintro e w3 ⟨A, n, k, rfl, ht, hp, hk⟩; have HT := Aside0.mk ((ht.mono (ok' := fun q => (w.alloc (.cells C0 30 (0, 0))).heap.size ≤ q ∧ q < w3.heap.size) (fun q hq hl => ⟨hq, hl⟩)).below (below_alloc (Below.refl w3.heap.size w3) (.cells (Cs T A n k) 30 (0, 0)))); have HP4 := Aside0.mk (hp.below (below_alloc (Below.refl w3.heap.size w3) (.cells (Cs T A n k) 30 (0, 0)))); have HS3 := Aside0.mk hk.1; have HK4 := Aside0.mk (then_keep (two_keep (below_alloc (Below.refl w.heap.size w) (.cells C0 30 (0, 0))) hk) (below_alloc (Below.refl w3.heap.size w3) (.cells (Cs T A n k) 30 (0, 0)))); have HG4 := Aside0.mk (blk_alloc (blk_keep HG.out hk (by have := HL.out.1; omega)) (.cells (Cs T A n k) 30 (0, 0))); have HX4 := Aside0.mk (blk_new w3 (.cells (Cs T A n k) 30 (0, 0))); clear ht hp hk))
  go_loopg [4] 1 (fun kq v4 wx => Aside0 (Below (w3.alloc (.cells (Cs T A n k) 30 (0, 0))).heap.size (w3.alloc (.cells (Cs T A n k) 30 (0, 0))) wx))
  case atStart => exact ⟨Below.refl _ _⟩
  case round =>
    have HB5 := Aside0.mk hrel.out
    clear hrel
    go_wp2_with (first
    | (go_at_call 153; have := HC0; go_loud ((refine (is7 _ pb g c _ (HP4.out.below HC0.out)).mono ?_); rintro e w21 ⟨rfl, hb⟩; have HC1 := Aside0.mk (below_then HC0.out HC0.out.size hb); clear hb; have xc0 := (blk_cell (blk_below HX4.out HC1.out) 0).trans rfl; have gc0 := (blk_cell (blk_below HG4.out HC1.out) 0).trans rfl; have gf0 := blk_frozen (blk_below HG4.out HC1.out) 0; have xc1 := (blk_cell (blk_below HX4.out HC1.out) 1).trans rfl; have gc1 := (blk_cell (blk_below HG4.out HC1.out) 1).trans rfl; have gf1 := blk_frozen (blk_below HG4.out HC1.out) 1; have xc2 := (blk_cell (blk_below HX4.out HC1.out) 2).trans rfl; have gc2 := (blk_cell (blk_below HG4.out HC1.out) 2).trans rfl; have gf2 := blk_frozen (blk_below HG4.out HC1.out) 2; have xc3 := (blk_cell (blk_below HX4.out HC1.out) 3).trans rfl; have gc3 := (blk_cell (blk_below HG4.out HC1.out) 3).trans rfl; have gf3 := blk_frozen (blk_below HG4.out HC1.out) 3))
    | (go_at_call 153; have := HB5; go_loud ((refine (is7 _ pb g c _ (HP4.out.below HB5.out)).mono ?_); rintro e w20 ⟨rfl, hb⟩; have HC0 := Aside0.mk (below_then HB5.out HB5.out.size hb); clear hb)))
    refine bodyPost_ret (results_cell_row rfl _ _ w.heap.size 30 (Cs T A n k) (0, 0) _ rfl (by (with_reducible repeat (first | refine blk_drewN ?_ _ | refine blk_drew ?_)); exact put4_blk (blk_below HG4.out HC1.out) _ _ _ _) Tryz.underlying30 rfl (by kernel_rfl)) rfl ?_
    exact ⟨A, n, k, rfl, (put4_tr (HT.out.below HC1.out) (fun q hq => by have := HZ.out; omega) _ _ _ _).mono (fun q hq _ => by have := HZ.out; omega), put4_pr (HP4.out.below HC1.out) (by have := HL.out; omega) (by have := HL.out; omega) _ _ _ _, put4_kb (then_keep HK4.out HC1.out) (Nat.le_refl _) _ _ _ _⟩
end Go.Proofs.YtlabfjaddgakkaaGreat.Need
end
section
/-! The parser of trees at awake's text: product, sum, of two. -/
namespace Go.Proofs.YtlabfjaddgakkaaGreat.Need
set_option linter.unusedVariables false
set_option linter.unusedSimpArgs false
open Go.RowKit Go.Proofs.YtlabfjaddgakkaaGreatW.PrintWords Go.Proofs.YtlabfjaddgakkaaGreatW.PrintLast Go.Proofs.YtlabfjaddgakkaaGreatW.PrintMore Go.Proofs.YtlabfjaddgakkaaGreat.Q
attribute [local go_sem high] fld59
set_option maxHeartbeats 2000000 in
set_option maxRecDepth 100000 in
theorem product2 (T T2 : TT) (w : World) (pb g c : Nat) (hi : ∀ w, Pr w pb g c 2 → Calls Tryz.prog 159 #[.pointer (some ⟨pb, 0, none⟩)] w (Post T w pb g c 3)) (hi2 : ∀ w, Pr w pb g c 4 → Calls Tryz.prog 159 #[.pointer (some ⟨pb, 0, none⟩)] w (Post T2 w pb g c 5)) (h : Pr w pb g c 2) :
    Calls Tryz.prog 158 #[.pointer (some ⟨pb, 0, none⟩)] w (Post (.bin ⟨#[42]⟩ T T2) w pb g c 5) := by
  have hl := h.lt
  have HP := Aside0.mk (h.below (below_alloc (Below.refl w.heap.size w) (.cells C0 30 (0, 0))))
  have HG := Aside0.mk (blk_new w (.cells C0 30 (0, 0)))
  have HL := Aside0.mk hl
  have sz1 : (w.alloc (.cells C0 30 (0, 0))).heap.size = w.heap.size + 1 := by simp
  have HZ := Aside0.mk sz1
  clear h hl sz1
  have HI := Aside0.mk hi
  have HI2 := Aside0.mk hi2
  clear hi hi2
  go_enter Tryz.func158, Tryz.ntmps158
  go_wp2_with (go_at_call 159; go_loud ((refine (HI.out _ HP.out).mono ?_); rintro e w3 ⟨A, n, k, rfl, ht, hp, hk⟩; have HT := Aside0.mk ((ht.mono (ok' := fun q => (w.alloc (.cells C0 30 (0, 0))).heap.size ≤ q ∧ q < w3.heap.size) (fun q hq hl => ⟨hq, hl⟩)).below (below_alloc (Below.refl w3.heap.size w3) (.cells (Cs T A n k) 30 (0, 0)))); have HP4 := Aside0.mk (hp.below (below_alloc (Below.refl w3.heap.size w3) (.cells (Cs T A n k) 30 (0, 0)))); have HS3 := Aside0.mk hk.1; have HK4 := Aside0.mk (then_keep (two_keep (below_alloc (Below.refl w.heap.size w) (.cells C0 30 (0, 0))) hk) (below_alloc (Below.refl w3.heap.size w3) (.cells (Cs T A n k) 30 (0, 0)))); have HG4 := Aside0.mk (blk_alloc (blk_keep HG.out hk (by have := HL.out.1; omega)) (.cells (Cs T A n k) 30 (0, 0))); have HX4 := Aside0.mk (blk_new w3 (.cells (Cs T A n k) 30 (0, 0))); clear ht hp hk))
  go_loopg [4] 2 (fun kq v4 wx => (kq = 2 ∧ Aside0 (Below (w3.alloc (.cells (Cs T A n k) 30 (0, 0))).heap.size (w3.alloc (.cells (Cs T A n k) 30 (0, 0))) wx)) ∨ Aside0 (∃ q, wx.heap[w3.heap.size]? = some (.cells (Cs (.bin ⟨#[42]⟩ T T2) (some ⟨q, 0, none⟩) 2 2) 30 (0, 0)) ∧ Tr (fun q => w.heap.size + 1 ≤ q ∧ q ≠ w3.heap.size) wx (.bin ⟨#[42]⟩ T T2) (some ⟨q, 0, none⟩) 2 2 ∧ Pr wx pb g c 5 ∧ KB w wx pb none ∧ wx.heap[w.heap.size]? = some (.cells C0 30 (0, 0))))
  case atStart => exact .inl ⟨rfl, ⟨Below.refl _ _⟩⟩
  case round =>
    rcases hrel with ⟨rfl, HB5⟩ | HE
    · go_upto_region 5 with (first
        | (go_at_call 153; have := HB5; go_loud ((refine (is3 _ pb g c _ true (by decide +kernel) (HP4.out.below HB5.out)).mono ?_); rintro e w5 ⟨rfl, hb⟩; have HB6 := Aside0.mk (below_then HB5.out HB5.out.size hb); clear hb))
        | (go_at_call 146; have := HB6; go_loud ((refine (peek3 _ pb g c (HP4.out.below HB6.out)).mono ?_); rintro e w6 ⟨rfl, hb⟩; have HB7 := Aside0.mk (below_then HB6.out HB6.out.size hb); have y2 := (blk_cell (HP4.out.below HB7.out).P 2).trans rfl; have yf := blk_frozen (HP4.out.below HB7.out).P 2; clear hb)))
      (try simp only [Act.put, List.setIfInBounds_toArray, List.set_cons_zero, List.set_cons_succ])
      have HPS := Aside0.mk ((HP4.out.below HB7.out).at_ 4)
      have XS := Aside0.mk (blk_far (blk_below HX4.out HB7.out) (p := ⟨pb, 2, none⟩) (by have := HL.out; have := HS3.out; have := HZ.out; show w3.heap.size ≠ pb; omega) (.int .i64 4))
      have GS := Aside0.mk (blk_far (blk_below HG4.out HB7.out) (p := ⟨pb, 2, none⟩) (by have := HL.out; show w.heap.size ≠ pb; omega) (.int .i64 4))
      have KS := Aside0.mk (kb_set' (then_keep HK4.out HB7.out) 2 (.int .i64 4))
      have TS := Aside0.mk ((HT.out.below HB7.out).put (q := pb) (j := 2) (u := .int .i64 4) (fun q hq => by have := HL.out; have := HZ.out; omega) |>.mono (ok' := fun q => w.heap.size + 1 ≤ q ∧ q < w3.heap.size) (fun q hq _ => by have := HZ.out; omega))
      have SS := Aside0.mk (show w3.heap.size < (w6.setCell ⟨pb, 2, none⟩ (.int .i64 4)).heap.size from blk_lt XS.out)
      clear y2 yf HB5 HB6
      refine RegInv.wp_region_inv' rfl (by kernel_rfl) (RPJ pb g c 4 5 ⟨#[42]⟩ T T2 A n k w3.heap.size w3.heap.size (w.heap.size + 1) (w6.setCell ⟨pb, 2, none⟩ (.int .i64 4))) ?_ ?_ ?_
      · refine ⟨false, false, false, false, false, false, _, _, _, _, _, rfl, RP_self _, ?_⟩
        exact ⟨fun h => (by cases h), fun h => (by cases h), fun h => (by cases h), fun h => (by cases h), fun h => (by cases h), fun h => (by cases h), ⟨HPS.out.P, HPS.out.T⟩, KB.start _ _ _ _, fun _ => XS.out, fun _ => ⟨_, _, _, _, XS.out⟩, TS.out.move (fun k h l => ⟨h, rfl⟩), fun h => (by cases h), fun h => (by cases h), (by have := HL.out; have := HZ.out; have := HS3.out; have := SS.out; omega)⟩
      · skip
        rintro listed a' w' i o ho hz hb hw ⟨b0, b1, b2, b3, b4, b5, v27, v28, v29, v30, v31, rfl, rfl, F9⟩
        match i, ho, hb, hw with
        | 0, ho, hb, hw =>
          obtain rfl : _ = o := Option.some.inj ho
          simp only [List.setIfInBounds_toArray, List.set_cons_zero, List.set_cons_succ]
          go_wp2
          exact ⟨true, b1, b2, b3, b4, b5, _, v28, v29, v30, v31, rfl, by simp only [List.setIfInBounds_toArray, List.set_cons_zero, List.set_cons_succ, Bool.not_true], { F9 with h0 := fun _ => rfl }⟩
        | 1, ho, hb, hw =>
          obtain rfl : _ = o := Option.some.inj ho
          simp only [List.setIfInBounds_toArray, List.set_cons_zero, List.set_cons_succ]
          obtain rfl : b1 = false := hb
          have q5 : b5 = false := by cases e : b5 <;> first | rfl | exact absurd (F9.n5 e).1 (by decide)
          subst q5
          have y0 := (blk_cell (F9.x3 rfl) 0).trans rfl
          have y1 := (blk_cell (F9.x3 rfl) 1).trans rfl
          have y2 := (blk_cell (F9.x3 rfl) 2).trans rfl
          have y3 := (blk_cell (F9.x3 rfl) 3).trans rfl
          go_wp2
          exact ⟨b0, true, b2, b3, b4, false, v27, _, v29, v30, v31, rfl, by simp only [List.setIfInBounds_toArray, List.set_cons_zero, List.set_cons_succ, Bool.not_true], { F9 with h1 := fun _ => rfl, n5 := fun e => absurd e (by decide) }⟩
        | 2, ho, hb, hw =>
          obtain rfl : _ = o := Option.some.inj ho
          simp only [List.setIfInBounds_toArray, List.set_cons_zero, List.set_cons_succ]
          go_wp2
          exact ⟨b0, b1, true, b3, b4, b5, v27, v28, _, v30, v31, rfl, by simp only [List.setIfInBounds_toArray, List.set_cons_zero, List.set_cons_succ, Bool.not_true], { F9 with h2 := fun _ => rfl }⟩
        | 3, ho, hb, hw =>
          obtain rfl : _ = o := Option.some.inj ho
          simp only [List.setIfInBounds_toArray, List.set_cons_zero, List.set_cons_succ]
          obtain rfl : b3 = false := hb
          have q4 : b4 = false := by cases e : b4 <;> first | rfl | exact absurd (F9.n4 e) (by decide)
          subst q4
          have q5 : b5 = false := by cases e : b5 <;> first | rfl | exact absurd (F9.n5 e).2 (by decide)
          subst q5
          obtain rfl := F9.h2 (hw ⟨2, .data⟩ (by simp) rfl)
          go_wp2_with (go_at_call 159; (refine (HI2.out w' F9.pr).mono ?_); rintro e w6 ⟨A2, n2, k2, rfl, ht, hp, hk⟩)
          exact ⟨b0, b1, b2, true, false, false, v27, v28, .pointer (some ⟨pb, 0, none⟩), .agg (Cs _ A2 n2 k2), v31, rfl, by simp only [List.setIfInBounds_toArray, List.set_cons_zero, List.set_cons_succ, Bool.not_true], { F9 with h3 := fun _ => ⟨A2, n2, k2, rfl, ht.mono (fun q hq _ => Nat.le_trans F9.K.1 hq)⟩, h4 := fun e => absurd e (by decide), h5 := fun e => absurd e (by decide), pr := hp, K := KB.trans F9.K (kb_wide hk _) (.inl rfl), x3 := fun _ => blk_keep (F9.x3 rfl) hk (by have := F9.l; omega), y3 := fun _ => (by obtain ⟨z0, z1, z2, z3, hy⟩ := F9.y3 rfl; exact ⟨z0, z1, z2, z3, blk_keep hy hk F9.l.2.2.2.2.2.1⟩), tA := F9.tA.keep hk (fun q hq => by have := F9.l; omega), n4 := fun e => absurd e (by decide), n5 := fun e => absurd e (by decide) }⟩
        | 4, ho, hb, hw =>
          obtain rfl : _ = o := Option.some.inj ho
          simp only [List.setIfInBounds_toArray, List.set_cons_zero, List.set_cons_succ]
          obtain rfl : b4 = false := hb
          have q5 : b5 = false := by cases e : b5 <;> first | rfl | exact absurd (F9.n5 e).2 (by decide)
          subst q5
          obtain rfl := F9.h0 (hw ⟨0, .data⟩ (by simp) rfl)
          obtain rfl := F9.h1 (hw ⟨1, .data⟩ (by simp) rfl)
          have q3 := hw ⟨3, .data⟩ (by simp) rfl
          obtain ⟨A2, n2, k2, rfl, ht2⟩ := F9.h3 q3
          go_wp2_with (go_at_call 152; (refine (op_walk w' _ _ _ A A2 n k n2 k2).mono ?_); rintro e w6 ⟨q, rfl, hq, hh, hb6⟩)
          exact ⟨b0, b1, b2, b3, true, false, .string _, .agg (Cs _ A n k), v29, .agg (Cs _ A2 n2 k2), .agg (Cs _ (some ⟨q, 0, none⟩) 2 2), rfl, by simp only [List.setIfInBounds_toArray, List.set_cons_zero, List.set_cons_succ, Bool.not_true], { F9 with h3 := fun _ => ⟨A2, n2, k2, rfl, ht2.below hb6⟩, h4 := fun _ => ⟨q, rfl, rfl, rfl, q, rfl, .inr (Nat.le_trans F9.K.1 hq), A, n, k, A2, n2, k2, hh, (F9.tA.below hb6).mono (fun _ h _ => .inl h), (ht2.below hb6).mono (fun _ h _ => .inr h)⟩, h5 := fun e => absurd e (by decide), pr := F9.pr.below hb6, K := KB.trans F9.K (KB.of_below hb6 _ _) (.inl rfl), x3 := fun _ => blk_below (F9.x3 rfl) hb6, y3 := fun _ => (by obtain ⟨z0, z1, z2, z3, hy⟩ := F9.y3 rfl; exact ⟨z0, z1, z2, z3, blk_below hy hb6⟩), tA := F9.tA.below hb6, n4 := fun _ => q3, n5 := fun e => absurd e (by decide) }⟩
        | 5, ho, hb, hw =>
          obtain rfl : _ = o := Option.some.inj ho
          simp only [List.setIfInBounds_toArray, List.set_cons_zero, List.set_cons_succ]
          obtain rfl : b5 = false := hb
          have q4 := hw ⟨4, .data⟩ (by simp) rfl
          obtain ⟨q, e4, t4⟩ := F9.h4 q4
          subst e4
          obtain ⟨z0, z1, z2, z3, hy⟩ := F9.y3 rfl
          have y0 := (blk_cell hy 0).trans rfl
          have y1 := (blk_cell hy 1).trans rfl
          have y2 := (blk_cell hy 2).trans rfl
          have y3 := (blk_cell hy 3).trans rfl
          have f0 := blk_frozen hy 0
          have f1 := blk_frozen hy 1
          have f2 := blk_frozen hy 2
          have f3 := blk_frozen hy 3
          have q1 := hw ⟨1, .phase⟩ (by simp) rfl
          go_wp2
          exact ⟨b0, b1, b2, b3, b4, true, v27, v28, v29, v30, .agg (Cs _ (some ⟨q, 0, none⟩) 2 2), rfl, by simp only [List.setIfInBounds_toArray, List.set_cons_zero, List.set_cons_succ, Bool.not_true], { F9 with h3 := fun e => (F9.h3 e).imp (fun _ => Exists.imp (fun _ => Exists.imp (fun _ h => ⟨h.1, put4_tr h.2 (fun q hq => by have := F9.l; omega) _ _ _ _⟩))), h4 := fun e => ⟨q, rfl, put4_tr t4 (fun q hq => by have := F9.l; omega) _ _ _ _⟩, h5 := fun _ => ⟨q, put4_blk hy _ _ _ _, put4_tr t4 (fun q hq => by have := F9.l; omega) _ _ _ _⟩, pr := put4_pr F9.pr (by have := F9.l; omega) (by have := F9.l; omega) _ _ _ _, K := put4_kbr F9.K _ _ _ _, x3 := fun e => absurd e (by decide), y3 := fun e => absurd e (by decide), tA := put4_tr F9.tA (fun q hq => by have := F9.l; omega) _ _ _ _, n5 := fun _ => ⟨q1, q4⟩ }⟩
        | j + 6, ho, hb, hw => exact absurd ho (by simp)
      · rintro listed a' w' hall ⟨b0, b1, b2, b3, b4, b5, v27, v28, v29, v30, v31, rfl, rfl, F9⟩
        obtain rfl : b0 = true := hall 0 (by decide)
        obtain rfl : b1 = true := hall 1 (by decide)
        obtain rfl : b2 = true := hall 2 (by decide)
        obtain rfl : b3 = true := hall 3 (by decide)
        obtain rfl : b4 = true := hall 4 (by decide)
        obtain rfl : b5 = true := hall 5 (by decide)
        obtain ⟨q9, hy9, t9⟩ := F9.h5 rfl
        simp only [List.setIfInBounds_toArray, List.set_cons_zero, List.set_cons_succ]
        go_wp2_with fail
        go_roundg 1
        case measure => omega
        case rel => exact .inr ⟨⟨q9, hy9, t9.mono (fun q hq hl => by have := HZ.out; have := SS.out; have := HS3.out; omega), F9.pr, kb_drop KS.out F9.K (by have := HS3.out; have := HZ.out; omega), (F9.K.2 _ (blk_lt GS.out) (by have := HL.out; omega) (by intro e; injection e with e; have := HS3.out; have := HZ.out; omega)).trans GS.out⟩⟩
    · obtain ⟨q, hx, ht, hp, hk, hg⟩ := HE.out
      have HXX := Aside0.mk hx
      have HTT := Aside0.mk ht
      have HPP := Aside0.mk hp
      have HKK := Aside0.mk hk
      have HGG := Aside0.mk hg
      have HB5 := Aside0.mk (Below.refl wr.heap.size wr)
      clear hx ht hp hk hg HE
      go_wp2_with (first
    | (go_at_call 153; have := HC1; go_loud ((refine (is5 _ pb g c _ false (by decide +kernel) (HPP.out.below HC1.out)).mono ?_); rintro e w22 ⟨rfl, hb⟩; have HC2 := Aside0.mk (below_then HC1.out HC1.out.size hb); clear hb; have xc0 := (blk_cell (blk_below HXX.out HC2.out) 0).trans rfl; have gc0 := (blk_cell (blk_below HGG.out HC2.out) 0).trans rfl; have gf0 := blk_frozen (blk_below HGG.out HC2.out) 0; have xc1 := (blk_cell (blk_below HXX.out HC2.out) 1).trans rfl; have gc1 := (blk_cell (blk_below HGG.out HC2.out) 1).trans rfl; have gf1 := blk_frozen (blk_below HGG.out HC2.out) 1; have xc2 := (blk_cell (blk_below HXX.out HC2.out) 2).trans rfl; have gc2 := (blk_cell (blk_below HGG.out HC2.out) 2).trans rfl; have gf2 := blk_frozen (blk_below HGG.out HC2.out) 2; have xc3 := (blk_cell (blk_below HXX.out HC2.out) 3).trans rfl; have gc3 := (blk_cell (blk_below HGG.out HC2.out) 3).trans rfl; have gf3 := blk_frozen (blk_below HGG.out HC2.out) 3))
    | (go_at_call 153; have := HC0; go_loud ((refine (is5 _ pb g c _ false (by decide +kernel) (HPP.out.below HC0.out)).mono ?_); rintro e w21 ⟨rfl, hb⟩; have HC1 := Aside0.mk (below_then HC0.out HC0.out.size hb); clear hb))
    | (go_at_call 153; have := HB5; go_loud ((refine (is5 _ pb g c _ false (by decide +kernel) (HPP.out.below HB5.out)).mono ?_); rintro e w20 ⟨rfl, hb⟩; have HC0 := Aside0.mk (below_then HB5.out HB5.out.size hb); clear hb)))
      refine bodyPost_ret (results_cell_row rfl _ _ w.heap.size 30 (Cs (.bin ⟨#[42]⟩ T T2) (some ⟨q, 0, none⟩) 2 2) (0, 0) _ rfl (by (with_reducible repeat (first | refine blk_drewN ?_ _ | refine blk_drew ?_)); exact put4_blk (blk_below HGG.out HC2.out) _ _ _ _) Tryz.underlying30 rfl (by kernel_rfl)) rfl ?_
      exact ⟨_, _, _, rfl, (put4_tr (HTT.out.below HC2.out) (fun q hq => by omega) _ _ _ _).mono (fun q hq _ => by omega), put4_pr (HPP.out.below HC2.out) (by have := HL.out; omega) (by have := HL.out; omega) _ _ _ _, put4_kb (then_keep HKK.out HC2.out) (Nat.le_refl _) _ _ _ _⟩
set_option maxHeartbeats 2000000 in
set_option maxRecDepth 100000 in
theorem sum0 (T T2 : TT) (w : World) (pb g c : Nat) (hi : ∀ w, Pr w pb g c 0 → Calls Tryz.prog 158 #[.pointer (some ⟨pb, 0, none⟩)] w (Post T w pb g c 1)) (hi2 : ∀ w, Pr w pb g c 2 → Calls Tryz.prog 158 #[.pointer (some ⟨pb, 0, none⟩)] w (Post T2 w pb g c 5)) (h : Pr w pb g c 0) :
    Calls Tryz.prog 157 #[.pointer (some ⟨pb, 0, none⟩)] w (Post (.bin ⟨#[43]⟩ T T2) w pb g c 5) := by
  have hl := h.lt
  have HP := Aside0.mk (h.below (below_alloc (Below.refl w.heap.size w) (.cells C0 30 (0, 0))))
  have HG := Aside0.mk (blk_new w (.cells C0 30 (0, 0)))
  have HL := Aside0.mk hl
  have sz1 : (w.alloc (.cells C0 30 (0, 0))).heap.size = w.heap.size + 1 := by simp
  have HZ := Aside0.mk sz1
  clear h hl sz1
  have HI := Aside0.mk hi
  have HI2 := Aside0.mk hi2
  clear hi hi2
  go_enter Tryz.func157, Tryz.ntmps157
  go_wp2_with (go_at_call 158; go_loud ((refine (HI.out _ HP.out).mono ?_); rintro e w3 ⟨A, n, k, rfl, ht, hp, hk⟩; have HT := Aside0.mk ((ht.mono (ok' := fun q => (w.alloc (.cells C0 30 (0, 0))).heap.size ≤ q ∧ q < w3.heap.size) (fun q hq hl => ⟨hq, hl⟩)).below (below_alloc (Below.refl w3.heap.size w3) (.cells (Cs T A n k) 30 (0, 0)))); have HP4 := Aside0.mk (hp.below (below_alloc (Below.refl w3.heap.size w3) (.cells (Cs T A n k) 30 (0, 0)))); have HS3 := Aside0.mk hk.1; have HK4 := Aside0.mk (then_keep (two_keep (below_alloc (Below.refl w.heap.size w) (.cells C0 30 (0, 0))) hk) (below_alloc (Below.refl w3.heap.size w3) (.cells (Cs T A n k) 30 (0, 0)))); have HG4 := Aside0.mk (blk_alloc (blk_keep HG.out hk (by have := HL.out.1; omega)) (.cells (Cs T A n k) 30 (0, 0))); have HX4 := Aside0.mk (blk_new w3 (.cells (Cs T A n k) 30 (0, 0))); clear ht hp hk))
  go_loopg [4] 2 (fun kq v4 wx => (kq = 2 ∧ Aside0 (Below (w3.alloc (.cells (Cs T A n k) 30 (0, 0))).heap.size (w3.alloc (.cells (Cs T A n k) 30 (0, 0))) wx)) ∨ Aside0 (∃ q, wx.heap[w3.heap.size]? = some (.cells (Cs (.bin ⟨#[43]⟩ T T2) (some ⟨q, 0, none⟩) 2 2) 30 (0, 0)) ∧ Tr (fun q => w.heap.size + 1 ≤ q ∧ q ≠ w3.heap.size) wx (.bin ⟨#[43]⟩ T T2) (some ⟨q, 0, none⟩) 2 2 ∧ Pr wx pb g c 5 ∧ KB w wx pb none ∧ wx.heap[w.heap.size]? = some (.cells C0 30 (0, 0))))
  case atStart => exact .inl ⟨rfl, ⟨Below.refl _ _⟩⟩
  case round =>
    rcases hrel with ⟨rfl, HB5⟩ | HE
    · go_upto_region 5 with (first
        | (go_at_call 153; have := HB5; go_loud ((refine (is1 _ pb g c _ true (by decide +kernel) (HP4.out.below HB5.out)).mono ?_); rintro e w5 ⟨rfl, hb⟩; have HB6 := Aside0.mk (below_then HB5.out HB5.out.size hb); clear hb))
        | (go_at_call 146; have := HB6; go_loud ((refine (peek1 _ pb g c (HP4.out.below HB6.out)).mono ?_); rintro e w6 ⟨rfl, hb⟩; have HB7 := Aside0.mk (below_then HB6.out HB6.out.size hb); have y2 := (blk_cell (HP4.out.below HB7.out).P 2).trans rfl; have yf := blk_frozen (HP4.out.below HB7.out).P 2; clear hb)))
      (try simp only [Act.put, List.setIfInBounds_toArray, List.set_cons_zero, List.set_cons_succ])
      have HPS := Aside0.mk ((HP4.out.below HB7.out).at_ 2)
      have XS := Aside0.mk (blk_far (blk_below HX4.out HB7.out) (p := ⟨pb, 2, none⟩) (by have := HL.out; have := HS3.out; have := HZ.out; show w3.heap.size ≠ pb; omega) (.int .i64 2))
      have GS := Aside0.mk (blk_far (blk_below HG4.out HB7.out) (p := ⟨pb, 2, none⟩) (by have := HL.out; show w.heap.size ≠ pb; omega) (.int .i64 2))
      have KS := Aside0.mk (kb_set' (then_keep HK4.out HB7.out) 2 (.int .i64 2))
      have TS := Aside0.mk ((HT.out.below HB7.out).put (q := pb) (j := 2) (u := .int .i64 2) (fun q hq => by have := HL.out; have := HZ.out; omega) |>.mono (ok' := fun q => w.heap.size + 1 ≤ q ∧ q < w3.heap.size) (fun q hq _ => by have := HZ.out; omega))
      have SS := Aside0.mk (show w3.heap.size < (w6.setCell ⟨pb, 2, none⟩ (.int .i64 2)).heap.size from blk_lt XS.out)
      clear y2 yf HB5 HB6
      refine RegInv.wp_region_inv' rfl (by kernel_rfl) (RSJ pb g c 2 5 ⟨#[43]⟩ T T2 A n k w3.heap.size w3.heap.size (w.heap.size + 1) (w6.setCell ⟨pb, 2, none⟩ (.int .i64 2))) ?_ ?_ ?_
      · refine ⟨false, false, false, false, false, false, _, _, _, _, _, rfl, RS_self _, ?_⟩
        exact ⟨fun h => (by cases h), fun h => (by cases h), fun h => (by cases h), fun h => (by cases h), fun h => (by cases h), fun h => (by cases h), ⟨HPS.out.P, HPS.out.T⟩, KB.start _ _ _ _, fun _ => XS.out, fun _ => ⟨_, _, _, _, XS.out⟩, TS.out.move (fun k h l => ⟨h, rfl⟩), fun h => (by cases h), fun h => (by cases h), (by have := HL.out; have := HZ.out; have := HS3.out; have := SS.out; omega)⟩
      · skip
        rintro listed a' w' i o ho hz hb hw ⟨b0, b1, b2, b3, b4, b5, v23, v24, v25, v26, v27, rfl, rfl, F9⟩
        match i, ho, hb, hw with
        | 0, ho, hb, hw =>
          obtain rfl : _ = o := Option.some.inj ho
          simp only [List.setIfInBounds_toArray, List.set_cons_zero, List.set_cons_succ]
          go_wp2
          exact ⟨true, b1, b2, b3, b4, b5, _, v24, v25, v26, v27, rfl, by simp only [List.setIfInBounds_toArray, List.set_cons_zero, List.set_cons_succ, Bool.not_true], { F9 with h0 := fun _ => rfl }⟩
        | 1, ho, hb, hw =>
          obtain rfl : _ = o := Option.some.inj ho
          simp only [List.setIfInBounds_toArray, List.set_cons_zero, List.set_cons_succ]
          obtain rfl : b1 = false := hb
          have q5 : b5 = false := by cases e : b5 <;> first | rfl | exact absurd (F9.n5 e).1 (by decide)
          subst q5
          have y0 := (blk_cell (F9.x3 rfl) 0).trans rfl
          have y1 := (blk_cell (F9.x3 rfl) 1).trans rfl
          have y2 := (blk_cell (F9.x3 rfl) 2).trans rfl
          have y3 := (blk_cell (F9.x3 rfl) 3).trans rfl
          go_wp2
          exact ⟨b0, true, b2, b3, b4, false, v23, _, v25, v26, v27, rfl, by simp only [List.setIfInBounds_toArray, List.set_cons_zero, List.set_cons_succ, Bool.not_true], { F9 with h1 := fun _ => rfl, n5 := fun e => absurd e (by decide) }⟩
        | 2, ho, hb, hw =>
          obtain rfl : _ = o := Option.some.inj ho
          simp only [List.setIfInBounds_toArray, List.set_cons_zero, List.set_cons_succ]
          go_wp2
          exact ⟨b0, b1, true, b3, b4, b5, v23, v24, _, v26, v27, rfl, by simp only [List.setIfInBounds_toArray, List.set_cons_zero, List.set_cons_succ, Bool.not_true], { F9 with h2 := fun _ => rfl }⟩
        | 3, ho, hb, hw =>
          obtain rfl : _ = o := Option.some.inj ho
          simp only [List.setIfInBounds_toArray, List.set_cons_zero, List.set_cons_succ]
          obtain rfl : b3 = false := hb
          have q4 : b4 = false := by cases e : b4 <;> first | rfl | exact absurd (F9.n4 e) (by decide)
          subst q4
          have q5 : b5 = false := by cases e : b5 <;> first | rfl | exact absurd (F9.n5 e).2 (by decide)
          subst q5
          obtain rfl := F9.h2 (hw ⟨2, .data⟩ (by simp) rfl)
          go_wp2_with (go_at_call 158; (refine (HI2.out w' F9.pr).mono ?_); rintro e w6 ⟨A2, n2, k2, rfl, ht, hp, hk⟩)
          exact ⟨b0, b1, b2, true, false, false, v23, v24, .pointer (some ⟨pb, 0, none⟩), .agg (Cs _ A2 n2 k2), v27, rfl, by simp only [List.setIfInBounds_toArray, List.set_cons_zero, List.set_cons_succ, Bool.not_true], { F9 with h3 := fun _ => ⟨A2, n2, k2, rfl, ht.mono (fun q hq _ => Nat.le_trans F9.K.1 hq)⟩, h4 := fun e => absurd e (by decide), h5 := fun e => absurd e (by decide), pr := hp, K := KB.trans F9.K (kb_wide hk _) (.inl rfl), x3 := fun _ => blk_keep (F9.x3 rfl) hk (by have := F9.l; omega), y3 := fun _ => (by obtain ⟨z0, z1, z2, z3, hy⟩ := F9.y3 rfl; exact ⟨z0, z1, z2, z3, blk_keep hy hk F9.l.2.2.2.2.2.1⟩), tA := F9.tA.keep hk (fun q hq => by have := F9.l; omega), n4 := fun e => absurd e (by decide), n5 := fun e => absurd e (by decide) }⟩
        | 4, ho, hb, hw =>
          obtain rfl : _ = o := Option.some.inj ho
          simp only [List.setIfInBounds_toArray, List.set_cons_zero, List.set_cons_succ]
          obtain rfl : b4 = false := hb
          have q5 : b5 = false := by cases e : b5 <;> first | rfl | exact absurd (F9.n5 e).2 (by decide)
          subst q5
          obtain rfl := F9.h0 (hw ⟨0, .data⟩ (by simp) rfl)
          obtain rfl := F9.h1 (hw ⟨1, .data⟩ (by simp) rfl)
          have q3 := hw ⟨3, .data⟩ (by simp) rfl
          obtain ⟨A2, n2, k2, rfl, ht2⟩ := F9.h3 q3
          go_wp2_with (go_at_call 152; (refine (op_walk w' _ _ _ A A2 n k n2 k2).mono ?_); rintro e w6 ⟨q, rfl, hq, hh, hb6⟩)
          exact ⟨b0, b1, b2, b3, true, false, .string _, .agg (Cs _ A n k), v25, .agg (Cs _ A2 n2 k2), .agg (Cs _ (some ⟨q, 0, none⟩) 2 2), rfl, by simp only [List.setIfInBounds_toArray, List.set_cons_zero, List.set_cons_succ, Bool.not_true], { F9 with h3 := fun _ => ⟨A2, n2, k2, rfl, ht2.below hb6⟩, h4 := fun _ => ⟨q, rfl, rfl, rfl, q, rfl, .inr (Nat.le_trans F9.K.1 hq), A, n, k, A2, n2, k2, hh, (F9.tA.below hb6).mono (fun _ h _ => .inl h), (ht2.below hb6).mono (fun _ h _ => .inr h)⟩, h5 := fun e => absurd e (by decide), pr := F9.pr.below hb6, K := KB.trans F9.K (KB.of_below hb6 _ _) (.inl rfl), x3 := fun _ => blk_below (F9.x3 rfl) hb6, y3 := fun _ => (by obtain ⟨z0, z1, z2, z3, hy⟩ := F9.y3 rfl; exact ⟨z0, z1, z2, z3, blk_below hy hb6⟩), tA := F9.tA.below hb6, n4 := fun _ => q3, n5 := fun e => absurd e (by decide) }⟩
        | 5, ho, hb, hw =>
          obtain rfl : _ = o := Option.some.inj ho
          simp only [List.setIfInBounds_toArray, List.set_cons_zero, List.set_cons_succ]
          obtain rfl : b5 = false := hb
          have q4 := hw ⟨4, .data⟩ (by simp) rfl
          obtain ⟨q, e4, t4⟩ := F9.h4 q4
          subst e4
          obtain ⟨z0, z1, z2, z3, hy⟩ := F9.y3 rfl
          have y0 := (blk_cell hy 0).trans rfl
          have y1 := (blk_cell hy 1).trans rfl
          have y2 := (blk_cell hy 2).trans rfl
          have y3 := (blk_cell hy 3).trans rfl
          have f0 := blk_frozen hy 0
          have f1 := blk_frozen hy 1
          have f2 := blk_frozen hy 2
          have f3 := blk_frozen hy 3
          have q1 := hw ⟨1, .phase⟩ (by simp) rfl
          go_wp2
          exact ⟨b0, b1, b2, b3, b4, true, v23, v24, v25, v26, .agg (Cs _ (some ⟨q, 0, none⟩) 2 2), rfl, by simp only [List.setIfInBounds_toArray, List.set_cons_zero, List.set_cons_succ, Bool.not_true], { F9 with h3 := fun e => (F9.h3 e).imp (fun _ => Exists.imp (fun _ => Exists.imp (fun _ h => ⟨h.1, put4_tr h.2 (fun q hq => by have := F9.l; omega) _ _ _ _⟩))), h4 := fun e => ⟨q, rfl, put4_tr t4 (fun q hq => by have := F9.l; omega) _ _ _ _⟩, h5 := fun _ => ⟨q, put4_blk hy _ _ _ _, put4_tr t4 (fun q hq => by have := F9.l; omega) _ _ _ _⟩, pr := put4_pr F9.pr (by have := F9.l; omega) (by have := F9.l; omega) _ _ _ _, K := put4_kbr F9.K _ _ _ _, x3 := fun e => absurd e (by decide), y3 := fun e => absurd e (by decide), tA := put4_tr F9.tA (fun q hq => by have := F9.l; omega) _ _ _ _, n5 := fun _ => ⟨q1, q4⟩ }⟩
        | j + 6, ho, hb, hw => exact absurd ho (by simp)
      · rintro listed a' w' hall ⟨b0, b1, b2, b3, b4, b5, v23, v24, v25, v26, v27, rfl, rfl, F9⟩
        obtain rfl : b0 = true := hall 0 (by decide)
        obtain rfl : b1 = true := hall 1 (by decide)
        obtain rfl : b2 = true := hall 2 (by decide)
        obtain rfl : b3 = true := hall 3 (by decide)
        obtain rfl : b4 = true := hall 4 (by decide)
        obtain rfl : b5 = true := hall 5 (by decide)
        obtain ⟨q9, hy9, t9⟩ := F9.h5 rfl
        simp only [List.setIfInBounds_toArray, List.set_cons_zero, List.set_cons_succ]
        go_wp2_with fail
        go_roundg 1
        case measure => omega
        case rel => exact .inr ⟨⟨q9, hy9, t9.mono (fun q hq hl => by have := HZ.out; have := SS.out; have := HS3.out; omega), F9.pr, kb_drop KS.out F9.K (by have := HS3.out; have := HZ.out; omega), (F9.K.2 _ (blk_lt GS.out) (by have := HL.out; omega) (by intro e; injection e with e; have := HS3.out; have := HZ.out; omega)).trans GS.out⟩⟩
    · obtain ⟨q, hx, ht, hp, hk, hg⟩ := HE.out
      have HXX := Aside0.mk hx
      have HTT := Aside0.mk ht
      have HPP := Aside0.mk hp
      have HKK := Aside0.mk hk
      have HGG := Aside0.mk hg
      have HB5 := Aside0.mk (Below.refl wr.heap.size wr)
      clear hx ht hp hk hg HE
      go_wp2_with (first
    | (go_at_call 153; have := HC0; go_loud ((refine (is5 _ pb g c _ false (by decide +kernel) (HPP.out.below HC0.out)).mono ?_); rintro e w21 ⟨rfl, hb⟩; have HC1 := Aside0.mk (below_then HC0.out HC0.out.size hb); clear hb; have xc0 := (blk_cell (blk_below HXX.out HC1.out) 0).trans rfl; have gc0 := (blk_cell (blk_below HGG.out HC1.out) 0).trans rfl; have gf0 := blk_frozen (blk_below HGG.out HC1.out) 0; have xc1 := (blk_cell (blk_below HXX.out HC1.out) 1).trans rfl; have gc1 := (blk_cell (blk_below HGG.out HC1.out) 1).trans rfl; have gf1 := blk_frozen (blk_below HGG.out HC1.out) 1; have xc2 := (blk_cell (blk_below HXX.out HC1.out) 2).trans rfl; have gc2 := (blk_cell (blk_below HGG.out HC1.out) 2).trans rfl; have gf2 := blk_frozen (blk_below HGG.out HC1.out) 2; have xc3 := (blk_cell (blk_below HXX.out HC1.out) 3).trans rfl; have gc3 := (blk_cell (blk_below HGG.out HC1.out) 3).trans rfl; have gf3 := blk_frozen (blk_below HGG.out HC1.out) 3))
    | (go_at_call 153; have := HB5; go_loud ((refine (is5 _ pb g c _ false (by decide +kernel) (HPP.out.below HB5.out)).mono ?_); rintro e w20 ⟨rfl, hb⟩; have HC0 := Aside0.mk (below_then HB5.out HB5.out.size hb); clear hb)))
      refine bodyPost_ret (results_cell_row rfl _ _ w.heap.size 30 (Cs (.bin ⟨#[43]⟩ T T2) (some ⟨q, 0, none⟩) 2 2) (0, 0) _ rfl (by (with_reducible repeat (first | refine blk_drewN ?_ _ | refine blk_drew ?_)); exact put4_blk (blk_below HGG.out HC1.out) _ _ _ _) Tryz.underlying30 rfl (by kernel_rfl)) rfl ?_
      exact ⟨_, _, _, rfl, (put4_tr (HTT.out.below HC1.out) (fun q hq => by omega) _ _ _ _).mono (fun q hq _ => by omega), put4_pr (HPP.out.below HC1.out) (by have := HL.out; omega) (by have := HL.out; omega) _ _ _ _, put4_kb (then_keep HKK.out HC1.out) (Nat.le_refl _) _ _ _ _⟩
end Go.Proofs.YtlabfjaddgakkaaGreat.Need
end
section
/-! The parser of trees at awake's text: tuple, cons. -/
namespace Go.Proofs.YtlabfjaddgakkaaGreat.Need
set_option linter.unusedVariables false
set_option linter.unusedSimpArgs false
open Go.RowKit Go.Proofs.YtlabfjaddgakkaaGreatW.PrintWords Go.Proofs.YtlabfjaddgakkaaGreatW.PrintLast Go.Proofs.YtlabfjaddgakkaaGreatW.PrintMore Go.Proofs.YtlabfjaddgakkaaGreat.Q
set_option maxHeartbeats 2000000 in
set_option maxRecDepth 100000 in
theorem tuple0 (T : TT) (w : World) (pb g c : Nat) (hi : ∀ w, Pr w pb g c 0 → Calls Tryz.prog 157 #[.pointer (some ⟨pb, 0, none⟩)] w (Post T w pb g c 5)) (h : Pr w pb g c 0) :
    Calls Tryz.prog 156 #[.pointer (some ⟨pb, 0, none⟩)] w (Post T w pb g c 5) := by
  have hl := h.lt
  have HP := Aside0.mk (h.below (below_alloc (Below.refl w.heap.size w) (.cells C0 30 (0, 0))))
  have HG := Aside0.mk (blk_new w (.cells C0 30 (0, 0)))
  have HL := Aside0.mk hl
  have sz1 : (w.alloc (.cells C0 30 (0, 0))).heap.size = w.heap.size + 1 := by simp
  have HZ := Aside0.mk sz1
  clear h hl sz1
  have HI := Aside0.mk hi
  clear hi
  go_enter Tryz.func156, Tryz.ntmps156
  go_wp2_with (go_at_call 157; go_loud ((refine (HI.out _ HP.out).mono ?_); rintro e w3 ⟨A, n, k, rfl, ht, hp, hk⟩; have HT := Aside0.mk ((ht.mono (ok' := fun q => (w.alloc (.cells C0 30 (0, 0))).heap.size ≤ q ∧ q < w3.heap.size) (fun q hq hl => ⟨hq, hl⟩)).below (below_alloc (Below.refl w3.heap.size w3) (.cells (Cs T A n k) 30 (0, 0)))); have HP4 := Aside0.mk (hp.below (below_alloc (Below.refl w3.heap.size w3) (.cells (Cs T A n k) 30 (0, 0)))); have HS3 := Aside0.mk hk.1; have HK4 := Aside0.mk (then_keep (two_keep (below_alloc (Below.refl w.heap.size w) (.cells C0 30 (0, 0))) hk) (below_alloc (Below.refl w3.heap.size w3) (.cells (Cs T A n k) 30 (0, 0)))); have HG4 := Aside0.mk (blk_alloc (blk_keep HG.out hk (by have := HL.out.1; omega)) (.cells (Cs T A n k) 30 (0, 0))); have HX4 := Aside0.mk (blk_new w3 (.cells (Cs T A n k) 30 (0, 0))); clear ht hp hk))
  go_loopg [3] 1 (fun kq v3 wx => v3 = .slice (some ⟨w3.heap.size, 0, none⟩) 1 1 ∧ Aside0 (Below (w3.alloc (.cells (Cs T A n k) 30 (0, 0))).heap.size (w3.alloc (.cells (Cs T A n k) 30 (0, 0))) wx))
  case atStart => exact ⟨rfl, ⟨Below.refl _ _⟩⟩
  case round =>
    obtain ⟨rfl, HB5⟩ := hrel
    go_wp2_with (go_at_call 145; go_loud ((refine (no5 _ pb g c _ (by decide +kernel) (HP4.out.below HB5.out)).mono ?_); rintro e w6 ⟨rfl, hb⟩; have HC := Aside0.mk (below_then HB5.out HB5.out.size hb); clear hb; have xc0 := (blk_cell (blk_below HX4.out HC.out) 0).trans rfl; have gc0 := (blk_cell (blk_below HG4.out HC.out) 0).trans rfl; have gf0 := blk_frozen (blk_below HG4.out HC.out) 0; have xc1 := (blk_cell (blk_below HX4.out HC.out) 1).trans rfl; have gc1 := (blk_cell (blk_below HG4.out HC.out) 1).trans rfl; have gf1 := blk_frozen (blk_below HG4.out HC.out) 1; have xc2 := (blk_cell (blk_below HX4.out HC.out) 2).trans rfl; have gc2 := (blk_cell (blk_below HG4.out HC.out) 2).trans rfl; have gf2 := blk_frozen (blk_below HG4.out HC.out) 2; have xc3 := (blk_cell (blk_below HX4.out HC.out) 3).trans rfl; have gc3 := (blk_cell (blk_below HG4.out HC.out) 3).trans rfl; have gf3 := blk_frozen (blk_below HG4.out HC.out) 3))
    refine bodyPost_ret (results_cell_row rfl _ _ w.heap.size 30 (Cs T A n k) (0, 0) _ rfl (by (with_reducible repeat (first | refine blk_drewN ?_ _ | refine blk_drew ?_)); exact put4_blk (blk_below HG4.out HC.out) _ _ _ _) Tryz.underlying30 rfl (by kernel_rfl)) rfl ?_
    exact ⟨A, n, k, rfl, (put4_tr (HT.out.below HC.out) (fun q hq => by have := HZ.out; omega) _ _ _ _).mono (fun q hq _ => by have := HZ.out; omega), put4_pr (HP4.out.below HC.out) (by have := HL.out; omega) (by have := HL.out; omega) _ _ _ _, put4_kb (then_keep HK4.out HC.out) (Nat.le_refl _) _ _ _ _⟩
set_option maxHeartbeats 2000000 in
set_option maxRecDepth 100000 in
theorem tuple6 (T : TT) (w : World) (pb g c : Nat) (hi : ∀ w, Pr w pb g c 6 → Calls Tryz.prog 157 #[.pointer (some ⟨pb, 0, none⟩)] w (Post T w pb g c 7)) (h : Pr w pb g c 6) :
    Calls Tryz.prog 156 #[.pointer (some ⟨pb, 0, none⟩)] w (Post T w pb g c 7) := by
  have hl := h.lt
  have HP := Aside0.mk (h.below (below_alloc (Below.refl w.heap.size w) (.cells C0 30 (0, 0))))
  have HG := Aside0.mk (blk_new w (.cells C0 30 (0, 0)))
  have HL := Aside0.mk hl
  have sz1 : (w.alloc (.cells C0 30 (0, 0))).heap.size = w.heap.size + 1 := by simp
  have HZ := Aside0.mk sz1
  clear h hl sz1
  have HI := Aside0.mk hi
  clear hi
  go_enter Tryz.func156, Tryz.ntmps156
  go_wp2_with (go_at_call 157; go_loud ((refine (HI.out _ HP.out).mono ?_); rintro e w3 ⟨A, n, k, rfl, ht, hp, hk⟩; have HT := Aside0.mk ((ht.mono (ok' := fun q => (w.alloc (.cells C0 30 (0, 0))).heap.size ≤ q ∧ q < w3.heap.size) (fun q hq hl => ⟨hq, hl⟩)).below (below_alloc (Below.refl w3.heap.size w3) (.cells (Cs T A n k) 30 (0, 0)))); have HP4 := Aside0.mk (hp.below (below_alloc (Below.refl w3.heap.size w3) (.cells (Cs T A n k) 30 (0, 0)))); have HS3 := Aside0.mk hk.1; have HK4 := Aside0.mk (then_keep (two_keep (below_alloc (Below.refl w.heap.size w) (.cells C0 30 (0, 0))) hk) (below_alloc (Below.refl w3.heap.size w3) (.cells (Cs T A n k) 30 (0, 0)))); have HG4 := Aside0.mk (blk_alloc (blk_keep HG.out hk (by have := HL.out.1; omega)) (.cells (Cs T A n k) 30 (0, 0))); have HX4 := Aside0.mk (blk_new w3 (.cells (Cs T A n k) 30 (0, 0))); clear ht hp hk))
  go_loopg [3] 1 (fun kq v3 wx => v3 = .slice (some ⟨w3.heap.size, 0, none⟩) 1 1 ∧ Aside0 (Below (w3.alloc (.cells (Cs T A n k) 30 (0, 0))).heap.size (w3.alloc (.cells (Cs T A n k) 30 (0, 0))) wx))
  case atStart => exact ⟨rfl, ⟨Below.refl _ _⟩⟩
  case round =>
    obtain ⟨rfl, HB5⟩ := hrel
    go_wp2_with (go_at_call 145; go_loud ((refine (no7 _ pb g c _ (HP4.out.below HB5.out)).mono ?_); rintro e w6 ⟨rfl, hb⟩; have HC := Aside0.mk (below_then HB5.out HB5.out.size hb); clear hb; have xc0 := (blk_cell (blk_below HX4.out HC.out) 0).trans rfl; have gc0 := (blk_cell (blk_below HG4.out HC.out) 0).trans rfl; have gf0 := blk_frozen (blk_below HG4.out HC.out) 0; have xc1 := (blk_cell (blk_below HX4.out HC.out) 1).trans rfl; have gc1 := (blk_cell (blk_below HG4.out HC.out) 1).trans rfl; have gf1 := blk_frozen (blk_below HG4.out HC.out) 1; have xc2 := (blk_cell (blk_below HX4.out HC.out) 2).trans rfl; have gc2 := (blk_cell (blk_below HG4.out HC.out) 2).trans rfl; have gf2 := blk_frozen (blk_below HG4.out HC.out) 2; have xc3 := (blk_cell (blk_below HX4.out HC.out) 3).trans rfl; have gc3 := (blk_cell (blk_below HG4.out HC.out) 3).trans rfl; have gf3 := blk_frozen (blk_below HG4.out HC.out) 3))
    refine bodyPost_ret (results_cell_row rfl _ _ w.heap.size 30 (Cs T A n k) (0, 0) _ rfl (by (with_reducible repeat (first | refine blk_drewN ?_ _ | refine blk_drew ?_)); exact put4_blk (blk_below HG4.out HC.out) _ _ _ _) Tryz.underlying30 rfl (by kernel_rfl)) rfl ?_
    exact ⟨A, n, k, rfl, (put4_tr (HT.out.below HC.out) (fun q hq => by have := HZ.out; omega) _ _ _ _).mono (fun q hq _ => by have := HZ.out; omega), put4_pr (HP4.out.below HC.out) (by have := HL.out; omega) (by have := HL.out; omega) _ _ _ _, put4_kb (then_keep HK4.out HC.out) (Nat.le_refl _) _ _ _ _⟩
set_option maxHeartbeats 2000000 in
set_option maxRecDepth 100000 in
theorem cons0 (T : TT) (w : World) (pb g c : Nat) (hi : ∀ w, Pr w pb g c 0 → Calls Tryz.prog 156 #[.pointer (some ⟨pb, 0, none⟩)] w (Post T w pb g c 5)) (h : Pr w pb g c 0) :
    Calls Tryz.prog 155 #[.pointer (some ⟨pb, 0, none⟩)] w (Post T w pb g c 5) := by
  have hl := h.lt
  have HP := Aside0.mk (h.below (below_alloc (Below.refl w.heap.size w) (.cells C0 30 (0, 0))))
  have HG := Aside0.mk (blk_new w (.cells C0 30 (0, 0)))
  have HL := Aside0.mk hl
  have sz1 : (w.alloc (.cells C0 30 (0, 0))).heap.size = w.heap.size + 1 := by simp
  have HZ := Aside0.mk sz1
  clear h hl sz1
  have HI := Aside0.mk hi
  clear hi
  go_enter Tryz.func155, Tryz.ntmps155
  go_wp2_with (first
    | (go_at_call 145; have := HP4; go_loud ((refine (no5 _ pb g c _ (by decide +kernel) HP4.out).mono ?_); rintro e w5 ⟨rfl, hb⟩; have HB0 := Aside0.mk hb; clear hb; have xc0 := (blk_cell (blk_below HX4.out HB0.out) 0).trans rfl; have gc0 := (blk_cell (blk_below HG4.out HB0.out) 0).trans rfl; have gf0 := blk_frozen (blk_below HG4.out HB0.out) 0; have xc1 := (blk_cell (blk_below HX4.out HB0.out) 1).trans rfl; have gc1 := (blk_cell (blk_below HG4.out HB0.out) 1).trans rfl; have gf1 := blk_frozen (blk_below HG4.out HB0.out) 1; have xc2 := (blk_cell (blk_below HX4.out HB0.out) 2).trans rfl; have gc2 := (blk_cell (blk_below HG4.out HB0.out) 2).trans rfl; have gf2 := blk_frozen (blk_below HG4.out HB0.out) 2; have xc3 := (blk_cell (blk_below HX4.out HB0.out) 3).trans rfl; have gc3 := (blk_cell (blk_below HG4.out HB0.out) 3).trans rfl; have gf3 := blk_frozen (blk_below HG4.out HB0.out) 3))
    | (go_at_call 156; go_loud ((refine (HI.out _ HP.out).mono ?_); rintro e w3 ⟨A, n, k, rfl, ht, hp, hk⟩; have HT := Aside0.mk ((ht.mono (ok' := fun q => (w.alloc (.cells C0 30 (0, 0))).heap.size ≤ q ∧ q < w3.heap.size) (fun q hq hl => ⟨hq, hl⟩)).below (below_alloc (Below.refl w3.heap.size w3) (.cells (Cs T A n k) 30 (0, 0)))); have HP4 := Aside0.mk (hp.below (below_alloc (Below.refl w3.heap.size w3) (.cells (Cs T A n k) 30 (0, 0)))); have HS3 := Aside0.mk hk.1; have HK4 := Aside0.mk (then_keep (two_keep (below_alloc (Below.refl w.heap.size w) (.cells C0 30 (0, 0))) hk) (below_alloc (Below.refl w3.heap.size w3) (.cells (Cs T A n k) 30 (0, 0)))); have HG4 := Aside0.mk (blk_alloc (blk_keep HG.out hk (by have := HL.out.1; omega)) (.cells (Cs T A n k) 30 (0, 0))); have HX4 := Aside0.mk (blk_new w3 (.cells (Cs T A n k) 30 (0, 0))); clear ht hp hk)))
  refine bodyPost_ret (results_cell_row rfl _ _ w.heap.size 30 (Cs T A n k) (0, 0) _ rfl (by (with_reducible repeat (first | refine blk_drewN ?_ _ | refine blk_drew ?_)); exact put4_blk (blk_below HG4.out HB0.out) _ _ _ _) Tryz.underlying30 rfl (by kernel_rfl)) rfl ?_
  exact ⟨A, n, k, rfl, (put4_tr (HT.out.below HB0.out) (fun q hq => by have := HZ.out; omega) _ _ _ _).mono (fun q hq _ => by have := HZ.out; omega), put4_pr (HP4.out.below HB0.out) (by have := HL.out; omega) (by have := HL.out; omega) _ _ _ _, put4_kb (then_keep HK4.out HB0.out) (Nat.le_refl _) _ _ _ _⟩
set_option maxHeartbeats 2000000 in
set_option maxRecDepth 100000 in
theorem cons6 (T : TT) (w : World) (pb g c : Nat) (hi : ∀ w, Pr w pb g c 6 → Calls Tryz.prog 156 #[.pointer (some ⟨pb, 0, none⟩)] w (Post T w pb g c 7)) (h : Pr w pb g c 6) :
    Calls Tryz.prog 155 #[.pointer (some ⟨pb, 0, none⟩)] w (Post T w pb g c 7) := by
  have hl := h.lt
  have HP := Aside0.mk (h.below (below_alloc (Below.refl w.heap.size w) (.cells C0 30 (0, 0))))
  have HG := Aside0.mk (blk_new w (.cells C0 30 (0, 0)))
  have HL := Aside0.mk hl
  have sz1 : (w.alloc (.cells C0 30 (0, 0))).heap.size = w.heap.size + 1 := by simp
  have HZ := Aside0.mk sz1
  clear h hl sz1
  have HI := Aside0.mk hi
  clear hi
  go_enter Tryz.func155, Tryz.ntmps155
  go_wp2_with (first
    | (go_at_call 145; have := HP4; go_loud ((refine (no7 _ pb g c _ HP4.out).mono ?_); rintro e w5 ⟨rfl, hb⟩; have HB0 := Aside0.mk hb; clear hb; have xc0 := (blk_cell (blk_below HX4.out HB0.out) 0).trans rfl; have gc0 := (blk_cell (blk_below HG4.out HB0.out) 0).trans rfl; have gf0 := blk_frozen (blk_below HG4.out HB0.out) 0; have xc1 := (blk_cell (blk_below HX4.out HB0.out) 1).trans rfl; have gc1 := (blk_cell (blk_below HG4.out HB0.out) 1).trans rfl; have gf1 := blk_frozen (blk_below HG4.out HB0.out) 1; have xc2 := (blk_cell (blk_below HX4.out HB0.out) 2).trans rfl; have gc2 := (blk_cell (blk_below HG4.out HB0.out) 2).trans rfl; have gf2 := blk_frozen (blk_below HG4.out HB0.out) 2; have xc3 := (blk_cell (blk_below HX4.out HB0.out) 3).trans rfl; have gc3 := (blk_cell (blk_below HG4.out HB0.out) 3).trans rfl; have gf3 := blk_frozen (blk_below HG4.out HB0.out) 3))
    | (go_at_call 156; go_loud ((refine (HI.out _ HP.out).mono ?_); rintro e w3 ⟨A, n, k, rfl, ht, hp, hk⟩; have HT := Aside0.mk ((ht.mono (ok' := fun q => (w.alloc (.cells C0 30 (0, 0))).heap.size ≤ q ∧ q < w3.heap.size) (fun q hq hl => ⟨hq, hl⟩)).below (below_alloc (Below.refl w3.heap.size w3) (.cells (Cs T A n k) 30 (0, 0)))); have HP4 := Aside0.mk (hp.below (below_alloc (Below.refl w3.heap.size w3) (.cells (Cs T A n k) 30 (0, 0)))); have HS3 := Aside0.mk hk.1; have HK4 := Aside0.mk (then_keep (two_keep (below_alloc (Below.refl w.heap.size w) (.cells C0 30 (0, 0))) hk) (below_alloc (Below.refl w3.heap.size w3) (.cells (Cs T A n k) 30 (0, 0)))); have HG4 := Aside0.mk (blk_alloc (blk_keep HG.out hk (by have := HL.out.1; omega)) (.cells (Cs T A n k) 30 (0, 0))); have HX4 := Aside0.mk (blk_new w3 (.cells (Cs T A n k) 30 (0, 0))); clear ht hp hk)))
  refine bodyPost_ret (results_cell_row rfl _ _ w.heap.size 30 (Cs T A n k) (0, 0) _ rfl (by (with_reducible repeat (first | refine blk_drewN ?_ _ | refine blk_drew ?_)); exact put4_blk (blk_below HG4.out HB0.out) _ _ _ _) Tryz.underlying30 rfl (by kernel_rfl)) rfl ?_
  exact ⟨A, n, k, rfl, (put4_tr (HT.out.below HB0.out) (fun q hq => by have := HZ.out; omega) _ _ _ _).mono (fun q hq _ => by have := HZ.out; omega), put4_pr (HP4.out.below HB0.out) (by have := HL.out; omega) (by have := HL.out; omega) _ _ _ _, put4_kb (then_keep HK4.out HB0.out) (Nat.le_refl _) _ _ _ _⟩
end Go.Proofs.YtlabfjaddgakkaaGreat.Need
end
section
/-! The parser of trees at awake's text: compared. -/
namespace Go.Proofs.YtlabfjaddgakkaaGreat.Need
set_option linter.unusedVariables false
set_option linter.unusedSimpArgs false
open Go.RowKit Go.Proofs.YtlabfjaddgakkaaGreatW.PrintWords Go.Proofs.YtlabfjaddgakkaaGreatW.PrintLast Go.Proofs.YtlabfjaddgakkaaGreatW.PrintMore Go.Proofs.YtlabfjaddgakkaaGreat.Q
set_option maxHeartbeats 2000000 in
set_option maxRecDepth 100000 in
theorem two_new (w : World) (o o' : Obj) : ((w.alloc o).alloc o').heap[w.heap.size + 1]? = some o' := by
  have s1 : (w.alloc o).heap.size = w.heap.size + 1 := by simp
  rw [← s1]
  exact blk_new _ _
set_option maxHeartbeats 2000000 in
set_option maxRecDepth 100000 in
theorem compared0 (T T2 : TT) (w : World) (pb g c : Nat) (hi : ∀ w, Pr w pb g c 0 → Calls Tryz.prog 155 #[.pointer (some ⟨pb, 0, none⟩)] w (Post T w pb g c 5)) (hi2 : ∀ w, Pr w pb g c 6 → Calls Tryz.prog 155 #[.pointer (some ⟨pb, 0, none⟩)] w (Post T2 w pb g c 7)) (h : Pr w pb g c 0) :
    Calls Tryz.prog 154 #[.pointer (some ⟨pb, 0, none⟩)] w (Post (.bin ⟨#[61, 61]⟩ T T2) w pb g c 7) := by
  have hl := h.lt
  have HP := Aside0.mk (h.below (below_alloc (Below.refl w.heap.size w) (.cells C0 30 (0, 0))))
  have HG := Aside0.mk (blk_new w (.cells C0 30 (0, 0)))
  have HL := Aside0.mk hl
  have sz1 : (w.alloc (.cells C0 30 (0, 0))).heap.size = w.heap.size + 1 := by simp
  have HZ := Aside0.mk sz1
  clear h hl sz1
  have HI := Aside0.mk hi
  have HI2 := Aside0.mk hi2
  clear hi hi2
  go_enter Tryz.func154, Tryz.ntmps154
  go_wp2_with (go_at_call 155; go_loud ((refine (HI.out _ HP.out).mono ?_); rintro e w3 ⟨A, n, k, rfl, ht, hp, hk⟩; have HT := Aside0.mk ((ht.mono (ok' := fun q => (w.alloc (.cells C0 30 (0, 0))).heap.size ≤ q ∧ q < w3.heap.size) (fun q hq hl => ⟨hq, hl⟩)).below (below_alloc (Below.refl w3.heap.size w3) (.cells (Cs T A n k) 30 (0, 0)))); have HP4 := Aside0.mk (hp.below (below_alloc (Below.refl w3.heap.size w3) (.cells (Cs T A n k) 30 (0, 0)))); have HS3 := Aside0.mk hk.1; have HK4 := Aside0.mk (then_keep (two_keep (below_alloc (Below.refl w.heap.size w) (.cells C0 30 (0, 0))) hk) (below_alloc (Below.refl w3.heap.size w3) (.cells (Cs T A n k) 30 (0, 0)))); have HG4 := Aside0.mk (blk_alloc (blk_keep HG.out hk (by have := HL.out.1; omega)) (.cells (Cs T A n k) 30 (0, 0))); have HX4 := Aside0.mk (blk_new w3 (.cells (Cs T A n k) 30 (0, 0))); clear ht hp hk))
  have HSX := Aside0.mk (show ((w3.alloc (.cells (Cs T A n k) 30 (0, 0))).alloc (.cells #[.string ⟨#[61, 61]⟩, .string ⟨#[92, 61]⟩, .string ⟨#[60]⟩, .string ⟨#[61, 60]⟩, .string ⟨#[62]⟩, .string ⟨#[62, 61]⟩] 9 (0, 0))).heap[w3.heap.size + 1]? = some (.cells #[.string ⟨#[61, 61]⟩, .string ⟨#[92, 61]⟩, .string ⟨#[60]⟩, .string ⟨#[61, 60]⟩, .string ⟨#[62]⟩, .string ⟨#[62, 61]⟩] 9 (0, 0)) from two_new w3 _ _)
  go_loopg [5, 10] 1 (fun kq v5 v10 wx => v10 = .int .i64 0 ∧ Aside0 (Below (w3.alloc (.cells (Cs T A n k) 30 (0, 0))).heap.size (w3.alloc (.cells (Cs T A n k) 30 (0, 0))) wx) ∧ Aside0 (wx.heap[w3.heap.size + 1]? = some (.cells #[.string ⟨#[61, 61]⟩, .string ⟨#[92, 61]⟩, .string ⟨#[60]⟩, .string ⟨#[61, 60]⟩, .string ⟨#[62]⟩, .string ⟨#[62, 61]⟩] 9 (0, 0))))
  case atStart => exact ⟨rfl, ⟨below_alloc (Below.refl _ _) _⟩, HSX⟩
  case round =>
    obtain ⟨rfl, HB5, HX6⟩ := hrel
    have s0 := (blk_cell HX6.out 0).trans rfl
    go_upto_region 6 with (go_at_call 145; go_loud ((refine (yes5 _ pb g c (HP4.out.below HB5.out)).mono ?_); rintro e w8 ⟨rfl, hp, hk⟩; have HPS := Aside0.mk hp; have XS := Aside0.mk (blk_keep (blk_below HX4.out HB5.out) hk (by have := HL.out; have := HS3.out; have := HZ.out; omega)); have GS := Aside0.mk (blk_keep (blk_below HG4.out HB5.out) hk (by have := HL.out; omega)); have KS := Aside0.mk (KB.trans (then_keep HK4.out HB5.out) hk (.inl rfl)); have TS := Aside0.mk (((HT.out.below HB5.out).keep hk (fun q hq => by have := HL.out; have := HZ.out; omega)).mono (ok' := fun q => w.heap.size + 1 ≤ q ∧ q < w3.heap.size) (fun q hq _ => by have := HZ.out; omega)); have SS := Aside0.mk (show w3.heap.size < w8.heap.size from blk_lt XS.out); clear hp hk s0))
    (try simp only [Act.put, List.setIfInBounds_toArray, List.set_cons_zero, List.set_cons_succ])
    refine RegInv.wp_region_inv' rfl (by kernel_rfl) (RCJ pb g c 6 7 ⟨#[61, 61]⟩ T T2 A n k w3.heap.size w.heap.size (w.heap.size + 1) w8) ?_ ?_ ?_
    · refine ⟨false, false, false, false, false, false, _, _, _, _, _, rfl, RC_self _, ?_⟩
      exact ⟨fun h => (by cases h), fun h => (by cases h), fun h => (by cases h), fun h => (by cases h), fun h => (by cases h), fun h => (by cases h), ⟨HPS.out.P, HPS.out.T⟩, KB.start _ _ _ _, fun _ => XS.out, fun _ => ⟨_, _, _, _, GS.out⟩, TS.out.move (fun k h l => ⟨h, rfl⟩), fun h => (by cases h), fun h => (by cases h), (by have := HL.out; have := HZ.out; have := HS3.out; have := SS.out; omega)⟩
    · skip
      rintro listed a' w' i o ho hz hb hw ⟨b0, b1, b2, b3, b4, b5, v17, v18, v19, v20, v21, rfl, rfl, F9⟩
      match i, ho, hb, hw with
      | 0, ho, hb, hw =>
        obtain rfl : _ = o := Option.some.inj ho
        simp only [List.setIfInBounds_toArray, List.set_cons_zero, List.set_cons_succ]
        go_wp2
        exact ⟨true, b1, b2, b3, b4, b5, _, v18, v19, v20, v21, rfl, by simp only [List.setIfInBounds_toArray, List.set_cons_zero, List.set_cons_succ, Bool.not_true], { F9 with h0 := fun _ => rfl }⟩
      | 1, ho, hb, hw =>
        obtain rfl : _ = o := Option.some.inj ho
        simp only [List.setIfInBounds_toArray, List.set_cons_zero, List.set_cons_succ]
        obtain rfl : b1 = false := hb
        have q5 : b5 = false := by cases e : b5 <;> first | rfl | exact absurd (F9.n5 e).1 (by decide)
        subst q5
        have y0 := (blk_cell (F9.x3 rfl) 0).trans rfl
        have y1 := (blk_cell (F9.x3 rfl) 1).trans rfl
        have y2 := (blk_cell (F9.x3 rfl) 2).trans rfl
        have y3 := (blk_cell (F9.x3 rfl) 3).trans rfl
        go_wp2
        exact ⟨b0, true, b2, b3, b4, false, v17, _, v19, v20, v21, rfl, by simp only [List.setIfInBounds_toArray, List.set_cons_zero, List.set_cons_succ, Bool.not_true], { F9 with h1 := fun _ => rfl, n5 := fun e => absurd e (by decide) }⟩
      | 2, ho, hb, hw =>
        obtain rfl : _ = o := Option.some.inj ho
        simp only [List.setIfInBounds_toArray, List.set_cons_zero, List.set_cons_succ]
        go_wp2
        exact ⟨b0, b1, true, b3, b4, b5, v17, v18, _, v20, v21, rfl, by simp only [List.setIfInBounds_toArray, List.set_cons_zero, List.set_cons_succ, Bool.not_true], { F9 with h2 := fun _ => rfl }⟩
      | 3, ho, hb, hw =>
        obtain rfl : _ = o := Option.some.inj ho
        simp only [List.setIfInBounds_toArray, List.set_cons_zero, List.set_cons_succ]
        obtain rfl : b3 = false := hb
        have q4 : b4 = false := by cases e : b4 <;> first | rfl | exact absurd (F9.n4 e) (by decide)
        subst q4
        have q5 : b5 = false := by cases e : b5 <;> first | rfl | exact absurd (F9.n5 e).2 (by decide)
        subst q5
        obtain rfl := F9.h2 (hw ⟨2, .data⟩ (by simp) rfl)
        go_wp2_with (go_at_call 155; (refine (HI2.out w' F9.pr).mono ?_); rintro e w6 ⟨A2, n2, k2, rfl, ht, hp, hk⟩)
        exact ⟨b0, b1, b2, true, false, false, v17, v18, .pointer (some ⟨pb, 0, none⟩), .agg (Cs _ A2 n2 k2), v21, rfl, by simp only [List.setIfInBounds_toArray, List.set_cons_zero, List.set_cons_succ, Bool.not_true], { F9 with h3 := fun _ => ⟨A2, n2, k2, rfl, ht.mono (fun q hq _ => Nat.le_trans F9.K.1 hq)⟩, h4 := fun e => absurd e (by decide), h5 := fun e => absurd e (by decide), pr := hp, K := KB.trans F9.K (kb_wide hk _) (.inl rfl), x3 := fun _ => blk_keep (F9.x3 rfl) hk (by have := F9.l; omega), y3 := fun _ => (by obtain ⟨z0, z1, z2, z3, hy⟩ := F9.y3 rfl; exact ⟨z0, z1, z2, z3, blk_keep hy hk F9.l.2.2.2.2.2.1⟩), tA := F9.tA.keep hk (fun q hq => by have := F9.l; omega), n4 := fun e => absurd e (by decide), n5 := fun e => absurd e (by decide) }⟩
      | 4, ho, hb, hw =>
        obtain rfl : _ = o := Option.some.inj ho
        simp only [List.setIfInBounds_toArray, List.set_cons_zero, List.set_cons_succ]
        obtain rfl : b4 = false := hb
        have q5 : b5 = false := by cases e : b5 <;> first | rfl | exact absurd (F9.n5 e).2 (by decide)
        subst q5
        obtain rfl := F9.h0 (hw ⟨0, .data⟩ (by simp) rfl)
        obtain rfl := F9.h1 (hw ⟨1, .data⟩ (by simp) rfl)
        have q3 := hw ⟨3, .data⟩ (by simp) rfl
        obtain ⟨A2, n2, k2, rfl, ht2⟩ := F9.h3 q3
        go_wp2_with (go_at_call 152; (refine (op_walk w' _ _ _ A A2 n k n2 k2).mono ?_); rintro e w6 ⟨q, rfl, hq, hh, hb6⟩)
        exact ⟨b0, b1, b2, b3, true, false, .string _, .agg (Cs _ A n k), v19, .agg (Cs _ A2 n2 k2), .agg (Cs _ (some ⟨q, 0, none⟩) 2 2), rfl, by simp only [List.setIfInBounds_toArray, List.set_cons_zero, List.set_cons_succ, Bool.not_true], { F9 with h3 := fun _ => ⟨A2, n2, k2, rfl, ht2.below hb6⟩, h4 := fun _ => ⟨q, rfl, rfl, rfl, q, rfl, .inr (Nat.le_trans F9.K.1 hq), A, n, k, A2, n2, k2, hh, (F9.tA.below hb6).mono (fun _ h _ => .inl h), (ht2.below hb6).mono (fun _ h _ => .inr h)⟩, h5 := fun e => absurd e (by decide), pr := F9.pr.below hb6, K := KB.trans F9.K (KB.of_below hb6 _ _) (.inl rfl), x3 := fun _ => blk_below (F9.x3 rfl) hb6, y3 := fun _ => (by obtain ⟨z0, z1, z2, z3, hy⟩ := F9.y3 rfl; exact ⟨z0, z1, z2, z3, blk_below hy hb6⟩), tA := F9.tA.below hb6, n4 := fun _ => q3, n5 := fun e => absurd e (by decide) }⟩
      | 5, ho, hb, hw =>
        obtain rfl : _ = o := Option.some.inj ho
        simp only [List.setIfInBounds_toArray, List.set_cons_zero, List.set_cons_succ]
        obtain rfl : b5 = false := hb
        have q4 := hw ⟨4, .data⟩ (by simp) rfl
        obtain ⟨q, e4, t4⟩ := F9.h4 q4
        subst e4
        obtain ⟨z0, z1, z2, z3, hy⟩ := F9.y3 rfl
        have y0 := (blk_cell hy 0).trans rfl
        have y1 := (blk_cell hy 1).trans rfl
        have y2 := (blk_cell hy 2).trans rfl
        have y3 := (blk_cell hy 3).trans rfl
        have f0 := blk_frozen hy 0
        have f1 := blk_frozen hy 1
        have f2 := blk_frozen hy 2
        have f3 := blk_frozen hy 3
        have q1 := hw ⟨1, .phase⟩ (by simp) rfl
        go_wp2
        exact ⟨b0, b1, b2, b3, b4, true, v17, v18, v19, v20, .agg (Cs _ (some ⟨q, 0, none⟩) 2 2), rfl, by simp only [List.setIfInBounds_toArray, List.set_cons_zero, List.set_cons_succ, Bool.not_true], { F9 with h3 := fun e => (F9.h3 e).imp (fun _ => Exists.imp (fun _ => Exists.imp (fun _ h => ⟨h.1, put4_tr h.2 (fun q hq => by have := F9.l; omega) _ _ _ _⟩))), h4 := fun e => ⟨q, rfl, put4_tr t4 (fun q hq => by have := F9.l; omega) _ _ _ _⟩, h5 := fun _ => ⟨q, put4_blk hy _ _ _ _, put4_tr t4 (fun q hq => by have := F9.l; omega) _ _ _ _⟩, pr := put4_pr F9.pr (by have := F9.l; omega) (by have := F9.l; omega) _ _ _ _, K := put4_kbr F9.K _ _ _ _, x3 := fun e => absurd e (by decide), y3 := fun e => absurd e (by decide), tA := put4_tr F9.tA (fun q hq => by have := F9.l; omega) _ _ _ _, n5 := fun _ => ⟨q1, q4⟩ }⟩
      | j + 6, ho, hb, hw => exact absurd ho (by simp)
    · rintro listed a' w' hall ⟨b0, b1, b2, b3, b4, b5, v17, v18, v19, v20, v21, rfl, rfl, F9⟩
      obtain rfl : b0 = true := hall 0 (by decide)
      obtain rfl : b1 = true := hall 1 (by decide)
      obtain rfl : b2 = true := hall 2 (by decide)
      obtain rfl : b3 = true := hall 3 (by decide)
      obtain rfl : b4 = true := hall 4 (by decide)
      obtain rfl : b5 = true := hall 5 (by decide)
      obtain ⟨q9, hy9, t9⟩ := F9.h5 rfl
      simp only [List.setIfInBounds_toArray, List.set_cons_zero, List.set_cons_succ]
      go_wp2_with fail
      refine bodyPost_ret (results_cell_row rfl _ _ w.heap.size 30 (Cs (.bin ⟨#[61, 61]⟩ T T2) (some ⟨q9, 0, none⟩) 2 2) (0, 0) _ rfl hy9 Tryz.underlying30 rfl (by kernel_rfl)) rfl ?_
      exact ⟨_, _, _, rfl, t9.mono (fun q hq hl => by have := HZ.out; have := SS.out; have := HS3.out; omega), F9.pr, kb_drop KS.out F9.K (Nat.le_refl _)⟩
end Go.Proofs.YtlabfjaddgakkaaGreat.Need
end
section
/-! The parser of trees at awake's text: also, either, phrase, begins, phrases. -/
namespace Go.Proofs.YtlabfjaddgakkaaGreat.Need
set_option linter.unusedVariables false
set_option linter.unusedSimpArgs false
open Go.RowKit Go.Proofs.YtlabfjaddgakkaaGreatW.PrintWords Go.Proofs.YtlabfjaddgakkaaGreatW.PrintLast Go.Proofs.YtlabfjaddgakkaaGreatW.PrintMore Go.Proofs.YtlabfjaddgakkaaGreat.Q
set_option maxHeartbeats 2000000 in
set_option maxRecDepth 100000 in
theorem also0 (T : TT) (w : World) (pb g c : Nat) (hi : ∀ w, Pr w pb g c 0 → Calls Tryz.prog 154 #[.pointer (some ⟨pb, 0, none⟩)] w (Post T w pb g c 7)) (h : Pr w pb g c 0) :
    Calls Tryz.prog 151 #[.pointer (some ⟨pb, 0, none⟩)] w (Post T w pb g c 7) := by
  have hl := h.lt
  have HP := Aside0.mk (h.below (below_alloc (Below.refl w.heap.size w) (.cells C0 30 (0, 0))))
  have HG := Aside0.mk (blk_new w (.cells C0 30 (0, 0)))
  have HL := Aside0.mk hl
  have sz1 : (w.alloc (.cells C0 30 (0, 0))).heap.size = w.heap.size + 1 := by simp
  have HZ := Aside0.mk sz1
  clear h hl sz1
  have HI := Aside0.mk hi
  clear hi
  go_enter Tryz.func151, Tryz.ntmps151
  go_wp2_with (first
    | (go_at_call 145; have := HP4; go_loud ((refine (no7 _ pb g c _ HP4.out).mono ?_); rintro e w5 ⟨rfl, hb⟩; have HB0 := Aside0.mk hb; clear hb; have xc0 := (blk_cell (blk_below HX4.out HB0.out) 0).trans rfl; have gc0 := (blk_cell (blk_below HG4.out HB0.out) 0).trans rfl; have gf0 := blk_frozen (blk_below HG4.out HB0.out) 0; have xc1 := (blk_cell (blk_below HX4.out HB0.out) 1).trans rfl; have gc1 := (blk_cell (blk_below HG4.out HB0.out) 1).trans rfl; have gf1 := blk_frozen (blk_below HG4.out HB0.out) 1; have xc2 := (blk_cell (blk_below HX4.out HB0.out) 2).trans rfl; have gc2 := (blk_cell (blk_below HG4.out HB0.out) 2).trans rfl; have gf2 := blk_frozen (blk_below HG4.out HB0.out) 2; have xc3 := (blk_cell (blk_below HX4.out HB0.out) 3).trans rfl; have gc3 := (blk_cell (blk_below HG4.out HB0.out) 3).trans rfl; have gf3 := blk_frozen (blk_below HG4.out HB0.out) 3))
    | (go_at_call 154; go_loud ((refine (HI.out _ HP.out).mono ?_); rintro e w3 ⟨A, n, k, rfl, ht, hp, hk⟩; have HT := Aside0.mk ((ht.mono (ok' := fun q => (w.alloc (.cells C0 30 (0, 0))).heap.size ≤ q ∧ q < w3.heap.size) (fun q hq hl => ⟨hq, hl⟩)).below (below_alloc (Below.refl w3.heap.size w3) (.cells (Cs T A n k) 30 (0, 0)))); have HP4 := Aside0.mk (hp.below (below_alloc (Below.refl w3.heap.size w3) (.cells (Cs T A n k) 30 (0, 0)))); have HS3 := Aside0.mk hk.1; have HK4 := Aside0.mk (then_keep (two_keep (below_alloc (Below.refl w.heap.size w) (.cells C0 30 (0, 0))) hk) (below_alloc (Below.refl w3.heap.size w3) (.cells (Cs T A n k) 30 (0, 0)))); have HG4 := Aside0.mk (blk_alloc (blk_keep HG.out hk (by have := HL.out.1; omega)) (.cells (Cs T A n k) 30 (0, 0))); have HX4 := Aside0.mk (blk_new w3 (.cells (Cs T A n k) 30 (0, 0))); clear ht hp hk)))
  refine bodyPost_ret (results_cell_row rfl _ _ w.heap.size 30 (Cs T A n k) (0, 0) _ rfl (by (with_reducible repeat (first | refine blk_drewN ?_ _ | refine blk_drew ?_)); exact put4_blk (blk_below HG4.out HB0.out) _ _ _ _) Tryz.underlying30 rfl (by kernel_rfl)) rfl ?_
  exact ⟨A, n, k, rfl, (put4_tr (HT.out.below HB0.out) (fun q hq => by have := HZ.out; omega) _ _ _ _).mono (fun q hq _ => by have := HZ.out; omega), put4_pr (HP4.out.below HB0.out) (by have := HL.out; omega) (by have := HL.out; omega) _ _ _ _, put4_kb (then_keep HK4.out HB0.out) (Nat.le_refl _) _ _ _ _⟩
set_option maxHeartbeats 2000000 in
set_option maxRecDepth 100000 in
theorem either0 (T : TT) (w : World) (pb g c : Nat) (hi : ∀ w, Pr w pb g c 0 → Calls Tryz.prog 151 #[.pointer (some ⟨pb, 0, none⟩)] w (Post T w pb g c 7)) (h : Pr w pb g c 0) :
    Calls Tryz.prog 144 #[.pointer (some ⟨pb, 0, none⟩)] w (Post T w pb g c 7) := by
  have hl := h.lt
  have HP := Aside0.mk (h.below (below_alloc (Below.refl w.heap.size w) (.cells C0 30 (0, 0))))
  have HG := Aside0.mk (blk_new w (.cells C0 30 (0, 0)))
  have HL := Aside0.mk hl
  have sz1 : (w.alloc (.cells C0 30 (0, 0))).heap.size = w.heap.size + 1 := by simp
  have HZ := Aside0.mk sz1
  clear h hl sz1
  have HI := Aside0.mk hi
  clear hi
  go_enter Tryz.func144, Tryz.ntmps144
  go_wp2_with (first
    | (go_at_call 145; have := HP4; go_loud ((refine (no7 _ pb g c _ HP4.out).mono ?_); rintro e w5 ⟨rfl, hb⟩; have HB0 := Aside0.mk hb; clear hb; have xc0 := (blk_cell (blk_below HX4.out HB0.out) 0).trans rfl; have gc0 := (blk_cell (blk_below HG4.out HB0.out) 0).trans rfl; have gf0 := blk_frozen (blk_below HG4.out HB0.out) 0; have xc1 := (blk_cell (blk_below HX4.out HB0.out) 1).trans rfl; have gc1 := (blk_cell (blk_below HG4.out HB0.out) 1).trans rfl; have gf1 := blk_frozen (blk_below HG4.out HB0.out) 1; have xc2 := (blk_cell (blk_below HX4.out HB0.out) 2).trans rfl; have gc2 := (blk_cell (blk_below HG4.out HB0.out) 2).trans rfl; have gf2 := blk_frozen (blk_below HG4.out HB0.out) 2; have xc3 := (blk_cell (blk_below HX4.out HB0.out) 3).trans rfl; have gc3 := (blk_cell (blk_below HG4.out HB0.out) 3).trans rfl; have gf3 := blk_frozen (blk_below HG4.out HB0.out) 3))
    | (go_at_call 151; go_loud ((refine (HI.out _ HP.out).mono ?_); rintro e w3 ⟨A, n, k, rfl, ht, hp, hk⟩; have HT := Aside0.mk ((ht.mono (ok' := fun q => (w.alloc (.cells C0 30 (0, 0))).heap.size ≤ q ∧ q < w3.heap.size) (fun q hq hl => ⟨hq, hl⟩)).below (below_alloc (Below.refl w3.heap.size w3) (.cells (Cs T A n k) 30 (0, 0)))); have HP4 := Aside0.mk (hp.below (below_alloc (Below.refl w3.heap.size w3) (.cells (Cs T A n k) 30 (0, 0)))); have HS3 := Aside0.mk hk.1; have HK4 := Aside0.mk (then_keep (two_keep (below_alloc (Below.refl w.heap.size w) (.cells C0 30 (0, 0))) hk) (below_alloc (Below.refl w3.heap.size w3) (.cells (Cs T A n k) 30 (0, 0)))); have HG4 := Aside0.mk (blk_alloc (blk_keep HG.out hk (by have := HL.out.1; omega)) (.cells (Cs T A n k) 30 (0, 0))); have HX4 := Aside0.mk (blk_new w3 (.cells (Cs T A n k) 30 (0, 0))); clear ht hp hk)))
  refine bodyPost_ret (results_cell_row rfl _ _ w.heap.size 30 (Cs T A n k) (0, 0) _ rfl (by (with_reducible repeat (first | refine blk_drewN ?_ _ | refine blk_drew ?_)); exact put4_blk (blk_below HG4.out HB0.out) _ _ _ _) Tryz.underlying30 rfl (by kernel_rfl)) rfl ?_
  exact ⟨A, n, k, rfl, (put4_tr (HT.out.below HB0.out) (fun q hq => by have := HZ.out; omega) _ _ _ _).mono (fun q hq _ => by have := HZ.out; omega), put4_pr (HP4.out.below HB0.out) (by have := HL.out; omega) (by have := HL.out; omega) _ _ _ _, put4_kb (then_keep HK4.out HB0.out) (Nat.le_refl _) _ _ _ _⟩
set_option maxHeartbeats 2000000 in
set_option maxRecDepth 100000 in
theorem phrase0 (T : TT) (w : World) (pb g c : Nat) (hi : ∀ w, Pr w pb g c 0 → Calls Tryz.prog 144 #[.pointer (some ⟨pb, 0, none⟩)] w (Post T w pb g c 7)) (h : Pr w pb g c 0) :
    Calls Tryz.prog 109 #[.pointer (some ⟨pb, 0, none⟩)] w (Post T w pb g c 7) := by
  have hl := h.lt
  have HP := Aside0.mk (h.below (below_alloc (Below.refl w.heap.size w) (.cells C0 30 (0, 0))))
  have HG := Aside0.mk (blk_new w (.cells C0 30 (0, 0)))
  have HL := Aside0.mk hl
  have sz1 : (w.alloc (.cells C0 30 (0, 0))).heap.size = w.heap.size + 1 := by simp
  have HZ := Aside0.mk sz1
  clear h hl sz1
  have HI := Aside0.mk hi
  clear hi
  go_enter Tryz.func109, Tryz.ntmps109
  go_wp2_with (first
    | (go_at_call 145; have := HB0; go_loud ((refine (no7 _ pb g c _ (HP4.out.below HB0.out)).mono ?_); rintro e w6 ⟨rfl, hb⟩; have HB1 := Aside0.mk (below_then HB0.out HB0.out.size hb); clear hb; have xc0 := (blk_cell (blk_below HX4.out HB1.out) 0).trans rfl; have gc0 := (blk_cell (blk_below HG4.out HB1.out) 0).trans rfl; have gf0 := blk_frozen (blk_below HG4.out HB1.out) 0; have xc1 := (blk_cell (blk_below HX4.out HB1.out) 1).trans rfl; have gc1 := (blk_cell (blk_below HG4.out HB1.out) 1).trans rfl; have gf1 := blk_frozen (blk_below HG4.out HB1.out) 1; have xc2 := (blk_cell (blk_below HX4.out HB1.out) 2).trans rfl; have gc2 := (blk_cell (blk_below HG4.out HB1.out) 2).trans rfl; have gf2 := blk_frozen (blk_below HG4.out HB1.out) 2; have xc3 := (blk_cell (blk_below HX4.out HB1.out) 3).trans rfl; have gc3 := (blk_cell (blk_below HG4.out HB1.out) 3).trans rfl; have gf3 := blk_frozen (blk_below HG4.out HB1.out) 3))
    | (go_at_call 145; have := HP4; go_loud ((refine (no7 _ pb g c _ HP4.out).mono ?_); rintro e w5 ⟨rfl, hb⟩; have HB0 := Aside0.mk hb; clear hb))
    | (go_at_call 144; go_loud ((refine (HI.out _ HP.out).mono ?_); rintro e w3 ⟨A, n, k, rfl, ht, hp, hk⟩; have HT := Aside0.mk ((ht.mono (ok' := fun q => (w.alloc (.cells C0 30 (0, 0))).heap.size ≤ q ∧ q < w3.heap.size) (fun q hq hl => ⟨hq, hl⟩)).below (below_alloc (Below.refl w3.heap.size w3) (.cells (Cs T A n k) 30 (0, 0)))); have HP4 := Aside0.mk (hp.below (below_alloc (Below.refl w3.heap.size w3) (.cells (Cs T A n k) 30 (0, 0)))); have HS3 := Aside0.mk hk.1; have HK4 := Aside0.mk (then_keep (two_keep (below_alloc (Below.refl w.heap.size w) (.cells C0 30 (0, 0))) hk) (below_alloc (Below.refl w3.heap.size w3) (.cells (Cs T A n k) 30 (0, 0)))); have HG4 := Aside0.mk (blk_alloc (blk_keep HG.out hk (by have := HL.out.1; omega)) (.cells (Cs T A n k) 30 (0, 0))); have HX4 := Aside0.mk (blk_new w3 (.cells (Cs T A n k) 30 (0, 0))); clear ht hp hk)))
  refine bodyPost_ret (results_cell_row rfl _ _ w.heap.size 30 (Cs T A n k) (0, 0) _ rfl (by (with_reducible repeat (first | refine blk_drewN ?_ _ | refine blk_drew ?_)); exact put4_blk (blk_below HG4.out HB1.out) _ _ _ _) Tryz.underlying30 rfl (by kernel_rfl)) rfl ?_
  exact ⟨A, n, k, rfl, (put4_tr (HT.out.below HB1.out) (fun q hq => by have := HZ.out; omega) _ _ _ _).mono (fun q hq _ => by have := HZ.out; omega), put4_pr (HP4.out.below HB1.out) (by have := HL.out; omega) (by have := HL.out; omega) _ _ _ _, put4_kb (then_keep HK4.out HB1.out) (Nat.le_refl _) _ _ _ _⟩
set_option maxHeartbeats 2000000 in
set_option maxRecDepth 100000 in
theorem begins7 (w : World) (pb g c : Nat) (h : Pr w pb g c 7) :
    Calls Tryz.prog 110 #[.pointer (some ⟨pb, 0, none⟩)] w (fun e w' => e = .returned (.bool false) ∧ Below w.heap.size w w') := by
  have HP := Aside0.mk h
  clear h
  go_enter Tryz.func110, Tryz.ntmps110
  go_wp2_with (go_at_call 146; go_loud ((refine (peek7 _ pb g c HP.out).mono ?_); rintro e w2 ⟨rfl, hb⟩; have HB := Aside0.mk hb; clear hb))
  go_ret
  exact ⟨rfl, below_alloc HB.out _⟩
set_option maxHeartbeats 2000000 in
set_option maxRecDepth 100000 in
theorem phrases0 (T : TT) (w : World) (pb g c : Nat) (hi : ∀ w, Pr w pb g c 0 → Calls Tryz.prog 109 #[.pointer (some ⟨pb, 0, none⟩)] w (Post T w pb g c 7)) (h : Pr w pb g c 0) :
    Calls Tryz.prog 64 #[.pointer (some ⟨pb, 0, none⟩)] w (Post T w pb g c 7) := by
  have hl := h.lt
  have HP := Aside0.mk (h.below (below_alloc (Below.refl w.heap.size w) (.cells C0 30 (0, 0))))
  have HG := Aside0.mk (blk_new w (.cells C0 30 (0, 0)))
  have HL := Aside0.mk hl
  have sz1 : (w.alloc (.cells C0 30 (0, 0))).heap.size = w.heap.size + 1 := by simp
  have HZ := Aside0.mk sz1
  clear h hl sz1
  have HI := Aside0.mk hi
  clear hi
  go_enter Tryz.func64, Tryz.ntmps64
  go_wp2_with (go_at_call 109; go_loud ((refine (HI.out _ HP.out).mono ?_); rintro e w3 ⟨A, n, k, rfl, ht, hp, hk⟩; have HT := Aside0.mk ((ht.mono (ok' := fun q => (w.alloc (.cells C0 30 (0, 0))).heap.size ≤ q ∧ q < w3.heap.size) (fun q hq hl => ⟨hq, hl⟩)).below (below_alloc (Below.refl w3.heap.size w3) (.cells (Cs T A n k) 30 (0, 0)))); have HP4 := Aside0.mk (hp.below (below_alloc (Below.refl w3.heap.size w3) (.cells (Cs T A n k) 30 (0, 0)))); have HS3 := Aside0.mk hk.1; have HK4 := Aside0.mk (then_keep (two_keep (below_alloc (Below.refl w.heap.size w) (.cells C0 30 (0, 0))) hk) (below_alloc (Below.refl w3.heap.size w3) (.cells (Cs T A n k) 30 (0, 0)))); have HG4 := Aside0.mk (blk_alloc (blk_keep HG.out hk (by have := HL.out.1; omega)) (.cells (Cs T A n k) 30 (0, 0))); have HX4 := Aside0.mk (blk_new w3 (.cells (Cs T A n k) 30 (0, 0))); clear ht hp hk))
  go_loopg [3] 1 (fun kq v3 wx => v3 = .slice (some ⟨w3.heap.size, 0, none⟩) 1 1 ∧ Aside0 (Below (w3.alloc (.cells (Cs T A n k) 30 (0, 0))).heap.size (w3.alloc (.cells (Cs T A n k) 30 (0, 0))) wx))
  case atStart => exact ⟨rfl, ⟨Below.refl _ _⟩⟩
  case round =>
    obtain ⟨rfl, HB5⟩ := hrel
    go_wp2_with (go_at_call 110; go_loud ((refine (begins7 _ pb g c (HP4.out.below HB5.out)).mono ?_); rintro e w6 ⟨rfl, hb⟩; have HC := Aside0.mk (below_then HB5.out HB5.out.size hb); clear hb; have xc0 := (blk_cell (blk_below HX4.out HC.out) 0).trans rfl; have gc0 := (blk_cell (blk_below HG4.out HC.out) 0).trans rfl; have gf0 := blk_frozen (blk_below HG4.out HC.out) 0; have xc1 := (blk_cell (blk_below HX4.out HC.out) 1).trans rfl; have gc1 := (blk_cell (blk_below HG4.out HC.out) 1).trans rfl; have gf1 := blk_frozen (blk_below HG4.out HC.out) 1; have xc2 := (blk_cell (blk_below HX4.out HC.out) 2).trans rfl; have gc2 := (blk_cell (blk_below HG4.out HC.out) 2).trans rfl; have gf2 := blk_frozen (blk_below HG4.out HC.out) 2; have xc3 := (blk_cell (blk_below HX4.out HC.out) 3).trans rfl; have gc3 := (blk_cell (blk_below HG4.out HC.out) 3).trans rfl; have gf3 := blk_frozen (blk_below HG4.out HC.out) 3))
    refine bodyPost_ret (results_cell_row rfl _ _ w.heap.size 30 (Cs T A n k) (0, 0) _ rfl (by (with_reducible repeat (first | refine blk_drewN ?_ _ | refine blk_drew ?_)); exact put4_blk (blk_below HG4.out HC.out) _ _ _ _) Tryz.underlying30 rfl (by kernel_rfl)) rfl ?_
    exact ⟨A, n, k, rfl, (put4_tr (HT.out.below HC.out) (fun q hq => by have := HZ.out; omega) _ _ _ _).mono (fun q hq _ => by have := HZ.out; omega), put4_pr (HP4.out.below HC.out) (by have := HL.out; omega) (by have := HL.out; omega) _ _ _ _, put4_kb (then_keep HK4.out HC.out) (Nat.le_refl _) _ _ _ _⟩
abbrev tree3 : TT := (.bin ⟨#[61, 61]⟩ (.bin ⟨#[43]⟩ (.leaf ⟨#[49]⟩) (.bin ⟨#[42]⟩ (.leaf ⟨#[50]⟩) (.leaf ⟨#[51]⟩))) (.leaf ⟨#[55]⟩))
theorem phrases_walk (w : World) (pb g c : Nat) (h : Pr w pb g c 0) : Calls Tryz.prog 64 #[.pointer (some ⟨pb, 0, none⟩)] w (Post tree3 w pb g c 7) := by
  have hp0 := fun w h => prefixed0 (.leaf ⟨#[49]⟩) w pb g c (fun w h => primary0 w pb g c h) h
  have hp2 := fun w h => prefixed2 (.leaf ⟨#[50]⟩) w pb g c (fun w h => primary2 w pb g c h) h
  have hp4 := fun w h => prefixed4 (.leaf ⟨#[51]⟩) w pb g c (fun w h => primary4 w pb g c h) h
  have hp6 := fun w h => prefixed6 (.leaf ⟨#[55]⟩) w pb g c (fun w h => primary6 w pb g c h) h
  have hm2 := fun w h => product2 (.leaf ⟨#[50]⟩) (.leaf ⟨#[51]⟩) w pb g c hp2 hp4 h
  have hm0 := fun w h => product0 (.leaf ⟨#[49]⟩) w pb g c hp0 h
  have hm6 := fun w h => product6 (.leaf ⟨#[55]⟩) w pb g c hp6 h
  have hs0 := fun w h => sum0 (.leaf ⟨#[49]⟩) (.bin ⟨#[42]⟩ (.leaf ⟨#[50]⟩) (.leaf ⟨#[51]⟩)) w pb g c hm0 hm2 h
  have hs6 := fun w h => sum6 (.leaf ⟨#[55]⟩) w pb g c hm6 h
  have hc0 := fun w h => cons0 (.bin ⟨#[43]⟩ (.leaf ⟨#[49]⟩) (.bin ⟨#[42]⟩ (.leaf ⟨#[50]⟩) (.leaf ⟨#[51]⟩))) w pb g c (fun w h => tuple0 (.bin ⟨#[43]⟩ (.leaf ⟨#[49]⟩) (.bin ⟨#[42]⟩ (.leaf ⟨#[50]⟩) (.leaf ⟨#[51]⟩))) w pb g c hs0 h) h
  have hc6 := fun w h => cons6 (.leaf ⟨#[55]⟩) w pb g c (fun w h => tuple6 (.leaf ⟨#[55]⟩) w pb g c hs6 h) h
  have ho := fun w h => compared0 (.bin ⟨#[43]⟩ (.leaf ⟨#[49]⟩) (.bin ⟨#[42]⟩ (.leaf ⟨#[50]⟩) (.leaf ⟨#[51]⟩))) (.leaf ⟨#[55]⟩) w pb g c hc0 hc6 h
  exact phrases0 tree3 w pb g c (fun w h => phrase0 tree3 w pb g c (fun w h => either0 tree3 w pb g c (fun w h => also0 tree3 w pb g c ho h) h) h) h
end Go.Proofs.YtlabfjaddgakkaaGreat.Need
end
section
/-! tree.read at awake's text. -/
namespace Go.Proofs.YtlabfjaddgakkaaGreat.Need
set_option linter.unusedVariables false
set_option linter.unusedSimpArgs false
open Go.RowKit Go.Proofs.YtlabfjaddgakkaaGreatW.PrintWords Go.Proofs.YtlabfjaddgakkaaGreatW.PrintLast Go.Proofs.YtlabfjaddgakkaaGreatW.PrintMore Go.Proofs.YtlabfjaddgakkaaGreat.Q
theorem catch63 (a b c : Value) (w : World) :
    CallsD Tryz.prog 63 #[a, b, c] .returning w fun e u' w' => e = .returned (.tuple #[]) ∧ u' = .returning ∧ w' = w := by
  refine callsD_of_wpS Tryz.func63 rfl fun c₀ cs hu => ?_
  apply wpS_seq
  apply wpS_region
  simp [wpOpsS, go_sem, recoverD, hu, Tryz.ntmps63, Exit.thenS]
  apply wpS_seq
  apply wpS_region
  simp [wpOpsS, go_sem, hu, Exit.thenS]
  refine wpS_cond (t := false) (by simp [Act.eval]) ?_
  simp only [Bool.false_eq_true, if_false]
  refine wpS_of_wp (wp_skip ?_)
  cases c₀
  simp_all [bodyPostS, results, Tryz.results63]
theorem four_new (w : World) (o0 o1 o2 o3 : Obj) : ((((w.alloc o0).alloc o1).alloc o2).alloc o3).heap[w.heap.size]? = some o0 ∧ ((((w.alloc o0).alloc o1).alloc o2).alloc o3).heap[w.heap.size + 1]? = some o1 ∧ ((((w.alloc o0).alloc o1).alloc o2).alloc o3).heap[w.heap.size + 1 + 1]? = some o2 ∧ ((((w.alloc o0).alloc o1).alloc o2).alloc o3).heap[w.heap.size + 1 + 1 + 1]? = some o3 ∧ Below w.heap.size w ((((w.alloc o0).alloc o1).alloc o2).alloc o3) := by
  obtain ⟨h0, h1, h2, hb⟩ := three_new w o0 o1 o2
  have s3 : (((w.alloc o0).alloc o1).alloc o2).heap.size = w.heap.size + 1 + 1 + 1 := by simp
  refine ⟨blk_alloc h0 _, blk_alloc h1 _, blk_alloc h2 _, ?_, below_alloc hb _⟩
  rw [← s3]; exact blk_new _ _
theorem read_end {w w2 : World} (nq : Nat) {T : TT} {A : Option Addr} {n k : Nat} (hb : Below w.heap.size w w2) (G4 : w2.heap[w.heap.size]? = some (.cells C0 30 (0, 0))) (G5 : w2.heap[w.heap.size + 1]? = some (.cells #[.int .i64 0] 3 (0, 0))) (G6 : w2.heap[w.heap.size + 1 + 1]? = some (.cells #[.bool false] 4 (0, 0))) (ht : Tr (fun q => w.heap.size + 4 ≤ q) w2 T A n k) :
    (((put4 ((put4 w2 w.heap.size T.d T.s 0 (.slice A n k)).drewN nq) w.heap.size T.d T.s 0 (.slice A n k)).setCell ⟨w.heap.size + 1, 0, none⟩ (.int .i64 0)).setCell ⟨w.heap.size + 1 + 1, 0, none⟩ (.bool true)).heap[w.heap.size]? = some (.cells (Cs T A n k) 30 (0, 0)) ∧
    (((put4 ((put4 w2 w.heap.size T.d T.s 0 (.slice A n k)).drewN nq) w.heap.size T.d T.s 0 (.slice A n k)).setCell ⟨w.heap.size + 1, 0, none⟩ (.int .i64 0)).setCell ⟨w.heap.size + 1 + 1, 0, none⟩ (.bool true)).heap[w.heap.size + 1]? = some (.cells #[.int .i64 0] 3 (0, 0)) ∧
    (((put4 ((put4 w2 w.heap.size T.d T.s 0 (.slice A n k)).drewN nq) w.heap.size T.d T.s 0 (.slice A n k)).setCell ⟨w.heap.size + 1, 0, none⟩ (.int .i64 0)).setCell ⟨w.heap.size + 1 + 1, 0, none⟩ (.bool true)).heap[w.heap.size + 1 + 1]? = some (.cells #[.bool true] 4 (0, 0)) ∧
    Tr (fun q => w.heap.size + 4 ≤ q) (((put4 ((put4 w2 w.heap.size T.d T.s 0 (.slice A n k)).drewN nq) w.heap.size T.d T.s 0 (.slice A n k)).setCell ⟨w.heap.size + 1, 0, none⟩ (.int .i64 0)).setCell ⟨w.heap.size + 1 + 1, 0, none⟩ (.bool true)) T A n k ∧
    Below w.heap.size w (((put4 ((put4 w2 w.heap.size T.d T.s 0 (.slice A n k)).drewN nq) w.heap.size T.d T.s 0 (.slice A n k)).setCell ⟨w.heap.size + 1, 0, none⟩ (.int .i64 0)).setCell ⟨w.heap.size + 1 + 1, 0, none⟩ (.bool true)) := by
  have b1 := put4_blk (blk_drewN (put4_blk G4 T.d T.s 0 (.slice A n k)) nq) T.d T.s 0 (.slice A n k)
  have far4 : ∀ {W : World} {g t : Nat} {cs : Array Value} (a b : ByteArray) (i : Int) (v : Value), W.heap[g]? = some (.cells cs t (0, 0)) → g ≠ w.heap.size → (put4 W w.heap.size a b i v).heap[g]? = some (.cells cs t (0, 0)) := fun a b i v h hne => blk_far (blk_far (blk_far (blk_far h hne _) hne _) hne _) hne _
  have low4 : ∀ {W : World} (a b : ByteArray) (i : Int) (v : Value), Below w.heap.size w W → Below w.heap.size w (put4 W w.heap.size a b i v) := fun a b i v h => below_set (below_set (below_set (below_set h (Nat.le_refl _)) (Nat.le_refl _)) (Nat.le_refl _)) (Nat.le_refl _)
  have c5 := far4 T.d T.s 0 (.slice A n k) (blk_drewN (far4 T.d T.s 0 (.slice A n k) G5 (by omega)) nq) (by omega)
  have c6 := far4 T.d T.s 0 (.slice A n k) (blk_drewN (far4 T.d T.s 0 (.slice A n k) G6 (by omega)) nq) (by omega)
  refine ⟨blk_far (blk_far b1 (by show w.heap.size ≠ w.heap.size + 1; omega) _) (by show w.heap.size ≠ w.heap.size + 1 + 1; omega) _, blk_far (blk_put c5 0 _ rfl) (by show w.heap.size + 1 ≠ w.heap.size + 1 + 1; omega) _, blk_put (blk_far c6 (by show w.heap.size + 1 + 1 ≠ w.heap.size + 1; omega) _) 0 _ rfl, ?_, below_set (below_set (low4 _ _ _ _ (pw_below_drewN (low4 _ _ _ _ hb) nq)) (by omega)) (by omega)⟩
  exact ((put4_tr ((put4_tr ht (fun k hk => by omega) T.d T.s 0 (.slice A n k)).move (w' := (put4 w2 w.heap.size T.d T.s 0 (.slice A n k)).drewN nq) (fun k h l => ⟨h, rfl⟩)) (fun k hk => by omega) T.d T.s 0 (.slice A n k)).put (fun k hk => by omega)).put (fun k hk => by omega)
theorem results_c3 {tmps : Array Value} {W : World} {g g' g'' : Nat} {cs : Array Value} (hp : tmps.getD 4 undef = .pointer (some ⟨g, 0, none⟩)) (hp' : tmps.getD 5 undef = .pointer (some ⟨g', 0, none⟩)) (hp'' : tmps.getD 6 undef = .pointer (some ⟨g'', 0, none⟩)) (hg : W.heap[g]? = some (.cells cs 30 (0, 0))) (hsz : cs.size = 4)
    (h' : W.heap[g']? = some (.cells #[.int .i64 0] 3 (0, 0))) (h'' : W.heap[g'']? = some (.cells #[.bool true] 4 (0, 0))) : (results Tryz.f39 tmps).run Tryz.prog W = .ok (.tuple #[.agg cs, .int .i64 0, .bool true]) W := by
  have q : tmps[4]?.getD undef = .pointer (some ⟨g, 0, none⟩) := by simpa using hp
  have q' : tmps[5]?.getD undef = .pointer (some ⟨g', 0, none⟩) := by simpa using hp'
  have q'' : tmps[6]?.getD undef = .pointer (some ⟨g'', 0, none⟩) := by simpa using hp''
  have c' := (blk_cell h' 0).trans rfl
  have c'' := (blk_cell h'' 0).trans rfl
  have hi : (Tryz.prog.info? 30).map (·.size) = some cs.size := by rw [hsz]; kernel_rfl
  have r := run_loadVar_row (P := Tryz.prog) W g 30 30 cs (0, 0) _ hg Tryz.underlying30 rfl hi
  have r' : (loadVar 3 ⟨g', 0, none⟩).run Tryz.prog W = .ok (.int .i64 0) W := by simp [loadVar, go_sem, Tryz.underlying3, c']
  have r'' : (loadVar 4 ⟨g'', 0, none⟩).run Tryz.prog W = .ok (.bool true) W := by simp [loadVar, go_sem, Tryz.underlying4, c'']
  simp [results, Tryz.results39, q, q', q'', asAddr, r, r', r'']
set_option maxHeartbeats 4000000 in
set_option maxRecDepth 100000 in
theorem read_walk (w : World) (g c : Nat) (hT : w.ownsRow 0 59 3 (.slice (some ⟨g, 0, none⟩) 7 c) 7 flat) :
    Calls Tryz.prog 39 #[.string src, .slice (some ⟨g, 0, none⟩) 7 c] w (fun e w' => ∃ A n k, e = .returned (.tuple #[.agg (Cs tree3 A n k), .int .i64 0, .bool true]) ∧ Tr (fun q => w.heap.size ≤ q) w' tree3 A n k ∧ Below w.heap.size w w') := by
  obtain ⟨h4, h5, h6, h7, hS⟩ := four_new w (.cells C0 30 (0, 0)) (.cells #[.int .i64 0] 3 (0, 0)) (.cells #[.bool false] 4 (0, 0)) (.cells #[.string src, .slice (some ⟨g, 0, none⟩) 7 c, .int .i64 0, .pointer none] 86 (0, 0))
  have HP := Aside0.mk (show Pr _ (w.heap.size + 1 + 1 + 1) g c 0 from ⟨h7, own_below hT hS⟩)
  have H4 := Aside0.mk h4
  have H5 := Aside0.mk h5
  have H6 := Aside0.mk h6
  have HS := Aside0.mk hS
  have hmf : ∀ (fn : Fn) (first cap : Array Value) (w : World), (Instr.makeFunc fn first cap).run Tryz.prog w = .ok (.func fn first cap) w := fun _ _ _ _ => rfl
  have hgw : g < w.heap.size := (hT.lt g rfl).2
  clear h4 h5 h6 h7 hS hT
  go_enter_defers Tryz.func39, Tryz.ntmps39
  go_wp2_with (go_at_call 64; go_loud ((refine (phrases_walk _ (w.heap.size + 1 + 1 + 1) g c HP.out).mono ?_); rintro e w2 ⟨A, n, k, rfl, ht, hp, hk⟩; have HT := Aside0.mk ht; have HP2 := Aside0.mk hp; have HK := Aside0.mk hk; have G4 := Aside0.mk (blk_keep H4.out hk (by omega)); have G5 := Aside0.mk (blk_keep H5.out hk (by omega)); have G6 := Aside0.mk (blk_keep H6.out hk (by omega)); have zc0 := (blk_cell G4.out 0).trans rfl; have zf0 := blk_frozen G4.out 0; have zc1 := (blk_cell G4.out 1).trans rfl; have zf1 := blk_frozen G4.out 1; have zc2 := (blk_cell G4.out 2).trans rfl; have zf2 := blk_frozen G4.out 2; have zc3 := (blk_cell G4.out 3).trans rfl; have zf3 := blk_frozen G4.out 3; have u5 := (blk_cell G5.out 0).trans rfl; have f5 := blk_frozen G5.out 0; have u6 := (blk_cell G6.out 0).trans rfl; have f6 := blk_frozen G6.out 0; have HP4 := Aside0.mk (put4_pr HP2.out (q := w.heap.size) (by omega) (by have := hgw; omega) tree3.d tree3.s 0 (.slice A n k)); have p1 := (blk_cell HP4.out.P 1).trans rfl; have p2 := (blk_cell HP4.out.P 2).trans rfl; clear ht hp hk))
  go_quiet (fail)
  go_wp2_with fail
  refine leaves_cons (f := 63) (args := #[.pointer (some ⟨w.heap.size, 0, none⟩), .pointer (some ⟨w.heap.size + 1, 0, none⟩), .pointer (some ⟨w.heap.size + 1 + 1, 0, none⟩)]) (by simp) (by simp [go_sem]) ?_
  refine (catch63 _ _ _ _).mono ?_
  rintro e u' w'' ⟨rfl, rfl, rfl⟩
  obtain ⟨k4, k5, k6, kt, kb⟩ := read_end nq (KB.below HS.out (kb_wide HK.out (w.heap.size + 1 + 1 + 1)) (by omega) (by omega)) G4.out G5.out G6.out (HT.out.mono (ok' := fun q => w.heap.size + 4 ≤ q) (fun q hq _ => by have := blk_lt HP.out.P; omega))
  exact ⟨_, results_c3 rfl rfl rfl k4 rfl k5 k6, A, n, k, rfl, kt.mono (fun q hq _ => by omega), kb⟩
end Go.Proofs.YtlabfjaddgakkaaGreat.Need
end
section
/-! Size of a tree. -/
namespace Go.Proofs.YtlabfjaddgakkaaGreat.Need
set_option linter.unusedVariables false
set_option linter.unusedSimpArgs false
open Go.RowKit Go.Proofs.YtlabfjaddgakkaaGreatW.PrintWords Go.Proofs.YtlabfjaddgakkaaGreatW.PrintLast Go.Proofs.YtlabfjaddgakkaaGreatW.PrintMore Go.Proofs.YtlabfjaddgakkaaGreat.Q
def TT.size : TT → Nat
  | .leaf _ => 1
  | .bin _ a b => 1 + a.size + b.size
theorem Tr.keepT {ok : Nat → Prop} {w w' : World} {cb t : Nat} {cs : Array Value} (hk : KB w w' cb none) (hc : w.heap[cb]? = some (.cells cs t (0, 0))) (ht : t ≠ 30) : ∀ {T : TT} {A : Option Addr} {n c : Nat}, Tr ok w T A n c → Tr ok w' T A n c
  | .leaf _, _, _, _, h => h
  | .bin _ a b, _, _, _, ⟨h1, h2, q, h3, h4, A1, n1, c1, A2, n2, c2, h5, h6, h7⟩ =>
    ⟨h1, h2, q, h3, h4, A1, n1, c1, A2, n2, c2, blk_keep h5 hk (blk_apart h5 hc (Ne.symm ht)), Tr.keepT hk hc ht h6, Tr.keepT hk hc ht h7⟩
/-- While a tree of two is counted. -/
structure SZ (s : ByteArray) (a b : TT) (wx w : World) (cb q : Nat) (A1 : Option Addr) (n1 c1 : Nat) (A2 : Option Addr) (n2 c2 : Nat) (m : Int) : Prop where
  h : wx.heap[q]? = some (.cells #[.string a.d, .string a.s, .int .i64 0, .slice A1 n1 c1, .string b.d, .string b.s, .int .i64 0, .slice A2 n2 c2] 30 (0, 0))
  t0 : Tr (fun _ => True) wx a A1 n1 c1
  t1 : Tr (fun _ => True) wx b A2 n2 c2
  c : wx.heap[cb]? = some (.cells #[.int .i64 m] 3 (0, 0))
  k : KB w wx cb none
theorem SZ.next {s : ByteArray} {a b : TT} {wx w w' : World} {cb q : Nat} {A1 : Option Addr} {n1 c1 : Nat} {A2 : Option Addr} {n2 c2 : Nat} {m m' : Int} (h : SZ s a b wx w cb q A1 n1 c1 A2 n2 c2 m) (hk : KB wx w' cb none) (hc : w'.heap[cb]? = some (.cells #[.int .i64 m'] 3 (0, 0))) : SZ s a b w' w cb q A1 n1 c1 A2 n2 c2 m' :=
  ⟨blk_keep h.h hk (blk_apart h.h h.c (by decide)), Tr.keepT hk h.c (by decide) h.t0, Tr.keepT hk h.c (by decide) h.t1, hc, KB.trans h.k hk (.inl rfl)⟩
set_option maxHeartbeats 4000000 in
set_option maxRecDepth 100000 in
theorem count_walk (T : TT) : ∀ (w : World) (ok : Nat → Prop) (A : Option Addr) (n c cb : Nat) (m : Int), Tr ok w T A n c → w.heap[cb]? = some (.cells #[.int .i64 m] 3 (0, 0)) → 0 ≤ m → m + T.size ≤ 1000 →
    Calls Tryz.prog 54 #[.agg (Cs T A n c), .pointer (some ⟨cb, 0, none⟩)] w (fun e w' => (∃ r, e = .returned r) ∧ w'.heap[cb]? = some (.cells #[.int .i64 (m + T.size)] 3 (0, 0)) ∧ KB w w' cb none) := by
  induction T with
  | leaf s =>
    intro w ok A n c cb m ht hc h0 h1
    obtain ⟨rfl, rfl, rfl⟩ := ht
    have hb := blk_alloc hc (.cells (Cs (.leaf s) none 0 0) 30 (0, 0))
    have d1 : decide (2000 < m) = false := decide_eq_false (by omega)
    have d2 : wrap64 (m + 1) = m + 1 := by unfold wrap64; simp only [TT.size] at h1; omega
    have HB := Aside0.mk hb
    have HC := Aside0.mk hc
    have x0 := (blk_cell hb 0).trans rfl
    have z0 := blk_frozen hb 0
    have hne : w.heap.size ≠ cb := by have := blk_lt hc; omega
    have q3 := (blk_cell (blk_far (blk_new w (.cells (Cs (.leaf s) none 0 0) 30 (0, 0))) (p := ⟨cb, 0, none⟩) hne (.int .i64 (m + 1))) 3).trans rfl
    clear hb hc h0 h1
    go_enter Tryz.func54, Tryz.ntmps54
    go_wp2_with fail
    go_loopg [18] 1 (fun kq v18 wx => v18 = .int .i64 0 ∧ Aside0 (wx.heap[cb]? = some (.cells #[.int .i64 (m + 1)] 3 (0, 0))) ∧ Aside0 (KB w wx cb none))
    case atStart => exact ⟨rfl, ⟨blk_put HB.out 0 _ rfl⟩, ⟨kb_set' (KB.of_below (below_alloc (Below.refl _ _) _) cb none) 0 _⟩⟩
    case round =>
      obtain ⟨rfl, H1, H2⟩ := hrel
      clear x0 z0 q3
      go_wp2_with fail
      first
        | (go_end0; exact ⟨⟨_, rfl⟩, H1.out, H2.out⟩)
        | (refine bodyPost_ret (results_none rfl _ _ _) rfl ?_; exact ⟨⟨_, rfl⟩, H1.out, H2.out⟩)
  | bin s a b iha ihb =>
    intro w ok A n c cb m ht hc h0 h1
    obtain ⟨rfl, rfl, q, rfl, hq, A1, n1, c1, A2, n2, c2, h5, h6, h7⟩ := ht
    have hs : m + 1 + (a.size : Int) + (b.size : Int) ≤ 1000 := by simp only [TT.size] at h1; omega
    have hb := blk_alloc hc (.cells (Cs (.bin s a b) (some ⟨q, 0, none⟩) 2 2) 30 (0, 0))
    have d1 : decide (2000 < m) = false := decide_eq_false (by omega)
    have d2 : wrap64 (m + 1) = m + 1 := by unfold wrap64; omega
    have HM := Aside0.mk (And.intro h0 hs)
    have IH0 := Aside0.mk iha
    have IH1 := Aside0.mk ihb
    have x0 := (blk_cell hb 0).trans rfl
    have z0 := blk_frozen hb 0
    have hne : w.heap.size ≠ cb := by have := blk_lt hc; omega
    have q3 := (blk_cell (blk_far (blk_new w (.cells (Cs (.bin s a b) (some ⟨q, 0, none⟩) 2 2) 30 (0, 0))) (p := ⟨cb, 0, none⟩) hne (.int .i64 (m + 1))) 3).trans rfl
    have hk0 := kb_set' (KB.of_below (below_alloc (Below.refl w.heap.size w) (.cells (Cs (.bin s a b) (some ⟨q, 0, none⟩) 2 2) 30 (0, 0))) cb none) 0 (.int .i64 (m + 1))
    have HS := Aside0.mk (SZ.next (m' := m + 1) (show SZ s a b w w cb q A1 n1 c1 A2 n2 c2 m from ⟨h5, h6.mono (fun _ _ _ => trivial), h7.mono (fun _ _ _ => trivial), hc, KB.refl _ _ _⟩) hk0 (blk_put hb 0 _ rfl))
    clear hb hc h0 h1 hs hk0 h5 h6 h7 iha ihb hq
    go_enter Tryz.func54, Tryz.ntmps54
    go_wp2_with fail
    (try simp only [d2])
    go_loopg [18] 3 (fun kq v18 wx => ∃ j : Nat, v18 = .int .i64 (j : Int) ∧ Aside0 (j + kq = 3 ∧ j ≤ 2) ∧ Aside0 (SZ s a b wx w cb q A1 n1 c1 A2 n2 c2 (if j = 0 then m + 1 else if j = 1 then m + 1 + a.size else m + 1 + a.size + b.size)))
    case atStart => exact ⟨0, rfl, ⟨by omega⟩, HS⟩
    case round =>
      obtain ⟨j, rfl, HJ, HX⟩ := hrel
      clear x0 z0 q3 HS
      cases gk with
      | zero => have := HJ.out; omega
      | succ k1 =>
       match j with
       | 0 =>
         have HE := Aside0.mk (show SZ s a b wr w cb q A1 n1 c1 A2 n2 c2 (m + 1) from HX.out)
         have e0 := (blk_cell HE.out.h 0).trans rfl
         have e1 := (blk_cell HE.out.h 1).trans rfl
         have e2 := (blk_cell HE.out.h 2).trans rfl
         have e3 := (blk_cell HE.out.h 3).trans rfl
         clear HX
         go_wp2_with (go_at_call 54; go_loud ((refine (IH0.out _ _ A1 n1 c1 cb (m + 1) (HE.out.t0.below (below_alloc (Below.refl wr.heap.size wr) _)) (blk_alloc HE.out.c _) (by have := HM.out; omega) (by have := HM.out; omega)).mono ?_); rintro e w4 ⟨⟨rr4, rfl⟩, hc4, hk4⟩; have HN := Aside0.mk (SZ.next HE.out (two_keep (below_alloc (Below.refl wr.heap.size wr) _) hk4) hc4); clear hc4 hk4 e0 e1 e2 e3))
         go_roundg k1
         case measure => have := HJ.out; omega
         case rel => exact ⟨1, by first | rfl | (simp; done), ⟨by have := HJ.out; omega⟩, HN⟩
       | 1 =>
         have HE := Aside0.mk (show SZ s a b wr w cb q A1 n1 c1 A2 n2 c2 (m + 1 + a.size) from HX.out)
         have e0 := (blk_cell HE.out.h 4).trans rfl
         have e1 := (blk_cell HE.out.h 5).trans rfl
         have e2 := (blk_cell HE.out.h 6).trans rfl
         have e3 := (blk_cell HE.out.h 7).trans rfl
         clear HX
         go_wp2_with (go_at_call 54; go_loud ((refine (IH1.out _ _ A2 n2 c2 cb (m + 1 + a.size) (HE.out.t1.below (below_alloc (Below.refl wr.heap.size wr) _)) (blk_alloc HE.out.c _) (by have := HM.out; omega) (by have := HM.out; omega)).mono ?_); rintro e w4 ⟨⟨rr4, rfl⟩, hc4, hk4⟩; have HN := Aside0.mk (SZ.next HE.out (two_keep (below_alloc (Below.refl wr.heap.size wr) _) hk4) hc4); clear hc4 hk4 e0 e1 e2 e3))
         go_roundg k1
         case measure => have := HJ.out; omega
         case rel => exact ⟨2, by first | rfl | (simp; done), ⟨by have := HJ.out; omega⟩, HN⟩
       | 2 =>
        have HE := Aside0.mk (show SZ s a b wr w cb q A1 n1 c1 A2 n2 c2 (m + 1 + a.size + b.size) from HX.out)
        clear HX
        go_wp2_with fail
        have e9 : m + 1 + (a.size : Int) + (b.size : Int) = m + ((TT.bin s a b).size : Int) := by simp only [TT.size]; omega
        have H1 := HE.out.c
        rw [e9] at H1
        first
          | (go_end0; exact ⟨⟨_, rfl⟩, H1, HE.out.k⟩)
          | (refine bodyPost_ret (results_none rfl _ _ _) rfl ?_; exact ⟨⟨_, rfl⟩, H1, HE.out.k⟩)
       | j + 3 => have := HJ.out; omega
/-- The tree, as a value. -/
def TT.v : TT → S30
  | .leaf s => ⟨(TT.leaf s).d, s, 0, []⟩
  | .bin s a b => ⟨(TT.bin s a b).d, s, 0, [a.v, b.v]⟩
theorem TT.vd : ∀ T : TT, T.v.f0 = T.d ∧ T.v.f1 = T.s ∧ T.v.f2 = 0
  | .leaf _ => ⟨rfl, rfl, rfl⟩
  | .bin _ _ _ => ⟨rfl, rfl, rfl⟩
theorem Tr.C {ok : Nat → Prop} {w : World} : ∀ {T : TT} {A : Option Addr} {n c : Nat}, Tr ok w T A n c → n = T.v.f3.length ∧ n ≤ c ∧ Kd.C k30 w A T.v.f3.length T.v.f3
  | .leaf _, _, _, _, ⟨h1, h2, h3⟩ => by subst h1 h2 h3; exact ⟨rfl, Nat.le_refl _, rfl, (show 0 ≤ 9223372036854775807 by decide), fun h => absurd (show 0 < 0 from h) (by decide)⟩
  | .bin s a b, _, _, _, ⟨h1, h2, q, h3, h4, A1, n1, c1, A2, n2, c2, h5, h6, h7⟩ => by
    subst h1 h2 h3
    obtain ⟨e1, l1, k1⟩ := Tr.C h6
    obtain ⟨e2, l2, k2⟩ := Tr.C h7
    subst e1 e2
    have m1 := k30_mk w a.v l1 k1
    have m2 := k30_mk w b.v l2 k2
    obtain ⟨p1, p2, p3⟩ := a.vd
    obtain ⟨p4, p5, p6⟩ := b.vd
    rw [p1, p2, p3] at m1
    rw [p4, p5, p6] at m2
    refine ⟨rfl, Nat.le_refl _, rfl, (show 2 ≤ 9223372036854775807 by decide), fun _ => ⟨_, rfl, fun j p hj => ?_⟩⟩
    match j, hj with
    | 0, hj =>
      obtain rfl := Option.some.inj hj
      refine ⟨_, rfl, m1, fun i u hi => ?_⟩
      have e : (⟨q, 0, none⟩ : Addr).add (0 * k30.sz + i) = ⟨q, i, none⟩ := by cases i <;> simp [Addr.add]
      rw [e, blk_cell h5]
      match i, hi with
      | 0, hi => exact hi
      | 1, hi => exact hi
      | 2, hi => exact hi
      | 3, hi => exact hi
      | i + 4, hi => simp at hi
    | 1, hj =>
      obtain rfl := Option.some.inj hj
      refine ⟨_, rfl, m2, fun i u hi => ?_⟩
      have e : (⟨q, 0, none⟩ : Addr).add (1 * k30.sz + i) = ⟨q, 4 + i, none⟩ := by
        have : k30.sz = 4 := rfl
        rw [this, Nat.one_mul]
        simp [Addr.add]
      rw [e, blk_cell h5]
      match i, hi with
      | 0, hi => exact hi
      | 1, hi => exact hi
      | 2, hi => exact hi
      | 3, hi => exact hi
      | i + 4, hi => simp at hi
    | j + 2, hj => exact absurd hj (by simp [TT.v])
end Go.Proofs.YtlabfjaddgakkaaGreat.Need
end
section
namespace Go.Proofs.YtlabfjaddgakkaaGreat.Q
open Go.RowKit Go.Proofs.YtlabfjaddgakkaaGreatW.PrintWords Go.Proofs.YtlabfjaddgakkaaGreatW.PrintLast Go.Proofs.YtlabfjaddgakkaaGreatW.PrintMore Go.Proofs.YtlabfjaddgakkaaGreatW.OwnWords
attribute [local go_sem] Go.Proofs.YtlabfjaddgakkaaGreatW.OwnWords.isSome_setCell max2_int min2_int max_two min_two max_three min_three max_four min_four
set_option linter.unusedVariables false
set_option linter.unusedSimpArgs false

/-! ### tree_depth: function 56 -/
mutual
def tree_depth.l0 : Nat → Int → Int → List (S30) → Int → Int → Option (Int)
 | 0, _, _, _, _, _ => none
 | k + 1, x1, x5, x11, x12, x13 => if x13 < x12 then (if 0 ≤ x13 then (if x13 < (x11.length : Int) then ((tree_depth.f k ((rd_T30 x11 x13).f0) ((rd_T30 x11 x13).f1) ((rd_T30 x11 x13).f2) ((rd_T30 x11 x13).f3) (wrap64 (x1 - 1))).bind fun t175 => (tree_depth.l0 k x1 (mx x5 t175) x11 x12 (wrap64 (x13 + 1)))) else (none)) else (none)) else (some (wrap64 (x5 + 1)))
def tree_depth.f : Nat → ByteArray → ByteArray → Int → List (S30) → Int → Option (Int)
 | 0, _, _, _, _, _ => none
 | k + 1, a0_0, a0_1, a0_2, l0_3, a1 => if a1 ≤ 1 then (some 1) else (tree_depth.l0 k a1 0 l0_3 (l0_3.length : Int) 0)
end
theorem tree_depth.mono_l : ∀ k, (∀ y0 y1 y2 y3 y4, LeO (tree_depth.f k y0 y1 y2 y3 y4) (tree_depth.f (k + 1) y0 y1 y2 y3 y4)) ∧ (∀ y0 y1 y2 y3 y4, LeO (tree_depth.l0 k y0 y1 y2 y3 y4) (tree_depth.l0 (k + 1) y0 y1 y2 y3 y4))
 | 0 => ⟨fun _ _ _ _ _ r h => by simp [tree_depth.f] at h, fun _ _ _ _ _ r h => by simp [tree_depth.l0] at h⟩
 | k + 1 => by
  obtain ⟨ih0, ih1⟩ := tree_depth.mono_l k
  refine ⟨?_, ?_⟩
  ·intro y0 y1 y2 y3 y4
   unfold tree_depth.f
   repeat' first
   | (with_reducible exact ih0 _ _ _ _ _)
   | (with_reducible exact ih1 _ _ _ _ _)
   | (with_reducible exact LeO.refl _)
   | (with_reducible exact LeO.none _)
   | (with_reducible refine LeO.ite ?_ ?_)
   | (with_reducible refine LeO.bind ?_ (fun _ => ?_))
   | exact ih0 _ _ _ _ _
   | exact ih1 _ _ _ _ _
   | exact LeO.none _
   | refine LeO.ite ?_ ?_
   | refine LeO.bind ?_ (fun _ => ?_)
  ·intro y0 y1 y2 y3 y4
   unfold tree_depth.l0
   repeat' first
   | (with_reducible exact ih0 _ _ _ _ _)
   | (with_reducible exact ih1 _ _ _ _ _)
   | (with_reducible exact LeO.refl _)
   | (with_reducible exact LeO.none _)
   | (with_reducible refine LeO.ite ?_ ?_)
   | (with_reducible refine LeO.bind ?_ (fun _ => ?_))
   | exact ih0 _ _ _ _ _
   | exact ih1 _ _ _ _ _
   | exact LeO.none _
   | refine LeO.ite ?_ ?_
   | refine LeO.bind ?_ (fun _ => ?_)
theorem tree_depth.mono : ∀ a0 a1 a2 a3 a4 k, LeO (tree_depth.f k a0 a1 a2 a3 a4) (tree_depth.f (k + 1) a0 a1 a2 a3 a4) := by
 intro a0 a1 a2 a3 a4 k
 obtain ⟨ih0, ih1⟩ := tree_depth.mono_l k
 exact ih0 a0 a1 a2 a3 a4
set_option maxHeartbeats 8000000 in
set_option maxRecDepth 100000 in
theorem tree_depth.calls (k : Nat) : ∀ (a0_0 : ByteArray) (a0_1 : ByteArray) (a0_2 : Int) (A0_3 : Option Addr) (c0_3 : Nat) (l0_3 : List (S30)) (a1 : Int) (r : Int) (w : World) (hr0_3 : Kd.C k30 w A0_3 l0_3.length l0_3) (hc0_3 : l0_3.length ≤ c0_3) (h : tree_depth.f k a0_0 a0_1 a0_2 l0_3 a1 = some r),
  Calls Tryz.prog 56 #[.agg #[.string a0_0, .string a0_1, .int .i64 a0_2, .slice A0_3 l0_3.length c0_3], .int .i64 a1] w fun e w' => e = .returned (.int .i64 r) ∧ Below w.heap.size w w' := by
 induction k using Nat.strongRecOn with
 | _ k ih =>
 intro a0_0 a0_1 a0_2 A0_3 c0_3 l0_3 a1 r w hr0_3 hc0_3 h
 cases k with
 | zero => exact absurd h (by simp [tree_depth.f])
 | succ k =>
 simp only [tree_depth.f] at h
 have hu30 := Tryz.underlying30
 have HR0_3 := Aside0.mk hr0_3
 have HC0_3 := Aside0.mk hc0_3
 clear hr0_3 hc0_3
 have HB := Aside0.mk (Below.refl w.heap.size w)
 have H : (if a1 ≤ 1 then (some 1) else (tree_depth.l0 k a1 0 l0_3 (l0_3.length : Int) 0)) = some r := h
 clear h
 by_cases c3 : a1 ≤ 1
 ·rw [if_pos c3] at H
  have c3b0 : decide (a1 ≤ 1) = true := decide_eq_true c3
  clear c3
  obtain rfl := Option.some.inj H
  go_enter Tryz.func56, Tryz.ntmps56
  go_wp2_with (first | ((with_reducible refine gate_dst (N := 2) rfl ?_); refine box_event ?hg (N := 2) ?hd (cs := #[.string a0_0, .string a0_1, .int .i64 a0_2, .slice A0_3 l0_3.length c0_3]) (t := 30) ?hr ?_; (case hd => rfl); (case hg => rfl); (case hr => first | (go_simp; done) | (go_simp; rfl)); intro gb172 hg w4 hbox hb; have n0_ := Aside0.mk (below_step bSt_ hb); have n1_ := Aside0.mk (hbox); have n2_ := Aside0.mk ((by rw [hg]; exact (below_size bSt_) : w.heap.size ≤ gb172)); have n3_ := Aside0.mk ((by rw [hg]; exact (below_size bSt_) : w.heap.size ≤ gb172)); clear HB; have HB := n0_; have BK172 := n1_; have GW172 := n2_; have GE172 := n3_; clear n0_ n1_ n2_ n3_; clear hb hbox hg))
  go_ret
  exact ⟨by first | rfl | (simp [errW_none, errW_some] <;> rfl) | (simp [*, errW_none, errW_some] <;> rfl) | (simp [errW_none, errW_some]; exact Go.Proofs.YtlabfjaddgakkaaGreatW.OwnWords.isEmpty_bne _), bSt_⟩
 ·rw [if_neg c3] at H
  have c3b0 : decide (a1 ≤ 1) = false := decide_eq_false c3
  clear c3
  have H' := Aside0.mk H
  clear H
  go_enter Tryz.func56, Tryz.ntmps56
  go_wp2_with (first | ((with_reducible refine gate_dst (N := 2) rfl ?_); refine box_event ?hg (N := 2) ?hd (cs := #[.string a0_0, .string a0_1, .int .i64 a0_2, .slice A0_3 l0_3.length c0_3]) (t := 30) ?hr ?_; (case hd => rfl); (case hg => rfl); (case hr => first | (go_simp; done) | (go_simp; rfl)); intro gb172 hg w5 hbox hb; have n0_ := Aside0.mk (below_step bSt_ hb); have n1_ := Aside0.mk (hbox); have n2_ := Aside0.mk ((by rw [hg]; exact (below_size bSt_) : w.heap.size ≤ gb172)); have n3_ := Aside0.mk ((by rw [hg]; exact (below_size bSt_) : w.heap.size ≤ gb172)); clear HB; have HB := n0_; have BK172 := n1_; have GW172 := n2_; have GE172 := n3_; clear n0_ n1_ n2_ n3_; clear hb hbox hg; have hcz6_0 : w5.cell? ⟨gb172, 0, none⟩ = some (.string a0_0) := (blk_cell BK172.out 0).trans rfl; have hcz6_1 : w5.cell? ⟨gb172, 1, none⟩ = some (.string a0_1) := (blk_cell BK172.out 1).trans rfl; have hcz6_2 : w5.cell? ⟨gb172, 2, none⟩ = some (.int .i64 a0_2) := (blk_cell BK172.out 2).trans rfl; have hcz6_3 : w5.cell? ⟨gb172, 3, none⟩ = some (.slice A0_3 l0_3.length c0_3) := (blk_cell BK172.out 3).trans rfl; have hfz6_0 := blk_frozen BK172.out 0; have hfz6_1 := blk_frozen BK172.out 1; have hfz6_2 := blk_frozen BK172.out 2; have hfz6_3 := blk_frozen BK172.out 3))
  try simp only [Act.put, List.setIfInBounds_toArray, List.set_cons_zero, List.set_cons_succ]
  go_loopg [5, 13] k (fun kq v5 v13 w' => ∃ (x5_1 : Int) (x13_1 : Int), v5 = .int .i64 x5_1 ∧ v13 = .int .i64 x13_1 ∧ Aside0 (tree_depth.l0 kq a1 x5_1 l0_3 (l0_3.length : Int) x13_1 = some r) ∧ Aside0 (kq ≤ k) ∧ Aside0 (w'.heap[gb172]? = some (.cells #[.string a0_0, .string a0_1, .int .i64 a0_2, (.slice A0_3 l0_3.length c0_3)] 30 (0, 0))) ∧ Aside0 (Below w.heap.size w w'))
  case atStart => exact ⟨(0), (0), (by first | rfl | (simp; done) | (simp [*]; done)), (by first | rfl | (simp; done) | (simp [*]; done)), H', ⟨Nat.le_refl _⟩, ⟨bKq_ BK172.out⟩, ⟨bSt_⟩⟩
  case round =>
   clear H'
   try clear p2
   try clear c3
   try clear c3b0
   try clear c5
   try clear hcz6_0
   try clear hcz6_1
   try clear hcz6_2
   try clear hcz6_3
   try clear hfz6_0
   try clear hfz6_1
   try clear hfz6_2
   try clear hfz6_3
   obtain ⟨x5_1, x13_1, rfl, rfl, HA, HK1, BK172, HB⟩ := hrel
   cases gk with
   | zero => exact absurd HA.out (by simp [tree_depth.l0])
   | succ k1 =>
    have H := HA.out
    clear HA
    simp only [tree_depth.l0] at H
    by_cases c7 : x13_1 < (l0_3.length : Int)
    ·rw [if_pos c7] at H
     have c7b0 : decide (x13_1 < (l0_3.length : Int)) = true := decide_eq_true c7
     clear c7
     by_cases c8 : 0 ≤ x13_1
     ·rw [if_pos c8] at H
      have c8b0 : decide (0 ≤ x13_1) = true := decide_eq_true c8
      clear c8
      by_cases c9 : x13_1 < (l0_3.length : Int)
      ·rw [if_pos c9] at H
       have c9b0 : decide (x13_1 < (l0_3.length : Int)) = true := decide_eq_true c9
       clear c9
       replace H := Option.bind_eq_some_iff.mp H
       obtain ⟨t175, A100, H⟩ := H
       replace H : (tree_depth.l0 k1 a1 (mx x5_1 t175) l0_3 (l0_3.length : Int) (wrap64 (x13_1 + 1))) = some r := H
       have A10 := Aside0.mk A100
       clear A100
       obtain ⟨ji11, hji11⟩ : ∃ j_ : Int, (mx x5_1 t175) = j_ := ⟨_, rfl⟩
       replace H : (tree_depth.l0 k1 a1 ji11 l0_3 (l0_3.length : Int) (wrap64 (x13_1 + 1))) = some r := by first | (rw [hji11] at H; exact H) | (simp only [hji11] at H ⊢; exact H)
       (try rw [hji11] at A10)
       have hji11_ : (if x5_1 < t175 then t175 else x5_1) = ji11 := hji11
       have H' := Aside0.mk H
       clear H
       have p173 : 0 ≤ (x13_1 : Int) := of_decide_eq_true (by first | (with_reducible assumption) | assumption)
       have q173 : x13_1 < (l0_3.length : Int) := of_decide_eq_true (by first | (with_reducible assumption) | assumption)
       obtain ⟨ad173, A173_3, c173_3, e173, hx173_0, hx173_1, hx173_2, hx173_3, hl173_3, hi173_3⟩ := at_T30 HR0_3.out x13_1 p173 q173
       cases e173
       replace hx173_0 := (HB.out.cell (World.block_lt_of_cell? w _ hx173_0)).trans hx173_0
       replace hx173_1 := (HB.out.cell (World.block_lt_of_cell? w _ hx173_1)).trans hx173_1
       replace hx173_2 := (HB.out.cell (World.block_lt_of_cell? w _ hx173_2)).trans hx173_2
       replace hx173_3 := (HB.out.cell (World.block_lt_of_cell? w _ hx173_3)).trans hx173_3
       have HR173_3 := Aside0.mk hi173_3
       have HC173_3 := Aside0.mk hl173_3
       clear hi173_3 hl173_3
       replace p173 := eq_true p173
       replace q173 := eq_true q173
       go_wp2_with (first | ((with_reducible refine gate_dst (N := 7) rfl ?_); refine box_event ?hg (N := 7) ?hd (cs := #[.string (⟨#[]⟩ : ByteArray), .string (⟨#[]⟩ : ByteArray), .int .i64 0, .slice none 0 0]) (t := 30) ?hr ?_; (case hd => rfl); (case hg => rfl); (case hr => first | (go_simp; done) | (go_simp; rfl)); intro gb174 hg w12 hbox hb; have n0_ := Aside0.mk (blk_below (bKq_ BK172.out) hb); have n1_ := Aside0.mk (below_step bSt_ hb); have n2_ := Aside0.mk (hbox); have n3_ := Aside0.mk ((by rw [hg]; exact (below_size bSt_) : w.heap.size ≤ gb174)); have n4_ := Aside0.mk ((by rw [hg]; exact (below_size bSt_) : w.heap.size ≤ gb174)); have n5_ := Aside0.mk ((by rw [hg]; exact Nat.ne_of_lt (blk_lt (bKq_ BK172.out)) : gb172 ≠ gb174)); have n6_ := Aside0.mk ((by rw [hg]; exact Nat.ne_of_gt (blk_lt (bKq_ BK172.out)) : gb174 ≠ gb172)); clear BK172; clear HB; have BK172 := n0_; have HB := n1_; have BK174 := n2_; have GW174 := n3_; have GE174 := n4_; have NB172_174 := n5_; have NB174_172 := n6_; clear n0_ n1_ n2_ n3_ n4_ n5_ n6_; clear hb hbox hg; have hnb13 := NB174_172.out; have hnc13 := NB172_174.out; have hcz14_0 : w12.cell? ⟨gb174, 0, none⟩ = some (.string (⟨#[]⟩ : ByteArray)) := (blk_cell BK174.out 0).trans rfl; have hcz14_1 : w12.cell? ⟨gb174, 1, none⟩ = some (.string (⟨#[]⟩ : ByteArray)) := (blk_cell BK174.out 1).trans rfl; have hcz14_2 : w12.cell? ⟨gb174, 2, none⟩ = some (.int .i64 0) := (blk_cell BK174.out 2).trans rfl; have hcz14_3 : w12.cell? ⟨gb174, 3, none⟩ = some (.slice none 0 0) := (blk_cell BK174.out 3).trans rfl; have hfz14_0 := blk_frozen BK174.out 0; have hfz14_1 := blk_frozen BK174.out 1; have hfz14_2 := blk_frozen BK174.out 2; have hfz14_3 := blk_frozen BK174.out 3) | ((with_reducible refine gate_callee (f := 56) rfl ?_); refine goesL_ (some 21) rfl rfl Tryz.func56 (by kernel_rfl) rfl #[.agg #[.string ((rd_T30 l0_3 x13_1).f0), .string ((rd_T30 l0_3 x13_1).f1), .int .i64 ((rd_T30 l0_3 x13_1).f2), .slice A173_3 ((rd_T30 l0_3 x13_1).f3).length c173_3], .int .i64 (wrap64 (a1 - 1))] rfl (by (try simp only [List.map_toArray, List.map_cons, List.map_nil]); first | done | rfl | (simp only [List.length_drop, List.length_take]; rfl)) ?_; (with_reducible refine (ih k1 (by have := HK1.out; omega) ((rd_T30 l0_3 x13_1).f0) ((rd_T30 l0_3 x13_1).f1) ((rd_T30 l0_3 x13_1).f2) _ _ ((rd_T30 l0_3 x13_1).f3) (wrap64 (a1 - 1)) t175 _ ?side1 ?side2 A10.out).mono ?_); (case side1 => exact Kd.C_below HR173_3.out bSt_); (case side2 => exact HC173_3.out); rintro e w15 ⟨rfl, hb⟩; refine ⟨_, rfl, ?_⟩; have n0_ := Aside0.mk (blk_below (bKq_ BK172.out) hb); have n1_ := Aside0.mk (blk_below (g := gb174) (o := .cells #[.string ((rd_T30 l0_3 x13_1).f0), .string ((rd_T30 l0_3 x13_1).f1), .int .i64 ((rd_T30 l0_3 x13_1).f2), .slice A173_3 ((rd_T30 l0_3 x13_1).f3).length c173_3] 30 (0, 0)) (bKq_ BK174.out) hb); have n2_ := Aside0.mk (below_step bSt_ hb); clear BK172; clear BK174; clear HB; have BK172 := n0_; have BK174 := n1_; have HB := n2_; clear n0_ n1_ n2_; (try clear hb); (try clear hb2); (try clear hk); (try clear hi)))
       go_roundg k1
       case measure => have := HK1.out; omega
       case rel => exact ⟨(ji11), (wrap64 (x13_1 + 1)), (by first | rfl | (simp; done) | (simp only [← hji11] <;> (first | rfl | simp); done) | (simp [*]; done)), (by first | rfl | (simp; done) | (simp [*]; done)), H', ⟨by have := HK1.out; omega⟩, ⟨bKq_ BK172.out⟩, ⟨bSt_⟩⟩
      ·rw [if_neg c9] at H
       exact absurd H (by simp)
     ·rw [if_neg c8] at H
      exact absurd H (by simp)
    ·rw [if_neg c7] at H
     have c7b0 : decide (x13_1 < (l0_3.length : Int)) = false := decide_eq_false c7
     clear c7
     obtain rfl := Option.some.inj H
     go_wp2
     go_ret
     exact ⟨by first | rfl | (simp [errW_none, errW_some] <;> rfl) | (simp [*, errW_none, errW_some] <;> rfl) | (simp [errW_none, errW_some]; exact Go.Proofs.YtlabfjaddgakkaaGreatW.OwnWords.isEmpty_bne _), bSt_⟩

end Go.Proofs.YtlabfjaddgakkaaGreat.Q
end
section
namespace Go.Proofs.YtlabfjaddgakkaaGreat.Q
open Go.RowKit Go.Proofs.YtlabfjaddgakkaaGreatW.PrintWords Go.Proofs.YtlabfjaddgakkaaGreatW.PrintLast Go.Proofs.YtlabfjaddgakkaaGreatW.PrintMore Go.Proofs.YtlabfjaddgakkaaGreatW.OwnWords
attribute [local go_sem] Go.Proofs.YtlabfjaddgakkaaGreatW.OwnWords.isSome_setCell max2_int min2_int max_two min_two max_three min_three max_four min_four
set_option linter.unusedVariables false
set_option linter.unusedSimpArgs false

/-! ### tree_Depth: function 30 -/
def tree_Depth.f (k : Nat) (a0_0 : ByteArray) (a0_1 : ByteArray) (a0_2 : Int) (l0_3 : List (S30)) : Option (Int) := (tree_depth.f k a0_0 a0_1 a0_2 l0_3 101).bind fun t177 => (some t177)
theorem tree_Depth.mono : ∀ a0 a1 a2 a3 k, LeO (tree_Depth.f k a0 a1 a2 a3) (tree_Depth.f (k + 1) a0 a1 a2 a3) := by
 intro a0 a1 a2 a3 k
 unfold tree_Depth.f
 repeat' first
   | (with_reducible exact tree_depth.mono _ _ _ _ _ _)
   | (with_reducible exact LeO.refl _)
   | (with_reducible exact LeO.none _)
   | (with_reducible refine LeO.ite ?_ ?_)
   | (with_reducible refine LeO.bind ?_ (fun _ => ?_))
   | exact tree_depth.mono _ _ _ _ _ _
   | exact LeO.none _
   | refine LeO.ite ?_ ?_
   | refine LeO.bind ?_ (fun _ => ?_)
set_option maxHeartbeats 8000000 in
set_option maxRecDepth 100000 in
theorem tree_Depth.calls (k : Nat) (a0_0 : ByteArray) (a0_1 : ByteArray) (a0_2 : Int) (A0_3 : Option Addr) (c0_3 : Nat) (l0_3 : List (S30)) (r : Int) (w : World) (hr0_3 : Kd.C k30 w A0_3 l0_3.length l0_3) (hc0_3 : l0_3.length ≤ c0_3) (h : tree_Depth.f k a0_0 a0_1 a0_2 l0_3 = some r) :
  Calls Tryz.prog 30 #[.agg #[.string a0_0, .string a0_1, .int .i64 a0_2, .slice A0_3 l0_3.length c0_3]] w fun e w' => e = .returned (.int .i64 r) ∧ Below w.heap.size w w' := by
 have hu30 := Tryz.underlying30
 have HR0_3 := Aside0.mk hr0_3
 have HC0_3 := Aside0.mk hc0_3
 clear hr0_3 hc0_3
 have HB := Aside0.mk (Below.refl w.heap.size w)
 have H : ((tree_depth.f k a0_0 a0_1 a0_2 l0_3 101).bind fun t177 => (some t177)) = some r := h
 clear h
 replace H := Option.bind_eq_some_iff.mp H
 obtain ⟨t177, A20, H⟩ := H
 replace H : (some t177) = some r := H
 have A2 := Aside0.mk A20
 clear A20
 obtain rfl := Option.some.inj H
 go_enter Tryz.func30, Tryz.ntmps30
 go_wp2_with (first | ((with_reducible refine gate_dst (N := 1) rfl ?_); refine box_event ?hg (N := 1) ?hd (cs := #[.string a0_0, .string a0_1, .int .i64 a0_2, .slice A0_3 l0_3.length c0_3]) (t := 30) ?hr ?_; (case hd => rfl); (case hg => rfl); (case hr => first | (go_simp; done) | (go_simp; rfl)); intro gb176 hg w3 hbox hb; have n0_ := Aside0.mk (below_step bSt_ hb); have n1_ := Aside0.mk (hbox); have n2_ := Aside0.mk ((by rw [hg]; exact (below_size bSt_) : w.heap.size ≤ gb176)); have n3_ := Aside0.mk ((by rw [hg]; exact (below_size bSt_) : w.heap.size ≤ gb176)); clear HB; have HB := n0_; have BK176 := n1_; have GW176 := n2_; have GE176 := n3_; clear n0_ n1_ n2_ n3_; clear hb hbox hg; have hcz4_0 : w3.cell? ⟨gb176, 0, none⟩ = some (.string a0_0) := (blk_cell BK176.out 0).trans rfl; have hcz4_1 : w3.cell? ⟨gb176, 1, none⟩ = some (.string a0_1) := (blk_cell BK176.out 1).trans rfl; have hcz4_2 : w3.cell? ⟨gb176, 2, none⟩ = some (.int .i64 a0_2) := (blk_cell BK176.out 2).trans rfl; have hcz4_3 : w3.cell? ⟨gb176, 3, none⟩ = some (.slice A0_3 l0_3.length c0_3) := (blk_cell BK176.out 3).trans rfl; have hfz4_0 := blk_frozen BK176.out 0; have hfz4_1 := blk_frozen BK176.out 1; have hfz4_2 := blk_frozen BK176.out 2; have hfz4_3 := blk_frozen BK176.out 3) | ((with_reducible refine gate_callee (f := 56) rfl ?_); refine goesL_ (some 4) rfl rfl Tryz.func56 (by kernel_rfl) rfl #[.agg #[.string a0_0, .string a0_1, .int .i64 a0_2, .slice A0_3 l0_3.length c0_3], .int .i64 101] rfl (by (try simp only [List.map_toArray, List.map_cons, List.map_nil]); first | done | rfl | (simp only [List.length_drop, List.length_take]; rfl)) ?_; (with_reducible refine (tree_depth.calls k a0_0 a0_1 a0_2 _ _ l0_3 101 t177 _ ?side1 ?side2 A2.out).mono ?_); (case side1 => repeat (first | exact (Kd.C_below HR0_3.out HB.out) | (with_reducible refine Kd.C_alloc ?_ _) | (with_reducible refine Kd.C_drewN ?_ _) | (with_reducible refine Kd.C_drew ?_))); (case side2 => exact HC0_3.out); rintro e w5 ⟨rfl, hb⟩; refine ⟨_, rfl, ?_⟩; have n0_ := Aside0.mk (blk_below (bKq_ BK176.out) hb); have n1_ := Aside0.mk (below_step bSt_ hb); clear BK176; clear HB; have BK176 := n0_; have HB := n1_; clear n0_ n1_; (try clear hb); (try clear hb2); (try clear hk); (try clear hi)))
 go_ret
 exact ⟨by first | rfl | (simp [errW_none, errW_some] <;> rfl) | (simp [*, errW_none, errW_some] <;> rfl) | (simp [errW_none, errW_some]; exact Go.Proofs.YtlabfjaddgakkaaGreatW.OwnWords.isEmpty_bne _), bSt_⟩

end Go.Proofs.YtlabfjaddgakkaaGreat.Q
end
section
namespace Go.Proofs.YtlabfjaddgakkaaGreat.Q
open Go.RowKit Go.Proofs.YtlabfjaddgakkaaGreatW.PrintWords Go.Proofs.YtlabfjaddgakkaaGreatW.PrintLast Go.Proofs.YtlabfjaddgakkaaGreatW.PrintMore
attribute [local go_sem] Go.Proofs.YtlabfjaddgakkaaGreatW.OwnWords.isSome_setCell max2_int min2_int max_two min_two max_three min_three max_four min_four
set_option linter.unusedVariables false
set_option linter.unusedSimpArgs false

/-! ### stringslite_HasPrefix: function 150 -/
def stringslite_HasPrefix.f (a0 : ByteArray) (a1 : ByteArray) : Option (Bool) := if (a0.size : Int) ≥ (a1.size : Int) then (if 0 ≤ (a1.size : Int) then (if (a1.size : Int) ≤ (a0.size : Int) then (some ((a0.extract 0 ((a1.size : Int) : Int).toNat).toList == a1.toList)) else (none)) else (none)) else (some false)
set_option maxHeartbeats 8000000 in
set_option maxRecDepth 100000 in
theorem stringslite_HasPrefix.calls (a0 : ByteArray) (a1 : ByteArray) (r : Bool) (w : World) (h : stringslite_HasPrefix.f a0 a1 = some r) :
  Calls Tryz.prog 150 #[.string a0, .string a1] w fun e w' => e = .returned (.bool r) ∧ Drawn0 w w' := by
 have H : (if (a0.size : Int) ≥ (a1.size : Int) then (if 0 ≤ (a1.size : Int) then (if (a1.size : Int) ≤ (a0.size : Int) then (some ((a0.extract 0 ((a1.size : Int) : Int).toNat).toList == a1.toList)) else (none)) else (none)) else (some false)) = some r := h
 clear h
 by_cases c3 : (a0.size : Int) ≥ (a1.size : Int)
 ·rw [if_pos c3] at H
  have c3b0 : decide ((a1.size : Int) ≤ (a0.size : Int)) = true := decide_eq_true c3
  have c3b1 : decide (a1.size ≤ a0.size) = true := decide_eq_true (Int.ofNat_le.mp c3)
  clear c3
  by_cases c4 : 0 ≤ (a1.size : Int)
  ·rw [if_pos c4] at H
   have c4b0 := eq_true c4
   have c4b1 : decide (0 ≤ (a1.size : Int)) = true := decide_eq_true c4
   clear c4
   by_cases c5 : (a1.size : Int) ≤ (a0.size : Int)
   ·rw [if_pos c5] at H
    have c5b0 := eq_true c5
    have c5b1 : decide ((a1.size : Int) ≤ (a0.size : Int)) = true := decide_eq_true c5
    clear c5
    obtain rfl := Option.some.inj H
    go_enter Tryz.func150, Tryz.ntmps150
    go_wp2
    go_ret
    exact ⟨by first | rfl | (simp; done) | (simp [*]; done), by repeat (first | exact Drawn0.refl _ | apply Drawn0.step)⟩
   ·rw [if_neg c5] at H
    exact absurd H (by simp)
  ·rw [if_neg c4] at H
   exact absurd H (by simp)
 ·rw [if_neg c3] at H
  have c3b0 : decide ((a1.size : Int) ≤ (a0.size : Int)) = false := decide_eq_false c3
  have c3b1 : decide (a1.size ≤ a0.size) = false := decide_eq_false (fun h => c3 (Int.ofNat_le.mpr h))
  clear c3
  obtain rfl := Option.some.inj H
  go_enter Tryz.func150, Tryz.ntmps150
  go_wp2
  go_ret
  exact ⟨by first | rfl | (simp; done) | (simp [*]; done), by repeat (first | exact Drawn0.refl _ | apply Drawn0.step)⟩

end Go.Proofs.YtlabfjaddgakkaaGreat.Q
end
section
namespace Go.Proofs.YtlabfjaddgakkaaGreat.Q
open Go.RowKit Go.Proofs.YtlabfjaddgakkaaGreatW.PrintWords Go.Proofs.YtlabfjaddgakkaaGreatW.PrintLast Go.Proofs.YtlabfjaddgakkaaGreatW.PrintMore
attribute [local go_sem] Go.Proofs.YtlabfjaddgakkaaGreatW.OwnWords.isSome_setCell max2_int min2_int max_two min_two max_three min_three max_four min_four
set_option linter.unusedVariables false
set_option linter.unusedSimpArgs false

/-! ### strings_HasPrefix: function 133 -/
def strings_HasPrefix.f (a0 : ByteArray) (a1 : ByteArray) : Option (Bool) := (stringslite_HasPrefix.f a0 a1).bind fun t101 => (some t101)
set_option maxHeartbeats 8000000 in
set_option maxRecDepth 100000 in
theorem strings_HasPrefix.calls (a0 : ByteArray) (a1 : ByteArray) (r : Bool) (w : World) (h : strings_HasPrefix.f a0 a1 = some r) :
  Calls Tryz.prog 133 #[.string a0, .string a1] w fun e w' => e = .returned (.bool r) ∧ Drawn0 w w' := by
 have H : ((stringslite_HasPrefix.f a0 a1).bind fun t101 => (some t101)) = some r := h
 clear h
 replace H := Option.bind_eq_some_iff.mp H
 obtain ⟨t101, A30, H⟩ := H
 replace H : (some t101) = some r := H
 have A3 := Aside0.mk A30
 clear A30
 obtain rfl := Option.some.inj H
 go_enter Tryz.func133, Tryz.ntmps133
 go_wp2_with (first | ((with_reducible refine gate_callee (f := 150) rfl ?_); refine goesL_ (some 7) rfl rfl Tryz.func150 (by kernel_rfl) rfl #[.string a0, .string a1] rfl (by (try simp only [List.map_toArray, List.map_cons, List.map_nil]); first | done | rfl | (simp only [List.length_drop, List.length_take]; rfl)) ?_; (with_reducible refine (stringslite_HasPrefix.calls a0 a1 t101 _ A3.out).mono ?_); rintro e w' ⟨rfl, ⟨nd, rfl⟩⟩; refine ⟨_, rfl, ?_⟩))
 go_ret
 exact ⟨by first | rfl | (simp; done) | (simp [*]; done), by repeat (first | exact Drawn0.refl _ | apply Drawn0.step)⟩

end Go.Proofs.YtlabfjaddgakkaaGreat.Q
end
section
namespace Go.Proofs.YtlabfjaddgakkaaGreat.Q
open Go.RowKit Go.Proofs.YtlabfjaddgakkaaGreatW.PrintWords Go.Proofs.YtlabfjaddgakkaaGreatW.PrintLast Go.Proofs.YtlabfjaddgakkaaGreatW.PrintMore Go.Proofs.YtlabfjaddgakkaaGreatW.OwnWords
attribute [local go_sem] Go.Proofs.YtlabfjaddgakkaaGreatW.OwnWords.isSome_setCell max2_int min2_int max_two min_two max_three min_three max_four min_four
set_option linter.unusedVariables false
set_option linter.unusedSimpArgs false

/-! ### token_remark: function 134 -/
mutual
def token_remark.l0 : Nat → ByteArray → Int → Option (Int)
 | 0, _, _ => none
 | k + 1, x0, x1 => if x1 < (x0.size : Int) then (if 0 ≤ x1 then (if (bt x0 x1) = 10 then (some (mn (wrap64 (x1 + 1)) (x0.size : Int))) else (token_remark.l0 k x0 (wrap64 (x1 + 1)))) else (none)) else (some (mn (wrap64 (x1 + 1)) (x0.size : Int)))
def token_remark.l1 : Nat → ByteArray → Int → Int → Option (Int)
 | 0, _, _, _ => none
 | k + 1, x0, x1, x5 => if x1 < (x0.size : Int) then (if 0 ≤ x1 then (if x1 ≤ (x0.size : Int) then ((strings_HasPrefix.f (x0.extract (x1 : Int).toNat x0.size) (⟨#[47, 42]⟩ : ByteArray)).bind fun t102 => (if t102 = true then (if (wrap64 (x5 + 1)) = 0 then (some (wrap64 (x1 + 2))) else (token_remark.l1 k x0 (wrap64 (x1 + 2)) (wrap64 (x5 + 1)))) else ((strings_HasPrefix.f (x0.extract (x1 : Int).toNat x0.size) (⟨#[42, 47]⟩ : ByteArray)).bind fun t103 => (if t103 = true then (if (wrap64 (x5 - 1)) = 0 then (some (wrap64 (x1 + 2))) else (token_remark.l1 k x0 (wrap64 (x1 + 2)) (wrap64 (x5 - 1)))) else (if x5 = 0 then (some (wrap64 (x1 + 1))) else (token_remark.l1 k x0 (wrap64 (x1 + 1)) x5)))))) else (none)) else (none)) else (some (-1))
end
def token_remark.f (k : Nat) (a0 : ByteArray) (a1 : Int) : Option (Int) := if 0 ≤ a1 then (if a1 < (a0.size : Int) then (if (bt a0 a1) = 37 then (token_remark.l0 k a0 a1) else (token_remark.l1 k a0 a1 0)) else (none)) else (none)
theorem token_remark.mono_l : ∀ k, (∀ y0 y1, LeO (token_remark.l0 k y0 y1) (token_remark.l0 (k + 1) y0 y1)) ∧ (∀ y0 y1 y2, LeO (token_remark.l1 k y0 y1 y2) (token_remark.l1 (k + 1) y0 y1 y2))
 | 0 => ⟨fun _ _ r h => by simp [token_remark.l0] at h, fun _ _ _ r h => by simp [token_remark.l1] at h⟩
 | k + 1 => by
  obtain ⟨ih0, ih1⟩ := token_remark.mono_l k
  refine ⟨?_, ?_⟩
  ·intro y0 y1
   unfold token_remark.l0
   repeat' first
   | (with_reducible exact ih0 _ _)
   | (with_reducible exact ih1 _ _ _)
   | (with_reducible exact LeO.refl _)
   | (with_reducible exact LeO.none _)
   | (with_reducible refine LeO.ite ?_ ?_)
   | (with_reducible refine LeO.bind ?_ (fun _ => ?_))
   | exact ih0 _ _
   | exact ih1 _ _ _
   | exact LeO.none _
   | refine LeO.ite ?_ ?_
   | refine LeO.bind ?_ (fun _ => ?_)
  ·intro y0 y1 y2
   unfold token_remark.l1
   repeat' first
   | (with_reducible exact ih0 _ _)
   | (with_reducible exact ih1 _ _ _)
   | (with_reducible exact LeO.refl _)
   | (with_reducible exact LeO.none _)
   | (with_reducible refine LeO.ite ?_ ?_)
   | (with_reducible refine LeO.bind ?_ (fun _ => ?_))
   | exact ih0 _ _
   | exact ih1 _ _ _
   | exact LeO.none _
   | refine LeO.ite ?_ ?_
   | refine LeO.bind ?_ (fun _ => ?_)
theorem token_remark.mono : ∀ a0 a1 k, LeO (token_remark.f k a0 a1) (token_remark.f (k + 1) a0 a1) := by
 intro a0 a1 k
 obtain ⟨ih0, ih1⟩ := token_remark.mono_l k
 unfold token_remark.f
 repeat' first
   | (with_reducible exact ih0 _ _)
   | (with_reducible exact ih1 _ _ _)
   | (with_reducible exact LeO.refl _)
   | (with_reducible exact LeO.none _)
   | (with_reducible refine LeO.ite ?_ ?_)
   | (with_reducible refine LeO.bind ?_ (fun _ => ?_))
   | exact ih0 _ _
   | exact ih1 _ _ _
   | exact LeO.none _
   | refine LeO.ite ?_ ?_
   | refine LeO.bind ?_ (fun _ => ?_)
set_option maxHeartbeats 8000000 in
set_option maxRecDepth 100000 in
theorem token_remark.calls (k : Nat) (a0 : ByteArray) (a1 : Int) (r : Int) (w : World) (h : token_remark.f k a0 a1 = some r) :
  Calls Tryz.prog 134 #[.string a0, .int .i64 a1] w fun e w' => e = .returned (.int .i64 r) ∧ Below w.heap.size w w' := by
 have HB := Aside0.mk (Below.refl w.heap.size w)
 have H : (if 0 ≤ a1 then (if a1 < (a0.size : Int) then (if (bt a0 a1) = 37 then (token_remark.l0 k a0 a1) else (token_remark.l1 k a0 a1 0)) else (none)) else (none)) = some r := h
 clear h
 by_cases c3 : 0 ≤ a1
 ·rw [if_pos c3] at H
  have c3b0 : decide (0 ≤ a1) = true := decide_eq_true c3
  clear c3
  by_cases c4 : a1 < (a0.size : Int)
  ·rw [if_pos c4] at H
   have c4b0 : decide (a1 < (a0.size : Int)) = true := decide_eq_true c4
   clear c4
   by_cases c6 : (bt a0 a1) = 37
   ·rw [if_pos c6] at H
    have c6b0 : ((bt a0 a1) == 37) = true := beq_iff_eq.mpr c6
    have c6b1 : ((bt a0 a1) != 37) = false := bne_eq_false_iff_eq.mpr c6
    clear c6
    have H' := Aside0.mk H
    clear H
    have p5 : 0 ≤ (a1 : Int) := of_decide_eq_true (by first | (with_reducible assumption) | assumption)
    have q5 : a1 < (a0.size : Int) := of_decide_eq_true (by first | (with_reducible assumption) | assumption)
    have hx5 := bt_at a0 a1
    replace p5 := eq_true p5
    replace q5 := eq_true q5
    go_enter Tryz.func134, Tryz.ntmps134
    go_wp2
    go_loopg [1] k (fun kq v1 w' => ∃ (x1_1 : Int), v1 = .int .i64 x1_1 ∧ Aside0 (token_remark.l0 kq a0 x1_1 = some r) ∧ Aside0 (kq ≤ k) ∧ Aside0 (Below w.heap.size w w'))
    case atStart => exact ⟨(a1), (by first | rfl | (simp; done) | (simp [*]; done)), H', ⟨Nat.le_refl _⟩, ⟨bSt_⟩⟩
    case round =>
     clear H'
     try clear c1
     try clear p2
     try clear c3
     try clear c3b0
     try clear c4
     try clear c4b0
     try clear p5
     try clear q5
     try clear hx5
     try clear c6
     try clear c6b0
     try clear c6b1
     try clear p5
     try clear q5
     obtain ⟨x1_1, rfl, HA, HK1, HB⟩ := hrel
     cases gk with
     | zero => exact absurd HA.out (by simp [token_remark.l0])
     | succ k1 =>
      have H := HA.out
      clear HA
      simp only [token_remark.l0] at H
      by_cases c7 : x1_1 < (a0.size : Int)
      ·rw [if_pos c7] at H
       have c7b0 : decide (x1_1 < (a0.size : Int)) = true := decide_eq_true c7
       clear c7
       by_cases c8 : 0 ≤ x1_1
       ·rw [if_pos c8] at H
        have c8b0 : decide (0 ≤ x1_1) = true := decide_eq_true c8
        clear c8
        by_cases c10 : (bt a0 x1_1) = 10
        ·rw [if_pos c10] at H
         have c10b0 : ((bt a0 x1_1) == 10) = true := beq_iff_eq.mpr c10
         have c10b1 : ((bt a0 x1_1) != 10) = false := bne_eq_false_iff_eq.mpr c10
         clear c10
         obtain ⟨ji11, hji11⟩ : ∃ j_ : Int, (mn (wrap64 (x1_1 + 1)) (a0.size : Int)) = j_ := ⟨_, rfl⟩
         replace H : (some ji11) = some r := by first | (rw [hji11] at H; exact H) | (simp only [hji11] at H ⊢; exact H)
         have hji11_ : (if (a0.size : Int) < (wrap64 (x1_1 + 1)) then (a0.size : Int) else (wrap64 (x1_1 + 1))) = ji11 := hji11
         obtain rfl := Option.some.inj H
         have p9 : 0 ≤ (x1_1 : Int) := of_decide_eq_true (by first | (with_reducible assumption) | assumption)
         have q9 : x1_1 < (a0.size : Int) := of_decide_eq_true (by first | (with_reducible assumption) | assumption)
         have hx9 := bt_at a0 x1_1
         replace p9 := eq_true p9
         replace q9 := eq_true q9
         go_wp2
         go_ret
         exact ⟨by first | rfl | (simp [errW_none, errW_some] <;> rfl) | (simp only [← hji11]; first | rfl | (simp [errW_none, errW_some] <;> rfl)) | (simp [*, errW_none, errW_some] <;> rfl) | (simp [errW_none, errW_some]; exact Go.Proofs.YtlabfjaddgakkaaGreatW.OwnWords.isEmpty_bne _), bSt_⟩
        ·rw [if_neg c10] at H
         have c10b0 : ((bt a0 x1_1) == 10) = false := beq_eq_false_iff_ne.mpr c10
         have c10b1 : ((bt a0 x1_1) != 10) = true := bne_iff_ne.mpr c10
         have H' := Aside0.mk H
         clear H
         have p9 : 0 ≤ (x1_1 : Int) := of_decide_eq_true (by first | (with_reducible assumption) | assumption)
         have q9 : x1_1 < (a0.size : Int) := of_decide_eq_true (by first | (with_reducible assumption) | assumption)
         have hx9 := bt_at a0 x1_1
         replace p9 := eq_true p9
         replace q9 := eq_true q9
         go_wp2
         go_roundg k1
         case measure => have := HK1.out; omega
         case rel => exact ⟨(wrap64 (x1_1 + 1)), (by first | rfl | (simp; done) | (simp [*]; done)), H', ⟨by have := HK1.out; omega⟩, ⟨bSt_⟩⟩
       ·rw [if_neg c8] at H
        exact absurd H (by simp)
      ·rw [if_neg c7] at H
       have c7b0 : decide (x1_1 < (a0.size : Int)) = false := decide_eq_false c7
       clear c7
       obtain ⟨ji12, hji12⟩ : ∃ j_ : Int, (mn (wrap64 (x1_1 + 1)) (a0.size : Int)) = j_ := ⟨_, rfl⟩
       replace H : (some ji12) = some r := by first | (rw [hji12] at H; exact H) | (simp only [hji12] at H ⊢; exact H)
       have hji12_ : (if (a0.size : Int) < (wrap64 (x1_1 + 1)) then (a0.size : Int) else (wrap64 (x1_1 + 1))) = ji12 := hji12
       obtain rfl := Option.some.inj H
       go_wp2
       go_ret
       exact ⟨by first | rfl | (simp [errW_none, errW_some] <;> rfl) | (simp only [← hji12]; first | rfl | (simp [errW_none, errW_some] <;> rfl)) | (simp [*, errW_none, errW_some] <;> rfl) | (simp [errW_none, errW_some]; exact Go.Proofs.YtlabfjaddgakkaaGreatW.OwnWords.isEmpty_bne _), bSt_⟩
   ·rw [if_neg c6] at H
    have c6b0 : ((bt a0 a1) == 37) = false := beq_eq_false_iff_ne.mpr c6
    have c6b1 : ((bt a0 a1) != 37) = true := bne_iff_ne.mpr c6
    have H' := Aside0.mk H
    clear H
    have p5 : 0 ≤ (a1 : Int) := of_decide_eq_true (by first | (with_reducible assumption) | assumption)
    have q5 : a1 < (a0.size : Int) := of_decide_eq_true (by first | (with_reducible assumption) | assumption)
    have hx5 := bt_at a0 a1
    replace p5 := eq_true p5
    replace q5 := eq_true q5
    go_enter Tryz.func134, Tryz.ntmps134
    go_wp2
    go_loopg [1, 5] k (fun kq v1 v5 w' => ∃ (x1_1 : Int) (x5_1 : Int), v1 = .int .i64 x1_1 ∧ v5 = .int .i64 x5_1 ∧ Aside0 (token_remark.l1 kq a0 x1_1 x5_1 = some r) ∧ Aside0 (kq ≤ k) ∧ Aside0 (Below w.heap.size w w'))
    case atStart => exact ⟨(a1), (0), (by first | rfl | (simp; done) | (simp [*]; done)), (by first | rfl | (simp; done) | (simp [*]; done)), H', ⟨Nat.le_refl _⟩, ⟨bSt_⟩⟩
    case round =>
     clear H'
     try clear c1
     try clear p2
     try clear c3
     try clear c3b0
     try clear c4
     try clear c4b0
     try clear p5
     try clear q5
     try clear hx5
     try clear c6
     try clear c6b0
     try clear c6b1
     try clear p6
     try clear c7
     try clear c7b0
     try clear c8
     try clear c8b0
     try clear p9
     try clear q9
     try clear hx9
     try clear c10
     try clear c10b0
     try clear c10b1
     try clear p2
     try clear p5
     try clear p9
     try clear q5
     try clear q9
     obtain ⟨x1_1, x5_1, rfl, rfl, HA, HK1, HB⟩ := hrel
     cases gk with
     | zero => exact absurd HA.out (by simp [token_remark.l1])
     | succ k1 =>
      have H := HA.out
      clear HA
      simp only [token_remark.l1] at H
      by_cases c13 : x1_1 < (a0.size : Int)
      ·rw [if_pos c13] at H
       have c13b0 : decide (x1_1 < (a0.size : Int)) = true := decide_eq_true c13
       clear c13
       by_cases c14 : 0 ≤ x1_1
       ·rw [if_pos c14] at H
        have c14b0 := eq_true c14
        have c14b1 : decide (0 ≤ x1_1) = true := decide_eq_true c14
        clear c14
        by_cases c15 : x1_1 ≤ (a0.size : Int)
        ·rw [if_pos c15] at H
         have c15b0 := eq_true c15
         have c15b1 : decide (x1_1 ≤ (a0.size : Int)) = true := decide_eq_true c15
         clear c15
         replace H := Option.bind_eq_some_iff.mp H
         obtain ⟨t102, A160, H⟩ := H
         replace H : (if t102 = true then (if (wrap64 (x5_1 + 1)) = 0 then (some (wrap64 (x1_1 + 2))) else (token_remark.l1 k1 a0 (wrap64 (x1_1 + 2)) (wrap64 (x5_1 + 1)))) else ((strings_HasPrefix.f (a0.extract (x1_1 : Int).toNat a0.size) (⟨#[42, 47]⟩ : ByteArray)).bind fun t103 => (if t103 = true then (if (wrap64 (x5_1 - 1)) = 0 then (some (wrap64 (x1_1 + 2))) else (token_remark.l1 k1 a0 (wrap64 (x1_1 + 2)) (wrap64 (x5_1 - 1)))) else (if x5_1 = 0 then (some (wrap64 (x1_1 + 1))) else (token_remark.l1 k1 a0 (wrap64 (x1_1 + 1)) x5_1))))) = some r := H
         have A16 := Aside0.mk A160
         clear A160
         by_cases c17 : t102 = true
         ·subst c17
          have H1 : (if (wrap64 (x5_1 + 1)) = 0 then (some (wrap64 (x1_1 + 2))) else (token_remark.l1 k1 a0 (wrap64 (x1_1 + 2)) (wrap64 (x5_1 + 1)))) = some r := by rw [if_pos rfl] at H; exact H
          clear H
          have H := H1
          clear H1
          by_cases c18 : (wrap64 (x5_1 + 1)) = 0
          ·rw [if_pos c18] at H
           have c18b0 : ((wrap64 (x5_1 + 1)) == 0) = true := beq_iff_eq.mpr c18
           have c18b1 : ((wrap64 (x5_1 + 1)) != 0) = false := bne_eq_false_iff_eq.mpr c18
           clear c18
           obtain rfl := Option.some.inj H
           go_wp2_with (first | ((with_reducible refine gate_callee (f := 133) rfl ?_); refine goesL_ (some 37) rfl rfl Tryz.func133 (by kernel_rfl) rfl #[.string (a0.extract (x1_1 : Int).toNat a0.size), .string (⟨#[47, 42]⟩ : ByteArray)] rfl (by (try simp only [List.map_toArray, List.map_cons, List.map_nil]); first | done | rfl | (simp only [List.length_drop, List.length_take]; rfl)) ?_; (with_reducible refine (strings_HasPrefix.calls (a0.extract (x1_1 : Int).toNat a0.size) (⟨#[47, 42]⟩ : ByteArray) true _ A16.out).mono ?_); rintro e w' ⟨rfl, ⟨nd, rfl⟩⟩; refine ⟨_, rfl, ?_⟩))
           go_ret
           exact ⟨by first | rfl | (simp [errW_none, errW_some] <;> rfl) | (simp [*, errW_none, errW_some] <;> rfl) | (simp [errW_none, errW_some]; exact Go.Proofs.YtlabfjaddgakkaaGreatW.OwnWords.isEmpty_bne _), bSt_⟩
          ·rw [if_neg c18] at H
           have c18b0 : ((wrap64 (x5_1 + 1)) == 0) = false := beq_eq_false_iff_ne.mpr c18
           have c18b1 : ((wrap64 (x5_1 + 1)) != 0) = true := bne_iff_ne.mpr c18
           have H' := Aside0.mk H
           clear H
           go_wp2_with (first | ((with_reducible refine gate_callee (f := 133) rfl ?_); refine goesL_ (some 37) rfl rfl Tryz.func133 (by kernel_rfl) rfl #[.string (a0.extract (x1_1 : Int).toNat a0.size), .string (⟨#[47, 42]⟩ : ByteArray)] rfl (by (try simp only [List.map_toArray, List.map_cons, List.map_nil]); first | done | rfl | (simp only [List.length_drop, List.length_take]; rfl)) ?_; (with_reducible refine (strings_HasPrefix.calls (a0.extract (x1_1 : Int).toNat a0.size) (⟨#[47, 42]⟩ : ByteArray) true _ A16.out).mono ?_); rintro e w' ⟨rfl, ⟨nd, rfl⟩⟩; refine ⟨_, rfl, ?_⟩))
           go_roundg k1
           case measure => have := HK1.out; omega
           case rel => exact ⟨(wrap64 (x1_1 + 2)), (wrap64 (x5_1 + 1)), (by first | rfl | (simp; done) | (simp [*]; done)), (by first | rfl | (simp; done) | (simp [*]; done)), H', ⟨by have := HK1.out; omega⟩, ⟨bSt_⟩⟩
         ·replace c17 := Bool.eq_false_iff.mpr c17
          subst c17
          have H1 : ((strings_HasPrefix.f (a0.extract (x1_1 : Int).toNat a0.size) (⟨#[42, 47]⟩ : ByteArray)).bind fun t103 => (if t103 = true then (if (wrap64 (x5_1 - 1)) = 0 then (some (wrap64 (x1_1 + 2))) else (token_remark.l1 k1 a0 (wrap64 (x1_1 + 2)) (wrap64 (x5_1 - 1)))) else (if x5_1 = 0 then (some (wrap64 (x1_1 + 1))) else (token_remark.l1 k1 a0 (wrap64 (x1_1 + 1)) x5_1)))) = some r := by rw [if_neg (show ¬ (false = true) by decide)] at H; exact H
          clear H
          have H := H1
          clear H1
          have c19b0 := eq_true (of_decide_eq_true (by first | (with_reducible assumption) | assumption) : 0 ≤ x1_1)
          have c20b0 := eq_true (of_decide_eq_true (by first | (with_reducible assumption) | assumption) : x1_1 ≤ (a0.size : Int))
          replace H := Option.bind_eq_some_iff.mp H
          obtain ⟨t103, A210, H⟩ := H
          replace H : (if t103 = true then (if (wrap64 (x5_1 - 1)) = 0 then (some (wrap64 (x1_1 + 2))) else (token_remark.l1 k1 a0 (wrap64 (x1_1 + 2)) (wrap64 (x5_1 - 1)))) else (if x5_1 = 0 then (some (wrap64 (x1_1 + 1))) else (token_remark.l1 k1 a0 (wrap64 (x1_1 + 1)) x5_1))) = some r := H
          have A21 := Aside0.mk A210
          clear A210
          by_cases c22 : t103 = true
          ·subst c22
           have H1 : (if (wrap64 (x5_1 - 1)) = 0 then (some (wrap64 (x1_1 + 2))) else (token_remark.l1 k1 a0 (wrap64 (x1_1 + 2)) (wrap64 (x5_1 - 1)))) = some r := by rw [if_pos rfl] at H; exact H
           clear H
           have H := H1
           clear H1
           by_cases c23 : (wrap64 (x5_1 - 1)) = 0
           ·rw [if_pos c23] at H
            have c23b0 : ((wrap64 (x5_1 - 1)) == 0) = true := beq_iff_eq.mpr c23
            have c23b1 : ((wrap64 (x5_1 - 1)) != 0) = false := bne_eq_false_iff_eq.mpr c23
            clear c23
            obtain rfl := Option.some.inj H
            go_wp2_with (first | ((with_reducible refine gate_callee (f := 133) rfl ?_); refine goesL_ (some 37) rfl rfl Tryz.func133 (by kernel_rfl) rfl #[.string (a0.extract (x1_1 : Int).toNat a0.size), .string (⟨#[47, 42]⟩ : ByteArray)] rfl (by (try simp only [List.map_toArray, List.map_cons, List.map_nil]); first | done | rfl | (simp only [List.length_drop, List.length_take]; rfl)) ?_; (with_reducible refine (strings_HasPrefix.calls (a0.extract (x1_1 : Int).toNat a0.size) (⟨#[47, 42]⟩ : ByteArray) false _ A16.out).mono ?_); rintro e w' ⟨rfl, ⟨nd, rfl⟩⟩; refine ⟨_, rfl, ?_⟩) | ((with_reducible refine gate_callee (f := 133) rfl ?_); refine goesL_ (some 46) rfl rfl Tryz.func133 (by kernel_rfl) rfl #[.string (a0.extract (x1_1 : Int).toNat a0.size), .string (⟨#[42, 47]⟩ : ByteArray)] rfl (by (try simp only [List.map_toArray, List.map_cons, List.map_nil]); first | done | rfl | (simp only [List.length_drop, List.length_take]; rfl)) ?_; (with_reducible refine (strings_HasPrefix.calls (a0.extract (x1_1 : Int).toNat a0.size) (⟨#[42, 47]⟩ : ByteArray) true _ A21.out).mono ?_); rintro e w' ⟨rfl, ⟨nd, rfl⟩⟩; refine ⟨_, rfl, ?_⟩))
            go_ret
            exact ⟨by first | rfl | (simp [errW_none, errW_some] <;> rfl) | (simp [*, errW_none, errW_some] <;> rfl) | (simp [errW_none, errW_some]; exact Go.Proofs.YtlabfjaddgakkaaGreatW.OwnWords.isEmpty_bne _), bSt_⟩
           ·rw [if_neg c23] at H
            have c23b0 : ((wrap64 (x5_1 - 1)) == 0) = false := beq_eq_false_iff_ne.mpr c23
            have c23b1 : ((wrap64 (x5_1 - 1)) != 0) = true := bne_iff_ne.mpr c23
            have H' := Aside0.mk H
            clear H
            go_wp2_with (first | ((with_reducible refine gate_callee (f := 133) rfl ?_); refine goesL_ (some 37) rfl rfl Tryz.func133 (by kernel_rfl) rfl #[.string (a0.extract (x1_1 : Int).toNat a0.size), .string (⟨#[47, 42]⟩ : ByteArray)] rfl (by (try simp only [List.map_toArray, List.map_cons, List.map_nil]); first | done | rfl | (simp only [List.length_drop, List.length_take]; rfl)) ?_; (with_reducible refine (strings_HasPrefix.calls (a0.extract (x1_1 : Int).toNat a0.size) (⟨#[47, 42]⟩ : ByteArray) false _ A16.out).mono ?_); rintro e w' ⟨rfl, ⟨nd, rfl⟩⟩; refine ⟨_, rfl, ?_⟩) | ((with_reducible refine gate_callee (f := 133) rfl ?_); refine goesL_ (some 46) rfl rfl Tryz.func133 (by kernel_rfl) rfl #[.string (a0.extract (x1_1 : Int).toNat a0.size), .string (⟨#[42, 47]⟩ : ByteArray)] rfl (by (try simp only [List.map_toArray, List.map_cons, List.map_nil]); first | done | rfl | (simp only [List.length_drop, List.length_take]; rfl)) ?_; (with_reducible refine (strings_HasPrefix.calls (a0.extract (x1_1 : Int).toNat a0.size) (⟨#[42, 47]⟩ : ByteArray) true _ A21.out).mono ?_); rintro e w' ⟨rfl, ⟨nd, rfl⟩⟩; refine ⟨_, rfl, ?_⟩))
            go_roundg k1
            case measure => have := HK1.out; omega
            case rel => exact ⟨(wrap64 (x1_1 + 2)), (wrap64 (x5_1 - 1)), (by first | rfl | (simp; done) | (simp [*]; done)), (by first | rfl | (simp; done) | (simp [*]; done)), H', ⟨by have := HK1.out; omega⟩, ⟨bSt_⟩⟩
          ·replace c22 := Bool.eq_false_iff.mpr c22
           subst c22
           have H1 : (if x5_1 = 0 then (some (wrap64 (x1_1 + 1))) else (token_remark.l1 k1 a0 (wrap64 (x1_1 + 1)) x5_1)) = some r := by rw [if_neg (show ¬ (false = true) by decide)] at H; exact H
           clear H
           have H := H1
           clear H1
           by_cases c24 : x5_1 = 0
           ·rw [if_pos c24] at H
            have c24b0 : (x5_1 == 0) = true := beq_iff_eq.mpr c24
            have c24b1 : (x5_1 != 0) = false := bne_eq_false_iff_eq.mpr c24
            clear c24
            obtain rfl := Option.some.inj H
            go_wp2_with (first | ((with_reducible refine gate_callee (f := 133) rfl ?_); refine goesL_ (some 37) rfl rfl Tryz.func133 (by kernel_rfl) rfl #[.string (a0.extract (x1_1 : Int).toNat a0.size), .string (⟨#[47, 42]⟩ : ByteArray)] rfl (by (try simp only [List.map_toArray, List.map_cons, List.map_nil]); first | done | rfl | (simp only [List.length_drop, List.length_take]; rfl)) ?_; (with_reducible refine (strings_HasPrefix.calls (a0.extract (x1_1 : Int).toNat a0.size) (⟨#[47, 42]⟩ : ByteArray) false _ A16.out).mono ?_); rintro e w' ⟨rfl, ⟨nd, rfl⟩⟩; refine ⟨_, rfl, ?_⟩) | ((with_reducible refine gate_callee (f := 133) rfl ?_); refine goesL_ (some 46) rfl rfl Tryz.func133 (by kernel_rfl) rfl #[.string (a0.extract (x1_1 : Int).toNat a0.size), .string (⟨#[42, 47]⟩ : ByteArray)] rfl (by (try simp only [List.map_toArray, List.map_cons, List.map_nil]); first | done | rfl | (simp only [List.length_drop, List.length_take]; rfl)) ?_; (with_reducible refine (strings_HasPrefix.calls (a0.extract (x1_1 : Int).toNat a0.size) (⟨#[42, 47]⟩ : ByteArray) false _ A21.out).mono ?_); rintro e w' ⟨rfl, ⟨nd, rfl⟩⟩; refine ⟨_, rfl, ?_⟩))
            go_ret
            exact ⟨by first | rfl | (simp [errW_none, errW_some] <;> rfl) | (simp [*, errW_none, errW_some] <;> rfl) | (simp [errW_none, errW_some]; exact Go.Proofs.YtlabfjaddgakkaaGreatW.OwnWords.isEmpty_bne _), bSt_⟩
           ·rw [if_neg c24] at H
            have c24b0 : (x5_1 == 0) = false := beq_eq_false_iff_ne.mpr c24
            have c24b1 : (x5_1 != 0) = true := bne_iff_ne.mpr c24
            have H' := Aside0.mk H
            clear H
            go_wp2_with (first | ((with_reducible refine gate_callee (f := 133) rfl ?_); refine goesL_ (some 37) rfl rfl Tryz.func133 (by kernel_rfl) rfl #[.string (a0.extract (x1_1 : Int).toNat a0.size), .string (⟨#[47, 42]⟩ : ByteArray)] rfl (by (try simp only [List.map_toArray, List.map_cons, List.map_nil]); first | done | rfl | (simp only [List.length_drop, List.length_take]; rfl)) ?_; (with_reducible refine (strings_HasPrefix.calls (a0.extract (x1_1 : Int).toNat a0.size) (⟨#[47, 42]⟩ : ByteArray) false _ A16.out).mono ?_); rintro e w' ⟨rfl, ⟨nd, rfl⟩⟩; refine ⟨_, rfl, ?_⟩) | ((with_reducible refine gate_callee (f := 133) rfl ?_); refine goesL_ (some 46) rfl rfl Tryz.func133 (by kernel_rfl) rfl #[.string (a0.extract (x1_1 : Int).toNat a0.size), .string (⟨#[42, 47]⟩ : ByteArray)] rfl (by (try simp only [List.map_toArray, List.map_cons, List.map_nil]); first | done | rfl | (simp only [List.length_drop, List.length_take]; rfl)) ?_; (with_reducible refine (strings_HasPrefix.calls (a0.extract (x1_1 : Int).toNat a0.size) (⟨#[42, 47]⟩ : ByteArray) false _ A21.out).mono ?_); rintro e w' ⟨rfl, ⟨nd, rfl⟩⟩; refine ⟨_, rfl, ?_⟩))
            go_roundg k1
            case measure => have := HK1.out; omega
            case rel => exact ⟨(wrap64 (x1_1 + 1)), (x5_1), (by first | rfl | (simp; done) | (simp [*]; done)), (by first | rfl | (simp; done) | (simp [*]; done)), H', ⟨by have := HK1.out; omega⟩, ⟨bSt_⟩⟩
        ·rw [if_neg c15] at H
         exact absurd H (by simp)
       ·rw [if_neg c14] at H
        exact absurd H (by simp)
      ·rw [if_neg c13] at H
       have c13b0 : decide (x1_1 < (a0.size : Int)) = false := decide_eq_false c13
       clear c13
       obtain rfl := Option.some.inj H
       go_wp2
       go_ret
       exact ⟨by first | rfl | (simp [errW_none, errW_some] <;> rfl) | (simp [*, errW_none, errW_some] <;> rfl) | (simp [errW_none, errW_some]; exact Go.Proofs.YtlabfjaddgakkaaGreatW.OwnWords.isEmpty_bne _), bSt_⟩
  ·rw [if_neg c4] at H
   exact absurd H (by simp)
 ·rw [if_neg c3] at H
  exact absurd H (by simp)

end Go.Proofs.YtlabfjaddgakkaaGreat.Q
end
section
namespace Go.Proofs.YtlabfjaddgakkaaGreat.Q
open Go.RowKit Go.Proofs.YtlabfjaddgakkaaGreatW.PrintWords Go.Proofs.YtlabfjaddgakkaaGreatW.PrintLast Go.Proofs.YtlabfjaddgakkaaGreatW.PrintMore Go.Proofs.YtlabfjaddgakkaaGreatW.OwnWords
attribute [local go_sem] Go.Proofs.YtlabfjaddgakkaaGreatW.OwnWords.isSome_setCell max2_int min2_int max_two min_two max_three min_three max_four min_four
set_option linter.unusedVariables false
set_option linter.unusedSimpArgs false

/-! ### token_skip: function 107 -/
mutual
def token_skip.l0 : Nat → ByteArray → Int → Option (Int × Bool)
 | 0, _, _ => none
 | k + 1, x0, x1 => if x1 < (x0.size : Int) then (if 0 ≤ x1 then (if (bt x0 x1) = 32 then (token_skip.j1 k x0 x1 true) else (if (bt x0 x1) = 9 then (token_skip.j1 k x0 x1 true) else (if (bt x0 x1) = 10 then (token_skip.j1 k x0 x1 true) else (token_skip.j1 k x0 x1 ((bt x0 x1) == 13))))) else (none)) else (some (x1, true))
def token_skip.j1 : Nat → ByteArray → Int → Bool → Option (Int × Bool)
 | 0, _, _, _ => none
 | k + 1, x0, x1, x12 => if x12 = true then (token_skip.l0 k x0 (wrap64 (x1 + 1))) else (if 0 ≤ x1 then (if x1 < (x0.size : Int) then (if (bt x0 x1) = 37 then (token_skip.j2 k x0 x1 true) else (if x1 ≤ (x0.size : Int) then ((strings_HasPrefix.f (x0.extract (x1 : Int).toNat x0.size) (⟨#[47, 42]⟩ : ByteArray)).bind fun t104 => (token_skip.j2 k x0 x1 t104)) else (none))) else (none)) else (none))
def token_skip.j2 : Nat → ByteArray → Int → Bool → Option (Int × Bool)
 | 0, _, _, _ => none
 | k + 1, x0, x1, x37 => if x37 = true then ((token_remark.f k x0 x1).bind fun t105 => (if t105 < 0 then (some (x1, false)) else (token_skip.l0 k x0 t105))) else (some (x1, true))
end
def token_skip.f (k : Nat) (a0 : ByteArray) (a1 : Int) : Option (Int × Bool) := token_skip.l0 k a0 a1
theorem token_skip.mono_l : ∀ k, (∀ y0 y1, LeO (token_skip.l0 k y0 y1) (token_skip.l0 (k + 1) y0 y1)) ∧ (∀ y0 y1 y2, LeO (token_skip.j1 k y0 y1 y2) (token_skip.j1 (k + 1) y0 y1 y2)) ∧ (∀ y0 y1 y2, LeO (token_skip.j2 k y0 y1 y2) (token_skip.j2 (k + 1) y0 y1 y2))
 | 0 => ⟨fun _ _ r h => by simp [token_skip.l0] at h, fun _ _ _ r h => by simp [token_skip.j1] at h, fun _ _ _ r h => by simp [token_skip.j2] at h⟩
 | k + 1 => by
  obtain ⟨ih0, ih1, ih2⟩ := token_skip.mono_l k
  refine ⟨?_, ?_, ?_⟩
  ·intro y0 y1
   unfold token_skip.l0
   repeat' first
   | (with_reducible exact ih0 _ _)
   | (with_reducible exact ih1 _ _ _)
   | (with_reducible exact ih2 _ _ _)
   | (with_reducible exact token_remark.mono _ _ _)
   | (with_reducible exact LeO.refl _)
   | (with_reducible exact LeO.none _)
   | (with_reducible refine LeO.ite ?_ ?_)
   | (with_reducible refine LeO.bind ?_ (fun _ => ?_))
   | exact ih0 _ _
   | exact ih1 _ _ _
   | exact ih2 _ _ _
   | exact token_remark.mono _ _ _
   | exact LeO.none _
   | refine LeO.ite ?_ ?_
   | refine LeO.bind ?_ (fun _ => ?_)
  ·intro y0 y1 y2
   unfold token_skip.j1
   repeat' first
   | (with_reducible exact ih0 _ _)
   | (with_reducible exact ih1 _ _ _)
   | (with_reducible exact ih2 _ _ _)
   | (with_reducible exact token_remark.mono _ _ _)
   | (with_reducible exact LeO.refl _)
   | (with_reducible exact LeO.none _)
   | (with_reducible refine LeO.ite ?_ ?_)
   | (with_reducible refine LeO.bind ?_ (fun _ => ?_))
   | exact ih0 _ _
   | exact ih1 _ _ _
   | exact ih2 _ _ _
   | exact token_remark.mono _ _ _
   | exact LeO.none _
   | refine LeO.ite ?_ ?_
   | refine LeO.bind ?_ (fun _ => ?_)
  ·intro y0 y1 y2
   unfold token_skip.j2
   repeat' first
   | (with_reducible exact ih0 _ _)
   | (with_reducible exact ih1 _ _ _)
   | (with_reducible exact ih2 _ _ _)
   | (with_reducible exact token_remark.mono _ _ _)
   | (with_reducible exact LeO.refl _)
   | (with_reducible exact LeO.none _)
   | (with_reducible refine LeO.ite ?_ ?_)
   | (with_reducible refine LeO.bind ?_ (fun _ => ?_))
   | exact ih0 _ _
   | exact ih1 _ _ _
   | exact ih2 _ _ _
   | exact token_remark.mono _ _ _
   | exact LeO.none _
   | refine LeO.ite ?_ ?_
   | refine LeO.bind ?_ (fun _ => ?_)
theorem token_skip.mono : ∀ a0 a1 k, LeO (token_skip.f k a0 a1) (token_skip.f (k + 1) a0 a1) := by
 intro a0 a1 k
 obtain ⟨ih0, ih1, ih2⟩ := token_skip.mono_l k
 unfold token_skip.f
 repeat' first
   | (with_reducible exact ih0 _ _)
   | (with_reducible exact ih1 _ _ _)
   | (with_reducible exact ih2 _ _ _)
   | (with_reducible exact token_remark.mono _ _ _)
   | (with_reducible exact LeO.refl _)
   | (with_reducible exact LeO.none _)
   | (with_reducible refine LeO.ite ?_ ?_)
   | (with_reducible refine LeO.bind ?_ (fun _ => ?_))
   | exact ih0 _ _
   | exact ih1 _ _ _
   | exact ih2 _ _ _
   | exact token_remark.mono _ _ _
   | exact LeO.none _
   | refine LeO.ite ?_ ?_
   | refine LeO.bind ?_ (fun _ => ?_)
set_option maxHeartbeats 8000000 in
set_option maxRecDepth 100000 in
theorem token_skip.calls (k : Nat) (a0 : ByteArray) (a1 : Int) (r1 : Int) (r2 : Bool) (w : World) (h : token_skip.f k a0 a1 = some (r1, r2)) :
  Calls Tryz.prog 107 #[.string a0, .int .i64 a1] w fun e w' => e = .returned (.tuple #[.int .i64 r1, .bool r2]) ∧ Below w.heap.size w w' := by
 have HB := Aside0.mk (Below.refl w.heap.size w)
 have H : (token_skip.l0 k a0 a1) = some (r1, r2) := h
 clear h
 have H' := Aside0.mk H
 clear H
 go_enter Tryz.func107, Tryz.ntmps107
 go_wp2
 go_loopg [1] k (fun kq v1 w' => ∃ (x1_1 : Int), v1 = .int .i64 x1_1 ∧ Aside0 (token_skip.l0 kq a0 x1_1 = some (r1, r2)) ∧ Aside0 (kq ≤ k) ∧ Aside0 (Below w.heap.size w w'))
 case atStart => exact ⟨(a1), (by first | rfl | (simp; done) | (simp [*]; done)), H', ⟨Nat.le_refl _⟩, ⟨bSt_⟩⟩
 case round =>
  clear H'
  try clear c1
  try clear p2
  obtain ⟨x1_1, rfl, HA, HK1, HB⟩ := hrel
  cases gk with
  | zero => exact absurd HA.out (by simp [token_skip.l0])
  | succ k1 =>
   have H := HA.out
   clear HA
   simp only [token_skip.l0] at H
   by_cases c3 : x1_1 < (a0.size : Int)
   ·rw [if_pos c3] at H
    have c3b0 : decide (x1_1 < (a0.size : Int)) = true := decide_eq_true c3
    clear c3
    have HC4 := Aside0.mk H
    clear H
    go_upto_region 3 with (fail)
    go_cut [12] (fun v12 wc => ∃ (kq : Nat) (x12_3 : Bool), v12 = .bool x12_3 ∧ Aside0 (token_skip.j1 kq a0 x1_1 x12_3 = some (r1, r2)) ∧ Aside0 (kq ≤ k1) ∧ Aside0 (Below w.heap.size w wc))
    case first =>
     have H := HC4.out
     clear HC4
     by_cases c5 : 0 ≤ x1_1
     ·rw [if_pos c5] at H
      have c5b0 : decide (0 ≤ x1_1) = true := decide_eq_true c5
      clear c5
      (first | rw [c5b0] | (simp only [i64_w, i32_w]; rw [c5b0]) | skip)
      by_cases c7 : (bt a0 x1_1) = 32
      ·rw [if_pos c7] at H
       have c7b0 : ((bt a0 x1_1) == 32) = true := beq_iff_eq.mpr c7
       have c7b1 : ((bt a0 x1_1) != 32) = false := bne_eq_false_iff_eq.mpr c7
       clear c7
       have H' := Aside0.mk H
       clear H
       have p6 : 0 ≤ (x1_1 : Int) := of_decide_eq_true (by first | (with_reducible assumption) | assumption)
       have q6 : x1_1 < (a0.size : Int) := of_decide_eq_true (by first | (with_reducible assumption) | assumption)
       have hx6 := bt_at a0 x1_1
       replace p6 := eq_true p6
       replace q6 := eq_true q6
       go_wp2
       go_meet
       case rel => exact ⟨_, (true), (by first | rfl | (simp; done) | (simp [*]; done)), H', ⟨by have := HK1.out; first | omega | exact Nat.le_refl _⟩, ⟨bSt_⟩⟩
      ·rw [if_neg c7] at H
       have c7b0 : ((bt a0 x1_1) == 32) = false := beq_eq_false_iff_ne.mpr c7
       have c7b1 : ((bt a0 x1_1) != 32) = true := bne_iff_ne.mpr c7
       by_cases c9 : (bt a0 x1_1) = 9
       ·rw [if_pos c9] at H
        have c9b0 : ((bt a0 x1_1) == 9) = true := beq_iff_eq.mpr c9
        have c9b1 : ((bt a0 x1_1) != 9) = false := bne_eq_false_iff_eq.mpr c9
        clear c9
        have H' := Aside0.mk H
        clear H
        have p6 : 0 ≤ (x1_1 : Int) := of_decide_eq_true (by first | (with_reducible assumption) | assumption)
        have q6 : x1_1 < (a0.size : Int) := of_decide_eq_true (by first | (with_reducible assumption) | assumption)
        have hx6 := bt_at a0 x1_1
        replace p6 := eq_true p6
        replace q6 := eq_true q6
        have p8 : 0 ≤ (x1_1 : Int) := of_decide_eq_true (by first | (with_reducible assumption) | assumption)
        have q8 : x1_1 < (a0.size : Int) := of_decide_eq_true (by first | (with_reducible assumption) | assumption)
        have hx8 := bt_at a0 x1_1
        replace p8 := eq_true p8
        replace q8 := eq_true q8
        go_wp2
        go_meet
        case rel => exact ⟨_, (true), (by first | rfl | (simp; done) | (simp [*]; done)), H', ⟨by have := HK1.out; first | omega | exact Nat.le_refl _⟩, ⟨bSt_⟩⟩
       ·rw [if_neg c9] at H
        have c9b0 : ((bt a0 x1_1) == 9) = false := beq_eq_false_iff_ne.mpr c9
        have c9b1 : ((bt a0 x1_1) != 9) = true := bne_iff_ne.mpr c9
        by_cases c11 : (bt a0 x1_1) = 10
        ·rw [if_pos c11] at H
         have c11b0 : ((bt a0 x1_1) == 10) = true := beq_iff_eq.mpr c11
         have c11b1 : ((bt a0 x1_1) != 10) = false := bne_eq_false_iff_eq.mpr c11
         clear c11
         have H' := Aside0.mk H
         clear H
         have p6 : 0 ≤ (x1_1 : Int) := of_decide_eq_true (by first | (with_reducible assumption) | assumption)
         have q6 : x1_1 < (a0.size : Int) := of_decide_eq_true (by first | (with_reducible assumption) | assumption)
         have hx6 := bt_at a0 x1_1
         replace p6 := eq_true p6
         replace q6 := eq_true q6
         have p8 : 0 ≤ (x1_1 : Int) := of_decide_eq_true (by first | (with_reducible assumption) | assumption)
         have q8 : x1_1 < (a0.size : Int) := of_decide_eq_true (by first | (with_reducible assumption) | assumption)
         have hx8 := bt_at a0 x1_1
         replace p8 := eq_true p8
         replace q8 := eq_true q8
         have p10 : 0 ≤ (x1_1 : Int) := of_decide_eq_true (by first | (with_reducible assumption) | assumption)
         have q10 : x1_1 < (a0.size : Int) := of_decide_eq_true (by first | (with_reducible assumption) | assumption)
         have hx10 := bt_at a0 x1_1
         replace p10 := eq_true p10
         replace q10 := eq_true q10
         go_wp2
         go_meet
         case rel => exact ⟨_, (true), (by first | rfl | (simp; done) | (simp [*]; done)), H', ⟨by have := HK1.out; first | omega | exact Nat.le_refl _⟩, ⟨bSt_⟩⟩
        ·rw [if_neg c11] at H
         have c11b0 : ((bt a0 x1_1) == 10) = false := beq_eq_false_iff_ne.mpr c11
         have c11b1 : ((bt a0 x1_1) != 10) = true := bne_iff_ne.mpr c11
         have H' := Aside0.mk H
         clear H
         have p6 : 0 ≤ (x1_1 : Int) := of_decide_eq_true (by first | (with_reducible assumption) | assumption)
         have q6 : x1_1 < (a0.size : Int) := of_decide_eq_true (by first | (with_reducible assumption) | assumption)
         have hx6 := bt_at a0 x1_1
         replace p6 := eq_true p6
         replace q6 := eq_true q6
         have p8 : 0 ≤ (x1_1 : Int) := of_decide_eq_true (by first | (with_reducible assumption) | assumption)
         have q8 : x1_1 < (a0.size : Int) := of_decide_eq_true (by first | (with_reducible assumption) | assumption)
         have hx8 := bt_at a0 x1_1
         replace p8 := eq_true p8
         replace q8 := eq_true q8
         have p10 : 0 ≤ (x1_1 : Int) := of_decide_eq_true (by first | (with_reducible assumption) | assumption)
         have q10 : x1_1 < (a0.size : Int) := of_decide_eq_true (by first | (with_reducible assumption) | assumption)
         have hx10 := bt_at a0 x1_1
         replace p10 := eq_true p10
         replace q10 := eq_true q10
         have p12 : 0 ≤ (x1_1 : Int) := of_decide_eq_true (by first | (with_reducible assumption) | assumption)
         have q12 : x1_1 < (a0.size : Int) := of_decide_eq_true (by first | (with_reducible assumption) | assumption)
         have hx12 := bt_at a0 x1_1
         replace p12 := eq_true p12
         replace q12 := eq_true q12
         go_wp2
         go_meet
         case rel => exact ⟨_, (((bt a0 x1_1) == 13)), (by first | rfl | (simp; done) | (simp [*]; done)), H', ⟨by have := HK1.out; first | omega | exact Nat.le_refl _⟩, ⟨bSt_⟩⟩
     ·rw [if_neg c5] at H
      exact absurd H (by simp)
    case rest =>
     clear HC4
     try clear c1
     try clear p1
     try clear q1
     try clear hx1
     try clear p2
     try clear c3
     try clear c3b0
     try clear c5
     try clear c5b0
     try clear p6
     try clear q6
     try clear hx6
     try clear c7
     try clear c7b0
     try clear c7b1
     try clear p8
     try clear q8
     try clear hx8
     try clear c9
     try clear c9b0
     try clear c9b1
     try clear c10
     try clear p10
     try clear q10
     try clear hx10
     try clear c11
     try clear c11b0
     try clear c11b1
     try clear p12
     try clear q12
     try clear hx12
     try clear p10
     try clear p12
     try clear p2
     try clear p6
     try clear p8
     try clear q10
     try clear q12
     try clear q6
     try clear q8
     obtain ⟨kq, x12_3, rfl, HA, HJ3, HB⟩ := hcut
     cases kq with
     | zero => exact absurd HA.out (by simp [token_skip.j1])
     | succ kj3 =>
      have H := HA.out
      clear HA
      simp only [token_skip.j1] at H
      by_cases c13 : x12_3 = true
      ·subst c13
       have H1 : (token_skip.l0 kj3 a0 (wrap64 (x1_1 + 1))) = some (r1, r2) := by rw [if_pos rfl] at H; exact H
       clear H
       have H := H1
       clear H1
       have H' := Aside0.mk H
       clear H
       go_wp2
       go_roundg kj3
       case measure => have := HK1.out; have := HJ3.out; omega
       case rel => exact ⟨(wrap64 (x1_1 + 1)), (by first | rfl | (simp; done) | (simp [*]; done)), H', ⟨by have := HK1.out; have := HJ3.out; omega⟩, ⟨bSt_⟩⟩
      ·replace c13 := Bool.eq_false_iff.mpr c13
       subst c13
       have H1 : (if 0 ≤ x1_1 then (if x1_1 < (a0.size : Int) then (if (bt a0 x1_1) = 37 then (token_skip.j2 kj3 a0 x1_1 true) else (if x1_1 ≤ (a0.size : Int) then ((strings_HasPrefix.f (a0.extract (x1_1 : Int).toNat a0.size) (⟨#[47, 42]⟩ : ByteArray)).bind fun t104 => (token_skip.j2 kj3 a0 x1_1 t104)) else (none))) else (none)) else (none)) = some (r1, r2) := by rw [if_neg (show ¬ (false = true) by decide)] at H; exact H
       clear H
       have H := H1
       clear H1
       have HC14 := Aside0.mk H
       clear H
       go_upto_region 5 with (fail)
       go_cut [37] (fun v37 wc => ∃ (kq : Nat) (x37_13 : Bool), v37 = .bool x37_13 ∧ Aside0 (token_skip.j2 kq a0 x1_1 x37_13 = some (r1, r2)) ∧ Aside0 (kq ≤ kj3) ∧ Aside0 (Below w.heap.size w wc))
       case first =>
        have H := HC14.out
        clear HC14
        by_cases c15 : 0 ≤ x1_1
        ·rw [if_pos c15] at H
         have c15b0 : decide (0 ≤ x1_1) = true := decide_eq_true c15
         clear c15
         (first | rw [c15b0] | (simp only [i64_w, i32_w]; rw [c15b0]) | skip)
         by_cases c16 : x1_1 < (a0.size : Int)
         ·rw [if_pos c16] at H
          have c16b0 : decide (x1_1 < (a0.size : Int)) = true := decide_eq_true c16
          clear c16
          by_cases c18 : (bt a0 x1_1) = 37
          ·rw [if_pos c18] at H
           have c18b0 : ((bt a0 x1_1) == 37) = true := beq_iff_eq.mpr c18
           have c18b1 : ((bt a0 x1_1) != 37) = false := bne_eq_false_iff_eq.mpr c18
           clear c18
           have H' := Aside0.mk H
           clear H
           have p17 : 0 ≤ (x1_1 : Int) := of_decide_eq_true (by first | (with_reducible assumption) | assumption)
           have q17 : x1_1 < (a0.size : Int) := of_decide_eq_true (by first | (with_reducible assumption) | assumption)
           have hx17 := bt_at a0 x1_1
           replace p17 := eq_true p17
           replace q17 := eq_true q17
           go_wp2
           go_meet
           case rel => exact ⟨_, (true), (by first | rfl | (simp; done) | (simp [*]; done)), H', ⟨by have := HK1.out; have := HJ3.out; first | omega | exact Nat.le_refl _⟩, ⟨bSt_⟩⟩
          ·rw [if_neg c18] at H
           have c18b0 : ((bt a0 x1_1) == 37) = false := beq_eq_false_iff_ne.mpr c18
           have c18b1 : ((bt a0 x1_1) != 37) = true := bne_iff_ne.mpr c18
           have c19b0 := eq_true (of_decide_eq_true (by first | (with_reducible assumption) | assumption) : 0 ≤ x1_1)
           by_cases c20 : x1_1 ≤ (a0.size : Int)
           ·rw [if_pos c20] at H
            have c20b0 := eq_true c20
            have c20b1 : decide (x1_1 ≤ (a0.size : Int)) = true := decide_eq_true c20
            clear c20
            replace H := Option.bind_eq_some_iff.mp H
            obtain ⟨t104, A210, H⟩ := H
            replace H : (token_skip.j2 kj3 a0 x1_1 t104) = some (r1, r2) := H
            have A21 := Aside0.mk A210
            clear A210
            have H' := Aside0.mk H
            clear H
            have p17 : 0 ≤ (x1_1 : Int) := of_decide_eq_true (by first | (with_reducible assumption) | assumption)
            have q17 : x1_1 < (a0.size : Int) := of_decide_eq_true (by first | (with_reducible assumption) | assumption)
            have hx17 := bt_at a0 x1_1
            replace p17 := eq_true p17
            replace q17 := eq_true q17
            go_wp2_with (first | (go_at_call 133; (with_reducible refine (strings_HasPrefix.calls (a0.extract (x1_1 : Int).toNat a0.size) (⟨#[47, 42]⟩ : ByteArray) t104 _ A21.out).mono ?_); rintro e w' ⟨rfl, ⟨nd, rfl⟩⟩))
            go_meet
            case rel => exact ⟨_, (t104), (by first | rfl | (simp; done) | (simp [*]; done)), H', ⟨by have := HK1.out; have := HJ3.out; first | omega | exact Nat.le_refl _⟩, ⟨bSt_⟩⟩
           ·rw [if_neg c20] at H
            exact absurd H (by simp)
         ·rw [if_neg c16] at H
          exact absurd H (by simp)
        ·rw [if_neg c15] at H
         exact absurd H (by simp)
       case rest =>
        clear HC14
        try clear c1
        try clear p1
        try clear q1
        try clear hx1
        try clear c2
        try clear p2
        try clear c3
        try clear c3b0
        try clear c5
        try clear c5b0
        try clear p6
        try clear q6
        try clear hx6
        try clear c7
        try clear c7b0
        try clear c7b1
        try clear p8
        try clear q8
        try clear hx8
        try clear c9
        try clear c9b0
        try clear c9b1
        try clear c10
        try clear p10
        try clear q10
        try clear hx10
        try clear c11
        try clear c11b0
        try clear c11b1
        try clear p12
        try clear q12
        try clear hx12
        try clear c13
        try clear c15
        try clear c15b0
        try clear c16
        try clear c16b0
        try clear p17
        try clear q17
        try clear hx17
        try clear c18
        try clear c18b0
        try clear c18b1
        try clear c19
        try clear c19b0
        try clear c20
        try clear c20b0
        try clear c20b1
        try clear p1
        try clear p10
        try clear p12
        try clear p17
        try clear p2
        try clear p6
        try clear p8
        try clear q1
        try clear q10
        try clear q12
        try clear q17
        try clear q6
        try clear q8
        obtain ⟨kq, x37_13, rfl, HA, HJ13, HB⟩ := hcut
        cases kq with
        | zero => exact absurd HA.out (by simp [token_skip.j2])
        | succ kj13 =>
         have H := HA.out
         clear HA
         simp only [token_skip.j2] at H
         by_cases c22 : x37_13 = true
         ·subst c22
          have H1 : ((token_remark.f kj13 a0 x1_1).bind fun t105 => (if t105 < 0 then (some (x1_1, false)) else (token_skip.l0 kj13 a0 t105))) = some (r1, r2) := by rw [if_pos rfl] at H; exact H
          clear H
          have H := H1
          clear H1
          replace H := Option.bind_eq_some_iff.mp H
          obtain ⟨t105, A230, H⟩ := H
          replace H : (if t105 < 0 then (some (x1_1, false)) else (token_skip.l0 kj13 a0 t105)) = some (r1, r2) := H
          have A23 := Aside0.mk A230
          clear A230
          by_cases c24 : t105 < 0
          ·rw [if_pos c24] at H
           have c24b0 : decide (t105 < 0) = true := decide_eq_true c24
           clear c24
           simp only [Option.some.injEq, Prod.mk.injEq] at H
           obtain ⟨rfl, rfl⟩ := H
           go_wp2_with (first | ((with_reducible refine gate_callee (f := 134) rfl ?_); refine goesL_ (some 50) rfl rfl Tryz.func134 (by kernel_rfl) rfl #[.string a0, .int .i64 x1_1] rfl (by (try simp only [List.map_toArray, List.map_cons, List.map_nil]); first | done | rfl | (simp only [List.length_drop, List.length_take]; rfl)) ?_; (with_reducible refine (token_remark.calls kj13 a0 x1_1 t105 _ A23.out).mono ?_); rintro e w25 ⟨rfl, hb⟩; refine ⟨_, rfl, ?_⟩; have n0_ := Aside0.mk (below_step bSt_ hb); clear HB; have HB := n0_; clear n0_; (try clear hb); (try clear hb2); (try clear hk); (try clear hi)))
           go_ret2
           exact ⟨by first | rfl | (simp [errW_none, errW_some] <;> rfl) | (simp [*, errW_none, errW_some] <;> rfl) | (simp [errW_none, errW_some]; exact Go.Proofs.YtlabfjaddgakkaaGreatW.OwnWords.isEmpty_bne _), bSt_⟩
          ·rw [if_neg c24] at H
           have c24b0 : decide (t105 < 0) = false := decide_eq_false c24
           clear c24
           have H' := Aside0.mk H
           clear H
           go_wp2_with (first | ((with_reducible refine gate_callee (f := 134) rfl ?_); refine goesL_ (some 50) rfl rfl Tryz.func134 (by kernel_rfl) rfl #[.string a0, .int .i64 x1_1] rfl (by (try simp only [List.map_toArray, List.map_cons, List.map_nil]); first | done | rfl | (simp only [List.length_drop, List.length_take]; rfl)) ?_; (with_reducible refine (token_remark.calls kj13 a0 x1_1 t105 _ A23.out).mono ?_); rintro e w26 ⟨rfl, hb⟩; refine ⟨_, rfl, ?_⟩; have n0_ := Aside0.mk (below_step bSt_ hb); clear HB; have HB := n0_; clear n0_; (try clear hb); (try clear hb2); (try clear hk); (try clear hi)))
           go_roundg kj13
           case measure => have := HK1.out; have := HJ3.out; have := HJ13.out; omega
           case rel => exact ⟨(t105), (by first | rfl | (simp; done) | (simp [*]; done)), H', ⟨by have := HK1.out; have := HJ3.out; have := HJ13.out; omega⟩, ⟨bSt_⟩⟩
         ·replace c22 := Bool.eq_false_iff.mpr c22
          subst c22
          have H1 : (some (x1_1, true)) = some (r1, r2) := by rw [if_neg (show ¬ (false = true) by decide)] at H; exact H
          clear H
          have H := H1
          clear H1
          simp only [Option.some.injEq, Prod.mk.injEq] at H
          obtain ⟨rfl, rfl⟩ := H
          go_wp2
          go_ret2
          exact ⟨by first | rfl | (simp [errW_none, errW_some] <;> rfl) | (simp [*, errW_none, errW_some] <;> rfl) | (simp [errW_none, errW_some]; exact Go.Proofs.YtlabfjaddgakkaaGreatW.OwnWords.isEmpty_bne _), bSt_⟩
   ·rw [if_neg c3] at H
    have c3b0 : decide (x1_1 < (a0.size : Int)) = false := decide_eq_false c3
    clear c3
    simp only [Option.some.injEq, Prod.mk.injEq] at H
    obtain ⟨rfl, rfl⟩ := H
    go_wp2
    go_ret2
    exact ⟨by first | rfl | (simp [errW_none, errW_some] <;> rfl) | (simp [*, errW_none, errW_some] <;> rfl) | (simp [errW_none, errW_some]; exact Go.Proofs.YtlabfjaddgakkaaGreatW.OwnWords.isEmpty_bne _), bSt_⟩

end Go.Proofs.YtlabfjaddgakkaaGreat.Q
end
section
namespace Go.Proofs.YtlabfjaddgakkaaGreat.Q
open Go.RowKit Go.Proofs.YtlabfjaddgakkaaGreatW.PrintWords Go.Proofs.YtlabfjaddgakkaaGreatW.PrintLast Go.Proofs.YtlabfjaddgakkaaGreatW.PrintMore Go.Proofs.YtlabfjaddgakkaaGreatW.OwnWords
attribute [local go_sem] Go.Proofs.YtlabfjaddgakkaaGreatW.OwnWords.isSome_setCell max2_int min2_int max_two min_two max_three min_three max_four min_four
set_option linter.unusedVariables false
set_option linter.unusedSimpArgs false

/-! ### token_quoted: function 139 -/
mutual
def token_quoted.l0 : Nat → ByteArray → Int → Int → Int → List Int → Option (ByteArray × Int × Bool)
 | 0, _, _, _, _, _ => none
 | k + 1, x0, x1, x2, x9, x10 => if x1 < (x0.size : Int) then (if 0 ≤ x1 then (if (bt x0 x1) = x9 then (some (strOfNums x10, wrap64 (x1 + 1), decide ((x10.length : Int) ≤ x2))) else (if (bt x0 x1) = 92 then (if (wrap64 (x1 + 1)) = (x0.size : Int) then (some ((⟨#[]⟩ : ByteArray), 0, false)) else (if 0 ≤ (wrap64 (x1 + 1)) then (if (wrap64 (x1 + 1)) < (x0.size : Int) then (if (bt x0 (wrap64 (x1 + 1))) = x9 then (token_quoted.j1 k x0 (wrap64 (x1 + 1)) x2 x9 x10 (bt x0 (wrap64 (x1 + 1))) ((bt x0 (wrap64 (x1 + 1))) == x9)) else (token_quoted.j1 k x0 (wrap64 (x1 + 1)) x2 x9 x10 (bt x0 (wrap64 (x1 + 1))) ((bt x0 (wrap64 (x1 + 1))) == 92))) else (none)) else (none))) else (if (bt x0 x1) < 32 then (some ((⟨#[]⟩ : ByteArray), 0, false)) else (if (bt x0 x1) > 126 then (some ((⟨#[]⟩ : ByteArray), 0, false)) else (if x10.length < 140737488355328 then (token_quoted.l0 k x0 (wrap64 (x1 + 1)) x2 x9 (x10 ++ [bt x0 x1])) else (none)))))) else (none)) else (some ((⟨#[]⟩ : ByteArray), 0, false))
def token_quoted.j1 : Nat → ByteArray → Int → Int → Int → List Int → Int → Bool → Option (ByteArray × Int × Bool)
 | 0, _, _, _, _, _, _, _ => none
 | k + 1, x0, x1, x2, x9, x10, x53, x54 => if x54 = true then (if 0 ≤ x1 then (if x1 < (x0.size : Int) then (if x10.length < 140737488355328 then (token_quoted.l0 k x0 (wrap64 (x1 + 1)) x2 x9 (x10 ++ [bt x0 x1])) else (none)) else (none)) else (none)) else (if x53 = 110 then (if x10.length < 140737488355328 then (token_quoted.l0 k x0 (wrap64 (x1 + 1)) x2 x9 (x10 ++ [10])) else (none)) else (some ((⟨#[]⟩ : ByteArray), 0, false)))
end
def token_quoted.f (k : Nat) (a0 : ByteArray) (a1 : Int) (a2 : Int) : Option (ByteArray × Int × Bool) := if 0 ≤ a1 then (if a1 < (a0.size : Int) then (token_quoted.l0 k a0 (wrap64 (a1 + 1)) a2 (bt a0 a1) ([] : List Int)) else (none)) else (none)
theorem token_quoted.mono_l : ∀ k, (∀ y0 y1 y2 y3 y4, LeO (token_quoted.l0 k y0 y1 y2 y3 y4) (token_quoted.l0 (k + 1) y0 y1 y2 y3 y4)) ∧ (∀ y0 y1 y2 y3 y4 y5 y6, LeO (token_quoted.j1 k y0 y1 y2 y3 y4 y5 y6) (token_quoted.j1 (k + 1) y0 y1 y2 y3 y4 y5 y6))
 | 0 => ⟨fun _ _ _ _ _ r h => by simp [token_quoted.l0] at h, fun _ _ _ _ _ _ _ r h => by simp [token_quoted.j1] at h⟩
 | k + 1 => by
  obtain ⟨ih0, ih1⟩ := token_quoted.mono_l k
  refine ⟨?_, ?_⟩
  ·intro y0 y1 y2 y3 y4
   unfold token_quoted.l0
   repeat' first
   | (with_reducible exact ih0 _ _ _ _ _)
   | (with_reducible exact ih1 _ _ _ _ _ _ _)
   | (with_reducible exact LeO.refl _)
   | (with_reducible exact LeO.none _)
   | (with_reducible refine LeO.ite ?_ ?_)
   | (with_reducible refine LeO.bind ?_ (fun _ => ?_))
   | exact ih0 _ _ _ _ _
   | exact ih1 _ _ _ _ _ _ _
   | exact LeO.none _
   | refine LeO.ite ?_ ?_
   | refine LeO.bind ?_ (fun _ => ?_)
  ·intro y0 y1 y2 y3 y4 y5 y6
   unfold token_quoted.j1
   repeat' first
   | (with_reducible exact ih0 _ _ _ _ _)
   | (with_reducible exact ih1 _ _ _ _ _ _ _)
   | (with_reducible exact LeO.refl _)
   | (with_reducible exact LeO.none _)
   | (with_reducible refine LeO.ite ?_ ?_)
   | (with_reducible refine LeO.bind ?_ (fun _ => ?_))
   | exact ih0 _ _ _ _ _
   | exact ih1 _ _ _ _ _ _ _
   | exact LeO.none _
   | refine LeO.ite ?_ ?_
   | refine LeO.bind ?_ (fun _ => ?_)
theorem token_quoted.mono : ∀ a0 a1 a2 k, LeO (token_quoted.f k a0 a1 a2) (token_quoted.f (k + 1) a0 a1 a2) := by
 intro a0 a1 a2 k
 obtain ⟨ih0, ih1⟩ := token_quoted.mono_l k
 unfold token_quoted.f
 repeat' first
   | (with_reducible exact ih0 _ _ _ _ _)
   | (with_reducible exact ih1 _ _ _ _ _ _ _)
   | (with_reducible exact LeO.refl _)
   | (with_reducible exact LeO.none _)
   | (with_reducible refine LeO.ite ?_ ?_)
   | (with_reducible refine LeO.bind ?_ (fun _ => ?_))
   | exact ih0 _ _ _ _ _
   | exact ih1 _ _ _ _ _ _ _
   | exact LeO.none _
   | refine LeO.ite ?_ ?_
   | refine LeO.bind ?_ (fun _ => ?_)
set_option maxHeartbeats 8000000 in
set_option maxRecDepth 100000 in
theorem token_quoted.calls (k : Nat) (a0 : ByteArray) (a1 : Int) (a2 : Int) (r1 : ByteArray) (r2 : Int) (r3 : Bool) (w : World) (h : token_quoted.f k a0 a1 a2 = some (r1, r2, r3)) :
  Calls Tryz.prog 139 #[.string a0, .int .i64 a1, .int .i64 a2] w fun e w' => e = .returned (.tuple #[.string r1, .int .i64 r2, .bool r3]) ∧ Below w.heap.size w w' := by
 have HB := Aside0.mk (Below.refl w.heap.size w)
 have H : (if 0 ≤ a1 then (if a1 < (a0.size : Int) then (token_quoted.l0 k a0 (wrap64 (a1 + 1)) a2 (bt a0 a1) ([] : List Int)) else (none)) else (none)) = some (r1, r2, r3) := h
 clear h
 by_cases c4 : 0 ≤ a1
 ·rw [if_pos c4] at H
  have c4b0 : decide (0 ≤ a1) = true := decide_eq_true c4
  clear c4
  by_cases c5 : a1 < (a0.size : Int)
  ·rw [if_pos c5] at H
   have c5b0 : decide (a1 < (a0.size : Int)) = true := decide_eq_true c5
   clear c5
   have H' := Aside0.mk H
   clear H
   have p6 : 0 ≤ (a1 : Int) := of_decide_eq_true (by first | (with_reducible assumption) | assumption)
   have q6 : a1 < (a0.size : Int) := of_decide_eq_true (by first | (with_reducible assumption) | assumption)
   have hx6 := bt_at a0 a1
   replace p6 := eq_true p6
   replace q6 := eq_true q6
   go_enter Tryz.func139, Tryz.ntmps139
   go_wp2
   go_loopg [1, 10] k (fun kq v1 v10 w' => ∃ (x1_1 : Int) (x10_1 : List Int), v1 = .int .i64 x1_1 ∧ Aside0 (token_quoted.l0 kq a0 x1_1 a2 (bt a0 a1) x10_1 = some (r1, r2, r3)) ∧ Aside0 (kq ≤ k) ∧ Aside0 (Kd.R (Kd.int .u8) 5 w' w.heap.size (fun _ => True) v10 x10_1) ∧ Aside0 (Below w.heap.size w w'))
   case atStart => exact ⟨(wrap64 (a1 + 1)), (([] : List Int)), (by first | rfl | (simp; done) | (simp [*]; done)), H', ⟨Nat.le_refl _⟩, ⟨by first | exact Kd.R_nil _ _ _ _ _ | exact Kd.N_nil _ _ _ _ _ | exact Kd.V_nil _ _ _ _ _ | exact Kd.Q_nil _ _ _ _ _ | exact Kd.S_nil _ _ _ _ _⟩, ⟨bSt_⟩⟩
   case round =>
    clear H'
    try clear c1
    try clear p2
    try clear c4
    try clear c4b0
    try clear c5
    try clear c5b0
    try clear p6
    try clear q6
    try clear hx6
    try clear p6
    try clear q6
    obtain ⟨x1_1, x10_1, rfl, HA, HK1, HO_10, HB⟩ := hrel
    cases gk with
    | zero => exact absurd HA.out (by simp [token_quoted.l0])
    | succ k1 =>
     have H := HA.out
     clear HA
     simp only [token_quoted.l0] at H
     by_cases c7 : x1_1 < (a0.size : Int)
     ·rw [if_pos c7] at H
      have c7b0 : decide (x1_1 < (a0.size : Int)) = true := decide_eq_true c7
      clear c7
      by_cases c8 : 0 ≤ x1_1
      ·rw [if_pos c8] at H
       have c8b0 : decide (0 ≤ x1_1) = true := decide_eq_true c8
       clear c8
       by_cases c10 : (bt a0 x1_1) = (bt a0 a1)
       ·rw [if_pos c10] at H
        have c10b0 : ((bt a0 x1_1) == (bt a0 a1)) = true := beq_iff_eq.mpr c10
        have c10b1 : ((bt a0 x1_1) != (bt a0 a1)) = false := bne_eq_false_iff_eq.mpr c10
        clear c10
        simp only [Option.some.injEq, Prod.mk.injEq] at H
        obtain ⟨rfl, rfl, rfl⟩ := H
        have p9 : 0 ≤ (x1_1 : Int) := of_decide_eq_true (by first | (with_reducible assumption) | assumption)
        have q9 : x1_1 < (a0.size : Int) := of_decide_eq_true (by first | (with_reducible assumption) | assumption)
        have hx9 := bt_at a0 x1_1
        replace p9 := eq_true p9
        replace q9 := eq_true q9
        have hcv11 := own_string (P := Tryz.prog) Tryz.underlying129 Tryz.underlying5 Tryz.underlying9 (Kd.own_of_R HO_10.out)
        obtain ⟨Ao12, co12, eo12⟩ := Kd.R_slice HO_10.out
        subst eo12
        go_wp2
        go_ret3
        exact ⟨by first | rfl | (simp [errW_none, errW_some] <;> rfl) | (simp [*, errW_none, errW_some] <;> rfl) | (simp [errW_none, errW_some]; exact Go.Proofs.YtlabfjaddgakkaaGreatW.OwnWords.isEmpty_bne _), bSt_⟩
       ·rw [if_neg c10] at H
        have c10b0 : ((bt a0 x1_1) == (bt a0 a1)) = false := beq_eq_false_iff_ne.mpr c10
        have c10b1 : ((bt a0 x1_1) != (bt a0 a1)) = true := bne_iff_ne.mpr c10
        by_cases c13 : (bt a0 x1_1) = 92
        ·rw [if_pos c13] at H
         have c13b0 : ((bt a0 x1_1) == 92) = true := beq_iff_eq.mpr c13
         have c13b1 : ((bt a0 x1_1) != 92) = false := bne_eq_false_iff_eq.mpr c13
         clear c13
         by_cases c14 : (wrap64 (x1_1 + 1)) = (a0.size : Int)
         ·rw [if_pos c14] at H
          have c14b0 : ((wrap64 (x1_1 + 1)) == (a0.size : Int)) = true := beq_iff_eq.mpr c14
          have c14b1 : ((wrap64 (x1_1 + 1)) != (a0.size : Int)) = false := bne_eq_false_iff_eq.mpr c14
          clear c14
          simp only [Option.some.injEq, Prod.mk.injEq] at H
          obtain ⟨rfl, rfl, rfl⟩ := H
          have p9 : 0 ≤ (x1_1 : Int) := of_decide_eq_true (by first | (with_reducible assumption) | assumption)
          have q9 : x1_1 < (a0.size : Int) := of_decide_eq_true (by first | (with_reducible assumption) | assumption)
          have hx9 := bt_at a0 x1_1
          replace p9 := eq_true p9
          replace q9 := eq_true q9
          go_wp2
          go_ret3
          exact ⟨by first | rfl | (simp [errW_none, errW_some] <;> rfl) | (simp [*, errW_none, errW_some] <;> rfl) | (simp [errW_none, errW_some]; exact Go.Proofs.YtlabfjaddgakkaaGreatW.OwnWords.isEmpty_bne _), bSt_⟩
         ·rw [if_neg c14] at H
          have c14b0 : ((wrap64 (x1_1 + 1)) == (a0.size : Int)) = false := beq_eq_false_iff_ne.mpr c14
          have c14b1 : ((wrap64 (x1_1 + 1)) != (a0.size : Int)) = true := bne_iff_ne.mpr c14
          obtain ⟨ji15, hji15⟩ : ∃ j_ : Int, (wrap64 (x1_1 + 1)) = j_ := ⟨_, rfl⟩
          replace H : (if 0 ≤ (ji15) then (if (ji15) < (a0.size : Int) then (if (bt a0 (ji15)) = (bt a0 a1) then (token_quoted.j1 k1 a0 ji15 a2 (bt a0 a1) x10_1 (bt a0 (ji15)) ((bt a0 (ji15)) == (bt a0 a1))) else (token_quoted.j1 k1 a0 ji15 a2 (bt a0 a1) x10_1 (bt a0 (ji15)) ((bt a0 (ji15)) == 92))) else (none)) else (none)) = some (r1, r2, r3) := by first | (rw [hji15] at H; exact H) | (simp only [hji15] at H ⊢; exact H)
          (try rw [hji15] at c14b0)
          (try rw [hji15] at c14b1)
          have hji15w : (IntKind.i64.wrap (x1_1 + 1)) = ji15 := (i64_w _).trans hji15
          by_cases c16 : 0 ≤ (ji15)
          ·rw [if_pos c16] at H
           have c16b0 : decide (0 ≤ (ji15)) = true := decide_eq_true c16
           clear c16
           by_cases c17 : (ji15) < (a0.size : Int)
           ·rw [if_pos c17] at H
            have c17b0 : decide ((ji15) < (a0.size : Int)) = true := decide_eq_true c17
            clear c17
            have HC19 := Aside0.mk H
            clear H
            have p9 : 0 ≤ (x1_1 : Int) := of_decide_eq_true (by first | (with_reducible assumption) | assumption)
            have q9 : x1_1 < (a0.size : Int) := of_decide_eq_true (by first | (with_reducible assumption) | assumption)
            have hx9 := bt_at a0 x1_1
            replace p9 := eq_true p9
            replace q9 := eq_true q9
            have p18 : 0 ≤ ((ji15) : Int) := of_decide_eq_true (by first | (with_reducible assumption) | assumption)
            have q18 : (ji15) < (a0.size : Int) := of_decide_eq_true (by first | (with_reducible assumption) | assumption)
            have hx18 := bt_at a0 (ji15)
            replace p18 := eq_true p18
            replace q18 := eq_true q18
            go_upto_if 54 with (fail)
            go_cut [54] (fun v54 wc => ∃ (kq : Nat) (x54_18 : Bool), v54 = .bool x54_18 ∧ Aside0 (token_quoted.j1 kq a0 ji15 a2 (bt a0 a1) x10_1 (bt a0 (ji15)) x54_18 = some (r1, r2, r3)) ∧ Aside0 (kq ≤ k1) ∧ Aside0 (Kd.R (Kd.int .u8) 5 wc w.heap.size (fun _ => True) u10 x10_1) ∧ Aside0 (Below w.heap.size w wc))
            case first =>
             have H := HC19.out
             clear HC19
             by_cases c20 : (bt a0 (ji15)) = (bt a0 a1)
             ·rw [if_pos c20] at H
              have c20b0 : ((bt a0 (ji15)) == (bt a0 a1)) = true := beq_iff_eq.mpr c20
              have c20b1 : ((bt a0 (ji15)) != (bt a0 a1)) = false := bne_eq_false_iff_eq.mpr c20
              clear c20
              (first | rw [c20b0] | (simp only [i64_w, i32_w]; rw [c20b0]) | skip)
              have H' := Aside0.mk H
              clear H
              go_wp2
              go_meet
              case rel => exact ⟨_, (((bt a0 (ji15)) == (bt a0 a1))), (by first | rfl | (simp; done) | (simp only [← hji15] <;> (first | rfl | simp); done) | (simp [*]; done)), H', ⟨by have := HK1.out; first | omega | exact Nat.le_refl _⟩, ⟨by (with_reducible repeat (first | apply Kd.R_alloc | apply Kd.R_drewN | apply Kd.R_drew)); exact HO_10.out⟩, ⟨bSt_⟩⟩
             ·rw [if_neg c20] at H
              have c20b0 : ((bt a0 (ji15)) == (bt a0 a1)) = false := beq_eq_false_iff_ne.mpr c20
              have c20b1 : ((bt a0 (ji15)) != (bt a0 a1)) = true := bne_iff_ne.mpr c20
              (first | rw [c20b0] | (simp only [i64_w, i32_w]; rw [c20b0]) | skip)
              have H' := Aside0.mk H
              clear H
              go_wp2
              go_meet
              case rel => exact ⟨_, (((bt a0 (ji15)) == 92)), (by first | rfl | (simp; done) | (simp only [← hji15] <;> (first | rfl | simp); done) | (simp [*]; done)), H', ⟨by have := HK1.out; first | omega | exact Nat.le_refl _⟩, ⟨by (with_reducible repeat (first | apply Kd.R_alloc | apply Kd.R_drewN | apply Kd.R_drew)); exact HO_10.out⟩, ⟨bSt_⟩⟩
            case rest =>
             clear HC19
             try clear c1
             try clear p1
             try clear q1
             try clear hx1
             try clear hcv1
             try clear c2
             try clear p2
             try clear c4
             try clear c4b0
             try clear c5
             try clear c5b0
             try clear p6
             try clear q6
             try clear hx6
             try clear c7
             try clear c7b0
             try clear c8
             try clear c8b0
             try clear p9
             try clear q9
             try clear hx9
             try clear c10
             try clear c10b0
             try clear c10b1
             try clear hcv11
             try clear c13
             try clear c13b0
             try clear c13b1
             try clear c14
             try clear c14b0
             try clear c14b1
             try clear c16
             try clear c16b0
             try clear c17
             try clear c17b0
             try clear p18
             try clear q18
             try clear hx18
             try clear c20
             try clear c20b0
             try clear c20b1
             try clear p18
             try clear p2
             try clear p6
             try clear p9
             try clear q18
             try clear q6
             try clear q9
             obtain ⟨kq, x54_18, rfl, HA, HJ18, HO_10, HB⟩ := hcut
             cases kq with
             | zero => exact absurd HA.out (by simp [token_quoted.j1])
             | succ kj18 =>
              have H := HA.out
              clear HA
              simp only [token_quoted.j1] at H
              by_cases c21 : x54_18 = true
              ·subst c21
               have H1 : (if 0 ≤ ji15 then (if ji15 < (a0.size : Int) then (if x10_1.length < 140737488355328 then (token_quoted.l0 kj18 a0 (wrap64 (ji15 + 1)) a2 (bt a0 a1) (x10_1 ++ [bt a0 ji15])) else (none)) else (none)) else (none)) = some (r1, r2, r3) := by rw [if_pos rfl] at H; exact H
               clear H
               have H := H1
               clear H1
               by_cases c22 : 0 ≤ ji15
               ·rw [if_pos c22] at H
                have c22b0 : decide (0 ≤ ji15) = true := decide_eq_true c22
                clear c22
                by_cases c23 : ji15 < (a0.size : Int)
                ·rw [if_pos c23] at H
                 have c23b0 : decide (ji15 < (a0.size : Int)) = true := decide_eq_true c23
                 clear c23
                 by_cases c25 : x10_1.length < 140737488355328
                 ·rw [if_pos c25] at H
                  have LMc25 := Aside0.mk c25
                  clear c25
                  obtain ⟨y109, hy109⟩ : ∃ y_ : List Int, y_ = (x10_1 ++ [bt a0 ji15]) := ⟨_, rfl⟩
                  replace H : (token_quoted.l0 kj18 a0 (wrap64 (ji15 + 1)) a2 (bt a0 a1) y109) = some (r1, r2, r3) := by first | (rw [hy109]; with_reducible exact H) | (have H2_ := (Option.bind_some _ _).symm.trans H; rw [hy109]; with_reducible exact H2_) | (have H2_ := (Option.bind_some _ _).symm.trans H; with_reducible exact H2_) | with_reducible exact H | (rw [hy109]; exact H) | exact H
                  have Ny109 := Aside0.mk hy109
                  clear hy109
                  have H' := Aside0.mk H
                  clear H
                  have p24 : 0 ≤ (ji15 : Int) := of_decide_eq_true (by first | (with_reducible assumption) | assumption)
                  have q24 : ji15 < (a0.size : Int) := of_decide_eq_true (by first | (with_reducible assumption) | assumption)
                  have hx24 := bt_at a0 ji15
                  replace p24 := eq_true p24
                  replace q24 := eq_true q24
                  go_wp2_with (first | ((with_reducible refine gate_builtin (b := .append) (xs := #[.tmp 58, .tmp 62]) rfl ?_); at_builtin; refine Kd.R_append (Kd.int .u8) (w0 := w) w.heap.size rfl (.tmp 58) (.tmp 62) 129 5 (.int .u8 0) 1 rfl Tryz.underlying129 info5 rfl (by decide) (by omega) u10 x10_1 (bt a0 ji15) [.int .u8 (bt a0 ji15)] (fun _ => True) (fun _ => False) rfl rfl ?aP (fun _ hk => hk.elim) ?aF ?aO ?aB ?aS ?aL ?_; (case aP => exact rfl); (case aB => exact bSt_); (case aF => exact (fun _ _ => trivial)); (case aO => exact (by (with_reducible repeat (first | apply Kd.R_alloc | apply Kd.R_drewN | apply Kd.R_drew)); exact HO_10.out)); (case aS => exact (below_size bSt_)); (case aL => have := LMc25.out; omega); intro v110 w26 ho hb hg hat; rw [← Ny109.out] at ho; have n0_ := Aside0.mk (hb); have n1_ := Aside0.mk (ho); clear HB; clear HO_10; have HB := n0_; have HO111 := n1_; clear n0_ n1_; clear ho hb hg hat))
                  go_roundg kj18
                  case measure => have := HK1.out; have := HJ18.out; omega
                  case rel => exact ⟨(wrap64 (ji15 + 1)), (y109), (by first | rfl | (simp; done) | (simp only [← hji15] <;> (first | rfl | simp); done) | (simp [*]; done)), H', ⟨by have := HK1.out; have := HJ18.out; omega⟩, ⟨by (with_reducible repeat (first | apply Kd.R_alloc | apply Kd.R_drewN | apply Kd.R_drew)); exact HO111.out⟩, ⟨bSt_⟩⟩
                 ·rw [if_neg c25] at H
                  exact absurd H (by simp)
                ·rw [if_neg c23] at H
                 exact absurd H (by simp)
               ·rw [if_neg c22] at H
                exact absurd H (by simp)
              ·replace c21 := Bool.eq_false_iff.mpr c21
               subst c21
               have H1 : (if (bt a0 (ji15)) = 110 then (if x10_1.length < 140737488355328 then (token_quoted.l0 kj18 a0 (wrap64 (ji15 + 1)) a2 (bt a0 a1) (x10_1 ++ [10])) else (none)) else (some ((⟨#[]⟩ : ByteArray), 0, false))) = some (r1, r2, r3) := by rw [if_neg (show ¬ (false = true) by decide)] at H; exact H
               clear H
               have H := H1
               clear H1
               by_cases c27 : (bt a0 (ji15)) = 110
               ·rw [if_pos c27] at H
                have c27b0 : ((bt a0 (ji15)) == 110) = true := beq_iff_eq.mpr c27
                have c27b1 : ((bt a0 (ji15)) != 110) = false := bne_eq_false_iff_eq.mpr c27
                clear c27
                by_cases c28 : x10_1.length < 140737488355328
                ·rw [if_pos c28] at H
                 have LMc28 := Aside0.mk c28
                 clear c28
                 obtain ⟨y112, hy112⟩ : ∃ y_ : List Int, y_ = (x10_1 ++ [10]) := ⟨_, rfl⟩
                 replace H : (token_quoted.l0 kj18 a0 (wrap64 (ji15 + 1)) a2 (bt a0 a1) y112) = some (r1, r2, r3) := by first | (rw [hy112]; with_reducible exact H) | (have H2_ := (Option.bind_some _ _).symm.trans H; rw [hy112]; with_reducible exact H2_) | (have H2_ := (Option.bind_some _ _).symm.trans H; with_reducible exact H2_) | with_reducible exact H | (rw [hy112]; exact H) | exact H
                 have Ny112 := Aside0.mk hy112
                 clear hy112
                 have H' := Aside0.mk H
                 clear H
                 go_wp2_with (first | ((with_reducible refine gate_builtin (b := .append) (xs := #[.tmp 66, .tmp 67]) rfl ?_); at_builtin; refine Kd.R_append (Kd.int .u8) (w0 := w) w.heap.size rfl (.tmp 66) (.tmp 67) 129 5 (.int .u8 0) 1 rfl Tryz.underlying129 info5 rfl (by decide) (by omega) u10 x10_1 10 [.int .u8 10] (fun _ => True) (fun _ => False) rfl rfl ?aP (fun _ hk => hk.elim) ?aF ?aO ?aB ?aS ?aL ?_; (case aP => exact rfl); (case aB => exact bSt_); (case aF => exact (fun _ _ => trivial)); (case aO => exact (by (with_reducible repeat (first | apply Kd.R_alloc | apply Kd.R_drewN | apply Kd.R_drew)); exact HO_10.out)); (case aS => exact (below_size bSt_)); (case aL => have := LMc28.out; omega); intro v113 w29 ho hb hg hat; rw [← Ny112.out] at ho; have n0_ := Aside0.mk (hb); have n1_ := Aside0.mk (ho); clear HB; clear HO_10; have HB := n0_; have HO114 := n1_; clear n0_ n1_; clear ho hb hg hat))
                 go_roundg kj18
                 case measure => have := HK1.out; have := HJ18.out; omega
                 case rel => exact ⟨(wrap64 (ji15 + 1)), (y112), (by first | rfl | (simp; done) | (simp only [← hji15] <;> (first | rfl | simp); done) | (simp [*]; done)), H', ⟨by have := HK1.out; have := HJ18.out; omega⟩, ⟨by (with_reducible repeat (first | apply Kd.R_alloc | apply Kd.R_drewN | apply Kd.R_drew)); exact HO114.out⟩, ⟨bSt_⟩⟩
                ·rw [if_neg c28] at H
                 exact absurd H (by simp)
               ·rw [if_neg c27] at H
                have c27b0 : ((bt a0 (ji15)) == 110) = false := beq_eq_false_iff_ne.mpr c27
                have c27b1 : ((bt a0 (ji15)) != 110) = true := bne_iff_ne.mpr c27
                simp only [Option.some.injEq, Prod.mk.injEq] at H
                obtain ⟨rfl, rfl, rfl⟩ := H
                go_wp2
                go_ret3
                exact ⟨by first | rfl | (simp [errW_none, errW_some] <;> rfl) | (simp only [← hji15]; first | rfl | (simp [errW_none, errW_some] <;> rfl)) | (simp [*, errW_none, errW_some] <;> rfl) | (simp [errW_none, errW_some]; exact Go.Proofs.YtlabfjaddgakkaaGreatW.OwnWords.isEmpty_bne _), bSt_⟩
           ·rw [if_neg c17] at H
            exact absurd H (by simp)
          ·rw [if_neg c16] at H
           exact absurd H (by simp)
        ·rw [if_neg c13] at H
         have c13b0 : ((bt a0 x1_1) == 92) = false := beq_eq_false_iff_ne.mpr c13
         have c13b1 : ((bt a0 x1_1) != 92) = true := bne_iff_ne.mpr c13
         by_cases c30 : (bt a0 x1_1) < 32
         ·rw [if_pos c30] at H
          have c30b0 : decide ((bt a0 x1_1) < 32) = true := decide_eq_true c30
          clear c30
          simp only [Option.some.injEq, Prod.mk.injEq] at H
          obtain ⟨rfl, rfl, rfl⟩ := H
          have p9 : 0 ≤ (x1_1 : Int) := of_decide_eq_true (by first | (with_reducible assumption) | assumption)
          have q9 : x1_1 < (a0.size : Int) := of_decide_eq_true (by first | (with_reducible assumption) | assumption)
          have hx9 := bt_at a0 x1_1
          replace p9 := eq_true p9
          replace q9 := eq_true q9
          go_wp2
          go_ret3
          exact ⟨by first | rfl | (simp [errW_none, errW_some] <;> rfl) | (simp [*, errW_none, errW_some] <;> rfl) | (simp [errW_none, errW_some]; exact Go.Proofs.YtlabfjaddgakkaaGreatW.OwnWords.isEmpty_bne _), bSt_⟩
         ·rw [if_neg c30] at H
          have c30b0 : decide ((bt a0 x1_1) < 32) = false := decide_eq_false c30
          clear c30
          by_cases c31 : (bt a0 x1_1) > 126
          ·rw [if_pos c31] at H
           have c31b0 : decide (126 < (bt a0 x1_1)) = true := decide_eq_true c31
           clear c31
           simp only [Option.some.injEq, Prod.mk.injEq] at H
           obtain ⟨rfl, rfl, rfl⟩ := H
           have p9 : 0 ≤ (x1_1 : Int) := of_decide_eq_true (by first | (with_reducible assumption) | assumption)
           have q9 : x1_1 < (a0.size : Int) := of_decide_eq_true (by first | (with_reducible assumption) | assumption)
           have hx9 := bt_at a0 x1_1
           replace p9 := eq_true p9
           replace q9 := eq_true q9
           go_wp2
           go_ret3
           exact ⟨by first | rfl | (simp [errW_none, errW_some] <;> rfl) | (simp [*, errW_none, errW_some] <;> rfl) | (simp [errW_none, errW_some]; exact Go.Proofs.YtlabfjaddgakkaaGreatW.OwnWords.isEmpty_bne _), bSt_⟩
          ·rw [if_neg c31] at H
           have c31b0 : decide (126 < (bt a0 x1_1)) = false := decide_eq_false c31
           clear c31
           by_cases c32 : x10_1.length < 140737488355328
           ·rw [if_pos c32] at H
            have LMc32 := Aside0.mk c32
            clear c32
            obtain ⟨y115, hy115⟩ : ∃ y_ : List Int, y_ = (x10_1 ++ [bt a0 x1_1]) := ⟨_, rfl⟩
            replace H : (token_quoted.l0 k1 a0 (wrap64 (x1_1 + 1)) a2 (bt a0 a1) y115) = some (r1, r2, r3) := by first | (rw [hy115]; with_reducible exact H) | (have H2_ := (Option.bind_some _ _).symm.trans H; rw [hy115]; with_reducible exact H2_) | (have H2_ := (Option.bind_some _ _).symm.trans H; with_reducible exact H2_) | with_reducible exact H | (rw [hy115]; exact H) | exact H
            have Ny115 := Aside0.mk hy115
            clear hy115
            have H' := Aside0.mk H
            clear H
            have p9 : 0 ≤ (x1_1 : Int) := of_decide_eq_true (by first | (with_reducible assumption) | assumption)
            have q9 : x1_1 < (a0.size : Int) := of_decide_eq_true (by first | (with_reducible assumption) | assumption)
            have hx9 := bt_at a0 x1_1
            replace p9 := eq_true p9
            replace q9 := eq_true q9
            go_wp2_with (first | ((with_reducible refine gate_builtin (b := .append) (xs := #[.tmp 26, .tmp 28]) rfl ?_); at_builtin; refine Kd.R_append (Kd.int .u8) (w0 := w) w.heap.size rfl (.tmp 26) (.tmp 28) 129 5 (.int .u8 0) 1 rfl Tryz.underlying129 info5 rfl (by decide) (by omega) u10 x10_1 (bt a0 x1_1) [.int .u8 (bt a0 x1_1)] (fun _ => True) (fun _ => False) rfl rfl ?aP (fun _ hk => hk.elim) ?aF ?aO ?aB ?aS ?aL ?_; (case aP => exact rfl); (case aB => exact bSt_); (case aF => exact (fun _ _ => trivial)); (case aO => exact (by (with_reducible repeat (first | apply Kd.R_alloc | apply Kd.R_drewN | apply Kd.R_drew)); exact HO_10.out)); (case aS => exact (below_size bSt_)); (case aL => have := LMc32.out; omega); intro v116 w33 ho hb hg hat; rw [← Ny115.out] at ho; have n0_ := Aside0.mk (hb); have n1_ := Aside0.mk (ho); clear HB; clear HO_10; have HB := n0_; have HO117 := n1_; clear n0_ n1_; clear ho hb hg hat))
            go_roundg k1
            case measure => have := HK1.out; omega
            case rel => exact ⟨(wrap64 (x1_1 + 1)), (y115), (by first | rfl | (simp; done) | (simp [*]; done)), H', ⟨by have := HK1.out; omega⟩, ⟨by (with_reducible repeat (first | apply Kd.R_alloc | apply Kd.R_drewN | apply Kd.R_drew)); exact HO117.out⟩, ⟨bSt_⟩⟩
           ·rw [if_neg c32] at H
            exact absurd H (by simp)
      ·rw [if_neg c8] at H
       exact absurd H (by simp)
     ·rw [if_neg c7] at H
      have c7b0 : decide (x1_1 < (a0.size : Int)) = false := decide_eq_false c7
      clear c7
      simp only [Option.some.injEq, Prod.mk.injEq] at H
      obtain ⟨rfl, rfl, rfl⟩ := H
      go_wp2
      go_ret3
      exact ⟨by first | rfl | (simp [errW_none, errW_some] <;> rfl) | (simp [*, errW_none, errW_some] <;> rfl) | (simp [errW_none, errW_some]; exact Go.Proofs.YtlabfjaddgakkaaGreatW.OwnWords.isEmpty_bne _), bSt_⟩
  ·rw [if_neg c5] at H
   exact absurd H (by simp)
 ·rw [if_neg c4] at H
  exact absurd H (by simp)

end Go.Proofs.YtlabfjaddgakkaaGreat.Q
end
section
namespace Go.Proofs.YtlabfjaddgakkaaGreat.Q
open Go.RowKit Go.Proofs.YtlabfjaddgakkaaGreatW.PrintWords Go.Proofs.YtlabfjaddgakkaaGreatW.PrintLast Go.Proofs.YtlabfjaddgakkaaGreatW.PrintMore Go.Proofs.YtlabfjaddgakkaaGreatW.OwnWords
attribute [local go_sem] Go.Proofs.YtlabfjaddgakkaaGreatW.OwnWords.isSome_setCell max2_int min2_int max_two min_two max_three min_three max_four min_four
set_option linter.unusedVariables false
set_option linter.unusedSimpArgs false

/-! ### token_char: function 140 -/
def token_char.f (a0 : ByteArray) (a1 : Int) : Option (ByteArray × Int × Bool) := if (wrap64 (a1 + 1)) ≥ (a0.size : Int) then (some ((⟨#[]⟩ : ByteArray), 0, false)) else (if 0 ≤ (wrap64 (a1 + 1)) then (if (wrap64 (a1 + 1)) < (a0.size : Int) then (if (bt a0 (wrap64 (a1 + 1))) = 92 then (if (wrap64 (a1 + 2)) ≥ (a0.size : Int) then (some ((⟨#[]⟩ : ByteArray), 0, false)) else (if 0 ≤ (wrap64 (a1 + 2)) then (if (wrap64 (a1 + 2)) < (a0.size : Int) then (if (bt a0 (wrap64 (a1 + 2))) = 110 then (some ((⟨#[10]⟩ : ByteArray), wrap64 (a1 + 3), true)) else (if (bt a0 (wrap64 (a1 + 2))) = 115 then (some ((⟨#[32]⟩ : ByteArray), wrap64 (a1 + 3), true)) else (if (bt a0 (wrap64 (a1 + 2))) = 92 then (some ((⟨#[92]⟩ : ByteArray), wrap64 (a1 + 3), true)) else (some ((⟨#[]⟩ : ByteArray), 0, false))))) else (none)) else (none))) else ((some (([bt a0 (wrap64 (a1 + 1))] : List Int) : List Int)).bind fun y118 => (if (bt a0 (wrap64 (a1 + 1))) ≥ 33 then (some (strOfNums y118, wrap64 (a1 + 2), decide ((bt a0 (wrap64 (a1 + 1))) ≤ 126))) else (some (strOfNums y118, wrap64 (a1 + 2), false))))) else (none)) else (none))
set_option maxHeartbeats 8000000 in
set_option maxRecDepth 100000 in
theorem token_char.calls (a0 : ByteArray) (a1 : Int) (r1 : ByteArray) (r2 : Int) (r3 : Bool) (w : World) (h : token_char.f a0 a1 = some (r1, r2, r3)) :
  Calls Tryz.prog 140 #[.string a0, .int .i64 a1] w fun e w' => e = .returned (.tuple #[.string r1, .int .i64 r2, .bool r3]) ∧ Below w.heap.size w w' := by
 have HB := Aside0.mk (Below.refl w.heap.size w)
 have H : (if (wrap64 (a1 + 1)) ≥ (a0.size : Int) then (some ((⟨#[]⟩ : ByteArray), 0, false)) else (if 0 ≤ (wrap64 (a1 + 1)) then (if (wrap64 (a1 + 1)) < (a0.size : Int) then (if (bt a0 (wrap64 (a1 + 1))) = 92 then (if (wrap64 (a1 + 2)) ≥ (a0.size : Int) then (some ((⟨#[]⟩ : ByteArray), 0, false)) else (if 0 ≤ (wrap64 (a1 + 2)) then (if (wrap64 (a1 + 2)) < (a0.size : Int) then (if (bt a0 (wrap64 (a1 + 2))) = 110 then (some ((⟨#[10]⟩ : ByteArray), wrap64 (a1 + 3), true)) else (if (bt a0 (wrap64 (a1 + 2))) = 115 then (some ((⟨#[32]⟩ : ByteArray), wrap64 (a1 + 3), true)) else (if (bt a0 (wrap64 (a1 + 2))) = 92 then (some ((⟨#[92]⟩ : ByteArray), wrap64 (a1 + 3), true)) else (some ((⟨#[]⟩ : ByteArray), 0, false))))) else (none)) else (none))) else ((some (([bt a0 (wrap64 (a1 + 1))] : List Int) : List Int)).bind fun y118 => (if (bt a0 (wrap64 (a1 + 1))) ≥ 33 then (some (strOfNums y118, wrap64 (a1 + 2), decide ((bt a0 (wrap64 (a1 + 1))) ≤ 126))) else (some (strOfNums y118, wrap64 (a1 + 2), false))))) else (none)) else (none))) = some (r1, r2, r3) := h
 clear h
 by_cases c3 : (wrap64 (a1 + 1)) ≥ (a0.size : Int)
 ·rw [if_pos c3] at H
  have c3b0 : decide ((a0.size : Int) ≤ (wrap64 (a1 + 1))) = true := decide_eq_true c3
  clear c3
  simp only [Option.some.injEq, Prod.mk.injEq] at H
  obtain ⟨rfl, rfl, rfl⟩ := H
  go_enter Tryz.func140, Tryz.ntmps140
  go_wp2
  go_ret3
  exact ⟨by first | rfl | (simp [errW_none, errW_some] <;> rfl) | (simp [*, errW_none, errW_some] <;> rfl) | (simp [errW_none, errW_some]; exact Go.Proofs.YtlabfjaddgakkaaGreatW.OwnWords.isEmpty_bne _), bSt_⟩
 ·rw [if_neg c3] at H
  have c3b0 : decide ((a0.size : Int) ≤ (wrap64 (a1 + 1))) = false := decide_eq_false c3
  clear c3
  obtain ⟨ji4, hji4⟩ : ∃ j_ : Int, (wrap64 (a1 + 1)) = j_ := ⟨_, rfl⟩
  replace H : (if 0 ≤ (ji4) then (if (ji4) < (a0.size : Int) then (if (bt a0 (ji4)) = 92 then (if (wrap64 (a1 + 2)) ≥ (a0.size : Int) then (some ((⟨#[]⟩ : ByteArray), 0, false)) else (if 0 ≤ (wrap64 (a1 + 2)) then (if (wrap64 (a1 + 2)) < (a0.size : Int) then (if (bt a0 (wrap64 (a1 + 2))) = 110 then (some ((⟨#[10]⟩ : ByteArray), wrap64 (a1 + 3), true)) else (if (bt a0 (wrap64 (a1 + 2))) = 115 then (some ((⟨#[32]⟩ : ByteArray), wrap64 (a1 + 3), true)) else (if (bt a0 (wrap64 (a1 + 2))) = 92 then (some ((⟨#[92]⟩ : ByteArray), wrap64 (a1 + 3), true)) else (some ((⟨#[]⟩ : ByteArray), 0, false))))) else (none)) else (none))) else ((some (([bt a0 (ji4)] : List Int) : List Int)).bind fun y118 => (if (bt a0 (ji4)) ≥ 33 then (some (strOfNums y118, wrap64 (a1 + 2), decide ((bt a0 (ji4)) ≤ 126))) else (some (strOfNums y118, wrap64 (a1 + 2), false))))) else (none)) else (none)) = some (r1, r2, r3) := by first | (rw [hji4] at H; exact H) | (simp only [hji4] at H ⊢; exact H)
  (try rw [hji4] at c3b0)
  have hji4w : (IntKind.i64.wrap (a1 + 1)) = ji4 := (i64_w _).trans hji4
  by_cases c5 : 0 ≤ (ji4)
  ·rw [if_pos c5] at H
   have c5b0 : decide (0 ≤ (ji4)) = true := decide_eq_true c5
   clear c5
   by_cases c6 : (ji4) < (a0.size : Int)
   ·rw [if_pos c6] at H
    have c6b0 : decide ((ji4) < (a0.size : Int)) = true := decide_eq_true c6
    clear c6
    by_cases c8 : (bt a0 (ji4)) = 92
    ·rw [if_pos c8] at H
     have c8b0 : ((bt a0 (ji4)) == 92) = true := beq_iff_eq.mpr c8
     have c8b1 : ((bt a0 (ji4)) != 92) = false := bne_eq_false_iff_eq.mpr c8
     clear c8
     by_cases c9 : (wrap64 (a1 + 2)) ≥ (a0.size : Int)
     ·rw [if_pos c9] at H
      have c9b0 : decide ((a0.size : Int) ≤ (wrap64 (a1 + 2))) = true := decide_eq_true c9
      clear c9
      simp only [Option.some.injEq, Prod.mk.injEq] at H
      obtain ⟨rfl, rfl, rfl⟩ := H
      have p7 : 0 ≤ ((ji4) : Int) := of_decide_eq_true (by first | (with_reducible assumption) | assumption)
      have q7 : (ji4) < (a0.size : Int) := of_decide_eq_true (by first | (with_reducible assumption) | assumption)
      have hx7 := bt_at a0 (ji4)
      replace p7 := eq_true p7
      replace q7 := eq_true q7
      go_enter Tryz.func140, Tryz.ntmps140
      go_wp2
      go_ret3
      exact ⟨by first | rfl | (simp [errW_none, errW_some] <;> rfl) | (simp only [← hji4]; first | rfl | (simp [errW_none, errW_some] <;> rfl)) | (simp [*, errW_none, errW_some] <;> rfl) | (simp [errW_none, errW_some]; exact Go.Proofs.YtlabfjaddgakkaaGreatW.OwnWords.isEmpty_bne _), bSt_⟩
     ·rw [if_neg c9] at H
      have c9b0 : decide ((a0.size : Int) ≤ (wrap64 (a1 + 2))) = false := decide_eq_false c9
      clear c9
      obtain ⟨ji10, hji10⟩ : ∃ j_ : Int, (wrap64 (a1 + 2)) = j_ := ⟨_, rfl⟩
      replace H : (if 0 ≤ (ji10) then (if (ji10) < (a0.size : Int) then (if (bt a0 (ji10)) = 110 then (some ((⟨#[10]⟩ : ByteArray), wrap64 (a1 + 3), true)) else (if (bt a0 (ji10)) = 115 then (some ((⟨#[32]⟩ : ByteArray), wrap64 (a1 + 3), true)) else (if (bt a0 (ji10)) = 92 then (some ((⟨#[92]⟩ : ByteArray), wrap64 (a1 + 3), true)) else (some ((⟨#[]⟩ : ByteArray), 0, false))))) else (none)) else (none)) = some (r1, r2, r3) := by first | (rw [hji10] at H; exact H) | (simp only [hji10] at H ⊢; exact H)
      (try rw [hji10] at c9b0)
      have hji10w : (IntKind.i64.wrap (a1 + 2)) = ji10 := (i64_w _).trans hji10
      by_cases c11 : 0 ≤ (ji10)
      ·rw [if_pos c11] at H
       have c11b0 : decide (0 ≤ (ji10)) = true := decide_eq_true c11
       clear c11
       by_cases c12 : (ji10) < (a0.size : Int)
       ·rw [if_pos c12] at H
        have c12b0 : decide ((ji10) < (a0.size : Int)) = true := decide_eq_true c12
        clear c12
        by_cases c14 : (bt a0 (ji10)) = 110
        ·rw [if_pos c14] at H
         have c14b0 : ((bt a0 (ji10)) == 110) = true := beq_iff_eq.mpr c14
         have c14b1 : ((bt a0 (ji10)) != 110) = false := bne_eq_false_iff_eq.mpr c14
         clear c14
         simp only [Option.some.injEq, Prod.mk.injEq] at H
         obtain ⟨rfl, rfl, rfl⟩ := H
         have p7 : 0 ≤ ((ji4) : Int) := of_decide_eq_true (by first | (with_reducible assumption) | assumption)
         have q7 : (ji4) < (a0.size : Int) := of_decide_eq_true (by first | (with_reducible assumption) | assumption)
         have hx7 := bt_at a0 (ji4)
         replace p7 := eq_true p7
         replace q7 := eq_true q7
         have p13 : 0 ≤ ((ji10) : Int) := of_decide_eq_true (by first | (with_reducible assumption) | assumption)
         have q13 : (ji10) < (a0.size : Int) := of_decide_eq_true (by first | (with_reducible assumption) | assumption)
         have hx13 := bt_at a0 (ji10)
         replace p13 := eq_true p13
         replace q13 := eq_true q13
         go_enter Tryz.func140, Tryz.ntmps140
         go_wp2
         go_ret3
         exact ⟨by first | rfl | (simp [errW_none, errW_some] <;> rfl) | (simp only [← hji4, ← hji10]; first | rfl | (simp [errW_none, errW_some] <;> rfl)) | (simp [*, errW_none, errW_some] <;> rfl) | (simp [errW_none, errW_some]; exact Go.Proofs.YtlabfjaddgakkaaGreatW.OwnWords.isEmpty_bne _), bSt_⟩
        ·rw [if_neg c14] at H
         have c14b0 : ((bt a0 (ji10)) == 110) = false := beq_eq_false_iff_ne.mpr c14
         have c14b1 : ((bt a0 (ji10)) != 110) = true := bne_iff_ne.mpr c14
         by_cases c15 : (bt a0 (ji10)) = 115
         ·rw [if_pos c15] at H
          have c15b0 : ((bt a0 (ji10)) == 115) = true := beq_iff_eq.mpr c15
          have c15b1 : ((bt a0 (ji10)) != 115) = false := bne_eq_false_iff_eq.mpr c15
          clear c15
          simp only [Option.some.injEq, Prod.mk.injEq] at H
          obtain ⟨rfl, rfl, rfl⟩ := H
          have p7 : 0 ≤ ((ji4) : Int) := of_decide_eq_true (by first | (with_reducible assumption) | assumption)
          have q7 : (ji4) < (a0.size : Int) := of_decide_eq_true (by first | (with_reducible assumption) | assumption)
          have hx7 := bt_at a0 (ji4)
          replace p7 := eq_true p7
          replace q7 := eq_true q7
          have p13 : 0 ≤ ((ji10) : Int) := of_decide_eq_true (by first | (with_reducible assumption) | assumption)
          have q13 : (ji10) < (a0.size : Int) := of_decide_eq_true (by first | (with_reducible assumption) | assumption)
          have hx13 := bt_at a0 (ji10)
          replace p13 := eq_true p13
          replace q13 := eq_true q13
          go_enter Tryz.func140, Tryz.ntmps140
          go_wp2
          go_ret3
          exact ⟨by first | rfl | (simp [errW_none, errW_some] <;> rfl) | (simp only [← hji4, ← hji10]; first | rfl | (simp [errW_none, errW_some] <;> rfl)) | (simp [*, errW_none, errW_some] <;> rfl) | (simp [errW_none, errW_some]; exact Go.Proofs.YtlabfjaddgakkaaGreatW.OwnWords.isEmpty_bne _), bSt_⟩
         ·rw [if_neg c15] at H
          have c15b0 : ((bt a0 (ji10)) == 115) = false := beq_eq_false_iff_ne.mpr c15
          have c15b1 : ((bt a0 (ji10)) != 115) = true := bne_iff_ne.mpr c15
          by_cases c16 : (bt a0 (ji10)) = 92
          ·rw [if_pos c16] at H
           have c16b0 : ((bt a0 (ji10)) == 92) = true := beq_iff_eq.mpr c16
           have c16b1 : ((bt a0 (ji10)) != 92) = false := bne_eq_false_iff_eq.mpr c16
           clear c16
           simp only [Option.some.injEq, Prod.mk.injEq] at H
           obtain ⟨rfl, rfl, rfl⟩ := H
           have p7 : 0 ≤ ((ji4) : Int) := of_decide_eq_true (by first | (with_reducible assumption) | assumption)
           have q7 : (ji4) < (a0.size : Int) := of_decide_eq_true (by first | (with_reducible assumption) | assumption)
           have hx7 := bt_at a0 (ji4)
           replace p7 := eq_true p7
           replace q7 := eq_true q7
           have p13 : 0 ≤ ((ji10) : Int) := of_decide_eq_true (by first | (with_reducible assumption) | assumption)
           have q13 : (ji10) < (a0.size : Int) := of_decide_eq_true (by first | (with_reducible assumption) | assumption)
           have hx13 := bt_at a0 (ji10)
           replace p13 := eq_true p13
           replace q13 := eq_true q13
           go_enter Tryz.func140, Tryz.ntmps140
           go_wp2
           go_ret3
           exact ⟨by first | rfl | (simp [errW_none, errW_some] <;> rfl) | (simp only [← hji4, ← hji10]; first | rfl | (simp [errW_none, errW_some] <;> rfl)) | (simp [*, errW_none, errW_some] <;> rfl) | (simp [errW_none, errW_some]; exact Go.Proofs.YtlabfjaddgakkaaGreatW.OwnWords.isEmpty_bne _), bSt_⟩
          ·rw [if_neg c16] at H
           have c16b0 : ((bt a0 (ji10)) == 92) = false := beq_eq_false_iff_ne.mpr c16
           have c16b1 : ((bt a0 (ji10)) != 92) = true := bne_iff_ne.mpr c16
           simp only [Option.some.injEq, Prod.mk.injEq] at H
           obtain ⟨rfl, rfl, rfl⟩ := H
           have p7 : 0 ≤ ((ji4) : Int) := of_decide_eq_true (by first | (with_reducible assumption) | assumption)
           have q7 : (ji4) < (a0.size : Int) := of_decide_eq_true (by first | (with_reducible assumption) | assumption)
           have hx7 := bt_at a0 (ji4)
           replace p7 := eq_true p7
           replace q7 := eq_true q7
           have p13 : 0 ≤ ((ji10) : Int) := of_decide_eq_true (by first | (with_reducible assumption) | assumption)
           have q13 : (ji10) < (a0.size : Int) := of_decide_eq_true (by first | (with_reducible assumption) | assumption)
           have hx13 := bt_at a0 (ji10)
           replace p13 := eq_true p13
           replace q13 := eq_true q13
           go_enter Tryz.func140, Tryz.ntmps140
           go_wp2
           go_ret3
           exact ⟨by first | rfl | (simp [errW_none, errW_some] <;> rfl) | (simp only [← hji4, ← hji10]; first | rfl | (simp [errW_none, errW_some] <;> rfl)) | (simp [*, errW_none, errW_some] <;> rfl) | (simp [errW_none, errW_some]; exact Go.Proofs.YtlabfjaddgakkaaGreatW.OwnWords.isEmpty_bne _), bSt_⟩
       ·rw [if_neg c12] at H
        exact absurd H (by simp)
      ·rw [if_neg c11] at H
       exact absurd H (by simp)
    ·rw [if_neg c8] at H
     have c8b0 : ((bt a0 (ji4)) == 92) = false := beq_eq_false_iff_ne.mpr c8
     have c8b1 : ((bt a0 (ji4)) != 92) = true := bne_iff_ne.mpr c8
     obtain ⟨y118, hy118⟩ : ∃ y_ : List Int, y_ = (([bt a0 (ji4)] : List Int)) := ⟨_, rfl⟩
     replace H : (if (bt a0 (ji4)) ≥ 33 then (some (strOfNums y118, wrap64 (a1 + 2), decide ((bt a0 (ji4)) ≤ 126))) else (some (strOfNums y118, wrap64 (a1 + 2), false))) = some (r1, r2, r3) := by first | (rw [hy118]; with_reducible exact H) | (have H2_ := (Option.bind_some _ _).symm.trans H; rw [hy118]; with_reducible exact H2_) | (have H2_ := (Option.bind_some _ _).symm.trans H; with_reducible exact H2_) | with_reducible exact H | (rw [hy118]; exact H) | exact H
     have Ny118 := Aside0.mk hy118
     clear hy118
     by_cases c17 : (bt a0 (ji4)) ≥ 33
     ·rw [if_pos c17] at H
      have c17b0 : decide (33 ≤ (bt a0 (ji4))) = true := decide_eq_true c17
      clear c17
      simp only [Option.some.injEq, Prod.mk.injEq] at H
      obtain ⟨rfl, rfl, rfl⟩ := H
      have p7 : 0 ≤ ((ji4) : Int) := of_decide_eq_true (by first | (with_reducible assumption) | assumption)
      have q7 : (ji4) < (a0.size : Int) := of_decide_eq_true (by first | (with_reducible assumption) | assumption)
      have hx7 := bt_at a0 (ji4)
      replace p7 := eq_true p7
      replace q7 := eq_true q7
      go_enter Tryz.func140, Tryz.ntmps140
      go_wp2_with (first | ((with_reducible refine gate_dst (N := 20) rfl ?_); refine Kd.R_lit (Kd.int .u8) _ 5 ?hg (N := 20) ?hd (xs := ([bt a0 (ji4)] : List Int)) (inner := [.int .u8 (bt a0 (ji4))]) (ok := fun _ => True) (okp := fun _ => True) ?hr ?hp (fun _ hk => hk) trivial (Below.refl _ _) (Nat.le_refl _) (by simp) ?_; (case hd => rfl); (case hg => rfl); (case hr => first | (go_simp; done) | (go_simp; rfl)); (case hp => exact (Reps.one (show Kd.M (Kd.int .u8) _ _ _ (bt a0 (ji4)) [.int .u8 (bt a0 (ji4))] from rfl) (Reps.none _ _))); intro v119 w18 ho19 hb hg_ hnew_; clear hg_ hnew_; (first | rw [← Ny118.out] at ho19 | (simp only [Int.reduceToNat] at ho19; rw [← Ny118.out] at ho19)); have n0_ := Aside0.mk (Kd.R_lower ho19 (below_size bSt_)); have n1_ := Aside0.mk (below_step bSt_ hb); clear HB; have HO120 := n0_; have HB := n1_; clear n0_ n1_; clear hb ho19; have hcv20 := own_string (P := Tryz.prog) Tryz.underlying129 Tryz.underlying5 Tryz.underlying9 (Kd.own_of_R HO120.out)))
      go_ret3
      exact ⟨by first | rfl | (simp [errW_none, errW_some] <;> rfl) | (simp only [← hji4]; first | rfl | (simp [errW_none, errW_some] <;> rfl)) | (simp [*, errW_none, errW_some] <;> rfl) | (simp [errW_none, errW_some]; exact Go.Proofs.YtlabfjaddgakkaaGreatW.OwnWords.isEmpty_bne _), bSt_⟩
     ·rw [if_neg c17] at H
      have c17b0 : decide (33 ≤ (bt a0 (ji4))) = false := decide_eq_false c17
      clear c17
      simp only [Option.some.injEq, Prod.mk.injEq] at H
      obtain ⟨rfl, rfl, rfl⟩ := H
      have p7 : 0 ≤ ((ji4) : Int) := of_decide_eq_true (by first | (with_reducible assumption) | assumption)
      have q7 : (ji4) < (a0.size : Int) := of_decide_eq_true (by first | (with_reducible assumption) | assumption)
      have hx7 := bt_at a0 (ji4)
      replace p7 := eq_true p7
      replace q7 := eq_true q7
      go_enter Tryz.func140, Tryz.ntmps140
      go_wp2_with (first | ((with_reducible refine gate_dst (N := 20) rfl ?_); refine Kd.R_lit (Kd.int .u8) _ 5 ?hg (N := 20) ?hd (xs := ([bt a0 (ji4)] : List Int)) (inner := [.int .u8 (bt a0 (ji4))]) (ok := fun _ => True) (okp := fun _ => True) ?hr ?hp (fun _ hk => hk) trivial (Below.refl _ _) (Nat.le_refl _) (by simp) ?_; (case hd => rfl); (case hg => rfl); (case hr => first | (go_simp; done) | (go_simp; rfl)); (case hp => exact (Reps.one (show Kd.M (Kd.int .u8) _ _ _ (bt a0 (ji4)) [.int .u8 (bt a0 (ji4))] from rfl) (Reps.none _ _))); intro v119 w21 ho22 hb hg_ hnew_; clear hg_ hnew_; (first | rw [← Ny118.out] at ho22 | (simp only [Int.reduceToNat] at ho22; rw [← Ny118.out] at ho22)); have n0_ := Aside0.mk (Kd.R_lower ho22 (below_size bSt_)); have n1_ := Aside0.mk (below_step bSt_ hb); clear HB; have HO120 := n0_; have HB := n1_; clear n0_ n1_; clear hb ho22; have hcv23 := own_string (P := Tryz.prog) Tryz.underlying129 Tryz.underlying5 Tryz.underlying9 (Kd.own_of_R HO120.out)))
      go_ret3
      exact ⟨by first | rfl | (simp [errW_none, errW_some] <;> rfl) | (simp only [← hji4]; first | rfl | (simp [errW_none, errW_some] <;> rfl)) | (simp [*, errW_none, errW_some] <;> rfl) | (simp [errW_none, errW_some]; exact Go.Proofs.YtlabfjaddgakkaaGreatW.OwnWords.isEmpty_bne _), bSt_⟩
   ·rw [if_neg c6] at H
    exact absurd H (by simp)
  ·rw [if_neg c5] at H
   exact absurd H (by simp)

end Go.Proofs.YtlabfjaddgakkaaGreat.Q
end
