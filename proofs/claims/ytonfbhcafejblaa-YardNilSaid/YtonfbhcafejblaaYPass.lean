import Derived.Test.YtonfbhcafejblaaYClone
/-! A yard that has one lock: pass. -/
namespace Go.Proofs.Ytonfbhcafejblaa.Yd
set_option linter.unusedVariables false
set_option linter.unusedSimpArgs false
open Go.RowKit Go.Proofs.YtonfbhcafejblaaW.PrintWords Go.Proofs.YtonfbhcafejblaaW.PrintLast Go.Proofs.YtonfbhcafejblaaW.PrintMore Go.Proofs.Ytonfbhcafejblaa.Q
attribute [local go_sem] Go.Proofs.YtonfbhcafejblaaW.OwnWords.isSome_setCell max2_int min2_int
theorem add_off (b i j : Nat) : (⟨b, i, none⟩ : Addr).add j = ⟨b, i + j, none⟩ := by unfold Addr.add; split <;> simp_all
/-- The cells of those who wait. -/
theorem own_cells {w : World} {B g cap : Nat} {xs : List Int} {n : Nat} (h : w.ownsRow B 3 1 (.slice (some ⟨g, 0, none⟩) n cap) n (xs.map (Value.int .i64))) : (∀ j p, xs[j]? = some p → w.cell? ⟨g, j, none⟩ = some (.int .i64 p)) ∧ n ≤ cap ∧ cap ≤ maxLen ∧ xs.length = n := by
  obtain ⟨hl, h⟩ := h
  have hl' : xs.length = n := by simpa using hl
  rcases h with ⟨hv, hn⟩ | ⟨g', cap', cur, hv, hb, hh, hn, hc, hs, ht⟩
  · simp at hv
  · injection hv with hv h2 h3
    injection hv with hv
    injection hv with hv
    subst hv
    subst h3
    refine ⟨fun j p hj => ?_, hn, hc, hl'⟩
    rw [blk_cell hh j, ← Array.getElem?_toList]
    have hj' : j < xs.length := (List.getElem?_eq_some_iff.1 hj).1
    have : (cur.toList.take (n * 1))[j]? = some (.int .i64 p) := by rw [ht, List.getElem?_map, hj]; rfl
    rw [List.getElem?_take_of_lt (by omega)] at this
    exact this
theorem tail_C {w : World} {B g cap : Nat} {x : Int} {xs : List Int} (h : w.ownsRow B 3 1 (.slice (some ⟨g, 0, none⟩) (xs.length + 1) cap) (xs.length + 1) ((x :: xs).map (Value.int .i64))) : (Kd.int .i64).C w (some ⟨g, 1, none⟩) xs.length xs := by
  obtain ⟨hc, hn, hm, _⟩ := own_cells (xs := x :: xs) h
  refine ⟨rfl, by simp only [maxLen] at hm; omega, fun _ => ⟨_, rfl, fun j p hj => ⟨[.int .i64 p], rfl, rfl, fun i u hu => ?_⟩⟩⟩
  have hi : i = 0 := by
    cases i with
    | zero => rfl
    | succ i => simp at hu
  subst hi
  have hu' : Value.int .i64 p = u := by simpa using hu
  subst hu'
  show w.cell? ((⟨g, 1, none⟩ : Addr).add (j * 1 + 0)) = _
  rw [add_off, Nat.mul_one, Nat.add_zero, Nat.add_comm]
  exact hc (j + 1) p hj
theorem pass_none (B : Nat) (yb tb cap : Nat) (rest : List Value) (ow ti : Int) (v : Value) (w : World) (hY : IsYd B w yb tb cap rest ow ti v []) (hB : B ≤ w.heap.size) :
    Calls Try.prog 32 #[.pointer (some ⟨tb, 0, none⟩)] w (YdEnd B w yb tb cap rest v (.returned (.int .i64 0)) 0 0 []) := by
  have t3 : w.cell? ⟨tb, 3, none⟩ = some (.int .i64 _) := (blk_cell hY.2.1 3).trans rfl
  have t4 : w.cell? ⟨tb, 4, none⟩ = some (.int .i64 _) := (blk_cell hY.2.1 4).trans rfl
  have t5 : w.cell? ⟨tb, 5, none⟩ = some v := (blk_cell hY.2.1 5).trans rfl
  have z3 := blk_frozen hY.2.1 3
  have z4 := blk_frozen hY.2.1 4
  obtain ⟨A, c, rfl, hC, hc⟩ := own_C hY.2.2.2.2.1
  have HY := Aside0.mk (yw_start hY hB)
  clear hY hB hC
  simp only [List.length_nil] at t5
  go_enter Try.func32, Try.ntmps32
  go_wp2
  go_ret
  exact yw_end (yw_set4 (yw_set3 HY.out _) _) (.inl rfl)
theorem pass_end {B : Nat} {w0 w : World} {yb tb cap n : Nat} {rest : List Value} {ow ti : Int} {v0 v v1 : Value} {xs ys : List Int} {r : Ending} (h : Yw B w0 w yb tb cap rest v0 ow ti v xs) (ho : w.ownsRow n 3 1 v1 ys.length (ys.map (Value.int .i64))) (hn : w0.heap.size ≤ n := by simp [World.setCell]) (hv1 : v1.ownBlock ≠ none := by simp [Value.ownBlock]) : YdEnd B w0 yb tb cap rest v0 r ow ti ys r (w.setCell ⟨tb, 5, none⟩ v1) := by
  have hb : ∀ k, v1.ownBlock = some k → n ≤ k := own_base ho
  have ho' : w.ownsRow B 3 1 v1 ys.length (ys.map (Value.int .i64)) := by
    refine ⟨ho.1, ?_⟩
    rcases ho.2 with h0 | ⟨g, cap, cur, r1, r2, r3⟩
    · exact .inl h0
    · exact .inr ⟨g, cap, cur, r1, Nat.le_trans h.2.2.2 (Nat.le_trans hn r2), r3⟩
  refine yw_end (yw_set5 h.1.1 h.1.2.1 h.1.2.2.1 h.1.2.2.2.1 ho' h.1.2.2.2.2.2.1 h.1.2.2.2.2.2.2 h.2.1 h.2.2.1 h.2.2.2) (.inr ?_)
  cases hk : v1.ownBlock with
  | none => exact absurd hk hv1
  | some k => exact ⟨k, rfl, Nat.le_trans hn (hb k hk)⟩
theorem pass_next (B : Nat) (yb tb cap : Nat) (rest : List Value) (ow ti : Int) (v : Value) (x : Int) (xs : List Int) (hl : xs.length ≤ 1000000) (w : World) (hY : IsYd B w yb tb cap rest ow ti v (x :: xs)) (hB : B ≤ w.heap.size) :
    Calls Try.prog 32 #[.pointer (some ⟨tb, 0, none⟩)] w (YdEnd B w yb tb cap rest v (.returned (.int .i64 x)) x 1 xs) := by
  have t3 : w.cell? ⟨tb, 3, none⟩ = some (.int .i64 _) := (blk_cell hY.2.1 3).trans rfl
  have t4 : w.cell? ⟨tb, 4, none⟩ = some (.int .i64 _) := (blk_cell hY.2.1 4).trans rfl
  have t5 : w.cell? ⟨tb, 5, none⟩ = some v := (blk_cell hY.2.1 5).trans rfl
  have z3 := blk_frozen hY.2.1 3
  have z4 := blk_frozen hY.2.1 4
  have z5 := blk_frozen hY.2.1 5
  have hv := owns_ne hY.2.2.2.2.1 hY.2.1 (by decide)
  obtain ⟨g, c, rfl⟩ := own_form hY.2.2.2.2.1 (by simp)
  have hc := own_cells hY.2.2.2.2.1
  have x0 : w.cell? ⟨g, 0, none⟩ = some (.int .i64 x) := hc.1 0 x rfl
  have hn1 : g ≠ tb := fun e => hv (by simp [Value.ownBlock, e])
  have hn2 : tb ≠ g := fun e => hn1 e.symm
  have hcc : xs.length + 1 ≤ c := hc.2.1
  have p1 : decide ((0 : Int) < ((x :: xs).length : Int)) = true := decide_eq_true (by simp only [List.length_cons]; omega)
  have HY := Aside0.mk (yw_start hY hB)
  have HL := Aside0.mk hl
  have HV := Aside0.mk hv
  clear hY hB hv hc hl
  simp only [List.length_cons] at t5 p1
  by_cases hc1 : c = 1
  · subst hc1
    obtain rfl : xs = [] := List.eq_nil_of_length_eq_zero (by omega)
    go_enter Try.func32, Try.ntmps32
    go_wp2_with (first | (go_at_call 34; (refine (clone_calls ⟨g, 0, none⟩ _ [] HL.out _ ⟨rfl, by simp, fun h => absurd h (by simp)⟩).mono ?_); rintro e w2 ⟨gb, cp, rfl, ho, hb⟩; have H3 := yw_set4 (yw_set3 (yw_set4 (yw_set3 HY.out 0) 0) x) 1; have H4 := yw_below H3 hb; have t3' := (blk_cell H4.1.2.1 3); have t5' := (blk_cell H4.1.2.1 5); have z5' := blk_frozen H4.1.2.1 5; have HG := Aside0.mk (And.intro H4 ho); clear H3 H4 ho hb))
    go_ret
    exact pass_end HG.out.1 HG.out.2
  · have hc2 : (c = 1) = False := eq_false hc1
    go_enter Try.func32, Try.ntmps32
    go_wp2_with (first | (go_at_call 34; (refine (clone_calls ⟨g, 1, none⟩ _ xs HL.out _ (tail_C (yw_set4 (yw_set3 (yw_set4 (yw_set3 HY.out 0) 0) x) 1).1.2.2.2.2.1)).mono ?_); rintro e w2 ⟨gb, cp, rfl, ho, hb⟩; have H3 := yw_set4 (yw_set3 (yw_set4 (yw_set3 HY.out 0) 0) x) 1; have H4 := yw_below H3 hb; have t3' := (blk_cell H4.1.2.1 3); have t5' := (blk_cell H4.1.2.1 5); have z5' := blk_frozen H4.1.2.1 5; have HG := Aside0.mk (And.intro H4 ho); clear H3 H4 ho hb))
    go_ret
    exact pass_end HG.out.1 HG.out.2
end Go.Proofs.Ytonfbhcafejblaa.Yd
