import Derived.Test.YtonfbhcafejblaaYNil
import Derived.Test.YtonfbhcafejblaaQ22
/-! YardNil, the walk. (Written by yard_nil_law.py.) -/
namespace Go.Proofs.Ytonfbhcafejblaa.Yd
set_option linter.unusedVariables false
set_option linter.unusedSimpArgs false
open Go.RowKit Go.Proofs.YtonfbhcafejblaaW.PrintWords Go.Proofs.YtonfbhcafejblaaW.PrintLast Go.Proofs.YtonfbhcafejblaaW.PrintMore Go.Proofs.Ytonfbhcafejblaa.Q
attribute [local go_sem] Go.Proofs.YtonfbhcafejblaaW.OwnWords.isSome_setCell max2_int min2_int
/-- Where the law's argument lies. -/
def Bx (w w' : World) (x : S43) : Prop := w'.heap[w.heap.size]? = some (.cells #[.int .i64 x.f0, .string x.f1, .int .i64 x.f2, .int .i64 x.f3, .int .i64 x.f4, .int .i64 x.f5, .int .i64 x.f6.f0, .string x.f6.f1] 43 (0, 0)) ∧ Below w.heap.size w w'
theorem bx_below {w w' w2 : World} {x : S43} (h : Bx w w' x) (hb : Below w'.heap.size w' w2) : Bx w w2 x := ⟨blk_below h.1 hb, below_then h.2 h.2.size hb⟩
theorem bx_alloc {w w' : World} {x : S43} (h : Bx w w' x) (o : Obj) : Bx w (w'.alloc o) x := bx_below h (below_alloc (Below.refl _ _) o)
theorem one_row {w : World} {b : Nat} {x : S43} {t : Nat} (h : w.heap[b]? = some (.cells #[.int .i64 x.f0, .string x.f1, .int .i64 x.f2, .int .i64 x.f3, .int .i64 x.f4, .int .i64 x.f5, .int .i64 x.f6.f0, .string x.f6.f1] t (0, 0))) : Kd.C k43 w (some ⟨b, 0, none⟩) [x].length [x] := by
  refine ⟨rfl, by simp, fun _ => ⟨_, rfl, fun j p hj => ?_⟩⟩
  match j with
  | 0 =>
    cases hj
    refine ⟨_, rfl, k43_mk w x, fun i u hu => ?_⟩
    rw [add_plain, blk_cell h]
    rw [← Array.getElem?_toList]
    simpa using hu
  | j + 1 => cases hj
theorem two_new (w : World) (o o1 : Obj) : ((w.alloc o).alloc o1).heap[w.heap.size + 1]? = some o1 := by
  have h := heap_alloc_new (w.alloc o) o1
  have hs : (w.alloc o).heap.size = w.heap.size + 1 := by simp
  rwa [hs] at h
abbrev row15 : Array Value := #[.int .i64 7, .int .i64 7, .int .i64 7, .int .i64 7, .int .i64 7, .int .i64 7, .int .i64 7, .int .i64 7, .int .i64 7, .int .i64 7, .int .i64 7, .int .i64 7, .int .i64 7, .int .i64 7, .int .i64 7]
theorem row15_at (i : Nat) (h : i < 15) : row15[i]? = some (.int .i64 7) := by
  match i, h with
  | 0, _ => rfl
  | 1, _ => rfl
  | 2, _ => rfl
  | 3, _ => rfl
  | 4, _ => rfl
  | 5, _ => rfl
  | 6, _ => rfl
  | 7, _ => rfl
  | 8, _ => rfl
  | 9, _ => rfl
  | 10, _ => rfl
  | 11, _ => rfl
  | 12, _ => rfl
  | 13, _ => rfl
  | 14, _ => rfl
  | n + 15, h => exact absurd h (by omega)
theorem bx2_below {w w' w2 : World} {x : S43} {g : Nat} {o : Obj} (h : Bx w w' x ∧ w'.heap[g]? = some o) (hb : Below w'.heap.size w' w2) : Bx w w2 x ∧ w2.heap[g]? = some o := ⟨bx_below h.1 hb, (hb.block g (blk_lt h.2)).trans h.2⟩
theorem short_last (x : S43) (k : Nat) (a : Int) : manystrandlaw11_short.l0 (k + 1) a [x] 1 1 = some (decide (a ≤ 60)) := by
  unfold manystrandlaw11_short.l0
  rw [if_neg (by decide)]
theorem wrap_one : wrap64 (0 + 1) = 1 := by
  unfold wrap64
  omega
theorem short_j (x : S43) (k : Nat) (a : Int) (b : Bool) (d : Int) (s : ByteArray) (e f g h i : Int) (u : ByteArray) : ∃ r, manystrandlaw11_short.j1 (k + 2) a [x] 1 0 b d s e f g h i u = some r := by
  unfold manystrandlaw11_short.j1
  rw [wrap_one]
  split
  · exact ⟨_, rfl⟩
  · split
    · exact ⟨_, short_last x k _⟩
    · split
      · exact ⟨_, short_last x k _⟩
      · exact ⟨_, short_last x k _⟩
theorem short_one (x : S43) : ∃ r, manystrandlaw11_short.f 100 [x] = some r := by
  have h0 : manystrandlaw11_short.f 100 [x] = manystrandlaw11_short.l0 100 0 [x] 1 0 := by
    unfold manystrandlaw11_short.f
    rw [if_neg (by simp)]
    rfl
  rw [h0]
  unfold manystrandlaw11_short.l0
  rw [if_pos (by decide), if_pos (by decide), if_pos (by simp)]
  split
  · exact short_j x 97 _ _ _ _ _ _ _ _ _ _
  · exact short_j x 97 _ _ _ _ _ _ _ _ _ _

set_option maxRecDepth 100000 in
theorem nil_long (x : S43) (w : World) (hs : manystrandlaw11_short.f 100 [x] = some false) : Calls Try.prog 4 #[.agg #[.int .i64 x.f0, .string x.f1, .int .i64 x.f2, .int .i64 x.f3, .int .i64 x.f4, .int .i64 x.f5, .int .i64 x.f6.f0, .string x.f6.f1]] w (AwakeEnd w) := by
  have HS := Aside0.mk hs
  clear hs
  go_enter Try.func4, Try.ntmps4
  go_wp2_with (first
    | (go_at_call 14; (refine (manystrandlaw11_short.calls 100 (some ⟨w.heap.size + 1, 0, none⟩) 1 [x] false _ (one_row (two_new _ _ _)) (by simp) HS.out).mono ?_); rintro e w2 ⟨rfl, hb⟩; have HX := Aside0.mk (below_then (below_alloc (below_alloc (Below.refl _ _) _) _) (by simp <;> omega) hb); clear hb)
    | (go_at_call 5; (refine (awake_calls _).mono ?_); rintro e w3 ⟨rfl, hb⟩; have HE := Aside0.mk (below_then HX.out HX.out.size hb); clear hb))
  go_ret
  exact ⟨rfl, HE.out⟩

set_option maxHeartbeats 8000000 in
set_option maxRecDepth 100000 in
theorem nil_short (x : S43) (w : World) (hs : manystrandlaw11_short.f 100 [x] = some true) : Calls Try.prog 4 #[.agg #[.int .i64 x.f0, .string x.f1, .int .i64 x.f2, .int .i64 x.f3, .int .i64 x.f4, .int .i64 x.f5, .int .i64 x.f6.f0, .string x.f6.f1]] w (AwakeEnd w) := by
  have HS := Aside0.mk hs
  clear hs
  go_enter Try.func4, Try.ntmps4
  go_upto_region 19 with (first
    | (go_at_call 14; (refine (manystrandlaw11_short.calls 100 (some ⟨w.heap.size + 1, 0, none⟩) 1 [x] true _ (one_row (two_new _ _ _)) (by simp) HS.out).mono ?_); rintro e w2 ⟨rfl, hb⟩; have HX := Aside0.mk (bx_below (bx_alloc (w' := w.alloc (.cells #[.int .i64 x.f0, .string x.f1, .int .i64 x.f2, .int .i64 x.f3, .int .i64 x.f4, .int .i64 x.f5, .int .i64 x.f6.f0, .string x.f6.f1] 43)) ⟨heap_alloc_new _ _, below_alloc (Below.refl _ _) _⟩ _) hb); have c0 : w2.cell? ⟨w.heap.size, 0, none⟩ = some (.int .i64 x.f0) := (blk_cell HX.out.1 0).trans rfl; have c1 : w2.cell? ⟨w.heap.size, 1, none⟩ = some (.string x.f1) := (blk_cell HX.out.1 1).trans rfl; have c2 : w2.cell? ⟨w.heap.size, 2, none⟩ = some (.int .i64 x.f2) := (blk_cell HX.out.1 2).trans rfl; have c3 : w2.cell? ⟨w.heap.size, 3, none⟩ = some (.int .i64 x.f3) := (blk_cell HX.out.1 3).trans rfl; have c4 : w2.cell? ⟨w.heap.size, 4, none⟩ = some (.int .i64 x.f4) := (blk_cell HX.out.1 4).trans rfl; have c5 : w2.cell? ⟨w.heap.size, 5, none⟩ = some (.int .i64 x.f5) := (blk_cell HX.out.1 5).trans rfl; have c6 : w2.cell? ⟨w.heap.size, 6, none⟩ = some (.int .i64 x.f6.f0) := (blk_cell HX.out.1 6).trans rfl; have c7 : w2.cell? ⟨w.heap.size, 7, none⟩ = some (.string x.f6.f1) := (blk_cell HX.out.1 7).trans rfl; clear hb)
    | (go_at_call 7; (refine (nil_make _ _ _ _).mono ?_); rintro e w7 ⟨rfl, hb⟩; replace HX := Aside0.mk (bx_below HX.out hb); (try clear c0 c1 c2 c3 c4 c5 c6 c7); have c0 : w7.cell? ⟨w.heap.size, 0, none⟩ = some (.int .i64 x.f0) := (blk_cell HX.out.1 0).trans rfl; have c1 : w7.cell? ⟨w.heap.size, 1, none⟩ = some (.string x.f1) := (blk_cell HX.out.1 1).trans rfl; have c2 : w7.cell? ⟨w.heap.size, 2, none⟩ = some (.int .i64 x.f2) := (blk_cell HX.out.1 2).trans rfl; have c3 : w7.cell? ⟨w.heap.size, 3, none⟩ = some (.int .i64 x.f3) := (blk_cell HX.out.1 3).trans rfl; have c4 : w7.cell? ⟨w.heap.size, 4, none⟩ = some (.int .i64 x.f4) := (blk_cell HX.out.1 4).trans rfl; have c5 : w7.cell? ⟨w.heap.size, 5, none⟩ = some (.int .i64 x.f5) := (blk_cell HX.out.1 5).trans rfl; have c6 : w7.cell? ⟨w.heap.size, 6, none⟩ = some (.int .i64 x.f6.f0) := (blk_cell HX.out.1 6).trans rfl; have c7 : w7.cell? ⟨w.heap.size, 7, none⟩ = some (.string x.f6.f1) := (blk_cell HX.out.1 7).trans rfl; clear hb)
    | (go_at_call 15; (refine (nil_row _ _ _ _ _).mono ?_); rintro e w15 ⟨rfl, hb⟩; replace HX := Aside0.mk (bx_below HX.out hb); (try clear c0 c1 c2 c3 c4 c5 c6 c7); have c0 : w15.cell? ⟨w.heap.size, 0, none⟩ = some (.int .i64 x.f0) := (blk_cell HX.out.1 0).trans rfl; have c1 : w15.cell? ⟨w.heap.size, 1, none⟩ = some (.string x.f1) := (blk_cell HX.out.1 1).trans rfl; have c2 : w15.cell? ⟨w.heap.size, 2, none⟩ = some (.int .i64 x.f2) := (blk_cell HX.out.1 2).trans rfl; have c3 : w15.cell? ⟨w.heap.size, 3, none⟩ = some (.int .i64 x.f3) := (blk_cell HX.out.1 3).trans rfl; have c4 : w15.cell? ⟨w.heap.size, 4, none⟩ = some (.int .i64 x.f4) := (blk_cell HX.out.1 4).trans rfl; have c5 : w15.cell? ⟨w.heap.size, 5, none⟩ = some (.int .i64 x.f5) := (blk_cell HX.out.1 5).trans rfl; have c6 : w15.cell? ⟨w.heap.size, 6, none⟩ = some (.int .i64 x.f6.f0) := (blk_cell HX.out.1 6).trans rfl; have c7 : w15.cell? ⟨w.heap.size, 7, none⟩ = some (.string x.f6.f1) := (blk_cell HX.out.1 7).trans rfl; clear hb)
    | (go_at_call 16; (refine (nil_get _ _).mono ?_); rintro e w16 ⟨rfl, hb⟩; replace HX := Aside0.mk (bx_below HX.out hb); (try clear c0 c1 c2 c3 c4 c5 c6 c7); have c0 : w16.cell? ⟨w.heap.size, 0, none⟩ = some (.int .i64 x.f0) := (blk_cell HX.out.1 0).trans rfl; have c1 : w16.cell? ⟨w.heap.size, 1, none⟩ = some (.string x.f1) := (blk_cell HX.out.1 1).trans rfl; have c2 : w16.cell? ⟨w.heap.size, 2, none⟩ = some (.int .i64 x.f2) := (blk_cell HX.out.1 2).trans rfl; have c3 : w16.cell? ⟨w.heap.size, 3, none⟩ = some (.int .i64 x.f3) := (blk_cell HX.out.1 3).trans rfl; have c4 : w16.cell? ⟨w.heap.size, 4, none⟩ = some (.int .i64 x.f4) := (blk_cell HX.out.1 4).trans rfl; have c5 : w16.cell? ⟨w.heap.size, 5, none⟩ = some (.int .i64 x.f5) := (blk_cell HX.out.1 5).trans rfl; have c6 : w16.cell? ⟨w.heap.size, 6, none⟩ = some (.int .i64 x.f6.f0) := (blk_cell HX.out.1 6).trans rfl; have c7 : w16.cell? ⟨w.heap.size, 7, none⟩ = some (.string x.f6.f1) := (blk_cell HX.out.1 7).trans rfl; clear hb)
    | (go_at_call 17; (refine (nil_set _ _ _).mono ?_); rintro e w17 ⟨rfl, hb⟩; replace HX := Aside0.mk (bx_below HX.out hb); (try clear c0 c1 c2 c3 c4 c5 c6 c7); have c0 : w17.cell? ⟨w.heap.size, 0, none⟩ = some (.int .i64 x.f0) := (blk_cell HX.out.1 0).trans rfl; have c1 : w17.cell? ⟨w.heap.size, 1, none⟩ = some (.string x.f1) := (blk_cell HX.out.1 1).trans rfl; have c2 : w17.cell? ⟨w.heap.size, 2, none⟩ = some (.int .i64 x.f2) := (blk_cell HX.out.1 2).trans rfl; have c3 : w17.cell? ⟨w.heap.size, 3, none⟩ = some (.int .i64 x.f3) := (blk_cell HX.out.1 3).trans rfl; have c4 : w17.cell? ⟨w.heap.size, 4, none⟩ = some (.int .i64 x.f4) := (blk_cell HX.out.1 4).trans rfl; have c5 : w17.cell? ⟨w.heap.size, 5, none⟩ = some (.int .i64 x.f5) := (blk_cell HX.out.1 5).trans rfl; have c6 : w17.cell? ⟨w.heap.size, 6, none⟩ = some (.int .i64 x.f6.f0) := (blk_cell HX.out.1 6).trans rfl; have c7 : w17.cell? ⟨w.heap.size, 7, none⟩ = some (.string x.f6.f1) := (blk_cell HX.out.1 7).trans rfl; clear hb)
    | (go_at_call 18; (refine (nil_at _ _ _ _).mono ?_); rintro e w18 ⟨rfl, hb⟩; replace HX := Aside0.mk (bx_below HX.out hb); (try clear c0 c1 c2 c3 c4 c5 c6 c7); have c0 : w18.cell? ⟨w.heap.size, 0, none⟩ = some (.int .i64 x.f0) := (blk_cell HX.out.1 0).trans rfl; have c1 : w18.cell? ⟨w.heap.size, 1, none⟩ = some (.string x.f1) := (blk_cell HX.out.1 1).trans rfl; have c2 : w18.cell? ⟨w.heap.size, 2, none⟩ = some (.int .i64 x.f2) := (blk_cell HX.out.1 2).trans rfl; have c3 : w18.cell? ⟨w.heap.size, 3, none⟩ = some (.int .i64 x.f3) := (blk_cell HX.out.1 3).trans rfl; have c4 : w18.cell? ⟨w.heap.size, 4, none⟩ = some (.int .i64 x.f4) := (blk_cell HX.out.1 4).trans rfl; have c5 : w18.cell? ⟨w.heap.size, 5, none⟩ = some (.int .i64 x.f5) := (blk_cell HX.out.1 5).trans rfl; have c6 : w18.cell? ⟨w.heap.size, 6, none⟩ = some (.int .i64 x.f6.f0) := (blk_cell HX.out.1 6).trans rfl; have c7 : w18.cell? ⟨w.heap.size, 7, none⟩ = some (.string x.f6.f1) := (blk_cell HX.out.1 7).trans rfl; clear hb)
    | (go_at_call 19; (refine (nil_put _ _ _ _ _).mono ?_); rintro e w19 ⟨rfl, hb⟩; replace HX := Aside0.mk (bx_below HX.out hb); (try clear c0 c1 c2 c3 c4 c5 c6 c7); have c0 : w19.cell? ⟨w.heap.size, 0, none⟩ = some (.int .i64 x.f0) := (blk_cell HX.out.1 0).trans rfl; have c1 : w19.cell? ⟨w.heap.size, 1, none⟩ = some (.string x.f1) := (blk_cell HX.out.1 1).trans rfl; have c2 : w19.cell? ⟨w.heap.size, 2, none⟩ = some (.int .i64 x.f2) := (blk_cell HX.out.1 2).trans rfl; have c3 : w19.cell? ⟨w.heap.size, 3, none⟩ = some (.int .i64 x.f3) := (blk_cell HX.out.1 3).trans rfl; have c4 : w19.cell? ⟨w.heap.size, 4, none⟩ = some (.int .i64 x.f4) := (blk_cell HX.out.1 4).trans rfl; have c5 : w19.cell? ⟨w.heap.size, 5, none⟩ = some (.int .i64 x.f5) := (blk_cell HX.out.1 5).trans rfl; have c6 : w19.cell? ⟨w.heap.size, 6, none⟩ = some (.int .i64 x.f6.f0) := (blk_cell HX.out.1 6).trans rfl; have c7 : w19.cell? ⟨w.heap.size, 7, none⟩ = some (.string x.f6.f1) := (blk_cell HX.out.1 7).trans rfl; clear hb)
    | (go_at_call 20; (refine (nil_remove _ _ _ _).mono ?_); rintro e w20 ⟨rfl, hb⟩; replace HX := Aside0.mk (bx_below HX.out hb); (try clear c0 c1 c2 c3 c4 c5 c6 c7); have c0 : w20.cell? ⟨w.heap.size, 0, none⟩ = some (.int .i64 x.f0) := (blk_cell HX.out.1 0).trans rfl; have c1 : w20.cell? ⟨w.heap.size, 1, none⟩ = some (.string x.f1) := (blk_cell HX.out.1 1).trans rfl; have c2 : w20.cell? ⟨w.heap.size, 2, none⟩ = some (.int .i64 x.f2) := (blk_cell HX.out.1 2).trans rfl; have c3 : w20.cell? ⟨w.heap.size, 3, none⟩ = some (.int .i64 x.f3) := (blk_cell HX.out.1 3).trans rfl; have c4 : w20.cell? ⟨w.heap.size, 4, none⟩ = some (.int .i64 x.f4) := (blk_cell HX.out.1 4).trans rfl; have c5 : w20.cell? ⟨w.heap.size, 5, none⟩ = some (.int .i64 x.f5) := (blk_cell HX.out.1 5).trans rfl; have c6 : w20.cell? ⟨w.heap.size, 6, none⟩ = some (.int .i64 x.f6.f0) := (blk_cell HX.out.1 6).trans rfl; have c7 : w20.cell? ⟨w.heap.size, 7, none⟩ = some (.string x.f6.f1) := (blk_cell HX.out.1 7).trans rfl; clear hb)
    | (go_at_call 21; (refine (nil_keys _ _).mono ?_); rintro e w21 ⟨rfl, hb⟩; replace HX := Aside0.mk (bx_below HX.out hb); (try clear c0 c1 c2 c3 c4 c5 c6 c7); have c0 : w21.cell? ⟨w.heap.size, 0, none⟩ = some (.int .i64 x.f0) := (blk_cell HX.out.1 0).trans rfl; have c1 : w21.cell? ⟨w.heap.size, 1, none⟩ = some (.string x.f1) := (blk_cell HX.out.1 1).trans rfl; have c2 : w21.cell? ⟨w.heap.size, 2, none⟩ = some (.int .i64 x.f2) := (blk_cell HX.out.1 2).trans rfl; have c3 : w21.cell? ⟨w.heap.size, 3, none⟩ = some (.int .i64 x.f3) := (blk_cell HX.out.1 3).trans rfl; have c4 : w21.cell? ⟨w.heap.size, 4, none⟩ = some (.int .i64 x.f4) := (blk_cell HX.out.1 4).trans rfl; have c5 : w21.cell? ⟨w.heap.size, 5, none⟩ = some (.int .i64 x.f5) := (blk_cell HX.out.1 5).trans rfl; have c6 : w21.cell? ⟨w.heap.size, 6, none⟩ = some (.int .i64 x.f6.f0) := (blk_cell HX.out.1 6).trans rfl; have c7 : w21.cell? ⟨w.heap.size, 7, none⟩ = some (.string x.f6.f1) := (blk_cell HX.out.1 7).trans rfl; clear hb)
    | (go_at_call 9; (refine (nil_take _ _ _).mono ?_); rintro e w9 ⟨rfl, hb⟩; replace HX := Aside0.mk (bx_below HX.out hb); (try clear c0 c1 c2 c3 c4 c5 c6 c7); have c0 : w9.cell? ⟨w.heap.size, 0, none⟩ = some (.int .i64 x.f0) := (blk_cell HX.out.1 0).trans rfl; have c1 : w9.cell? ⟨w.heap.size, 1, none⟩ = some (.string x.f1) := (blk_cell HX.out.1 1).trans rfl; have c2 : w9.cell? ⟨w.heap.size, 2, none⟩ = some (.int .i64 x.f2) := (blk_cell HX.out.1 2).trans rfl; have c3 : w9.cell? ⟨w.heap.size, 3, none⟩ = some (.int .i64 x.f3) := (blk_cell HX.out.1 3).trans rfl; have c4 : w9.cell? ⟨w.heap.size, 4, none⟩ = some (.int .i64 x.f4) := (blk_cell HX.out.1 4).trans rfl; have c5 : w9.cell? ⟨w.heap.size, 5, none⟩ = some (.int .i64 x.f5) := (blk_cell HX.out.1 5).trans rfl; have c6 : w9.cell? ⟨w.heap.size, 6, none⟩ = some (.int .i64 x.f6.f0) := (blk_cell HX.out.1 6).trans rfl; have c7 : w9.cell? ⟨w.heap.size, 7, none⟩ = some (.string x.f6.f1) := (blk_cell HX.out.1 7).trans rfl; clear hb)
    | (go_at_call 8; (refine (nil_give _ _ _).mono ?_); rintro e w8 ⟨rfl, hb⟩; replace HX := Aside0.mk (bx_below HX.out hb); (try clear c0 c1 c2 c3 c4 c5 c6 c7); have c0 : w8.cell? ⟨w.heap.size, 0, none⟩ = some (.int .i64 x.f0) := (blk_cell HX.out.1 0).trans rfl; have c1 : w8.cell? ⟨w.heap.size, 1, none⟩ = some (.string x.f1) := (blk_cell HX.out.1 1).trans rfl; have c2 : w8.cell? ⟨w.heap.size, 2, none⟩ = some (.int .i64 x.f2) := (blk_cell HX.out.1 2).trans rfl; have c3 : w8.cell? ⟨w.heap.size, 3, none⟩ = some (.int .i64 x.f3) := (blk_cell HX.out.1 3).trans rfl; have c4 : w8.cell? ⟨w.heap.size, 4, none⟩ = some (.int .i64 x.f4) := (blk_cell HX.out.1 4).trans rfl; have c5 : w8.cell? ⟨w.heap.size, 5, none⟩ = some (.int .i64 x.f5) := (blk_cell HX.out.1 5).trans rfl; have c6 : w8.cell? ⟨w.heap.size, 6, none⟩ = some (.int .i64 x.f6.f0) := (blk_cell HX.out.1 6).trans rfl; have c7 : w8.cell? ⟨w.heap.size, 7, none⟩ = some (.string x.f6.f1) := (blk_cell HX.out.1 7).trans rfl; clear hb)
    | (go_at_call 22; (refine (nil_leave _ _).mono ?_); rintro e w22 ⟨rfl, hb⟩; replace HX := Aside0.mk (bx_below HX.out hb); (try clear c0 c1 c2 c3 c4 c5 c6 c7); have c0 : w22.cell? ⟨w.heap.size, 0, none⟩ = some (.int .i64 x.f0) := (blk_cell HX.out.1 0).trans rfl; have c1 : w22.cell? ⟨w.heap.size, 1, none⟩ = some (.string x.f1) := (blk_cell HX.out.1 1).trans rfl; have c2 : w22.cell? ⟨w.heap.size, 2, none⟩ = some (.int .i64 x.f2) := (blk_cell HX.out.1 2).trans rfl; have c3 : w22.cell? ⟨w.heap.size, 3, none⟩ = some (.int .i64 x.f3) := (blk_cell HX.out.1 3).trans rfl; have c4 : w22.cell? ⟨w.heap.size, 4, none⟩ = some (.int .i64 x.f4) := (blk_cell HX.out.1 4).trans rfl; have c5 : w22.cell? ⟨w.heap.size, 5, none⟩ = some (.int .i64 x.f5) := (blk_cell HX.out.1 5).trans rfl; have c6 : w22.cell? ⟨w.heap.size, 6, none⟩ = some (.int .i64 x.f6.f0) := (blk_cell HX.out.1 6).trans rfl; have c7 : w22.cell? ⟨w.heap.size, 7, none⟩ = some (.string x.f6.f1) := (blk_cell HX.out.1 7).trans rfl; clear hb)
    | (go_at_call 11; (refine (nil_owner _ _).mono ?_); rintro e w11 ⟨rfl, hb⟩; replace HX := Aside0.mk (bx_below HX.out hb); (try clear c0 c1 c2 c3 c4 c5 c6 c7); have c0 : w11.cell? ⟨w.heap.size, 0, none⟩ = some (.int .i64 x.f0) := (blk_cell HX.out.1 0).trans rfl; have c1 : w11.cell? ⟨w.heap.size, 1, none⟩ = some (.string x.f1) := (blk_cell HX.out.1 1).trans rfl; have c2 : w11.cell? ⟨w.heap.size, 2, none⟩ = some (.int .i64 x.f2) := (blk_cell HX.out.1 2).trans rfl; have c3 : w11.cell? ⟨w.heap.size, 3, none⟩ = some (.int .i64 x.f3) := (blk_cell HX.out.1 3).trans rfl; have c4 : w11.cell? ⟨w.heap.size, 4, none⟩ = some (.int .i64 x.f4) := (blk_cell HX.out.1 4).trans rfl; have c5 : w11.cell? ⟨w.heap.size, 5, none⟩ = some (.int .i64 x.f5) := (blk_cell HX.out.1 5).trans rfl; have c6 : w11.cell? ⟨w.heap.size, 6, none⟩ = some (.int .i64 x.f6.f0) := (blk_cell HX.out.1 6).trans rfl; have c7 : w11.cell? ⟨w.heap.size, 7, none⟩ = some (.string x.f6.f1) := (blk_cell HX.out.1 7).trans rfl; clear hb)
    | (go_at_call 12; (refine (nil_waiting _ _).mono ?_); rintro e w12 ⟨rfl, hb⟩; replace HX := Aside0.mk (bx_below HX.out hb); (try clear c0 c1 c2 c3 c4 c5 c6 c7); have c0 : w12.cell? ⟨w.heap.size, 0, none⟩ = some (.int .i64 x.f0) := (blk_cell HX.out.1 0).trans rfl; have c1 : w12.cell? ⟨w.heap.size, 1, none⟩ = some (.string x.f1) := (blk_cell HX.out.1 1).trans rfl; have c2 : w12.cell? ⟨w.heap.size, 2, none⟩ = some (.int .i64 x.f2) := (blk_cell HX.out.1 2).trans rfl; have c3 : w12.cell? ⟨w.heap.size, 3, none⟩ = some (.int .i64 x.f3) := (blk_cell HX.out.1 3).trans rfl; have c4 : w12.cell? ⟨w.heap.size, 4, none⟩ = some (.int .i64 x.f4) := (blk_cell HX.out.1 4).trans rfl; have c5 : w12.cell? ⟨w.heap.size, 5, none⟩ = some (.int .i64 x.f5) := (blk_cell HX.out.1 5).trans rfl; have c6 : w12.cell? ⟨w.heap.size, 6, none⟩ = some (.int .i64 x.f6.f0) := (blk_cell HX.out.1 6).trans rfl; have c7 : w12.cell? ⟨w.heap.size, 7, none⟩ = some (.string x.f6.f1) := (blk_cell HX.out.1 7).trans rfl; clear hb)
    | (go_at_call 23; (refine (nil_clone _ _ _).mono ?_); rintro e w23 ⟨rfl, hb⟩; replace HX := Aside0.mk (bx_below HX.out hb); (try clear c0 c1 c2 c3 c4 c5 c6 c7); have c0 : w23.cell? ⟨w.heap.size, 0, none⟩ = some (.int .i64 x.f0) := (blk_cell HX.out.1 0).trans rfl; have c1 : w23.cell? ⟨w.heap.size, 1, none⟩ = some (.string x.f1) := (blk_cell HX.out.1 1).trans rfl; have c2 : w23.cell? ⟨w.heap.size, 2, none⟩ = some (.int .i64 x.f2) := (blk_cell HX.out.1 2).trans rfl; have c3 : w23.cell? ⟨w.heap.size, 3, none⟩ = some (.int .i64 x.f3) := (blk_cell HX.out.1 3).trans rfl; have c4 : w23.cell? ⟨w.heap.size, 4, none⟩ = some (.int .i64 x.f4) := (blk_cell HX.out.1 4).trans rfl; have c5 : w23.cell? ⟨w.heap.size, 5, none⟩ = some (.int .i64 x.f5) := (blk_cell HX.out.1 5).trans rfl; have c6 : w23.cell? ⟨w.heap.size, 6, none⟩ = some (.int .i64 x.f6.f0) := (blk_cell HX.out.1 6).trans rfl; have c7 : w23.cell? ⟨w.heap.size, 7, none⟩ = some (.string x.f6.f1) := (blk_cell HX.out.1 7).trans rfl; clear hb)
    | (go_at_call 24; (refine (nil_move _ _ _).mono ?_); rintro e w24 ⟨rfl, hb⟩; replace HX := Aside0.mk (bx_below HX.out hb); (try clear c0 c1 c2 c3 c4 c5 c6 c7); have c0 : w24.cell? ⟨w.heap.size, 0, none⟩ = some (.int .i64 x.f0) := (blk_cell HX.out.1 0).trans rfl; have c1 : w24.cell? ⟨w.heap.size, 1, none⟩ = some (.string x.f1) := (blk_cell HX.out.1 1).trans rfl; have c2 : w24.cell? ⟨w.heap.size, 2, none⟩ = some (.int .i64 x.f2) := (blk_cell HX.out.1 2).trans rfl; have c3 : w24.cell? ⟨w.heap.size, 3, none⟩ = some (.int .i64 x.f3) := (blk_cell HX.out.1 3).trans rfl; have c4 : w24.cell? ⟨w.heap.size, 4, none⟩ = some (.int .i64 x.f4) := (blk_cell HX.out.1 4).trans rfl; have c5 : w24.cell? ⟨w.heap.size, 5, none⟩ = some (.int .i64 x.f5) := (blk_cell HX.out.1 5).trans rfl; have c6 : w24.cell? ⟨w.heap.size, 6, none⟩ = some (.int .i64 x.f6.f0) := (blk_cell HX.out.1 6).trans rfl; have c7 : w24.cell? ⟨w.heap.size, 7, none⟩ = some (.string x.f6.f1) := (blk_cell HX.out.1 7).trans rfl; clear hb))
  have HX2 := Aside0.mk (And.intro (bx_alloc HX.out (.cells row15 26)) (heap_alloc_new w24 (.cells row15 26)))
  have HN : w24.heap.size < (w24.alloc (.cells row15 26)).heap.size := by simp
  clear HX c0 c1 c2 c3 c4 c5 c6 c7
  go_loopg [187] 15 (fun kq v187 w' => ∃ (i : Nat) (y : Int), v187 = .int .i64 y ∧ Aside0 (y = (i : Int)) ∧ i + kq = 15 ∧ Aside0 (Bx w w' x ∧ w'.heap[w24.heap.size]? = some (.cells row15 26 (0, 0))))
  case atStart => exact ⟨0, 0, rfl, ⟨rfl⟩, rfl, HX2⟩
  case round =>
    clear HX2
    obtain ⟨i, y, rfl, HY, hi, HX⟩ := hrel
    by_cases hlt : i < 15
    · have d0 : decide (0 ≤ y) = true := decide_eq_true (by have := HY.out; omega)
      have d1 : decide (y < 15) = true := decide_eq_true (by have := HY.out; omega)
      have p0 := eq_true (show 0 ≤ y by have := HY.out; omega)
      have p1 := eq_true (show y < 15 by have := HY.out; omega)
      have e0 : wr.cell? ⟨w24.heap.size, y.toNat, none⟩ = some (.int .i64 7) := (blk_cell HX.out.2 y.toNat).trans (row15_at _ (by have := HY.out; omega))
      have e1 : wr.cell? ((⟨w24.heap.size, 0, none⟩ : Addr).add y.toNat) = some (.int .i64 7) := by rw [add_plain]; exact e0
      go_wp2
      go_roundg (15 - (i + 1))
      case measure => omega
      case rel => exact ⟨i + 1, _, rfl, ⟨by rw [HY.out]; unfold wrap64; omega⟩, by omega, HX⟩
    · obtain rfl : i = 15 := by omega
      have d1 : decide (y < 15) = false := decide_eq_false (by have := HY.out; omega)
      have p1 := eq_false (show ¬ y < 15 by have := HY.out; omega)
      have c0 : wr.cell? ⟨w.heap.size, 0, none⟩ = some (.int .i64 x.f0) := (blk_cell HX.out.1.1 0).trans rfl
      have c1 : wr.cell? ⟨w.heap.size, 1, none⟩ = some (.string x.f1) := (blk_cell HX.out.1.1 1).trans rfl
      have c2 : wr.cell? ⟨w.heap.size, 2, none⟩ = some (.int .i64 x.f2) := (blk_cell HX.out.1.1 2).trans rfl
      have c3 : wr.cell? ⟨w.heap.size, 3, none⟩ = some (.int .i64 x.f3) := (blk_cell HX.out.1.1 3).trans rfl
      have c4 : wr.cell? ⟨w.heap.size, 4, none⟩ = some (.int .i64 x.f4) := (blk_cell HX.out.1.1 4).trans rfl
      have c5 : wr.cell? ⟨w.heap.size, 5, none⟩ = some (.int .i64 x.f5) := (blk_cell HX.out.1.1 5).trans rfl
      have c6 : wr.cell? ⟨w.heap.size, 6, none⟩ = some (.int .i64 x.f6.f0) := (blk_cell HX.out.1.1 6).trans rfl
      have c7 : wr.cell? ⟨w.heap.size, 7, none⟩ = some (.string x.f6.f1) := (blk_cell HX.out.1.1 7).trans rfl
      go_wp2_with (first
        | (go_at_call 25; (refine (nil_copy _).mono ?_); rintro e w25 ⟨rfl, hb⟩; replace HX := Aside0.mk (bx2_below HX.out hb); (try clear c0 c1 c2 c3 c4 c5 c6 c7); have c0 : w25.cell? ⟨w.heap.size, 0, none⟩ = some (.int .i64 x.f0) := (blk_cell HX.out.1.1 0).trans rfl; have c1 : w25.cell? ⟨w.heap.size, 1, none⟩ = some (.string x.f1) := (blk_cell HX.out.1.1 1).trans rfl; have c2 : w25.cell? ⟨w.heap.size, 2, none⟩ = some (.int .i64 x.f2) := (blk_cell HX.out.1.1 2).trans rfl; have c3 : w25.cell? ⟨w.heap.size, 3, none⟩ = some (.int .i64 x.f3) := (blk_cell HX.out.1.1 3).trans rfl; have c4 : w25.cell? ⟨w.heap.size, 4, none⟩ = some (.int .i64 x.f4) := (blk_cell HX.out.1.1 4).trans rfl; have c5 : w25.cell? ⟨w.heap.size, 5, none⟩ = some (.int .i64 x.f5) := (blk_cell HX.out.1.1 5).trans rfl; have c6 : w25.cell? ⟨w.heap.size, 6, none⟩ = some (.int .i64 x.f6.f0) := (blk_cell HX.out.1.1 6).trans rfl; have c7 : w25.cell? ⟨w.heap.size, 7, none⟩ = some (.string x.f6.f1) := (blk_cell HX.out.1.1 7).trans rfl; clear hb)
        | (go_at_call 27; (refine (nil_count _).mono ?_); rintro e w27 ⟨rfl, hb⟩; replace HX := Aside0.mk (bx2_below HX.out hb); (try clear c0 c1 c2 c3 c4 c5 c6 c7); have c0 : w27.cell? ⟨w.heap.size, 0, none⟩ = some (.int .i64 x.f0) := (blk_cell HX.out.1.1 0).trans rfl; have c1 : w27.cell? ⟨w.heap.size, 1, none⟩ = some (.string x.f1) := (blk_cell HX.out.1.1 1).trans rfl; have c2 : w27.cell? ⟨w.heap.size, 2, none⟩ = some (.int .i64 x.f2) := (blk_cell HX.out.1.1 2).trans rfl; have c3 : w27.cell? ⟨w.heap.size, 3, none⟩ = some (.int .i64 x.f3) := (blk_cell HX.out.1.1 3).trans rfl; have c4 : w27.cell? ⟨w.heap.size, 4, none⟩ = some (.int .i64 x.f4) := (blk_cell HX.out.1.1 4).trans rfl; have c5 : w27.cell? ⟨w.heap.size, 5, none⟩ = some (.int .i64 x.f5) := (blk_cell HX.out.1.1 5).trans rfl; have c6 : w27.cell? ⟨w.heap.size, 6, none⟩ = some (.int .i64 x.f6.f0) := (blk_cell HX.out.1.1 6).trans rfl; have c7 : w27.cell? ⟨w.heap.size, 7, none⟩ = some (.string x.f6.f1) := (blk_cell HX.out.1.1 7).trans rfl; clear hb)
        | (go_at_call 28; (refine (nil_sort _ _).mono ?_); rintro e w28 ⟨rfl, hb⟩; replace HX := Aside0.mk (bx2_below HX.out hb); (try clear c0 c1 c2 c3 c4 c5 c6 c7); have c0 : w28.cell? ⟨w.heap.size, 0, none⟩ = some (.int .i64 x.f0) := (blk_cell HX.out.1.1 0).trans rfl; have c1 : w28.cell? ⟨w.heap.size, 1, none⟩ = some (.string x.f1) := (blk_cell HX.out.1.1 1).trans rfl; have c2 : w28.cell? ⟨w.heap.size, 2, none⟩ = some (.int .i64 x.f2) := (blk_cell HX.out.1.1 2).trans rfl; have c3 : w28.cell? ⟨w.heap.size, 3, none⟩ = some (.int .i64 x.f3) := (blk_cell HX.out.1.1 3).trans rfl; have c4 : w28.cell? ⟨w.heap.size, 4, none⟩ = some (.int .i64 x.f4) := (blk_cell HX.out.1.1 4).trans rfl; have c5 : w28.cell? ⟨w.heap.size, 5, none⟩ = some (.int .i64 x.f5) := (blk_cell HX.out.1.1 5).trans rfl; have c6 : w28.cell? ⟨w.heap.size, 6, none⟩ = some (.int .i64 x.f6.f0) := (blk_cell HX.out.1.1 6).trans rfl; have c7 : w28.cell? ⟨w.heap.size, 7, none⟩ = some (.string x.f6.f1) := (blk_cell HX.out.1.1 7).trans rfl; clear hb)
        | (go_at_call 26; (refine (nil_same _ _).mono ?_); rintro e w26 ⟨rfl, hb⟩; replace HX := Aside0.mk (bx2_below HX.out hb); (try clear c0 c1 c2 c3 c4 c5 c6 c7); have c0 : w26.cell? ⟨w.heap.size, 0, none⟩ = some (.int .i64 x.f0) := (blk_cell HX.out.1.1 0).trans rfl; have c1 : w26.cell? ⟨w.heap.size, 1, none⟩ = some (.string x.f1) := (blk_cell HX.out.1.1 1).trans rfl; have c2 : w26.cell? ⟨w.heap.size, 2, none⟩ = some (.int .i64 x.f2) := (blk_cell HX.out.1.1 2).trans rfl; have c3 : w26.cell? ⟨w.heap.size, 3, none⟩ = some (.int .i64 x.f3) := (blk_cell HX.out.1.1 3).trans rfl; have c4 : w26.cell? ⟨w.heap.size, 4, none⟩ = some (.int .i64 x.f4) := (blk_cell HX.out.1.1 4).trans rfl; have c5 : w26.cell? ⟨w.heap.size, 5, none⟩ = some (.int .i64 x.f5) := (blk_cell HX.out.1.1 5).trans rfl; have c6 : w26.cell? ⟨w.heap.size, 6, none⟩ = some (.int .i64 x.f6.f0) := (blk_cell HX.out.1.1 6).trans rfl; have c7 : w26.cell? ⟨w.heap.size, 7, none⟩ = some (.string x.f6.f1) := (blk_cell HX.out.1.1 7).trans rfl; clear hb)
        | (go_at_call 6; (refine (new_calls _).mono ?_); rintro e w6 ⟨rfl, rfl⟩; replace HX := Aside0.mk (bx2_below HX.out (below_alloc (Below.refl _ _) (.cells #[.bool true, .slice none 0 0] 65))))
        | (go_at_call 5; (refine (awake_calls _).mono ?_); rintro e w5 ⟨rfl, hb⟩; have HE := Aside0.mk (bx_below HX.out.1 hb).2; clear hb))
      go_ret
      exact ⟨rfl, HE.out⟩

/-- YardNil, whatever the act. -/
theorem yard_nil (x : S43) (w : World) : Calls Try.prog 4 #[.agg #[.int .i64 x.f0, .string x.f1, .int .i64 x.f2, .int .i64 x.f3, .int .i64 x.f4, .int .i64 x.f5, .int .i64 x.f6.f0, .string x.f6.f1]] w (AwakeEnd w) := by
  obtain ⟨r, hr⟩ := short_one x
  cases r with
  | false => exact nil_long x w hr
  | true => exact nil_short x w hr
end Go.Proofs.Ytonfbhcafejblaa.Yd
