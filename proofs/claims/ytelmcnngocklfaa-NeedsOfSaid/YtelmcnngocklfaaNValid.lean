import Derived.Test.YtelmcnngocklfaaNFine
/-! kernel.valid and Valid at awake's statement. -/
namespace Go.Proofs.Ytelmcnngocklfaa.Need
set_option linter.unusedVariables false
set_option linter.unusedSimpArgs false
open Go.RowKit Go.Proofs.YtelmcnngocklfaaW.PrintWords Go.Proofs.YtelmcnngocklfaaW.PrintLast Go.Proofs.YtelmcnngocklfaaW.PrintMore Go.Proofs.Ytelmcnngocklfaa.Q
theorem keep_set {w w1 : World} {g : Nat} (h : KeepBut w w1 g none) (j : Nat) (u : Value) : KeepBut w (w1.setCell ⟨g, j, none⟩ u) g none :=
  ⟨by simpa [World.setCell] using h.1, fun i hi hg hr => (Below.heap_setCell w1 ⟨g, j, none⟩ u i hg).trans (h.2 i hi hg hr)⟩
/-- A counter lies there. -/
structure Cn (w0 w : World) (cb : Nat) (n : Int) : Prop where
  c : w.heap[cb]? = some (.cells #[.int .i64 n] 3 (0, 0))
  b : Below w0.heap.size w0 w
  g : w0.heap.size ≤ cb
abbrev ag (d : ByteArray) (A3 : Option Addr) (n3 c3 : Nat) (A4 : Option Addr) (c4 : Nat) (A5 : Option Addr) (n5 c5 : Nat) : Value := .agg #[.string d, .string no, .int .i64 0, .slice A3 n3 c3, .slice A4 0 c4, .slice A5 n5 c5]
set_option maxHeartbeats 2000000 in
set_option maxRecDepth 100000 in
theorem valid_skip (w0 w : World) (m : Value) (deep n : Int) (cb : Nat) {A3 A4 A5 : Option Addr} {c3 c4 c5 : Nat} (h : SF w0 s3 A3 c3 A4 c4 A5 c5) (hc : Cn w0 w cb n) (hd : deep ≤ 100) (h0 : 0 ≤ n) (h1 : n < 2000) :
    Calls Try.prog 43 #[ag nSkip A3 0 c3 A4 c4 A5 0 c5, m, .int .i64 deep, .pointer (some ⟨cb, 0, none⟩)] w (fun e w' => e = .returned (.bool true) ∧ Cn w0 w' cb (n + 1) ∧ KeepBut w w' cb none) := by
  have HS := Aside0.mk h
  have HC := Aside0.mk hc
  have d1 : decide (100 < deep) = false := decide_eq_false (by omega)
  have d2 : decide (2000 < n + 1) = false := decide_eq_false (by omega)
  have d3 : wrap64 (n + 1) = n + 1 := by unfold wrap64; omega
  have hB := blk_alloc hc.c (.cells #[.string nSkip, .string no, .int .i64 0, .slice A3 0 c3, .slice A4 0 c4, .slice A5 0 c5] 26 (0, 0))
  have HB := Aside0.mk hB
  have x0 := (blk_cell hB 0).trans rfl
  have z0 := blk_frozen hB 0
  clear hB
  clear h hc hd h0 h1
  go_enter Try.func43, Try.ntmps43
  go_upto_region 2 with fail
  (try simp only [Act.put, List.setIfInBounds_toArray, List.set_cons_zero, List.set_cons_succ])
  have hq : ((w.alloc (.cells #[.string nSkip, .string no, .int .i64 0, .slice A3 0 c3, .slice A4 0 c4, .slice A5 0 c5] 26 (0, 0))).setCell ⟨cb, 0, none⟩ (.int .i64 (n + 1))).heap[cb]? = some (.cells #[.int .i64 (n + 1)] 3 (0, 0)) := blk_set HB.out 0 (.int .i64 (n + 1))
  have HQ := Aside0.mk hq
  have y0 := (blk_cell hq 0).trans rfl
  have hbx : cb ≠ w.heap.size := Nat.ne_of_lt (blk_lt HC.out.c)
  have hS : Below w.heap.size w (w.alloc (.cells #[.string nSkip, .string no, .int .i64 0, .slice A3 0 c3, .slice A4 0 c4, .slice A5 0 c5] 26 (0, 0))) := below_alloc (Below.refl _ _) _
  have HX := Aside0.mk (blk_far (blk_new w (.cells #[.string nSkip, .string no, .int .i64 0, .slice A3 0 c3, .slice A4 0 c4, .slice A5 0 c5] 26 (0, 0))) (p := ⟨cb, 0, none⟩) (Ne.symm hbx) (.int .i64 (n + 1)))
  have b0 := (blk_cell HX.out 0).trans rfl
  have b1 := (blk_cell HX.out 1).trans rfl
  have b2 := (blk_cell HX.out 2).trans rfl
  have b3 := (blk_cell HX.out 3).trans rfl
  have b4 := (blk_cell HX.out 4).trans rfl
  have b5 := (blk_cell HX.out 5).trans rfl
  have HW := Aside0.mk (show Below w0.heap.size w0 ((w.alloc (.cells #[.string nSkip, .string no, .int .i64 0, .slice A3 0 c3, .slice A4 0 c4, .slice A5 0 c5] 26 (0, 0))).setCell ⟨cb, 0, none⟩ (.int .i64 (n + 1))) from below_set (below_alloc HC.out.b _) HC.out.g)
  have HK := Aside0.mk (show KeepBut w ((w.alloc (.cells #[.string nSkip, .string no, .int .i64 0, .slice A3 0 c3, .slice A4 0 c4, .slice A5 0 c5] 26 (0, 0))).setCell ⟨cb, 0, none⟩ (.int .i64 (n + 1))) cb none from keep_set (KeepBut.of_below (below_alloc (Below.refl w.heap.size w) _) cb none) 0 _)
  clear x0 z0 hq hbx hS
  go_wp2_with (go_at_call 53; go_loud ((refine (fine_skip _ m (HS.out.below HW.out)).mono ?_); rintro e w2 ⟨rfl, hb⟩; have HW2 := Aside0.mk (below_then HW.out HW.out.size hb); have HK2 := Aside0.mk (KeepBut.trans HK.out (KeepBut.of_below hb cb none) (.inl rfl)); have HQ2 := Aside0.mk (blk_below HQ.out hb); have HX2 := Aside0.mk (blk_below HX.out hb); have e5 := (blk_cell HX2.out 5).trans rfl; clear hb b0 b1 b2 b3 b4 b5 y0))
  go_loopg [33] 2 (fun kq v33 wx => v33 = .int .i64 0 ∧ Aside0 (Cn w0 wx cb (n + 1)) ∧ Aside0 (KeepBut w wx cb none) ∧ Aside0 (kq = 2))
  case atStart => exact ⟨rfl, ⟨⟨HQ2.out, HW2.out, HC.out.g⟩⟩, HK2, ⟨rfl⟩⟩
  case round =>
    clear HW HK HW2 HK2 HQ2 HX2 e5 HQ HX HB
    obtain ⟨rfl, HC2, HK3, HZ⟩ := hrel
    go_wp2_with fail
    go_ret
    exact ⟨rfl, HC2.out, HK3.out⟩
set_option maxHeartbeats 2000000 in
set_option maxRecDepth 100000 in
theorem valid_one (x y : S26) 
    (w0 w : World) (m : Value) (deep n sz : Int) (cb : Nat) {A3 A4 : Option Addr} {q5 : Nat} {c3 c4 c5 : Nat} (h : SF w0 x A3 c3 A4 c4 (some ⟨q5, 0, none⟩) c5) (hc : Cn w0 w cb n) (hd : deep ≤ 90) (hd0 : 0 ≤ deep) (h0 : 0 ≤ n) (h1 : n < 1000)
    {B3 B4 B5 : Option Addr} {d3 d4 d5 : Nat} (hY : SF w0 y B3 d3 B4 d4 B5 d5) (hK : w0.heap[q5]? = some (.cells #[.string y.f0, .string no, .int .i64 0, .slice B3 y.f3.length d3, .slice B4 0 d4, .slice B5 y.f5.length d5] 26 (0, 0)))
    (hf : ∀ w', Below w0.heap.size w0 w' → Calls Try.prog 53 #[.agg #[.string x.f0, .string no, .int .i64 0, .slice A3 x.f3.length c3, .slice A4 0 c4, .slice (some ⟨q5, 0, none⟩) 1 c5], m] w' (fun e w2 => e = .returned (.bool true) ∧ Below w'.heap.size w' w2))
    (hv : ∀ w', Cn w0 w' cb (n + 1) → Calls Try.prog 43 #[.agg #[.string y.f0, .string no, .int .i64 0, .slice B3 y.f3.length d3, .slice B4 0 d4, .slice B5 y.f5.length d5], m, .int .i64 (deep + 1), .pointer (some ⟨cb, 0, none⟩)] w' (fun e w2 => e = .returned (.bool true) ∧ Cn w0 w2 cb (n + 1 + sz) ∧ KeepBut w' w2 cb none)) :
    Calls Try.prog 43 #[.agg #[.string x.f0, .string no, .int .i64 0, .slice A3 x.f3.length c3, .slice A4 0 c4, .slice (some ⟨q5, 0, none⟩) 1 c5], m, .int .i64 deep, .pointer (some ⟨cb, 0, none⟩)] w (fun e w' => e = .returned (.bool true) ∧ Cn w0 w' cb (n + 1 + sz) ∧ KeepBut w w' cb none) := by
  have HS := Aside0.mk h
  have HC := Aside0.mk hc
  have HF := Aside0.mk hf
  have HV := Aside0.mk hv
  have K0 := Aside0.mk (show w0.cell? ⟨q5, 0, none⟩ = some (.string y.f0) from (blk_cell hK 0).trans rfl)
  have K1 := Aside0.mk (show w0.cell? ⟨q5, 1, none⟩ = some (.string no) from (blk_cell hK 1).trans rfl)
  have K2 := Aside0.mk (show w0.cell? ⟨q5, 2, none⟩ = some (.int .i64 0) from (blk_cell hK 2).trans rfl)
  have K3 := Aside0.mk (show w0.cell? ⟨q5, 3, none⟩ = some (.slice B3 y.f3.length d3) from (blk_cell hK 3).trans rfl)
  have K4 := Aside0.mk (show w0.cell? ⟨q5, 4, none⟩ = some (.slice B4 0 d4) from (blk_cell hK 4).trans rfl)
  have K5 := Aside0.mk (show w0.cell? ⟨q5, 5, none⟩ = some (.slice B5 y.f5.length d5) from (blk_cell hK 5).trans rfl)
  have HY := Aside0.mk hY
  have d1 : decide (100 < deep) = false := decide_eq_false (by omega)
  have d2 : decide (2000 < n + 1) = false := decide_eq_false (by omega)
  have d4' : wrap64 (n + 1) = n + 1 := by unfold wrap64; omega
  have d5' : wrap64 (deep + 1) = deep + 1 := by unfold wrap64; omega
  have hB := blk_alloc hc.c (.cells #[.string x.f0, .string no, .int .i64 0, .slice A3 x.f3.length c3, .slice A4 0 c4, .slice (some ⟨q5, 0, none⟩) 1 c5] 26 (0, 0))
  have HB := Aside0.mk hB
  have x0 := (blk_cell hB 0).trans rfl
  have z0 := blk_frozen hB 0
  clear hY hK hB h hc hd hd0 h0 h1 hf hv
  go_enter Try.func43, Try.ntmps43
  go_upto_region 2 with fail
  (try simp only [Act.put, List.setIfInBounds_toArray, List.set_cons_zero, List.set_cons_succ])
  have hq : ((w.alloc (.cells #[.string x.f0, .string no, .int .i64 0, .slice A3 x.f3.length c3, .slice A4 0 c4, .slice (some ⟨q5, 0, none⟩) 1 c5] 26 (0, 0))).setCell ⟨cb, 0, none⟩ (.int .i64 (n + 1))).heap[cb]? = some (.cells #[.int .i64 (n + 1)] 3 (0, 0)) := blk_set HB.out 0 (.int .i64 (n + 1))
  have HQ := Aside0.mk hq
  have y0 := (blk_cell hq 0).trans rfl
  have hbx : cb ≠ w.heap.size := Nat.ne_of_lt (blk_lt HC.out.c)
  have HX := Aside0.mk (blk_far (blk_new w (.cells #[.string x.f0, .string no, .int .i64 0, .slice A3 x.f3.length c3, .slice A4 0 c4, .slice (some ⟨q5, 0, none⟩) 1 c5] 26 (0, 0))) (p := ⟨cb, 0, none⟩) (Ne.symm hbx) (.int .i64 (n + 1)))
  have b0 := (blk_cell HX.out 0).trans rfl
  have b1 := (blk_cell HX.out 1).trans rfl
  have b2 := (blk_cell HX.out 2).trans rfl
  have b3 := (blk_cell HX.out 3).trans rfl
  have b4 := (blk_cell HX.out 4).trans rfl
  have b5 := (blk_cell HX.out 5).trans rfl
  have HW := Aside0.mk (show Below w0.heap.size w0 ((w.alloc (.cells #[.string x.f0, .string no, .int .i64 0, .slice A3 x.f3.length c3, .slice A4 0 c4, .slice (some ⟨q5, 0, none⟩) 1 c5] 26 (0, 0))).setCell ⟨cb, 0, none⟩ (.int .i64 (n + 1))) from below_set (below_alloc HC.out.b _) HC.out.g)
  have HK := Aside0.mk (show KeepBut w ((w.alloc (.cells #[.string x.f0, .string no, .int .i64 0, .slice A3 x.f3.length c3, .slice A4 0 c4, .slice (some ⟨q5, 0, none⟩) 1 c5] 26 (0, 0))).setCell ⟨cb, 0, none⟩ (.int .i64 (n + 1))) cb none from keep_set (KeepBut.of_below (below_alloc (Below.refl w.heap.size w) _) cb none) 0 _)
  clear x0 z0 hq hbx
  go_wp2_with (go_at_call 53; go_loud ((refine (HF.out _ HW.out).mono ?_); rintro e w2 ⟨rfl, hb⟩; have HW2 := Aside0.mk (below_then HW.out HW.out.size hb); have HK2 := Aside0.mk (KeepBut.trans HK.out (KeepBut.of_below hb cb none) (.inl rfl)); have HQ2 := Aside0.mk (blk_below HQ.out hb); have HX2 := Aside0.mk (blk_below HX.out hb); have e5 := (blk_cell HX2.out 5).trans rfl; clear hb b0 b1 b2 b3 b4 b5 y0))
  go_loopg [33] 2 (fun kq v33 wx => ∃ j : Nat, v33 = .int .i64 (j : Int) ∧ Aside0 (j + kq = 2 ∧ j ≤ 1) ∧ Aside0 (Cn w0 wx cb (if j = 0 then n + 1 else n + 1 + sz)) ∧ Aside0 (KeepBut w wx cb none))
  case atStart => exact ⟨0, rfl, ⟨by omega⟩, ⟨⟨HQ2.out, HW2.out, HC.out.g⟩⟩, HK2⟩
  case round =>
    clear HW HK HW2 HK2 HQ2 HX2 e5 HQ HX HB
    obtain ⟨j, rfl, HJ, HC2, HK3⟩ := hrel
    cases gk with
    | zero => have := HJ.out; omega
    | succ k1 =>
      match j with
      | 0 =>
        have HC3 := Aside0.mk (show Cn w0 wr cb (n + 1) from HC2.out)
        have m0 := pw_cell_below HC3.out.b K0.out
        have m1 := pw_cell_below HC3.out.b K1.out
        have m2 := pw_cell_below HC3.out.b K2.out
        have m3 := pw_cell_below HC3.out.b K3.out
        have m4 := pw_cell_below HC3.out.b K4.out
        have m5 := pw_cell_below HC3.out.b K5.out
        clear HC2
        go_wp2_with (go_at_call 43; go_loud ((refine (HV.out _ ⟨blk_alloc HC3.out.c _, below_alloc HC3.out.b _, HC3.out.g⟩).mono ?_); rintro e w3 ⟨rfl, hc3, hk3⟩; have HC4 := Aside0.mk hc3; have HK4 := Aside0.mk (KeepBut.trans HK3.out (KeepBut.trans (KeepBut.of_below (below_alloc (Below.refl _ _) _) cb none) hk3 (.inl rfl)) (.inl rfl)); clear hc3 hk3 m0 m1 m2 m3 m4 m5))
        go_roundg k1
        case measure => have := HJ.out; omega
        case rel => exact ⟨1, by first | rfl | (simp; done), ⟨by have := HJ.out; omega⟩, HC4, HK4⟩
      | 1 =>
        have HC3 := Aside0.mk (show Cn w0 wr cb (n + 1 + sz) from HC2.out)
        clear HC2
        go_wp2_with fail
        go_ret
        exact ⟨rfl, HC3.out, HK3.out⟩
      | j + 2 => have := HJ.out; omega
/-- A kid's six cells, in a block of their own. -/
def Kid (w : World) (q : Nat) (y : S26) (B3 : Option Addr) (d3 : Nat) (B4 : Option Addr) (d4 : Nat) (B5 : Option Addr) (d5 : Nat) : Prop :=
  w.heap[q]? = some (.cells #[.string y.f0, .string no, .int .i64 0, .slice B3 y.f3.length d3, .slice B4 0 d4, .slice B5 y.f5.length d5] 26 (0, 0))
theorem valid_thread (w0 w : World) (m : Value) (deep n : Int) (cb : Nat) {A3 A4 : Option Addr} {q5 : Nat} {c3 c4 c5 : Nat} (h : SF w0 s2 A3 c3 A4 c4 (some ⟨q5, 0, none⟩) c5) (hc : Cn w0 w cb n) (hd : deep ≤ 90) (hd0 : 0 ≤ deep) (h0 : 0 ≤ n) (h1 : n < 1000)
    {B3 B4 B5 : Option Addr} {d3 d4 d5 : Nat} (hY : SF w0 s3 B3 d3 B4 d4 B5 d5) (hK : Kid w0 q5 s3 B3 d3 B4 d4 B5 d5) :
    Calls Try.prog 43 #[ag nThread A3 0 c3 A4 c4 (some ⟨q5, 0, none⟩) 1 c5, m, .int .i64 deep, .pointer (some ⟨cb, 0, none⟩)] w (fun e w' => e = .returned (.bool true) ∧ Cn w0 w' cb (n + 1 + 1) ∧ KeepBut w w' cb none) :=
  valid_one s2 s3 w0 w m deep n 1 cb h hc hd hd0 h0 h1 hY hK (fun w' hb => fine_thread w' m (h.below hb)) (fun w' hc' => valid_skip w0 w' m (deep + 1) (n + 1) cb hY hc' (by omega) (by omega) (by omega))
theorem valid_proc (w0 w : World) (m : Value) (deep n : Int) (cb : Nat) {a3 : Nat} {A4 : Option Addr} {q5 : Nat} {c4 c5 : Nat} (h : SF w0 s1 (some ⟨a3, 0, none⟩) 1 A4 c4 (some ⟨q5, 0, none⟩) c5) (hc : Cn w0 w cb n) (hd : deep ≤ 80) (hd0 : 0 ≤ deep) (h0 : 0 ≤ n) (h1 : n < 900)
    {B3 B4 : Option Addr} {q6 : Nat} {d3 d4 d5 : Nat} (hY : SF w0 s2 B3 d3 B4 d4 (some ⟨q6, 0, none⟩) d5) (hK : Kid w0 q5 s2 B3 d3 B4 d4 (some ⟨q6, 0, none⟩) d5)
    {C3 C4 C5 : Option Addr} {e3 e4 e5 : Nat} (hY2 : SF w0 s3 C3 e3 C4 e4 C5 e5) (hK2 : Kid w0 q6 s3 C3 e3 C4 e4 C5 e5) :
    Calls Try.prog 43 #[ag nProc (some ⟨a3, 0, none⟩) 1 1 A4 c4 (some ⟨q5, 0, none⟩) 1 c5, m, .int .i64 deep, .pointer (some ⟨cb, 0, none⟩)] w (fun e w' => e = .returned (.bool true) ∧ Cn w0 w' cb (n + 1 + 2) ∧ KeepBut w w' cb none) :=
  valid_one s1 s2 w0 w m deep n 2 cb h hc (by omega) hd0 h0 (by omega) hY hK (fun w' hb => fine_proc w' m (h.below hb)) (fun w' hc' => by
    have hv := valid_thread w0 w' m (deep + 1) (n + 1) cb hY hc' (by omega) (by omega) (by omega) (by omega) hY2 hK2
    rw [show n + 1 + 1 + 1 = n + 1 + 2 by omega] at hv
    exact hv)
theorem valid_local (w0 w : World) (m : Value) (deep n : Int) (cb : Nat) {A3 A4 : Option Addr} {q5 : Nat} {c3 c4 c5 : Nat} (h : SF w0 s0 A3 c3 A4 c4 (some ⟨q5, 0, none⟩) c5) (hc : Cn w0 w cb n) (hd : deep ≤ 70) (hd0 : 0 ≤ deep) (h0 : 0 ≤ n) (h1 : n < 800)
    {b3 : Nat} {B4 : Option Addr} {q6 : Nat} {d4 d5 : Nat} (hY : SF w0 s1 (some ⟨b3, 0, none⟩) 1 B4 d4 (some ⟨q6, 0, none⟩) d5) (hK : Kid w0 q5 s1 (some ⟨b3, 0, none⟩) 1 B4 d4 (some ⟨q6, 0, none⟩) d5)
    {C3 C4 : Option Addr} {q7 : Nat} {e3 e4 e5 : Nat} (hY2 : SF w0 s2 C3 e3 C4 e4 (some ⟨q7, 0, none⟩) e5) (hK2 : Kid w0 q6 s2 C3 e3 C4 e4 (some ⟨q7, 0, none⟩) e5)
    {D3 D4 D5 : Option Addr} {f3 f4 f5 : Nat} (hY3 : SF w0 s3 D3 f3 D4 f4 D5 f5) (hK3 : Kid w0 q7 s3 D3 f3 D4 f4 D5 f5) :
    Calls Try.prog 43 #[ag nLocal A3 1 c3 A4 c4 (some ⟨q5, 0, none⟩) 1 c5, m, .int .i64 deep, .pointer (some ⟨cb, 0, none⟩)] w (fun e w' => e = .returned (.bool true) ∧ Cn w0 w' cb (n + 1 + 3) ∧ KeepBut w w' cb none) :=
  valid_one s0 s1 w0 w m deep n 3 cb h hc (by omega) hd0 h0 (by omega) hY hK (fun w' hb => fine_local w' m (h.below hb)) (fun w' hc' => by
    have hv := valid_proc w0 w' m (deep + 1) (n + 1) cb hY hc' (by omega) (by omega) (by omega) (by omega) hY2 hK2 hY3 hK3
    rw [show n + 1 + 1 + 2 = n + 1 + 3 by omega] at hv
    exact hv)
end Go.Proofs.Ytelmcnngocklfaa.Need
