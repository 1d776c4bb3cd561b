import Derived.Test.YtgfbgfbnmiainaaFamHolds
/-! FamilyHolds, the walk of the law. -/
namespace Go.Proofs.Ytgfbgfbnmiainaa.Fam
set_option linter.unusedVariables false
set_option linter.unusedSimpArgs false
open Go.RowKit Go.Proofs.YtgfbgfbnmiainaaW.PrintWords Go.Proofs.YtgfbgfbnmiainaaW.PrintLast Go.Proofs.YtgfbgfbnmiainaaW.PrintMore Go.Proofs.Ytgfbgfbnmiainaa.Q
attribute [local go_sem] Go.Proofs.YtgfbgfbnmiainaaW.OwnWords.isSome_setCell max2_int min2_int
def LawEnd (w : World) (e : Ending) (w' : World) : Prop := e = .returned (.bool true) ∧ Below w.heap.size w w'
theorem awake_end (w : World) : Calls Try.prog 10 #[] w (LawEnd w) := awake_walk w
theorem rel_lit {w : World} {b : Nat} {x : S33} {t : Nat} {A : Option Addr} {c : Nat} (h : w.heap[b]? = some (.cells #[.string x.f0, .slice A x.f1.length c, .int .i64 x.f2] t (0, 0))) (hs : Sl w A c x.f1) : Kd.C k33 w (some ⟨b, 0, none⟩) [x].length [x] := by
  refine ⟨rfl, by simp, fun _ => ⟨_, rfl, fun j p hj => ?_⟩⟩
  match j with
  | 0 =>
    cases hj
    refine ⟨_, rfl, k33_mk w x hs.2 hs.1, fun i u hu => ?_⟩
    rw [add_plain, blk_cell h]
    rw [← Array.getElem?_toList]
    simpa using hu
  | j + 1 => cases hj
theorem two_new (w : World) (o o1 : Obj) : ((w.alloc o).alloc o1).heap[w.heap.size + 1]? = some o1 := by
  have h := heap_alloc_new (w.alloc o) o1
  have hs : (w.alloc o).heap.size = w.heap.size + 1 := by simp
  rwa [hs] at h
/-- The box of the relation stays. -/
def bX (w : World) (kind : ByteArray) (A : Option Addr) (m c : Nat) (n : Int) (w2 w' : World) : Prop :=
  Below w2.heap.size w2 w' ∧ w'.cell? ⟨w.heap.size, 0, none⟩ = some (.string kind) ∧ w'.cell? ⟨w.heap.size, 1, none⟩ = some (.slice A m c) ∧ w'.cell? ⟨w.heap.size, 2, none⟩ = some (.int .i64 n)
section
variable {w : World} {kind : ByteArray} {A : Option Addr} {m c : Nat} {n : Int} {w2 w1 w' : World}
theorem bX_below (h : bX w kind A m c n w2 w1) (hb : Below w1.heap.size w1 w') : bX w kind A m c n w2 w' :=
  ⟨below_then h.1 h.1.size hb, pw_cell_below hb h.2.1, pw_cell_below hb h.2.2.1, pw_cell_below hb h.2.2.2⟩
theorem bX_drew (h : bX w kind A m c n w2 w1) : bX w kind A m c n w2 w1.drew := bX_below h (below_drew (Below.refl _ _))
end
set_option maxHeartbeats 2000000 in
set_option maxRecDepth 100000 in
theorem holds_heavy (kind : ByteArray) (A : Option Addr) (c : Nat) (vars : List Int) (n : Int) (La : Option Addr) (lc : Nat) (L : List (List Int)) (w : World) (hv : Sl w A c vars) (hb : (decide (vars.length ≤ 10) && decide (kind.size ≤ 100)) = false) :
    Calls Try.prog 6 #[.agg #[.string kind, .slice A vars.length c, .int .i64 n], .slice La L.length lc] w (LawEnd w) := by
  have HV := Aside0.mk hv
  have hf := lean_f ⟨kind, vars, n⟩
  simp only [hb] at hf
  have HF := Aside0.mk hf
  clear hv hf hb
  go_enter Try.func6, Try.ntmps6
  go_wp2_with (first
    | (go_at_call 9; (refine (manystrandlaw07_lean.calls 3 (some ⟨w.heap.size + 1, 0, none⟩) 1 [⟨kind, vars, n⟩] false _ (rel_lit (A := A) (c := c) (two_new _ _ _) (sl_below (sl_below HV.out (below_alloc (Below.refl _ _) _)) (below_alloc (Below.refl _ _) _))) (by simp) HF.out).mono ?_); rintro e w2 ⟨rfl, hb⟩; have HX := Aside0.mk (below_then (below_alloc (below_alloc (Below.refl _ _) _) _) (by simp <;> omega) hb); clear hb)
    | (go_at_call 10; (refine (awake_end _).mono ?_); rintro e w3 ⟨rfl, hb⟩; have HE := Aside0.mk (below_then HX.out HX.out.size hb); clear hb))
  go_ret
  exact ⟨rfl, HE.out⟩
set_option maxHeartbeats 2000000 in
set_option maxRecDepth 100000 in
theorem holds_light (kind : ByteArray) (A : Option Addr) (c : Nat) (vars : List Int) (n : Int) (La : Option Addr) (lc : Nat) (L : List (List Int)) (w : World) (hv : Sl w A c vars) (hL : kII.C w La L.length L) (hlc : L.length ≤ lc) (hb : (decide (vars.length ≤ 10) && decide (kind.size ≤ 100)) = true) :
    Calls Try.prog 6 #[.agg #[.string kind, .slice A vars.length c, .int .i64 n], .slice La L.length lc] w (LawEnd w) := by
  have HV := Aside0.mk hv
  have HL := Aside0.mk (And.intro hL hlc)
  have hf := lean_f ⟨kind, vars, n⟩
  simp only [hb] at hf
  have HF := Aside0.mk hf
  have hv10 : vars.length ≤ 10 := by
    rw [Bool.and_eq_true] at hb
    exact of_decide_eq_true hb.1
  have HV10 := Aside0.mk hv10
  clear hv hf hb hL hlc hv10
  by_cases h50 : (L.length : Int) > 50
  · have q1 : decide ((50 : Int) < (L.length : Int)) = true := decide_eq_true h50
    have q2 := eq_true (show (50 : Int) < (L.length : Int) from h50)
    go_enter Try.func6, Try.ntmps6
    go_wp2_with (first
      | (go_at_call 9; (refine (manystrandlaw07_lean.calls 3 (some ⟨w.heap.size + 1, 0, none⟩) 1 [⟨kind, vars, n⟩] true _ (rel_lit (A := A) (c := c) (two_new _ _ _) (sl_below (sl_below HV.out (below_alloc (Below.refl _ _) _)) (below_alloc (Below.refl _ _) _))) (by simp) HF.out).mono ?_); rintro e w2 ⟨rfl, hb⟩; have HX := Aside0.mk (below_then (below_alloc (below_alloc (Below.refl _ _) _) _) (by simp <;> omega) hb); clear hb)
      | (go_at_call 10; (refine (awake_end _).mono ?_); rintro e w3 ⟨rfl, hb⟩; have HE := Aside0.mk (below_then HX.out HX.out.size hb); clear hb))
    go_ret
    exact ⟨rfl, HE.out⟩
  · have q1 : decide ((50 : Int) < (L.length : Int)) = false := decide_eq_false h50
    have q2 := eq_false (show ¬ (50 : Int) < (L.length : Int) from h50)
    have HL50 : Aside0 (L.length ≤ 50) := ⟨by omega⟩
    clear h50
    go_enter Try.func6, Try.ntmps6
    go_upto_region 4 with (first
      | (go_at_call 9; (refine (manystrandlaw07_lean.calls 3 (some ⟨w.heap.size + 1, 0, none⟩) 1 [⟨kind, vars, n⟩] true _ (rel_lit (A := A) (c := c) (two_new _ _ _) (sl_below (sl_below HV.out (below_alloc (Below.refl _ _) _)) (below_alloc (Below.refl _ _) _))) (by simp) HF.out).mono ?_); rintro e w2 ⟨rfl, hb⟩; have HX := Aside0.mk (And.intro (blk_below (blk_below (blk_new w _) (below_alloc (Below.refl _ _) _)) hb) (below_then (below_alloc (below_alloc (Below.refl _ _) _) _) (by simp <;> omega) hb)); clear hb))
    go_loopg [19] L.length (fun kq v19 w' => ∃ (i : Nat) (x : Int), v19 = .int .i64 x ∧ Aside0 (x = (i : Int)) ∧ i + kq = L.length ∧ Aside0 (∀ j : Nat, j < i → (lst L j).length ≤ 200) ∧ w' = w2)
    case atStart => exact ⟨0, 0, rfl, ⟨rfl⟩, by omega, ⟨fun j hj => absurd hj (by omega)⟩, rfl⟩
    case round =>
      obtain ⟨i, x, rfl, HY, hi, HT, rfl⟩ := hrel
      by_cases hlt : i < L.length
      · have d0 : decide (0 ≤ x) = true := decide_eq_true (by have := HY.out; omega)
        have d1 : decide (x < (L.length : Int)) = true := decide_eq_true (by have := HY.out; omega)
        have p0 := eq_true (show 0 ≤ x by have := HY.out; omega)
        have p1 := eq_true (show x < (L.length : Int) by have := HY.out; omega)
        obtain ⟨ad, B, b, rfl, hx0, hS⟩ := at_II HL.out.1 x (by have := HY.out; omega) (by have := HY.out; omega)
        replace hx0 := (HX.out.2.cell (World.block_lt_of_cell? w _ hx0)).trans hx0
        have HXI : Aside0 (x.toNat = i) := ⟨by have := HY.out; omega⟩
        clear hS
        by_cases h2 : ((lst L x.toNat).length : Int) > 200
        · have e1 : decide ((200 : Int) < ((lst L x.toNat).length : Int)) = true := decide_eq_true h2
          have e2 := eq_true (show (200 : Int) < ((lst L x.toNat).length : Int) from h2)
          go_wp2_with (go_at_call 10; (refine (awake_end _).mono ?_); rintro e w3 ⟨rfl, hb⟩; have HE := Aside0.mk (below_then HX.out.2 HX.out.2.size hb); clear hb)
          go_ret
          exact ⟨rfl, HE.out⟩
        · have e1 : decide ((200 : Int) < ((lst L x.toNat).length : Int)) = false := decide_eq_false h2
          have e2 := eq_false (show ¬ (200 : Int) < ((lst L x.toNat).length : Int) from h2)
          have HN : Aside0 ((lst L i).length ≤ 200) := ⟨by rw [← HXI.out]; omega⟩
          clear h2
          go_wp2
          go_roundg (L.length - (i + 1))
          case measure => omega
          case rel => exact ⟨i + 1, _, rfl, ⟨by rw [HY.out]; unfold wrap64; have := HL50.out; omega⟩, by omega, ⟨fun j hj => by
            rcases Nat.lt_or_ge j i with h_ | h_
            · exact HT.out j h_
            · obtain rfl : j = i := by omega
              exact HN.out⟩, rfl⟩
      · obtain rfl : i = L.length := by omega
        have d1 : decide (x < (L.length : Int)) = false := decide_eq_false (by have := HY.out; omega)
        have p1 := eq_false (show ¬ x < (L.length : Int) by have := HY.out; omega)
        obtain ⟨r, hF, hR⟩ := both kind vars n L HV10.out HL50.out HT.out
        have HFR := Aside0.mk (And.intro hF hR)
        have x0 := (blk_cell HX.out.1 0)
        have x1 := (blk_cell HX.out.1 1)
        have x2 := (blk_cell HX.out.1 2)
        have HS0 := Aside0.mk (show bX w kind A vars.length c n wr wr from ⟨Below.refl _ _, x0.trans rfl, x1.trans rfl, x2.trans rfl⟩)
        have HS1 := Aside0.mk (bX_drew HS0.out)
        have HB := Aside0.mk HX.out.2
        clear hF hR x0 x1 x2 hlt hi HT HX HF HY
        go_upto_region 9 with fail
        cases r
        all_goals
          go_region_held3 (fun w' => Below wr.heap.size wr w' ∧ w'.cell? ⟨w.heap.size, 0, none⟩ = some (.string kind) ∧ w'.cell? ⟨w.heap.size, 1, none⟩ = some (.slice A vars.length c) ∧ w'.cell? ⟨w.heap.size, 2, none⟩ = some (.int .i64 n))
            (first | exact HE.out | exact HU.out | exact HT.out | exact HS0.out | exact HS1.out)
            (first
              | (go_at_call 10; (refine (awake_end _).mono ?_); rintro e w6 ⟨rfl, hb⟩; have HE := Aside0.mk (bX_below HU.out hb); clear hb)
              | (go_at_call 34; (refine (HFR.out.1 A c La lc _ (sl_below HV.out (below_then HB.out HB.out.size HT.out.1)) (Kd.C_below HL.out.1 (below_then HB.out HB.out.size HT.out.1)) HL.out.2).mono ?_); rintro e w5 ⟨rfl, hb⟩; have HU := Aside0.mk (bX_below HT.out hb); clear hb)
              | (go_at_call 35; (refine (HFR.out.2 A c La lc _ (sl_below HV.out (below_then HB.out HB.out.size HT.out.1)) (Kd.C_below HL.out.1 (below_then HB.out HB.out.size HT.out.1)) HL.out.2).mono ?_); rintro e w5 ⟨rfl, hb⟩; have HU := Aside0.mk (bX_below HT.out hb); clear hb)
              | (go_at_call 34; (refine (HFR.out.1 A c La lc _ (sl_below HV.out (below_then HB.out HB.out.size HS1.out.1)) (Kd.C_below HL.out.1 (below_then HB.out HB.out.size HS1.out.1)) HL.out.2).mono ?_); rintro e w4 ⟨rfl, hb⟩; have HT := Aside0.mk (bX_below HS1.out hb); clear hb)
              | (go_at_call 35; (refine (HFR.out.2 A c La lc _ (sl_below HV.out (below_then HB.out HB.out.size HS1.out.1)) (Kd.C_below HL.out.1 (below_then HB.out HB.out.size HS1.out.1)) HL.out.2).mono ?_); rintro e w4 ⟨rfl, hb⟩; have HT := Aside0.mk (bX_below HS1.out hb); clear hb))
          all_goals
            try go_wp2
            go_ret
            exact ⟨rfl, below_then HB.out HB.out.size HE.out.1⟩
/-- FamilyHolds, whatever the relation and the lists. -/
theorem holds_law (kind : ByteArray) (A : Option Addr) (c : Nat) (vars : List Int) (n : Int) (La : Option Addr) (lc : Nat) (L : List (List Int)) (w : World) (hv : Sl w A c vars) (hL : kII.C w La L.length L) (hlc : L.length ≤ lc) :
    Calls Try.prog 6 #[.agg #[.string kind, .slice A vars.length c, .int .i64 n], .slice La L.length lc] w (LawEnd w) := by
  cases hb : (decide (vars.length ≤ 10) && decide (kind.size ≤ 100)) with
  | false => exact holds_heavy kind A c vars n La lc L w hv hb
  | true => exact holds_light kind A c vars n La lc L w hv hL hlc hb
end Go.Proofs.Ytgfbgfbnmiainaa.Fam
