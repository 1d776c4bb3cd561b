import Derived.Test.YtgfbgfbnmiainaaBFamilyFixesp1
import Derived.Test.YtgfbgfbnmiainaaBFamilyFixesp0
import Derived.Test.YtgfbgfbnmiainaaQ66
import Derived.ChangeSlices
import Derived.ChangeArms
import Derived.DataReads
import Derived.DataElems
/-! FamilyFixes, the walk of the law. -/
namespace Go.Proofs.Ytgfbgfbnmiainaa.Fam
set_option linter.unusedVariables false
set_option linter.unusedSimpArgs false
open Go.RowKit Go.Proofs.YtgfbgfbnmiainaaW.PrintWords Go.Proofs.YtgfbgfbnmiainaaW.PrintLast Go.Proofs.YtgfbgfbnmiainaaW.PrintMore Go.Proofs.Ytgfbgfbnmiainaa.Q
attribute [local go_sem] Go.Proofs.YtgfbgfbnmiainaaW.OwnWords.isSome_setCell max2_int min2_int
def LawEnd (w : World) (e : Ending) (w' : World) : Prop := e = .returned (.bool true) ∧ Below w.heap.size w w'
theorem awake_end (w : World) : Calls Try.prog 10 #[] w (LawEnd w) := awake_walk w
/-- A relation whose list is another's. -/
structure Raw33 where
  f0 : ByteArray
  A : Option Addr
  n : Nat
  c : Nat
  f2 : Int
def raw33 (p : Raw33) : List Value := [.string p.f0, .slice p.A p.n p.c, .int .i64 p.f2]
def kR33 : Kd Raw33 where
  sz := 3
  E := []
  K := fun _ p cs => cs = raw33 p
  M := fun _ _ _ p cs => cs = raw33 p
  K_len := fun h => by rw [h]; rfl
  K_one := fun h u hu => by
    rw [h] at hu
    simp only [raw33, List.mem_cons, List.not_mem_nil, or_false] at hu
    rcases hu with rfl | rfl | rfl <;> rfl
  K_below := fun _ h => h
  K_of_M := fun h => h
  M_mono := fun _ h => h
  M_bound := fun h => h
  M_move := fun _ h => h
  M_lower := fun _ h => h
/-- The relations so far lie where rs says. -/
def Lies33 (w : World) (oth : Nat → S33) (rs : List Raw33) : Prop := ∀ (j : Nat) (p : Raw33), rs[j]? = some p → p.f0 = (oth j).f0 ∧ p.f2 = (oth j).f2 ∧ p.n = (oth j).f1.length ∧ (oth j).f1.length ≤ p.c ∧ (Kd.int .i64).C w p.A (oth j).f1.length (oth j).f1
theorem lies33_nil (w : World) (oth : Nat → S33) : Lies33 w oth [] := fun j p h => by cases h
theorem lies33_below {w w' : World} {oth : Nat → S33} {rs : List Raw33} (h : Lies33 w oth rs) (hb : Below w.heap.size w w') : Lies33 w' oth rs := fun j p hj => by
  obtain ⟨a, b, c, d, e⟩ := h j p hj
  exact ⟨a, b, c, d, Kd.C_below e hb⟩
theorem lies33_next {w : World} {oth : Nat → S33} {rs : List Raw33} (h : Lies33 w oth rs) {A : Option Addr} {c : Nat} (hc : (oth rs.length).f1.length ≤ c) (hs : (Kd.int .i64).C w A (oth rs.length).f1.length (oth rs.length).f1) : Lies33 w oth (rs ++ [⟨(oth rs.length).f0, A, (oth rs.length).f1.length, c, (oth rs.length).f2⟩]) := by
  intro j p hj
  by_cases e : j < rs.length
  · rw [List.getElem?_append_left e] at hj
    exact h j p hj
  · rw [List.getElem?_append_right (by omega)] at hj
    have : j = rs.length := by
      have := (List.getElem?_eq_some_iff.mp hj).1
      simp at this
      omega
    subst this
    simp at hj
    subst hj
    exact ⟨rfl, rfl, rfl, hc, hs⟩
theorem lies33_all {w' : World} {oth : Nat → S33} {rs : List Raw33} {m : Nat} (h : Lies33 w' oth rs) (hn : rs.length = m) {A : Option Addr} {n : Nat} (hC : Kd.C kR33 w' A n rs) : Kd.C k33 w' A ((List.range m).map oth).length ((List.range m).map oth) := by
  obtain ⟨h1, h2, h3⟩ := hC
  refine ⟨rfl, by simp; omega, fun h0 => ?_⟩
  have h0' : 0 < m := by simpa using h0
  obtain ⟨ad, e, hc⟩ := h3 (by omega)
  refine ⟨ad, e, fun j p hj => ?_⟩
  obtain ⟨hj1, hj2⟩ := List.getElem?_eq_some_iff.mp hj
  have hjm : j < m := by simpa using hj1
  have hp : p = oth j := by rw [← hj2]; simp
  subst hp
  obtain ⟨c, k1, k2, k3⟩ := hc j rs[j] (List.getElem?_eq_getElem (by omega))
  obtain ⟨l1, l2, l3, l4, l5⟩ := h j rs[j] (List.getElem?_eq_getElem (by omega))
  refine ⟨c, k1, ?_, k3⟩
  rw [show c = raw33 rs[j] from k2]
  unfold raw33
  rw [l1, l2, l3]
  exact k33_mk w' (oth j) l4 l5
theorem info33 : (Try.prog.info? 33).map (fun i => (i.zero, i.size, i.bytes)) = some (some (.agg #[.string ByteArray.empty, .slice none 0 0, .int .i64 0]), 3, 48) := by kernel_rfl
def oth (rels : List S33) (t : Nat) (i : Nat) : S33 := rd_T33 rels (((rels.length - 1 - i + t) % rels.length : Nat) : Int)
section
variable (A0 : Option Addr) (c0 : Nat) (rels : List S33) (A1 : Option Addr) (c1 : Nat) (l : List S37) (t : Nat) (N : Int) (w : World) (hr0 : Kd.C k33 w A0 rels.length rels) (hc0 : rels.length ≤ c0) (hr1 : Kd.C k37 w A1 l.length l) (hc1 : l.length ≤ c1)
include hr0 hc0 hr1 hc1
set_option maxHeartbeats 2000000 in
set_option maxRecDepth 100000 in
theorem fixes_heavy1 (k1 : Nat) (hf : manystrandlaw07_light.f k1 l = some false) :
    Calls Try.prog 3 #[.slice A0 rels.length c0, .slice A1 l.length c1, .int .u8 t, .int .i64 N] w (LawEnd w) := by
  have HR0 := Aside0.mk (And.intro hr0 hc0)
  have HR1 := Aside0.mk (And.intro hr1 hc1)
  clear hr0 hc0 hr1 hc1
  have HF1 := Aside0.mk hf
  clear hf
  go_enter Try.func3, Try.ntmps3
  go_wp2_with (first | (go_at_call 8; (refine (manystrandlaw07_light.calls k1 A1 c1 l false _ HR1.out.1 HR1.out.2 HF1.out).mono ?_); rintro e w1 ⟨rfl, hb⟩; have HB1 := Aside0.mk hb; clear hb) | (go_at_call 10; (refine (awake_end _).mono ?_); rintro e w9 ⟨rfl, hb⟩; have HE := Aside0.mk (below_then HB1.out HB1.out.size hb); clear hb))
  go_ret
  exact ⟨rfl, HE.out⟩
set_option maxHeartbeats 2000000 in
set_option maxRecDepth 100000 in
theorem fixes_heavy2 (k1 k2 : Nat) (hf1 : manystrandlaw07_light.f k1 l = some true) (hf2 : manystrandlaw07_lean.f k2 rels = some false) :
    Calls Try.prog 3 #[.slice A0 rels.length c0, .slice A1 l.length c1, .int .u8 t, .int .i64 N] w (LawEnd w) := by
  have HR0 := Aside0.mk (And.intro hr0 hc0)
  have HR1 := Aside0.mk (And.intro hr1 hc1)
  clear hr0 hc0 hr1 hc1
  have HF1 := Aside0.mk hf1
  have HF2 := Aside0.mk hf2
  clear hf1 hf2
  go_enter Try.func3, Try.ntmps3
  go_wp2_with (first | (go_at_call 8; (refine (manystrandlaw07_light.calls k1 A1 c1 l true _ HR1.out.1 HR1.out.2 HF1.out).mono ?_); rintro e w1 ⟨rfl, hb⟩; have HB1 := Aside0.mk hb; clear hb) | (go_at_call 9; (refine (manystrandlaw07_lean.calls k2 A0 c0 rels false _ (Kd.C_below HR0.out.1 HB1.out) HR0.out.2 HF2.out).mono ?_); rintro e w2 ⟨rfl, hb⟩; have HB2 := Aside0.mk (below_then HB1.out HB1.out.size hb); clear hb) | (go_at_call 10; (refine (awake_end _).mono ?_); rintro e w9 ⟨rfl, hb⟩; have HE := Aside0.mk (below_then HB2.out HB2.out.size hb); clear hb))
  go_ret
  exact ⟨rfl, HE.out⟩
set_option maxHeartbeats 8000000 in
set_option maxRecDepth 100000 in
theorem fixes_light (k1 k2 : Nat) (hf1 : manystrandlaw07_light.f k1 l = some true) (hf2 : manystrandlaw07_lean.f k2 rels = some true) (h50 : l.length ≤ 50) (hl100 : ∀ i : Nat, i < l.length → (rd_T37 l i).f0.length ≤ 100 ∧ (rd_T37 l i).f1.length ≤ 100) (hr110 : rels.length ≤ 110) (hr10 : ∀ i : Nat, i < rels.length → (rd_T33 rels i).f1.length ≤ 10) (ht : t < 256)
    (out : List S37) (code : Int) (hsm : out.length ≤ 1000) (hval : ∀ i : Nat, i < out.length → vl (rd_T37 out i) = true ∧ (rd_T37 out i).f0.length ≤ 64 ∧ (rd_T37 out i).f1.length ≤ 64)
    (hfa : FixCalls rels l out code) (hfb : ∀ (A0 : Option Addr) (c0 : Nat) (A1 : Option Addr) (c1 : Nat) (w : World), Kd.C k33 w A0 rels.length rels → rels.length ≤ c0 → Kd.C k37 w A1 l.length l → l.length ≤ c1 → Calls Try.prog 12 #[.slice A0 rels.length c0, .slice A1 l.length c1] w (FixEnd out code w))
    (hfc : FixCalls ((List.range rels.length).map (oth rels t)) l out code) (hcode : code = 0 ∨ code = 2 ∨ code = 60) (hfd : code = 0 → FixCalls ((List.range rels.length).map (oth rels t)) out out 0) :
    Calls Try.prog 3 #[.slice A0 rels.length c0, .slice A1 l.length c1, .int .u8 t, .int .i64 N] w (LawEnd w) := by
  have HR0 := Aside0.mk (And.intro hr0 hc0)
  have HR1 := Aside0.mk (And.intro hr1 hc1)
  have HF1 := Aside0.mk hf1
  have HF2 := Aside0.mk hf2
  have HFA := Aside0.mk hfa
  have HFB := Aside0.mk hfb
  have HFC := Aside0.mk hfc
  have HFD := Aside0.mk hfd
  have HOut := Aside0.mk (And.intro hsm hval)
  have HN := Aside0.mk (And.intro h50 (And.intro hl100 (And.intro hr110 (And.intro hr10 ht))))
  have HCd := Aside0.mk hcode
  clear hr0 hc0 hr1 hc1 hf1 hf2 hfa hfb hfc hfd hsm hval h50 hl100 hr110 hr10 ht hcode
  go_enter Try.func3, Try.ntmps3
  go_upto_region 9 with (first
    | (go_at_call 8; (refine (manystrandlaw07_light.calls k1 A1 c1 l true _ HR1.out.1 HR1.out.2 HF1.out).mono ?_); rintro e w1 ⟨rfl, hb⟩; have HB1 := Aside0.mk hb; clear hb)
    | (go_at_call 9; (refine (manystrandlaw07_lean.calls k2 A0 c0 rels true _ (Kd.C_below HR0.out.1 HB1.out) HR0.out.2 HF2.out).mono ?_); rintro e w2 ⟨rfl, hb⟩; have HB2 := Aside0.mk (below_then HB1.out HB1.out.size hb); clear hb)
    | (go_at_call 11; (refine (HFA.out A0 c0 A1 c1 _ (Kd.C_below HR0.out.1 HB2.out) HR0.out.2 (Kd.C_below HR1.out.1 HB2.out) HR1.out.2).mono ?_); rintro e w3 ⟨va, rfl, hra, hb⟩; obtain ⟨Aa, ca, rfl, hla, hCa⟩ := Kd.R_reads hra; have HCa := Aside0.mk (And.intro hCa hla); have HB3 := Aside0.mk (below_then HB2.out HB2.out.size hb); clear hb hra hCa hla)
    | (go_at_call 12; (refine (HFB.out A0 c0 A1 c1 _ (Kd.C_below HR0.out.1 HB3.out) HR0.out.2 (Kd.C_below HR1.out.1 HB3.out) HR1.out.2).mono ?_); rintro e w4 ⟨vb, rfl, hrb, hb⟩; obtain ⟨Ab, cb, rfl, hlb, hCb⟩ := Kd.R_reads hrb; have HCb := Aside0.mk (And.intro hCb hlb); have HCa4 := Aside0.mk (Kd.C_below HCa.out.1 hb); have HB4 := Aside0.mk (below_then HB3.out HB3.out.size hb); clear hb hrb hCb hlb)
    | (go_at_call 13; (refine (alike_same Aa ca Ab cb out HOut.out.1 HOut.out.2 _ HCa4.out HCa.out.2 HCb.out.1 HCb.out.2).mono ?_); rintro e w5 ⟨rfl, hb⟩; have HCa5 := Aside0.mk (Kd.C_below HCa4.out hb); have HB5 := Aside0.mk (below_then HB4.out HB4.out.size hb); clear hb))
  have HL0 := Aside0.mk (show Below w5.heap.size w5 w5 ∧ Kd.R kR33 33 w5 w5.heap.size (fun _ => True) (.slice none 0 0) [] ∧ Lies33 w (oth rels t) [] from ⟨Below.refl _ _, Kd.R_nil _ _ _ _ _, lies33_nil _ _⟩)
  go_loopg [13, 52] rels.length (fun kq v13 v52 w' => ∃ (i : Nat) (x : Int) (v : Value) (rs : List Raw33), v52 = .int .i64 x ∧ Aside0 (x = (i : Int)) ∧ v = v13 ∧ i + kq = rels.length ∧ Aside0 (rs.length = i) ∧ Aside0 (Below w5.heap.size w5 w' ∧ Kd.R kR33 33 w' w5.heap.size (fun _ => True) v rs ∧ Lies33 w (oth rels t) rs))
  case atStart => exact ⟨0, 0, .slice none 0 0, [], rfl, ⟨rfl⟩, rfl, by omega, ⟨rfl⟩, HL0⟩
  case round =>
    clear HL0
    obtain ⟨i, x, v, rs, rfl, HX, rfl, hi, HT, HI⟩ := hrel
    by_cases hlt : i < rels.length
    · have d0 : decide (0 ≤ x) = true := decide_eq_true (by have := HX.out; omega)
      have d1 : decide (x < (rels.length : Int)) = true := decide_eq_true (by have := HX.out; omega)
      have p0 := eq_true (show 0 ≤ x by have := HX.out; omega)
      have p1 := eq_true (show x < (rels.length : Int) by have := HX.out; omega)
      obtain ⟨ad, B1, b1, rfl, x0, x1, x2, m1, M1⟩ := at_T33 HR0.out.1 x (by have := HX.out; omega) (by have := HX.out; omega)
      have hB := below_then HB5.out HB5.out.size HI.out.1
      replace x0 := (hB.cell (World.block_lt_of_cell? w _ x0)).trans x0
      replace x1 := (hB.cell (World.block_lt_of_cell? w _ x1)).trans x1
      replace x2 := (hB.cell (World.block_lt_of_cell? w _ x2)).trans x2
      have HM := Aside0.mk (And.intro (Kd.C_below M1 hB) m1)
      have HBW := Aside0.mk hB
      obtain ⟨b, hbF, hbR⟩ := valid_any (rd_T33 rels x) N (by have := HN.out.2.2.2.1 i hlt; rw [HX.out]; omega)
      have HVF := Aside0.mk (And.intro hbF hbR)
      clear M1 m1 hB hbF hbR
      go_upto_region 11 with fail
      obtain ⟨W, hW⟩ : ∃ W, W = wr.alloc (.cells #[.string (rd_T33 rels x).f0, .slice B1 (rd_T33 rels x).f1.length b1, .int .i64 (rd_T33 rels x).f2] 33) := ⟨_, rfl⟩
      rw [← hW]
      have g0 : W.cell? ⟨wr.heap.size, 0, none⟩ = some (.string (rd_T33 rels x).f0) := by rw [hW]; exact (blk_cell (heap_alloc_new _ _) 0).trans rfl
      have g1 : W.cell? ⟨wr.heap.size, 1, none⟩ = some (.slice B1 (rd_T33 rels x).f1.length b1) := by rw [hW]; exact (blk_cell (heap_alloc_new _ _) 1).trans rfl
      have g2 : W.cell? ⟨wr.heap.size, 2, none⟩ = some (.int .i64 (rd_T33 rels x).f2) := by rw [hW]; exact (blk_cell (heap_alloc_new _ _) 2).trans rfl
      have HWb := Aside0.mk (show Below wr.heap.size wr W by rw [hW]; exact below_alloc (Below.refl _ _) _)
      have HM2 := Aside0.mk (And.intro (Kd.C_below HM.out.1 HWb.out) HM.out.2)
      clear hW x0 x1 x2
      obtain ⟨S, hS⟩ : ∃ S : World → Prop, S = fun w' => Below W.heap.size W w' ∧ w'.cell? ⟨wr.heap.size, 0, none⟩ = some (.string (rd_T33 rels x).f0) ∧ w'.cell? ⟨wr.heap.size, 1, none⟩ = some (.slice B1 (rd_T33 rels x).f1.length b1) ∧ w'.cell? ⟨wr.heap.size, 2, none⟩ = some (.int .i64 (rd_T33 rels x).f2) := ⟨_, rfl⟩
      have hSb : ∀ w1 w2, S w1 → Below w1.heap.size w1 w2 → S w2 := by
        subst hS
        rintro w1 w2 ⟨a0, a1, a2, a3⟩ hb
        exact ⟨below_then a0 a0.size hb, pw_cell_below hb a1, pw_cell_below hb a2, pw_cell_below hb a3⟩
      have HSb := Aside0.mk hSb
      have HS0 := Aside0.mk (show S W by subst hS; exact ⟨Below.refl _ _, g0, g1, g2⟩)
      have HS1 := Aside0.mk (hSb _ _ HS0.out (below_drew (Below.refl W.heap.size W)))
      subst hS
      clear hSb g0 g1 g2
      go_cut [63] from 57 to 63 (fun s wx => s = .bool false ∧ Below W.heap.size W wx)
      case first =>
        cases b
        all_goals
          go_region_held3 (fun w' => Below W.heap.size W w' ∧ w'.cell? ⟨wr.heap.size, 0, none⟩ = some (.string (rd_T33 rels x).f0) ∧ w'.cell? ⟨wr.heap.size, 1, none⟩ = some (.slice B1 (rd_T33 rels x).f1.length b1) ∧ w'.cell? ⟨wr.heap.size, 2, none⟩ = some (.int .i64 (rd_T33 rels x).f2))
            (first | exact HU.out | exact HT2.out | exact HS1.out | exact HS0.out)
            (first
              | (go_at_call 14; (refine (family_ValidRel.calls 2000 (rd_T33 rels x).f0 B1 b1 (rd_T33 rels x).f1 (rd_T33 rels x).f2 N _ _ (Kd.C_below HM2.out.1 HT2.out.1) HM2.out.2 HVF.out.1).mono ?_); rintro e w7 ⟨rfl, hb⟩; have HU := Aside0.mk (HSb.out _ _ HT2.out hb); clear hb)
              | (go_at_call 15; (refine (manystrandref07_ValidRel.calls 2000 (rd_T33 rels x).f0 B1 b1 (rd_T33 rels x).f1 (rd_T33 rels x).f2 N _ _ (Kd.C_below HM2.out.1 HT2.out.1) HM2.out.2 HVF.out.2).mono ?_); rintro e w7 ⟨rfl, hb⟩; have HU := Aside0.mk (HSb.out _ _ HT2.out hb); clear hb)
              | (go_at_call 14; (refine (family_ValidRel.calls 2000 (rd_T33 rels x).f0 B1 b1 (rd_T33 rels x).f1 (rd_T33 rels x).f2 N _ _ (Kd.C_below HM2.out.1 HS1.out.1) HM2.out.2 HVF.out.1).mono ?_); rintro e w6 ⟨rfl, hb⟩; have HT2 := Aside0.mk (HSb.out _ _ HS1.out hb); clear hb)
              | (go_at_call 15; (refine (manystrandref07_ValidRel.calls 2000 (rd_T33 rels x).f0 B1 b1 (rd_T33 rels x).f1 (rd_T33 rels x).f2 N _ _ (Kd.C_below HM2.out.1 HS1.out.1) HM2.out.2 HVF.out.2).mono ?_); rintro e w6 ⟨rfl, hb⟩; have HT2 := Aside0.mk (HSb.out _ _ HS1.out hb); clear hb))
          all_goals
            try go_wp2
            go_meet
            exact ⟨rfl, HU.out.1⟩
      case rest =>
      obtain ⟨rfl, hcut⟩ := hcut
      have HC := Aside0.mk (And.intro (below_then HI.out.1 HI.out.1.size (below_then HWb.out HWb.out.size hcut)) (And.intro (Kd.R_below HI.out.2.1 (below_then HWb.out HWb.out.size hcut)) HI.out.2.2))
      clear hcut HS0 HS1 HSb HM2
      go_upto_region 13 with fail
      have hE : ((wrap64 (wrap64 (wrap64 ((rels.length : Int) - 1) - x) + wrap64 (t : Int))).tmod (rels.length : Int)) = (((rels.length - 1 - i + t) % rels.length : Nat) : Int) := by
        have h1 : wrap64 (wrap64 (wrap64 ((rels.length : Int) - 1) - x) + wrap64 (t : Int)) = ((rels.length - 1 - i + t : Nat) : Int) := by
          have := HN.out.2.2.1
          have := HN.out.2.2.2.2
          rw [HX.out]
          unfold wrap64
          omega
        rw [h1]
        exact (Int.ofNat_tmod _ _).symm
      have hE1 := Nat.mod_lt (rels.length - 1 - i + t) (show 0 < rels.length by omega)
      have i0 : 0 ≤ ((wrap64 (wrap64 (wrap64 ((rels.length : Int) - 1) - x) + wrap64 (t : Int))).tmod (rels.length : Int)) := by rw [hE]; omega
      have i1 : ((wrap64 (wrap64 (wrap64 ((rels.length : Int) - 1) - x) + wrap64 (t : Int))).tmod (rels.length : Int)) < (rels.length : Int) := by rw [hE]; omega
      have j0 := eq_true i0
      have j1 := eq_true i1
      have j2 : decide (0 ≤ ((wrap64 (wrap64 (wrap64 ((rels.length : Int) - 1) - x) + wrap64 (t : Int))).tmod (rels.length : Int))) = true := decide_eq_true i0
      have j3 : decide (((wrap64 (wrap64 (wrap64 ((rels.length : Int) - 1) - x) + wrap64 (t : Int))).tmod (rels.length : Int)) < (rels.length : Int)) = true := decide_eq_true i1
      obtain ⟨ad2, B2, b2, e_, y0, y1, y2, n1, N1⟩ := at_T33 HR0.out.1 ((wrap64 (wrap64 (wrap64 ((rels.length : Int) - 1) - x) + wrap64 (t : Int))).tmod (rels.length : Int)) i0 i1
      injection e_ with e_
      subst e_
      have hB2 := below_then HB5.out HB5.out.size HC.out.1
      replace y0 := (hB2.cell (World.block_lt_of_cell? w _ y0)).trans y0
      replace y1 := (hB2.cell (World.block_lt_of_cell? w _ y1)).trans y1
      replace y2 := (hB2.cell (World.block_lt_of_cell? w _ y2)).trans y2
      have hO : rd_T33 rels ((wrap64 (wrap64 (wrap64 ((rels.length : Int) - 1) - x) + wrap64 (t : Int))).tmod (rels.length : Int)) = oth rels t rs.length := by rw [hE, HT.out]; rfl
      rw [hO] at y0 y1 y2 n1 N1
      have HLn := Aside0.mk (And.intro n1 N1)
      have LM : Aside0 (rs.length + 1 ≤ 1000) := ⟨by rw [HT.out]; have := HN.out.2.2.1; omega⟩
      clear hE hE1 i0 i1 hO n1 N1 hB2
      go_wp2_with (at_builtin; refine Kd.R_append kR33 (w0 := w5) w5.heap.size rfl (.tmp 64) (.tmp 79) 22 33 (.agg #[.string ByteArray.empty, .slice none 0 0, .int .i64 0]) 48 rfl Try.underlying22 info33 rfl (by decide) (by omega) v rs ⟨(oth rels t rs.length).f0, B2, (oth rels t rs.length).f1.length, b2, (oth rels t rs.length).f2⟩ [.string (oth rels t rs.length).f0, .slice B2 (oth rels t rs.length).f1.length b2, .int .i64 (oth rels t rs.length).f2] (fun _ => True) (fun _ => False) rfl rfl rfl (fun _ hk => hk.elim) ?aF ?aO ?aB ?aS ?aL ?_; (case aF => exact fun _ _ => trivial); (case aO => exact HC.out.2.1); (case aB => exact HC.out.1); (case aS => exact HC.out.1.size); (case aL => have := LM.out; omega); intro v1 w8 ho hb hg hat; have HW := Aside0.mk (And.intro hb ho); clear hb hg hat ho)
      go_roundg (rels.length - (i + 1))
      case measure => omega
      case rel => exact ⟨i + 1, _, v1, rs ++ [⟨(oth rels t rs.length).f0, B2, (oth rels t rs.length).f1.length, b2, (oth rels t rs.length).f2⟩], (by first | rfl | (simp; done)), ⟨by rw [HX.out]; unfold wrap64; have := HN.out.2.2.1; omega⟩, rfl, by omega, ⟨by rw [List.length_append, HT.out]; rfl⟩, ⟨HW.out.1, HW.out.2, lies33_next HC.out.2.2 HLn.out.1 HLn.out.2⟩⟩
    · obtain rfl : i = rels.length := by omega
      have d1 : decide (x < (rels.length : Int)) = false := decide_eq_false (by have := HX.out; omega)
      have p1 := eq_false (show ¬ x < (rels.length : Int) by have := HX.out; omega)
      clear HX hi hlt
      obtain ⟨Ao, co, rfl, hlo, hCo⟩ := Kd.R_reads HI.out.2.1
      have hbw := below_then HB5.out HB5.out.size HI.out.1
      have hCo2 := lies33_all (lies33_below HI.out.2.2 hbw) HT.out hCo
      have hol : rs.length = ((List.range rels.length).map (oth rels t)).length := by rw [HT.out]; simp
      rw [hol]
      rw [hol] at hlo
      have HCo := Aside0.mk (And.intro hCo2 hlo)
      have HBW := Aside0.mk hbw
      have HCa6 := Aside0.mk (Kd.C_below HCa5.out HI.out.1)
      clear hlo hCo hCo2 hbw hol HI HT
      generalize (List.range rels.length).map (oth rels t) = other at HCo HFC HFD ⊢
      rcases HCd.out with rfl | rfl | rfl
      · have HFD0 := Aside0.mk (HFD.out rfl)
        go_wp2_with (first
          | (go_at_call 13; (refine (alike_same Aa ca Ad cd out HOut.out.1 HOut.out.2 _ HCa9.out HCa.out.2 HCd2.out.1 HCd2.out.2).mono ?_); rintro e w12 ⟨rfl, hb⟩; have HB12 := Aside0.mk (below_then HB11.out HB11.out.size hb); clear hb)
          | (go_at_call 11; (refine (HFD0.out Ao co Aa ca _ HCo8.out HCo.out.2 HCa8.out HCa.out.2).mono ?_); rintro e w11 ⟨vd, rfl, hrd, hb⟩; obtain ⟨Ad, cd, rfl, hld, hCd⟩ := Kd.R_reads hrd; have HCd2 := Aside0.mk (And.intro hCd hld); have HCa9 := Aside0.mk (Kd.C_below HCa8.out hb); have HB11 := Aside0.mk (below_then HB10.out HB10.out.size hb); clear hb hrd hCd hld)
          | (go_at_call 13; (refine (alike_same Aa ca Ac cc out HOut.out.1 HOut.out.2 _ HCa7.out HCa.out.2 HCc.out.1 HCc.out.2).mono ?_); rintro e w10 ⟨rfl, hb⟩; have HCa8 := Aside0.mk (Kd.C_below HCa7.out hb); have HCo8 := Aside0.mk (Kd.C_below HCo7.out hb); have HB10 := Aside0.mk (below_then HB9.out HB9.out.size hb); clear hb)
          | (go_at_call 11; (refine (HFC.out Ao co A1 c1 _ HCo.out.1 HCo.out.2 (Kd.C_below HR1.out.1 HBW.out) HR1.out.2).mono ?_); rintro e w9 ⟨vc, rfl, hrc, hb⟩; obtain ⟨Ac, cc, rfl, hlc, hCc⟩ := Kd.R_reads hrc; have HCc := Aside0.mk (And.intro hCc hlc); have HCa7 := Aside0.mk (Kd.C_below HCa6.out hb); have HCo7 := Aside0.mk (Kd.C_below HCo.out.1 hb); have HB9 := Aside0.mk (below_then HBW.out HBW.out.size hb); clear hb hrc hCc hlc)
          | (go_at_call 10; (refine (awake_end _).mono ?_); rintro e w13 ⟨rfl, hb⟩; have HE := Aside0.mk (below_then HB12.out HB12.out.size hb); clear hb))
        go_ret
        exact ⟨rfl, HE.out⟩
      all_goals
        go_wp2_with (first
          | (go_at_call 11; (refine (HFC.out Ao co A1 c1 _ HCo.out.1 HCo.out.2 (Kd.C_below HR1.out.1 HBW.out) HR1.out.2).mono ?_); rintro e w9 ⟨vc, rfl, hrc, hb⟩; obtain ⟨Ac, cc, rfl, hlc, hCc⟩ := Kd.R_reads hrc; have HCc := Aside0.mk (And.intro hCc hlc); have HCa7 := Aside0.mk (Kd.C_below HCa6.out hb); have HB9 := Aside0.mk (below_then HBW.out HBW.out.size hb); clear hb hrc hCc hlc)
          | (go_at_call 13; (refine (alike_same Aa ca Ac cc out HOut.out.1 HOut.out.2 _ HCa7.out HCa.out.2 HCc.out.1 HCc.out.2).mono ?_); rintro e w10 ⟨rfl, hb⟩; have HB10 := Aside0.mk (below_then HB9.out HB9.out.size hb); clear hb)
          | (go_at_call 10; (refine (awake_end _).mono ?_); rintro e w13 ⟨rfl, hb⟩; have HE := Aside0.mk (below_then HB10.out HB10.out.size hb); clear hb))
        go_ret
        exact ⟨rfl, HE.out⟩
end
end Go.Proofs.Ytgfbgfbnmiainaa.Fam
/-! FamilyFixes, whatever came in. -/
namespace Go.Proofs.Ytgfbgfbnmiainaa.Fam
set_option linter.unusedVariables false
set_option linter.unusedSimpArgs false
open Go.RowKit Go.Proofs.YtgfbgfbnmiainaaW.PrintWords Go.Proofs.YtgfbgfbnmiainaaW.PrintLast Go.Proofs.YtgfbgfbnmiainaaW.PrintMore Go.Proofs.Ytgfbgfbnmiainaa.Q
theorem fixes_any (A0 : Option Addr) (c0 : Nat) (rels : List S33) (A1 : Option Addr) (c1 : Nat) (l : List S37) (t : Nat) (N : Int) (w : World) (hr0 : Kd.C k33 w A0 rels.length rels) (hc0 : rels.length ≤ c0) (hr1 : Kd.C k37 w A1 l.length l) (hc1 : l.length ≤ c1) (ht : t < 256) :
    Calls Try.prog 3 #[.slice A0 rels.length c0, .slice A1 l.length c1, .int .u8 t, .int .i64 N] w (LawEnd w) := by
  obtain ⟨k1, b1, hf1, hb1⟩ := light_any l hr1.2.1
  obtain ⟨k2, b2, hf2, hb2⟩ := lean_any rels hr0.2.1
  cases b1 with
  | false => exact fixes_heavy1 A0 c0 rels A1 c1 l t N w hr0 hc0 hr1 hc1 k1 hf1
  | true =>
    cases b2 with
    | false => exact fixes_heavy2 A0 c0 rels A1 c1 l t N w hr0 hc0 hr1 hc1 k1 k2 hf1 hf2
    | true =>
      obtain ⟨h50, hl100⟩ := hb1 rfl
      obtain ⟨hr110, hr10⟩ := hb2 rfl
      have hl : ∀ i : Nat, i < l.length → (rd_T37 l i).f0.length ≤ 1000 ∧ (rd_T37 l i).f1.length ≤ 1000 := fun i hi => by have := hl100 i hi; omega
      have hv : ∀ i : Nat, i < rels.length → (rd_T33 rels i).f1.length ≤ 1000 := fun i hi => by have := hr10 i hi; omega
      obtain ⟨out, code, ho, hfa⟩ := fix_all rels l (by omega) (by omega) hl hv
      have hp : Perm rels ((List.range rels.length).map (oth rels t)) := turn_perm rels t
      have hv' : ∀ i : Nat, i < ((List.range rels.length).map (oth rels t)).length → (rd_T33 ((List.range rels.length).map (oth rels t)) i).f1.length ≤ 1000 := fun i hi => by
        obtain ⟨j, hj, e⟩ := hp.into_ i hi
        rw [e]
        exact hv j hj
      obtain ⟨out', code', ho', hfc⟩ := fix_all ((List.range rels.length).map (oth rels t)) l (by omega) (by rw [hp.len]; omega) hl hv'
      obtain ⟨rfl, rfl⟩ := fixOut_one (fixOut_perm hp ho) ho'
      have hcode : code = 0 ∨ code = 2 ∨ code = 60 := by
        rcases ho with ⟨_, _, h⟩ | ⟨_, _, h, _⟩ | ⟨_, h, _⟩
        · exact .inr (.inl h)
        · exact .inr (.inr h)
        · exact .inl h
      have hout : out.length ≤ 1000 ∧ ∀ i : Nat, i < out.length → vl (rd_T37 out i) = true ∧ (rd_T37 out i).f0.length ≤ 64 ∧ (rd_T37 out i).f1.length ≤ 64 := by
        rcases hcode with rfl | rfl | rfl
        · obtain ⟨a, b⟩ := out_facts ho
          exact ⟨by omega, b⟩
        · rcases ho with ⟨_, h, _⟩ | ⟨_, h, _⟩ | ⟨_, h, _⟩
          · subst h; exact ⟨by simp, fun i hi => absurd hi (by simp)⟩
          · subst h; exact ⟨by simp, fun i hi => absurd hi (by simp)⟩
          · cases h
        · rcases ho with ⟨_, h, _⟩ | ⟨_, h, _⟩ | ⟨_, h, _⟩
          · subst h; exact ⟨by simp, fun i hi => absurd hi (by simp)⟩
          · subst h; exact ⟨by simp, fun i hi => absurd hi (by simp)⟩
          · cases h
      refine fixes_light A0 c0 rels A1 c1 l t N w hr0 hc0 hr1 hc1 k1 k2 hf1 hf2 h50 hl100 hr110 hr10 ht out code hout.1 hout.2 hfa (fun A0 c0 A1 c1 w h0 h1 h2 h3 => fixR_calls ho (by omega) hl hv A0 c0 A1 c1 w h0 h1 h2 h3) hfc hcode (fun e => ?_)
      subst e
      have hag := fixOut_perm hp (fixOut_again ho)
      obtain ⟨out2, code2, ho2, hfd⟩ := fix_all ((List.range rels.length).map (oth rels t)) out hout.1 (by rw [hp.len]; omega) (fun i hi => by have := hout.2 i hi; omega) hv'
      obtain ⟨rfl, rfl⟩ := fixOut_one hag ho2
      exact hfd
end Go.Proofs.Ytgfbgfbnmiainaa.Fam
/-! What came in, read: numbers, texts, lists, structs. -/
namespace Go.Proofs.Ytgfbgfbnmiainaa.Fam
set_option linter.unusedVariables false
set_option linter.unusedSimpArgs false
open Go.RowKit Go.Proofs.YtgfbgfbnmiainaaW.PrintWords Go.Proofs.YtgfbgfbnmiainaaW.PrintLast Go.Proofs.YtgfbgfbnmiainaaW.PrintMore Go.Proofs.Ytgfbgfbnmiainaa.Q
section
variable {H : Type} {enc : TypeId × Value → H} {w : World} {base : Nat} {spare : Nat → Bool} {held : Bool} {fuel : Nat} {cs : List Value} {x : DataW H × List MemPlace}
theorem in_int {t : TypeId} {k : IntKind} (ht : Try.prog.underlying t = some (.int k)) (h : DataW.trod enc Try.prog w base spare held fuel t cs = some x) : ∃ n, cs = [.int k n] ∧ (Lit.int k n).wf = true := by
  cases fuel with
  | zero => simp [DataW.trod] at h
  | succ n =>
    unfold DataW.trod at h
    rw [ht] at h
    split at h <;> simp_all
theorem in_string {t : TypeId} (ht : Try.prog.underlying t = some .string) (h : DataW.trod enc Try.prog w base spare held fuel t cs = some x) : ∃ s, cs = [.string s] := by
  cases fuel with
  | zero => simp [DataW.trod] at h
  | succ n =>
    unfold DataW.trod at h
    rw [ht] at h
    split at h <;> simp_all
/-- A list of what can be read. -/
theorem in_slice {α : Type} (d : Kd α) {t e : TypeId} (ht : Try.prog.underlying t = some (.slice e)) (hc : Try.prog.cellsOf e = d.sz) (hd : ∀ (n : Nat) (cs : List Value) (y : DataW H × List MemPlace), DataW.trod enc Try.prog w base spare held n e cs = some y → ∃ p, d.K w p cs)
    (h : DataW.trod enc Try.prog w base spare held fuel t cs = some x) : ∃ (xs : List α) (A : Option Addr) (c : Nat), cs = [.slice A xs.length c] ∧ xs.length ≤ c ∧ d.C w A xs.length xs := by
  rcases DataW.trod_slice ht h with ⟨rfl, _⟩ | ⟨a, len, cap, elems, rest, n, _, rfl, _, hb, hl, hm, hlen, hel, _, _⟩
  · exact ⟨[], none, 0, rfl, Nat.le_refl _, rfl, by simp, fun h => absurd h (by simp)⟩
  · have each : ∀ i, i < len → ∃ (ci : List Value) (p : α), w.cells? base (a.add (i * d.sz)) d.sz = some ci ∧ d.K w p ci := by
      intro i hi
      have h1 := hel i hi
      rw [List.getElem?_eq_getElem (by omega), hc] at h1
      obtain ⟨ci, h2, h3⟩ := Option.bind_eq_some_iff.1 h1
      obtain ⟨p, hp⟩ := hd _ _ _ h3
      exact ⟨ci, p, h2, hp⟩
    have hex : ∃ xs : List α, xs.length = len ∧ ∀ i (hi : i < xs.length), ∃ ci, w.cells? base (a.add (i * d.sz)) d.sz = some ci ∧ d.K w xs[i] ci := by
      clear hel hlen
      have key : ∀ m, m ≤ len → ∃ xs : List α, xs.length = m ∧ ∀ i (hi : i < xs.length), ∃ ci, w.cells? base (a.add (i * d.sz)) d.sz = some ci ∧ d.K w xs[i] ci := by
        intro m
        induction m with
        | zero => exact fun _ => ⟨[], rfl, fun i hi => absurd hi (by simp)⟩
        | succ m ih =>
          intro hm'
          obtain ⟨xs, hxl, hx⟩ := ih (by omega)
          obtain ⟨ci, p, h1, h2⟩ := each m (by omega)
          refine ⟨xs ++ [p], by simp [hxl], fun i hi => ?_⟩
          rcases Nat.lt_or_ge i xs.length with hlt | hge
          · obtain ⟨cj, h3, h4⟩ := hx i hlt
            exact ⟨cj, h3, by rw [List.getElem_append_left hlt]; exact h4⟩
          · simp only [List.length_append, List.length_cons, List.length_nil] at hi
            obtain rfl : i = m := by omega
            exact ⟨ci, h1, by rw [List.getElem_append_right hge]; simpa [hxl] using h2⟩
      exact key len (Nat.le_refl _)
    obtain ⟨xs, hxl, hx⟩ := hex
    refine ⟨xs, some a, cap, by rw [hxl], by omega, rfl, by simp only [maxLen] at hm; omega, fun _ => ⟨a, rfl, fun j p hj => ?_⟩⟩
    obtain ⟨hj1, hj2⟩ := List.getElem?_eq_some_iff.1 hj
    obtain ⟨ci, h1, h2⟩ := hx j hj1
    rw [hj2] at h2
    refine ⟨ci, d.K_len h2, h2, fun i u hu => ?_⟩
    obtain ⟨hb1, hb2, hb3⟩ := World.cells?_some h1
    have hi : i < d.sz := by rw [← d.K_len h2]; exact (List.getElem?_eq_some_iff.1 hu).1
    rw [← Addr.add_add]
    exact (hb3 i hi).trans hu
theorem size9 : Try.prog.cellsOf 9 = 1 := by kernel_rfl
theorem size31 : Try.prog.cellsOf 31 = 1 := by kernel_rfl
theorem size3 : Try.prog.cellsOf 3 = 1 := by kernel_rfl
theorem size33 : Try.prog.cellsOf 33 = 3 := by kernel_rfl
theorem in_ints (h : DataW.trod enc Try.prog w base spare held fuel 31 cs = some x) : ∃ (xs : List Int) (A : Option Addr) (c : Nat), cs = [.slice A xs.length c] ∧ xs.length ≤ c ∧ (Kd.int .i64).C w A xs.length xs :=
  in_slice (Kd.int .i64) Try.underlying31 size3 (fun n cs y hy => by obtain ⟨m, rfl, _⟩ := in_int Try.underlying3 hy; exact ⟨m, rfl⟩) h
set_option maxRecDepth 100000 in
theorem in_33 (h : DataW.trod enc Try.prog w base spare held fuel 33 cs = some x) : ∃ p : S33, k33.K w p cs := by
  obtain ⟨xs, n, _, _, hl, hxl, hf⟩ := DataW.trod_struct Try.underlying33 h
  rw [size33] at hl
  have hg : ∀ i, i < 3 → ∃ y, xs[i]? = some y := fun i hi => ⟨_, List.getElem?_eq_getElem (by simp at hxl; omega)⟩
  match cs, hl with
  | [c0, c1, c2], _ =>
    obtain ⟨y0, e0⟩ := hg 0 (by decide)
    obtain ⟨y1, e1⟩ := hg 1 (by decide)
    obtain ⟨y2, e2⟩ := hg 2 (by decide)
    have h0 : DataW.trod enc Try.prog w base spare held n 9 (([c0, c1, c2].drop 0).take (Try.prog.cellsOf 9)) = some y0 := (hf 0 _ rfl).trans e0
    have h1 : DataW.trod enc Try.prog w base spare held n 31 (([c0, c1, c2].drop 1).take (Try.prog.cellsOf 31)) = some y1 := (hf 1 _ rfl).trans e1
    have h2 : DataW.trod enc Try.prog w base spare held n 3 (([c0, c1, c2].drop 2).take (Try.prog.cellsOf 3)) = some y2 := (hf 2 _ rfl).trans e2
    rw [size9] at h0
    rw [size31] at h1
    rw [size3] at h2
    obtain ⟨s, g0⟩ := in_string Try.underlying9 h0
    obtain ⟨vs, A, c, g1, hv, hC⟩ := in_ints h1
    obtain ⟨m, g2, _⟩ := in_int Try.underlying3 h2
    simp at g0 g1 g2
    subst g0 g1 g2
    exact ⟨⟨s, vs, m⟩, k33_mk w ⟨s, vs, m⟩ hv hC⟩
theorem in_lists (h : DataW.trod enc Try.prog w base spare held fuel 51 cs = some x) : ∃ (L : List (List Int)) (A : Option Addr) (c : Nat), cs = [.slice A L.length c] ∧ L.length ≤ c ∧ (Kd.slice 3 (Kd.int .i64)).C w A L.length L :=
  in_slice (Kd.slice 3 (Kd.int .i64)) Try.underlying51 size31 (fun n cs y hy => by obtain ⟨xs, A, c, rfl, hc, hC⟩ := in_ints hy; exact ⟨xs, A, c, rfl, hc, hC⟩) h
end
end Go.Proofs.Ytgfbgfbnmiainaa.Fam
/-! What came in, read: families, lists of families, lists of relations. -/
namespace Go.Proofs.Ytgfbgfbnmiainaa.Fam
set_option linter.unusedVariables false
set_option linter.unusedSimpArgs false
open Go.RowKit Go.Proofs.YtgfbgfbnmiainaaW.PrintWords Go.Proofs.YtgfbgfbnmiainaaW.PrintLast Go.Proofs.YtgfbgfbnmiainaaW.PrintMore Go.Proofs.Ytgfbgfbnmiainaa.Q
section
variable {H : Type} {enc : TypeId × Value → H} {w : World} {base : Nat} {spare : Nat → Bool} {held : Bool} {fuel : Nat} {cs : List Value} {x : DataW H × List MemPlace}
theorem size37 : Try.prog.cellsOf 37 = 4 := by kernel_rfl
set_option maxRecDepth 100000 in
theorem in_37 (h : DataW.trod enc Try.prog w base spare held fuel 37 cs = some x) : ∃ p : S37, k37.K w p cs := by
  obtain ⟨xs, n, _, _, hl, hxl, hf⟩ := DataW.trod_struct Try.underlying37 h
  rw [size37] at hl
  have hg : ∀ i, i < 4 → ∃ y, xs[i]? = some y := fun i hi => ⟨_, List.getElem?_eq_getElem (by simp at hxl; omega)⟩
  match cs, hl with
  | [c0, c1, c2, c3], _ =>
    obtain ⟨y0, e0⟩ := hg 0 (by decide)
    obtain ⟨y1, e1⟩ := hg 1 (by decide)
    obtain ⟨y2, e2⟩ := hg 2 (by decide)
    obtain ⟨y3, e3⟩ := hg 3 (by decide)
    have h0 : DataW.trod enc Try.prog w base spare held n 31 (([c0, c1, c2, c3].drop 0).take (Try.prog.cellsOf 31)) = some y0 := (hf 0 _ rfl).trans e0
    have h1 : DataW.trod enc Try.prog w base spare held n 31 (([c0, c1, c2, c3].drop 1).take (Try.prog.cellsOf 31)) = some y1 := (hf 1 _ rfl).trans e1
    have h2 : DataW.trod enc Try.prog w base spare held n 3 (([c0, c1, c2, c3].drop 2).take (Try.prog.cellsOf 3)) = some y2 := (hf 2 _ rfl).trans e2
    have h3 : DataW.trod enc Try.prog w base spare held n 3 (([c0, c1, c2, c3].drop 3).take (Try.prog.cellsOf 3)) = some y3 := (hf 3 _ rfl).trans e3
    rw [size31] at h0 h1
    rw [size3] at h2 h3
    obtain ⟨v0, A0, a0, g0, hv0, hC0⟩ := in_ints h0
    obtain ⟨v1, A1, a1, g1, hv1, hC1⟩ := in_ints h1
    obtain ⟨m2, g2, _⟩ := in_int Try.underlying3 h2
    obtain ⟨m3, g3, _⟩ := in_int Try.underlying3 h3
    simp at g0 g1 g2 g3
    subst g0 g1 g2 g3
    exact ⟨⟨v0, v1, m2, m3⟩, k37_mk w ⟨v0, v1, m2, m3⟩ hv0 hC0 hv1 hC1⟩
theorem in_fams (h : DataW.trod enc Try.prog w base spare held fuel 23 cs = some x) : ∃ (l : List S37) (A : Option Addr) (c : Nat), cs = [.slice A l.length c] ∧ l.length ≤ c ∧ Kd.C k37 w A l.length l :=
  in_slice k37 Try.underlying23 size37 (fun n cs y hy => in_37 hy) h
theorem in_rels (h : DataW.trod enc Try.prog w base spare held fuel 22 cs = some x) : ∃ (l : List S33) (A : Option Addr) (c : Nat), cs = [.slice A l.length c] ∧ l.length ≤ c ∧ Kd.C k33 w A l.length l :=
  in_slice k33 Try.underlying22 size33 (fun n cs y hy => in_33 hy) h
end
end Go.Proofs.Ytgfbgfbnmiainaa.Fam
