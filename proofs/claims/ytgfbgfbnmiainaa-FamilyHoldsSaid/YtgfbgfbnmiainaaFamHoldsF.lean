import Derived.Test.YtgfbgfbnmiainaaFamPickA
import Derived.Test.YtgfbgfbnmiainaaFamPickB
import Derived.Test.YtgfbgfbnmiainaaFamPickC
import Derived.Test.YtgfbgfbnmiainaaFamPlain
import Derived.Test.YtgfbgfbnmiainaaQ6
import Derived.Test.YtgfbgfbnmiainaaQ68
import Derived.Test.YtgfbgfbnmiainaaQ70
import Derived.Deep.RegionHeld3
import Derived.Deep.OwnRows
/-! family.Holds, the walk. -/
namespace Go.Proofs.Ytgfbgfbnmiainaa.Fam
set_option linter.unusedVariables false
set_option linter.unusedSimpArgs false
open Go.RowKit Go.Proofs.YtgfbgfbnmiainaaW.PrintWords Go.Proofs.YtgfbgfbnmiainaaW.PrintLast Go.Proofs.YtgfbgfbnmiainaaW.PrintMore Go.Proofs.Ytgfbgfbnmiainaa.Q
attribute [local go_sem] Go.Proofs.YtgfbgfbnmiainaaW.OwnWords.isSome_setCell max2_int min2_int
/-- The kinds of relations. -/
inductive Kn where
  | part | apart | union | meet | minus | has | lacks | size
def Kn.text : Kn → ByteArray
  | .part => ⟨#[112, 97, 114, 116]⟩
  | .apart => ⟨#[97, 112, 97, 114, 116]⟩
  | .union => ⟨#[117, 110, 105, 111, 110]⟩
  | .meet => ⟨#[109, 101, 101, 116]⟩
  | .minus => ⟨#[109, 105, 110, 117, 115]⟩
  | .has => ⟨#[104, 97, 115]⟩
  | .lacks => ⟨#[108, 97, 99, 107, 115]⟩
  | .size => ⟨#[115, 105, 122, 101]⟩
def Kn.arity : Kn → Nat
  | .part => 2
  | .apart => 2
  | .union => 3
  | .meet => 3
  | .minus => 3
  | .has => 1
  | .lacks => 1
  | .size => 1
/-- What family.Holds answers, by the lists. -/
def Kn.resF (a b c : List Int) (n : Int) : Kn → Bool
  | .part => decide (((pick r_without (a.length + b.length) a b).length : Int) = 0)
  | .apart => decide (((pick r_both (a.length + b.length) a b).length : Int) = 0)
  | .union => decide (c = pick r_either (a.length + b.length) a b)
  | .meet => decide (c = pick r_both (a.length + b.length) a b)
  | .minus => decide (c = pick r_without (a.length + b.length) a b)
  | .has => decide (n ∈ a)
  | .lacks => !decide (n ∈ a)
  | .size => decide ((a.length : Int) = n)
/-- The i-th list. -/
def lst (L : List (List Int)) (i : Nat) : List Int := L.getD i []
/-- Lists of numbers that are read at A. -/
abbrev kII : Kd (List Int) := Kd.slice 3 (Kd.int .i64)
theorem at_II {w : World} {A : Option Addr} {n : Nat} {L : List (List Int)} (h : kII.C w A n L) (i : Int) (h0 : 0 ≤ i) (h1 : i < n) :
    ∃ ad B b, A = some ad ∧ w.cell? (ad.add i.toNat) = some (.slice B (lst L i.toNat).length b) ∧ Sl w B b (lst L i.toNat) := by
  obtain ⟨ad, c, e, _, ⟨B, b, rfl, hb, hB⟩, hc⟩ := Kd.C_get h [] i h0 h1
  refine ⟨ad, B, b, e, ?_, hB, hb⟩
  have h2 : w.cell? (ad.add (i.toNat * 1 + 0)) = some (.slice B (lst L i.toNat).length b) := hc 0 _ rfl
  rwa [Nat.mul_one, Nat.add_zero] at h2
/-- The list of the j-th variable, where i variables are read already. -/
def ent (vars : List Int) (L : List (List Int)) (i j : Nat) : List Int := if j < i then lst L (rd vars (j : Int)).toNat else []
/-- The three lists that Holds lays for itself, i of them read already. -/
def VV (vars : List Int) (L : List (List Int)) (w w' : World) (g i : Nat) : Prop := ∃ A0 c0 A1 c1 A2 c2,
  w'.heap[g]? = some (.cells #[.slice A0 (ent vars L i 0).length c0, .slice A1 (ent vars L i 1).length c1, .slice A2 (ent vars L i 2).length c2] 31 (0, 0)) ∧ Sl w A0 c0 (ent vars L i 0) ∧ Sl w A1 c1 (ent vars L i 1) ∧ Sl w A2 c2 (ent vars L i 2)
theorem vv_zero {vars : List Int} {L : List (List Int)} {w w' : World} {g : Nat} (h : w'.heap[g]? = some (.cells #[.slice none 0 0, .slice none 0 0, .slice none 0 0] 31 (0, 0))) : VV vars L w w' g 0 :=
  ⟨none, 0, none, 0, none, 0, h, sl_nil _ _, sl_nil _ _, sl_nil _ _⟩
theorem ent_keep (vars : List Int) (L : List (List Int)) (i j : Nat) (h : i ≠ j) : ent vars L (i + 1) j = ent vars L i j := by
  unfold ent
  by_cases hj : j < i
  · rw [if_pos hj, if_pos (by omega)]
  · rw [if_neg hj, if_neg (by omega)]
theorem ent_new (vars : List Int) (L : List (List Int)) (i : Nat) : ent vars L (i + 1) i = lst L (rd vars (i : Int)).toNat := by
  unfold ent
  rw [if_pos (by omega)]
theorem vv_next {vars : List Int} {L : List (List Int)} {w w' : World} {g i : Nat} (h : VV vars L w w' g i) (hi : i < 3) {B : Option Addr} {b : Nat} (hS : Sl w B b (lst L (rd vars (i : Int)).toNat)) :
    VV vars L w (w'.setCell ⟨g, i, none⟩ (.slice B (lst L (rd vars (i : Int)).toNat).length b)) g (i + 1) := by
  obtain ⟨A0, c0, A1, c1, A2, c2, hg, s0, s1, s2⟩ := h
  match i, hi with
  | 0, _ =>
    refine ⟨B, b, A1, c1, A2, c2, ?_, by rw [ent_new]; exact hS, by rw [ent_keep _ _ 0 1 (by decide)]; exact s1, by rw [ent_keep _ _ 0 2 (by decide)]; exact s2⟩
    rw [ent_new, ent_keep _ _ 0 1 (by decide), ent_keep _ _ 0 2 (by decide)]
    exact (blk_set hg 0 _).trans rfl
  | 1, _ =>
    refine ⟨A0, c0, B, b, A2, c2, ?_, by rw [ent_keep _ _ 1 0 (by decide)]; exact s0, by rw [ent_new]; exact hS, by rw [ent_keep _ _ 1 2 (by decide)]; exact s2⟩
    rw [ent_new, ent_keep _ _ 1 0 (by decide), ent_keep _ _ 1 2 (by decide)]
    exact (blk_set hg 1 _).trans rfl
  | 2, _ =>
    refine ⟨A0, c0, A1, c1, B, b, ?_, by rw [ent_keep _ _ 2 0 (by decide)]; exact s0, by rw [ent_keep _ _ 2 1 (by decide)]; exact s1, by rw [ent_new]; exact hS⟩
    rw [ent_new, ent_keep _ _ 2 0 (by decide), ent_keep _ _ 2 1 (by decide)]
    exact (blk_set hg 2 _).trans rfl
/-- A cell of the three. -/
theorem vv_cell {vars : List Int} {L : List (List Int)} {w w' : World} {g i : Nat} (h : VV vars L w w' g i) (j : Nat) (hj : j < 3) : ∃ A c n, w'.cell? ⟨g, j, none⟩ = some (.slice A n c) := by
  obtain ⟨A0, c0, A1, c1, A2, c2, hg, s0, s1, s2⟩ := h
  match j, hj with
  | 0, _ => exact ⟨_, _, _, (blk_cell hg 0).trans rfl⟩
  | 1, _ => exact ⟨_, _, _, (blk_cell hg 1).trans rfl⟩
  | 2, _ => exact ⟨_, _, _, (blk_cell hg 2).trans rfl⟩
theorem vv_frozen {vars : List Int} {L : List (List Int)} {w w' : World} {g i : Nat} (h : VV vars L w w' g i) (j : Nat) : w'.frozen? ⟨g, j, none⟩ = false := by
  obtain ⟨A0, c0, A1, c1, A2, c2, hg, s0, s1, s2⟩ := h
  exact blk_frozen hg j
theorem vv_lt {vars : List Int} {L : List (List Int)} {w w' : World} {g i : Nat} (h : VV vars L w w' g i) : g < w'.heap.size := by
  obtain ⟨A0, c0, A1, c1, A2, c2, hg, s0, s1, s2⟩ := h
  exact blk_lt hg
theorem ent_le (vars : List Int) (L : List (List Int)) (i j : Nat) (h : ∀ i : Nat, (lst L i).length ≤ 1000) : (ent vars L i j).length ≤ 1000 := by
  unfold ent
  split
  · exact h _
  · simp
/-- The cells of the three lists stay. -/
def bS (g : Nat) (A0 : Option Addr) (n0 c0 : Nat) (A1 : Option Addr) (n1 c1 : Nat) (A2 : Option Addr) (n2 c2 : Nat) (w2 w' : World) : Prop :=
  Below w2.heap.size w2 w' ∧ w'.cell? ⟨g, 0, none⟩ = some (.slice A0 n0 c0) ∧ w'.cell? ⟨g, 1, none⟩ = some (.slice A1 n1 c1) ∧ w'.cell? ⟨g, 2, none⟩ = some (.slice A2 n2 c2)
section
variable {g : Nat} {A0 : Option Addr} {n0 c0 : Nat} {A1 : Option Addr} {n1 c1 : Nat} {A2 : Option Addr} {n2 c2 : Nat} {w2 w w' : World}
theorem bS_below (h : bS g A0 n0 c0 A1 n1 c1 A2 n2 c2 w2 w) (hb : Below w.heap.size w w') : bS g A0 n0 c0 A1 n1 c1 A2 n2 c2 w2 w' :=
  ⟨below_then h.1 h.1.size hb, pw_cell_below hb h.2.1, pw_cell_below hb h.2.2.1, pw_cell_below hb h.2.2.2⟩
theorem bS_drew (h : bS g A0 n0 c0 A1 n1 c1 A2 n2 c2 w2 w) : bS g A0 n0 c0 A1 n1 c1 A2 n2 c2 w2 w.drew := bS_below h (below_drew (Below.refl _ _))
theorem bS_drewN (h : bS g A0 n0 c0 A1 n1 c1 A2 n2 c2 w2 w) (n : Nat) : bS g A0 n0 c0 A1 n1 c1 A2 n2 c2 w2 (w.drewN n) := bS_below h (pw_below_drewN (Below.refl _ _) n)
end
theorem pk_sl {w w' : World} {v : Value} {zs : List Int} (h : Pk w w' v zs) : ∃ A c, v = .slice A zs.length c ∧ Sl w' A c zs := by
  rcases h.1.2 with ⟨hv, hn⟩ | ⟨g, cap, cur, hv, hb, hh, hn, hc, hs, ht⟩
  · obtain rfl : zs = [] := List.eq_nil_of_length_eq_zero hn
    exact ⟨none, 0, hv, sl_nil _ _⟩
  · refine ⟨_, cap, hv, ⟨rfl, by simp only [maxLen] at hc; omega, fun _ => ⟨_, rfl, fun j p hj => ⟨[.int .i64 p], rfl, rfl, fun i u hu => ?_⟩⟩⟩, hn⟩
    have hi : i = 0 := by
      cases i with
      | zero => rfl
      | succ i => simp at hu
    subst hi
    have hu' : Value.int .i64 p = u := by simpa using hu
    subst hu'
    show w'.cell? ((⟨g, 0, none⟩ : Addr).add (j * 1 + 0)) = _
    rw [add_plain, Nat.mul_one, Nat.add_zero, blk_cell hh j, ← Array.getElem?_toList]
    have hj' : j < zs.length := (List.getElem?_eq_some_iff.1 hj).1
    have : (cur.toList.take (zs.length * 1))[j]? = some (.int .i64 p) := by rw [ht, List.getElem?_map, hj]; rfl
    rw [List.getElem?_take_of_lt (by omega)] at this
    exact this
theorem all_next {p : Nat → Bool} {i : Nat} (h : ∀ j : Nat, j < i → p j = true) (hi : p i = true) : ∀ j : Nat, j < i + 1 → p j = true := by
  intro j hj
  rcases Nat.lt_or_ge j i with h_ | h_
  · exact h j h_
  · obtain rfl : j = i := by omega
    exact hi
theorem blk_other' (w : World) (b : Nat) (a : Addr) (u : Value) (h : b ≠ a.block) : (w.setCell a u).heap[b]? = w.heap[b]? := by
  simp [World.setCell, Array.getElem?_modify, Ne.symm h]
theorem info31 : (Try.prog.info? 31).map (fun i => (i.zero, i.size, i.bytes)) = some (some (.slice none 0 0), 1, 24) := by kernel_rfl
theorem made3 : madeCells #[Value.slice none 0 0] 3 = #[.slice none 0 0, .slice none 0 0, .slice none 0 0] := by kernel_rfl
theorem make3 (W : World) : Sem.run Try.prog (Instr.makeSlice 51 (.int .i64 3) (.int .i64 3)) W = .ok (.slice (some ⟨W.heap.size, 0, none⟩) 3 3) (W.alloc (.cells #[.slice none 0 0, .slice none 0 0, .slice none 0 0] 31)) :=
  (run_make_row' (P := Try.prog) 51 31 (.slice none 0 0) 24 Try.underlying51 info31 rfl .i64 .i64 3 (by decide) (by decide) W).trans (by rw [made3])
attribute [local go_sem high] make3
def HoldsEnd (w : World) (r : Bool) (e : Ending) (w' : World) : Prop := e = .returned (.bool r) ∧ Below w.heap.size w w'
theorem holdsF_not (k : Nat) (kind : ByteArray) (A : Option Addr) (c : Nat) (vars : List Int) (n : Int) (La : Option Addr) (lc : Nat) (L : List (List Int)) (w : World) (hv : Sl w A c vars) (h : family_ValidRel.f k kind vars n L.length = some false) :
    Calls Try.prog 34 #[.agg #[.string kind, .slice A vars.length c, .int .i64 n], .slice La L.length lc] w (HoldsEnd w false) := by
  have HV := Aside0.mk hv
  have HF := Aside0.mk h
  clear hv h
  go_enter Try.func34, Try.ntmps34
  go_wp2_with (go_at_call 14; (refine (family_ValidRel.calls k kind A c vars n L.length false _ (Kd.C_alloc HV.out.1 _) HV.out.2 HF.out).mono ?_); rintro e w2 ⟨rfl, hb⟩; have HB := Aside0.mk (below_then (below_alloc (Below.refl _ _) _) (by simp) hb); clear hb)
  go_ret
  exact ⟨rfl, HB.out⟩
set_option maxHeartbeats 1000000 in
set_option maxRecDepth 100000 in
theorem holdsF_calls (k : Nat) (q : Kn) (A : Option Addr) (c : Nat) (vars : List Int) (n : Int) (La : Option Addr) (lc : Nat) (L : List (List Int)) (asc : Nat → Bool) (w : World) (hv : Sl w A c vars) (hL : kII.C w La L.length L) (hlc : L.length ≤ lc)
    (h : family_ValidRel.f k q.text vars n L.length = some true) (hasc : ∀ i : Nat, i < L.length → family_ascending.f k (lst L i) = some (asc i)) (hn : vars.length = q.arity) (hin : ∀ j : Nat, j < vars.length → 0 ≤ rd vars (j : Int) ∧ rd vars (j : Int) < L.length) (hsz : L.length ≤ 1000)
    (hl : ∀ i : Nat, (lst L i).length ≤ 1000) (r : Bool) (hr0 : ∀ i : Nat, i < L.length → asc i = false → r = false)
    (hr1 : (∀ i : Nat, i < L.length → asc i = true) → r = q.resF (ent vars L vars.length 0) (ent vars L vars.length 1) (ent vars L vars.length 2) n) :
    Calls Try.prog 34 #[.agg #[.string q.text, .slice A vars.length c, .int .i64 n], .slice La L.length lc] w (HoldsEnd w r) := by
  have HV := Aside0.mk hv
  have HF := Aside0.mk h
  have HL := Aside0.mk hL
  have HA := Aside0.mk hasc
  have HN := Aside0.mk (And.intro hn (And.intro hin (And.intro hsz hl)))
  have HR := Aside0.mk (And.intro hr0 hr1)
  clear hv h hL hlc hasc hn hin hsz hl hr0 hr1
  go_enter Try.func34, Try.ntmps34
  go_upto_region 4 with (go_at_call 14; (refine (family_ValidRel.calls k q.text A c vars n L.length true _ (Kd.C_alloc HV.out.1 _) HV.out.2 HF.out).mono ?_); rintro e w2 ⟨rfl, hb⟩; have HB := Aside0.mk (And.intro (blk_below (blk_new w _) hb) (below_then (below_alloc (Below.refl _ _) _) (by simp) hb)); clear hb)
  go_loopg [18] L.length (fun kq v18 w' => ∃ (i : Nat) (x : Int), v18 = .int .i64 x ∧ Aside0 (x = (i : Int)) ∧ i + kq = L.length ∧ Aside0 (∀ j : Nat, j < i → asc j = true) ∧ Aside0 (w'.heap[w.heap.size]? = some (.cells #[.string q.text, .slice A vars.length c, .int .i64 n] 33 (0, 0)) ∧ Below w.heap.size w w'))
  case atStart => exact ⟨0, 0, rfl, ⟨rfl⟩, by omega, ⟨fun j hj => absurd hj (by omega)⟩, HB⟩
  case round =>
    clear HB
    obtain ⟨i, x, rfl, HX, hi, HT, HB⟩ := hrel
    by_cases hlt : i < L.length
    · have d0 : decide (0 ≤ x) = true := decide_eq_true (by have := HX.out; omega)
      have d1 : decide (x < (L.length : Int)) = true := decide_eq_true (by have := HX.out; omega)
      have p0 := eq_true (show 0 ≤ x by have := HX.out; omega)
      have p1 := eq_true (show x < (L.length : Int) by have := HX.out; omega)
      obtain ⟨ad, B, b, rfl, hx0, hS⟩ := at_II HL.out x (by have := HX.out; omega) (by have := HX.out; omega)
      have HS := Aside0.mk (sl_below hS HB.out.2)
      replace hx0 := (HB.out.2.cell (World.block_lt_of_cell? w _ hx0)).trans hx0
      have hf := HA.out i hlt
      have hxi : x.toNat = i := by have := HX.out; omega
      rw [← hxi] at hf
      have HF2 := Aside0.mk hf
      have HXI := Aside0.mk hxi
      clear hf hS hxi
      cases ha : asc x.toNat with
      | false =>
        rw [ha] at HF2
        go_wp2_with (go_at_call 61; (refine (family_ascending.calls k B b (lst L x.toNat) false _ HS.out.1 HS.out.2 HF2.out).mono ?_); rintro e w3 ⟨rfl, ⟨nd, rfl⟩⟩)
        go_ret
        exact ⟨by rw [HR.out.1 i hlt (by rw [← HXI.out]; exact ha)]; rfl, pw_below_drewN HB.out.2 _⟩
      | true =>
        rw [ha] at HF2
        go_wp2_with (go_at_call 61; (refine (family_ascending.calls k B b (lst L x.toNat) true _ HS.out.1 HS.out.2 HF2.out).mono ?_); rintro e w3 ⟨rfl, ⟨nd, rfl⟩⟩)
        go_roundg (L.length - (i + 1))
        case measure => omega
        case rel => exact ⟨i + 1, _, rfl, ⟨by rw [HX.out]; unfold wrap64; have := HN.out.2.2.1; omega⟩, by omega, ⟨all_next HT.out (by rw [← HXI.out]; exact ha)⟩, ⟨blk_below HB.out.1 (pw_below_drewN (Below.refl _ _) _), pw_below_drewN HB.out.2 _⟩⟩
    · obtain rfl : i = L.length := by omega
      have d1 : decide (x < (L.length : Int)) = false := decide_eq_false (by have := HX.out; omega)
      have p1 := eq_false (show ¬ x < (L.length : Int) by have := HX.out; omega)
      have b0 : wr.cell? ⟨w.heap.size, 0, none⟩ = some (.string q.text) := (blk_cell HB.out.1 0).trans rfl
      have b1 : wr.cell? ⟨w.heap.size, 1, none⟩ = some (.slice A vars.length c) := (blk_cell HB.out.1 1).trans rfl
      have b2 : wr.cell? ⟨w.heap.size, 2, none⟩ = some (.int .i64 n) := (blk_cell HB.out.1 2).trans rfl
      have blt := blk_lt HB.out.1
      have bne : w.heap.size ≠ wr.heap.size := by omega
      have bne' : wr.heap.size ≠ w.heap.size := by omega
      go_upto_region 11 with fail
      obtain ⟨g, hgs⟩ : ∃ g, wr.heap.size = g := ⟨_, rfl⟩
      have hnew := heap_alloc_new wr (.cells #[.slice none 0 0, .slice none 0 0, .slice none 0 0] 31)
      rw [hgs] at hnew
      have HV0 := Aside0.mk (And.intro (vv_zero (vars := vars) (L := L) (w := w) hnew) (And.intro (blk_below HB.out.1 (below_alloc (Below.refl _ _) (.cells #[.slice none 0 0, .slice none 0 0, .slice none 0 0] 31))) (And.intro (below_then HB.out.2 HB.out.2.size (below_alloc (Below.refl _ _) (.cells #[.slice none 0 0, .slice none 0 0, .slice none 0 0] 31))) (show w.heap.size < g by omega))))
      have HR1 := Aside0.mk (HR.out.2 HT.out)
      simp only [hgs]
      clear HB HT HR b0 b1 b2 bne bne' blt d1 p1 hnew HA HF HX hlt hi hgs
      go_loopg [32] vars.length (fun kq v32 w' => ∃ (i : Nat) (x : Int), v32 = .int .i64 x ∧ Aside0 (x = (i : Int)) ∧ i + kq = vars.length ∧ Aside0 (VV vars L w w' g i ∧ w'.heap[w.heap.size]? = some (.cells #[.string q.text, .slice A vars.length c, .int .i64 n] 33 (0, 0)) ∧ Below w.heap.size w w' ∧ w.heap.size < g))
      case atStart => exact ⟨0, 0, rfl, ⟨rfl⟩, by omega, HV0⟩
      case round =>
        clear HV0
        obtain ⟨i, y, rfl, HY, hi, HB⟩ := hrel
        by_cases hlt : i < vars.length
        · have hi3 : i < 3 := by have h_ := HN.out.1; cases q <;> simp only [Kn.arity] at h_ <;> omega
          have d0 : decide (0 ≤ y) = true := decide_eq_true (by have := HY.out; omega)
          have d1 : decide (y < (vars.length : Int)) = true := decide_eq_true (by have := HY.out; omega)
          have d2 : decide (y < 3) = true := decide_eq_true (by have := HY.out; omega)
          have p0 := eq_true (show 0 ≤ y by have := HY.out; omega)
          have p1 := eq_true (show y < (vars.length : Int) by have := HY.out; omega)
          have p2 := eq_true (show y < 3 by have := HY.out; omega)
          obtain ⟨ad, rfl, hx0⟩ := Kd.at_int HV.out.1 y (by have := HY.out; omega) (by have := HY.out; omega)
          replace hx0 := (HB.out.2.2.1.cell (World.block_lt_of_cell? w _ hx0)).trans hx0
          have hv := HN.out.2.1 i hlt
          have hyi : y.toNat = i := by have := HY.out; omega
          have hyi' : (i : Int) = y := by have := HY.out; omega
          rw [hyi'] at hv
          obtain ⟨bd, B, b, rfl, hy0, hS⟩ := at_II HL.out (rd vars y) hv.1 hv.2
          replace hy0 := (HB.out.2.2.1.cell (World.block_lt_of_cell? w _ hy0)).trans hy0
          have e0 : decide (0 ≤ rd vars y) = true := decide_eq_true hv.1
          have e1 : decide (rd vars y < (L.length : Int)) = true := decide_eq_true hv.2
          have e2 := eq_true hv.1
          have e3 := eq_true hv.2
          obtain ⟨uA, uc, un, hu⟩ := vv_cell HB.out.1 y.toNat (by omega)
          have hz := vv_frozen HB.out.1 y.toNat
          have HS := Aside0.mk hS
          have HYI := Aside0.mk (And.intro hyi hyi')
          clear hyi hyi' hv hS
          go_wp2
          go_roundg (vars.length - (i + 1))
          case measure => omega
          case rel =>
            have hne : w.heap.size ≠ g := by have := HB.out.2.2.2; omega
            have hv2 := vv_next HB.out.1 hi3 (B := B) (b := b) (by rw [HYI.out.2]; exact HS.out)
            have hyy : ((y.toNat : Nat) : Int) = y := by have := HYI.out; omega
            rw [← HYI.out.1, hyy] at hv2
            exact ⟨i + 1, _, rfl, ⟨by rw [HY.out]; unfold wrap64; omega⟩, by omega, ⟨by rw [← HYI.out.1]; exact hv2, (blk_other' _ _ _ _ hne).trans HB.out.2.1, HB.out.2.2.1.setCell (Nat.le_of_lt HB.out.2.2.2) _, HB.out.2.2.2⟩⟩
        · obtain rfl : i = vars.length := by omega
          have d1 : decide (y < (vars.length : Int)) = false := decide_eq_false (by have := HY.out; omega)
          have p1 := eq_false (show ¬ y < (vars.length : Int) by have := HY.out; omega)
          obtain ⟨⟨A0, c0, A1, c1, A2, c2, hg, s0, s1, s2⟩, hbx, hbb, hgl⟩ := HB.out
          have g0 : wr.cell? ⟨g, 0, none⟩ = some (.slice A0 (ent vars L vars.length 0).length c0) := (blk_cell hg 0).trans rfl
          have g1 : wr.cell? ⟨g, 1, none⟩ = some (.slice A1 (ent vars L vars.length 1).length c1) := (blk_cell hg 1).trans rfl
          have g2 : wr.cell? ⟨g, 2, none⟩ = some (.slice A2 (ent vars L vars.length 2).length c2) := (blk_cell hg 2).trans rfl
          have HSL := Aside0.mk (And.intro s0 (And.intro s1 s2))
          have HBX := Aside0.mk hbx
          have HBB := Aside0.mk hbb
          have HS0 := Aside0.mk (show bS g A0 (ent vars L vars.length 0).length c0 A1 (ent vars L vars.length 1).length c1 A2 (ent vars L vars.length 2).length c2 wr wr from ⟨Below.refl _ _, g0, g1, g2⟩)
          have HS1 := Aside0.mk (bS_drew HS0.out)
          have HSZ : Aside0 ((ent vars L vars.length 0).length + (ent vars L vars.length 1).length ≤ 1000000 ∧ (ent vars L vars.length 0).length ≤ 1000 ∧ (ent vars L vars.length 2).length ≤ 1000) := ⟨by
            have h0 := ent_le vars L vars.length 0 HN.out.2.2.2
            have h1 := ent_le vars L vars.length 1 HN.out.2.2.2
            have h2 := ent_le vars L vars.length 2 HN.out.2.2.2
            exact ⟨by omega, h0, h2⟩⟩
          clear HB HY hi hlt HN hg s0 s1 s2 hbx hbb HV HL
          -- KINDS
          cases q with
          | part =>
            replace HBX := HBX.out
            have b0 := (blk_cell HBX 0)
            have b2 := (blk_cell HBX 2)
            simp only [List.getElem?_toArray, List.getElem?_cons_zero, List.getElem?_cons_succ, Kn.text] at b0 b2
            go_upto_region 19 with fail
            have HBW := Aside0.mk (below_drew HBB.out)
            go_region_held3 (fun w' => Below wr.heap.size wr w' ∧ w'.cell? ⟨g, 0, none⟩ = some (.slice A0 (ent vars L vars.length 0).length c0) ∧ w'.cell? ⟨g, 1, none⟩ = some (.slice A1 (ent vars L vars.length 1).length c1) ∧ w'.cell? ⟨g, 2, none⟩ = some (.slice A2 (ent vars L vars.length 2).length c2))
              (first | exact HS0.out | exact HS1.out | exact HS2.out | exact bS_drewN HS2.out _)
              (first | (go_at_call 64; (refine (pick_without A0 c0 (ent vars L vars.length 0) A1 c1 (ent vars L vars.length 1) HSZ.out.1 _ rfl _ (sl_below HSL.out.1 HBW.out) (sl_below HSL.out.2.1 HBW.out)).mono ?_); rintro e w3 ⟨v, rfl, hp⟩; obtain ⟨A3, c3, rfl, hs3⟩ := pk_sl hp; have HS2 := Aside0.mk (bS_below HS1.out hp.2); have HS3 := Aside0.mk hs3; have HB3 := Aside0.mk (below_then (below_drew HBB.out) (below_drew HBB.out).size hp.2); clear hp hs3))
            all_goals
              try go_wp2
              go_ret
              refine ⟨by rw [HR1.out]; rfl, ?_⟩
              first | exact HB3.out | exact pw_below_drewN HB3.out _
          | apart =>
            replace HBX := HBX.out
            have b0 := (blk_cell HBX 0)
            have b2 := (blk_cell HBX 2)
            simp only [List.getElem?_toArray, List.getElem?_cons_zero, List.getElem?_cons_succ, Kn.text] at b0 b2
            go_upto_region 21 with fail
            have HBW := Aside0.mk (below_drew HBB.out)
            go_region_held3 (fun w' => Below wr.heap.size wr w' ∧ w'.cell? ⟨g, 0, none⟩ = some (.slice A0 (ent vars L vars.length 0).length c0) ∧ w'.cell? ⟨g, 1, none⟩ = some (.slice A1 (ent vars L vars.length 1).length c1) ∧ w'.cell? ⟨g, 2, none⟩ = some (.slice A2 (ent vars L vars.length 2).length c2))
              (first | exact HS0.out | exact HS1.out | exact HS2.out | exact bS_drewN HS2.out _)
              (first | (go_at_call 64; (refine (pick_both A0 c0 (ent vars L vars.length 0) A1 c1 (ent vars L vars.length 1) HSZ.out.1 _ rfl _ (sl_below HSL.out.1 HBW.out) (sl_below HSL.out.2.1 HBW.out)).mono ?_); rintro e w3 ⟨v, rfl, hp⟩; obtain ⟨A3, c3, rfl, hs3⟩ := pk_sl hp; have HS2 := Aside0.mk (bS_below HS1.out hp.2); have HS3 := Aside0.mk hs3; have HB3 := Aside0.mk (below_then (below_drew HBB.out) (below_drew HBB.out).size hp.2); clear hp hs3))
            all_goals
              try go_wp2
              go_ret
              refine ⟨by rw [HR1.out]; rfl, ?_⟩
              first | exact HB3.out | exact pw_below_drewN HB3.out _
          | union =>
            replace HBX := HBX.out
            have b0 := (blk_cell HBX 0)
            have b2 := (blk_cell HBX 2)
            simp only [List.getElem?_toArray, List.getElem?_cons_zero, List.getElem?_cons_succ, Kn.text] at b0 b2
            go_upto_region 23 with fail
            have HBW := Aside0.mk (below_drew HBB.out)
            go_region_held3 (fun w' => Below wr.heap.size wr w' ∧ w'.cell? ⟨g, 0, none⟩ = some (.slice A0 (ent vars L vars.length 0).length c0) ∧ w'.cell? ⟨g, 1, none⟩ = some (.slice A1 (ent vars L vars.length 1).length c1) ∧ w'.cell? ⟨g, 2, none⟩ = some (.slice A2 (ent vars L vars.length 2).length c2))
              (first | exact HS0.out | exact HS1.out | exact HS2.out | exact bS_drewN HS2.out _)
              (first | (go_at_call 64; (refine (pick_either A0 c0 (ent vars L vars.length 0) A1 c1 (ent vars L vars.length 1) HSZ.out.1 _ rfl _ (sl_below HSL.out.1 HBW.out) (sl_below HSL.out.2.1 HBW.out)).mono ?_); rintro e w3 ⟨v, rfl, hp⟩; obtain ⟨A3, c3, rfl, hs3⟩ := pk_sl hp; have HS2 := Aside0.mk (bS_below HS1.out hp.2); have HS3 := Aside0.mk hs3; have HB3 := Aside0.mk (below_then (below_drew HBB.out) (below_drew HBB.out).size hp.2); clear hp hs3) | (go_at_call 65; (refine (slices_Equal_int_int.calls ((ent vars L vars.length 2).length + 1) A2 c2 (ent vars L vars.length 2) A3 c3 (pick r_either ((ent vars L vars.length 0).length + (ent vars L vars.length 1).length) (ent vars L vars.length 0) (ent vars L vars.length 1)) _ _ (sl_below HSL.out.2.2 HB3.out).1 HSL.out.2.2.2 HS3.out.1 HS3.out.2 (equal_f _ _ (by have := HSZ.out.2; omega))).mono ?_); rintro e w4 ⟨rfl, ⟨nd, rfl⟩⟩))
            all_goals
              try go_wp2
              go_ret
              refine ⟨by rw [HR1.out]; rfl, ?_⟩
              first | exact HB3.out | exact pw_below_drewN HB3.out _
          | meet =>
            replace HBX := HBX.out
            have b0 := (blk_cell HBX 0)
            have b2 := (blk_cell HBX 2)
            simp only [List.getElem?_toArray, List.getElem?_cons_zero, List.getElem?_cons_succ, Kn.text] at b0 b2
            go_upto_region 25 with fail
            have HBW := Aside0.mk (below_drew HBB.out)
            go_region_held3 (fun w' => Below wr.heap.size wr w' ∧ w'.cell? ⟨g, 0, none⟩ = some (.slice A0 (ent vars L vars.length 0).length c0) ∧ w'.cell? ⟨g, 1, none⟩ = some (.slice A1 (ent vars L vars.length 1).length c1) ∧ w'.cell? ⟨g, 2, none⟩ = some (.slice A2 (ent vars L vars.length 2).length c2))
              (first | exact HS0.out | exact HS1.out | exact HS2.out | exact bS_drewN HS2.out _)
              (first | (go_at_call 64; (refine (pick_both A0 c0 (ent vars L vars.length 0) A1 c1 (ent vars L vars.length 1) HSZ.out.1 _ rfl _ (sl_below HSL.out.1 HBW.out) (sl_below HSL.out.2.1 HBW.out)).mono ?_); rintro e w3 ⟨v, rfl, hp⟩; obtain ⟨A3, c3, rfl, hs3⟩ := pk_sl hp; have HS2 := Aside0.mk (bS_below HS1.out hp.2); have HS3 := Aside0.mk hs3; have HB3 := Aside0.mk (below_then (below_drew HBB.out) (below_drew HBB.out).size hp.2); clear hp hs3) | (go_at_call 65; (refine (slices_Equal_int_int.calls ((ent vars L vars.length 2).length + 1) A2 c2 (ent vars L vars.length 2) A3 c3 (pick r_both ((ent vars L vars.length 0).length + (ent vars L vars.length 1).length) (ent vars L vars.length 0) (ent vars L vars.length 1)) _ _ (sl_below HSL.out.2.2 HB3.out).1 HSL.out.2.2.2 HS3.out.1 HS3.out.2 (equal_f _ _ (by have := HSZ.out.2; omega))).mono ?_); rintro e w4 ⟨rfl, ⟨nd, rfl⟩⟩))
            all_goals
              try go_wp2
              go_ret
              refine ⟨by rw [HR1.out]; rfl, ?_⟩
              first | exact HB3.out | exact pw_below_drewN HB3.out _
          | minus =>
            replace HBX := HBX.out
            have b0 := (blk_cell HBX 0)
            have b2 := (blk_cell HBX 2)
            simp only [List.getElem?_toArray, List.getElem?_cons_zero, List.getElem?_cons_succ, Kn.text] at b0 b2
            go_upto_region 27 with fail
            have HBW := Aside0.mk (below_drew HBB.out)
            go_region_held3 (fun w' => Below wr.heap.size wr w' ∧ w'.cell? ⟨g, 0, none⟩ = some (.slice A0 (ent vars L vars.length 0).length c0) ∧ w'.cell? ⟨g, 1, none⟩ = some (.slice A1 (ent vars L vars.length 1).length c1) ∧ w'.cell? ⟨g, 2, none⟩ = some (.slice A2 (ent vars L vars.length 2).length c2))
              (first | exact HS0.out | exact HS1.out | exact HS2.out | exact bS_drewN HS2.out _)
              (first | (go_at_call 64; (refine (pick_without A0 c0 (ent vars L vars.length 0) A1 c1 (ent vars L vars.length 1) HSZ.out.1 _ rfl _ (sl_below HSL.out.1 HBW.out) (sl_below HSL.out.2.1 HBW.out)).mono ?_); rintro e w3 ⟨v, rfl, hp⟩; obtain ⟨A3, c3, rfl, hs3⟩ := pk_sl hp; have HS2 := Aside0.mk (bS_below HS1.out hp.2); have HS3 := Aside0.mk hs3; have HB3 := Aside0.mk (below_then (below_drew HBB.out) (below_drew HBB.out).size hp.2); clear hp hs3) | (go_at_call 65; (refine (slices_Equal_int_int.calls ((ent vars L vars.length 2).length + 1) A2 c2 (ent vars L vars.length 2) A3 c3 (pick r_without ((ent vars L vars.length 0).length + (ent vars L vars.length 1).length) (ent vars L vars.length 0) (ent vars L vars.length 1)) _ _ (sl_below HSL.out.2.2 HB3.out).1 HSL.out.2.2.2 HS3.out.1 HS3.out.2 (equal_f _ _ (by have := HSZ.out.2; omega))).mono ?_); rintro e w4 ⟨rfl, ⟨nd, rfl⟩⟩))
            all_goals
              try go_wp2
              go_ret
              refine ⟨by rw [HR1.out]; rfl, ?_⟩
              first | exact HB3.out | exact pw_below_drewN HB3.out _
          | has =>
            replace HBX := HBX.out
            have b0 := (blk_cell HBX 0)
            have b2 := (blk_cell HBX 2)
            simp only [List.getElem?_toArray, List.getElem?_cons_zero, List.getElem?_cons_succ, Kn.text] at b0 b2
            have HC0 := Aside0.mk (sl_below HSL.out.1 HBB.out).1
            have HCF := Aside0.mk (contains_f (ent vars L vars.length 0) n (by have := HSZ.out.2; omega))
            go_upto_region 29 with fail
            go_quiet (first | (go_at_call 67; (refine (slices_Contains_int_int.calls ((ent vars L vars.length 0).length + 1) A0 c0 (ent vars L vars.length 0) n (decide (n ∈ (ent vars L vars.length 0))) _ ?s1 HSL.out.1.2 HCF.out).mono ?_); (case s1 => repeat (first | exact HC0.out | (with_reducible refine Kd.C_drewN ?_ _) | (with_reducible refine Kd.C_drew ?_))); rintro e w4 ⟨rfl, ⟨nd, rfl⟩⟩; (try first | exact ⟨rfl, _, World.drewN_drewN _ _ _⟩ | exact ⟨rfl, _, rfl⟩)))
            try go_wp2
            go_ret
            refine ⟨by rw [HR1.out]; rfl, ?_⟩
            first | exact HBB.out | exact pw_below_drewN HBB.out _
          | lacks =>
            replace HBX := HBX.out
            have b0 := (blk_cell HBX 0)
            have b2 := (blk_cell HBX 2)
            simp only [List.getElem?_toArray, List.getElem?_cons_zero, List.getElem?_cons_succ, Kn.text] at b0 b2
            have HC0 := Aside0.mk (sl_below HSL.out.1 HBB.out).1
            have HCF := Aside0.mk (contains_f (ent vars L vars.length 0) n (by have := HSZ.out.2; omega))
            go_upto_region 31 with fail
            go_quiet (first | (go_at_call 67; (refine (slices_Contains_int_int.calls ((ent vars L vars.length 0).length + 1) A0 c0 (ent vars L vars.length 0) n (decide (n ∈ (ent vars L vars.length 0))) _ ?s1 HSL.out.1.2 HCF.out).mono ?_); (case s1 => repeat (first | exact HC0.out | (with_reducible refine Kd.C_drewN ?_ _) | (with_reducible refine Kd.C_drew ?_))); rintro e w4 ⟨rfl, ⟨nd, rfl⟩⟩; (try first | exact ⟨rfl, _, World.drewN_drewN _ _ _⟩ | exact ⟨rfl, _, rfl⟩)))
            try go_wp2
            go_ret
            refine ⟨by rw [HR1.out]; rfl, ?_⟩
            first | exact HBB.out | exact pw_below_drewN HBB.out _
          | size =>
            replace HBX := HBX.out
            have b0 := (blk_cell HBX 0)
            have b2 := (blk_cell HBX 2)
            simp only [List.getElem?_toArray, List.getElem?_cons_zero, List.getElem?_cons_succ, Kn.text] at b0 b2
            go_wp2
            go_quiet (fail)
            try go_wp2
            go_ret
            refine ⟨by rw [HR1.out]; rfl, ?_⟩
            first | exact HBB.out | exact pw_below_drewN HBB.out _
          -- END
end Go.Proofs.Ytgfbgfbnmiainaa.Fam
