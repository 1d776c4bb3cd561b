import Derived.Test.YtelmcnngocklfaaQ0
import Derived.Maps.OwnSet
import Derived.Carry
import Derived.StringKeys
import Derived.BigRegion
/-! kernel.ops: a map is made; what lay there lies there still. -/
namespace Go.Proofs.Ytelmcnngocklfaa.Need
set_option linter.unusedVariables false
set_option linter.unusedSimpArgs false
open Go.RowKit Go.Proofs.YtelmcnngocklfaaW.PrintWords Go.Proofs.YtelmcnngocklfaaW.PrintLast Go.Proofs.YtelmcnngocklfaaW.PrintMore
/-- The names, by how many things they take. -/
def LL : List (List ByteArray) := [[], [⟨#[119, 97, 105, 116]⟩, ⟨#[115, 104, 111, 119]⟩, ⟨#[110, 111, 109, 97, 116, 99, 104]⟩, ⟨#[110, 101, 101, 100]⟩, ⟨#[110, 101, 119, 110, 97, 109, 101]⟩, ⟨#[108, 111, 99, 107]⟩, ⟨#[116, 97, 107, 101]⟩, ⟨#[103, 105, 118, 101]⟩, ⟨#[100, 105, 99, 116]⟩, ⟨#[112, 114, 105, 111, 114, 105, 116, 121]⟩, ⟨#[115, 101, 108, 102]⟩, ⟨#[107, 105, 108, 108]⟩], [⟨#[126]⟩, ⟨#[108, 97, 98, 101, 108]⟩, ⟨#[97, 114, 105, 116, 121]⟩, ⟨#[119, 105, 100, 116, 104]⟩, ⟨#[112, 97, 114, 116, 115]⟩, ⟨#[100, 101, 116]⟩, ⟨#[98, 121, 110, 101, 101, 100]⟩, ⟨#[118, 105, 101, 119]⟩, ⟨#[102, 97, 105, 108]⟩, ⟨#[99, 104, 117, 110, 107]⟩, ⟨#[99, 101, 108, 108]⟩, ⟨#[103, 101, 116]⟩, ⟨#[115, 101, 116]⟩, ⟨#[112, 111, 114, 116]⟩, ⟨#[115, 101, 110, 100]⟩, ⟨#[114, 101, 109, 111, 118, 101]⟩, ⟨#[107, 101, 121, 115]⟩, ⟨#[115, 112, 97, 99, 101]⟩, ⟨#[97, 115, 107]⟩, ⟨#[99, 111, 109, 109, 105, 116]⟩, ⟨#[99, 108, 111, 110, 101]⟩, ⟨#[109, 101, 114, 103, 101]⟩, ⟨#[105, 110, 106, 101, 99, 116]⟩], [⟨#[43]⟩, ⟨#[45]⟩, ⟨#[42]⟩, ⟨#[100, 105, 118]⟩, ⟨#[109, 111, 100]⟩, ⟨#[60]⟩, ⟨#[61, 60]⟩, ⟨#[62]⟩, ⟨#[62, 61]⟩, ⟨#[61, 61]⟩, ⟨#[92, 61]⟩, ⟨#[100, 111, 116]⟩, ⟨#[104, 97, 115]⟩, ⟨#[109, 97, 107, 101]⟩, ⟨#[115, 119, 97, 112]⟩, ⟨#[112, 117, 116]⟩, ⟨#[100, 111, 109, 97, 105, 110]⟩], [⟨#[97, 100, 106, 111, 105, 110]⟩, ⟨#[97, 114, 114, 97, 121]⟩, ⟨#[112, 111, 115, 116]⟩]]
def strs (l : List ByteArray) : Array Value := (l.map Value.string).toArray
def rowV (s k m : Nat) : Value := .slice (some ⟨s + k, 0, none⟩) m m
/-- What lies there while the map is filled. -/
structure OI (w wx : World) (cnt : Nat) : Prop where
  b : ∀ k l, LL[k]? = some l → wx.heap[w.heap.size + 1 + k]? = some (.cells (strs l) 9 (0, 0))
  r : wx.heap[w.heap.size + 6]? = some (.cells #[rowV (w.heap.size) 1 0, rowV (w.heap.size) 2 12, rowV (w.heap.size) 3 23, rowV (w.heap.size) 4 17, rowV (w.heap.size) 5 3] 22 (0, 0))
  m : ∃ D : DataW Unit, wx.ownsMap Try.prog 9 (plainElem Try.prog 3) w.heap.size cnt D
  bel : Below w.heap.size w wx
theorem OI.kept {w wx w' : World} {n n' : Nat} (h : OI w wx n) (hm : ∃ D : DataW Unit, w'.ownsMap Try.prog 9 (plainElem Try.prog 3) w.heap.size n' D) (hg : wx.grownBy w' (some w.heap.size)) : OI w w' n' :=
  ⟨fun k l hl => (hg.block _ (blk_lt (h.b k l hl)) (by simp only [ne_eq, Option.some.injEq]; omega)).trans (h.b k l hl), (hg.block _ (blk_lt h.r) (by simp only [ne_eq, Option.some.injEq]; omega)).trans h.r, hm, ⟨hg.os.trans h.bel.os, hg.tape.trans h.bel.tape, hg.output.trans h.bel.output, Nat.le_trans h.bel.size hg.size, fun k hk => (hg.block k (Nat.lt_of_lt_of_le hk h.bel.size) (by simp only [ne_eq, Option.some.injEq]; omega)).trans (h.bel.block k hk)⟩⟩
theorem OI.row {w wx : World} {n i : Nat} (h : OI w wx n) (hi : i < 5) : ∃ l, LL[i]? = some l ∧ l.length ≤ 23 ∧ wx.cell? ⟨w.heap.size + 6, i, none⟩ = some (rowV w.heap.size (i + 1) l.length) := by
  have hc := blk_cell h.r i
  match i, hi with
  | 0, _ => exact ⟨_, rfl, by decide, hc.trans rfl⟩
  | 1, _ => exact ⟨_, rfl, by decide, hc.trans rfl⟩
  | 2, _ => exact ⟨_, rfl, by decide, hc.trans rfl⟩
  | 3, _ => exact ⟨_, rfl, by decide, hc.trans rfl⟩
  | 4, _ => exact ⟨_, rfl, by decide, hc.trans rfl⟩
theorem OI.str {w wx : World} {n i j : Nat} {l : List ByteArray} (h : OI w wx n) (hl : LL[i]? = some l) (hj : j < l.length) : wx.cell? ⟨w.heap.size + (i + 1), j, none⟩ = some (.string l[j]) := by
  have hc := blk_cell (h.b i l hl) j
  rw [show w.heap.size + 1 + i = w.heap.size + (i + 1) by omega] at hc
  rw [hc]
  simp [strs, hj]
theorem blk_newT {w : World} {o : Obj} {n : Nat} (h : w.heap.size = n) : (w.alloc o).heap[n]? = some o := by subst h; exact blk_new w o
theorem wf5 : ∀ i < 5, (Lit.int .i64 ((i : Nat) : Int)).wf = true := by decide
theorem small : ∀ l ∈ LL, ∀ s ∈ l, s.size ≤ 20 := by decide +kernel
set_option maxHeartbeats 2000000 in
set_option maxRecDepth 100000 in
theorem ops_walk (w : World) : Calls Try.prog 44 #[] w (fun e w' => (∃ m, e = .returned (.map m)) ∧ Below w.heap.size w w') := by
  have hmm := @run_makeMap Try.prog
  go_enter Try.func44, Try.ntmps44
  go_wp2_with fail
  go_loopg [14] 6 (fun kq v14 wx => ∃ i : Nat, v14 = .int .i64 (i : Int) ∧ Aside0 (i + kq = 6 ∧ i ≤ 5) ∧ Aside0 (∃ n, n ≤ 23 * i ∧ OI w wx n))
  case atStart =>
    refine ⟨0, rfl, ⟨by omega⟩, ⟨0, Nat.le_refl _, ⟨?_, ?_, ?_, ?_⟩⟩⟩
    · intro k l hl
      match k, hl with
      | 0, hl => obtain rfl := Option.some.inj hl; repeat (first | exact blk_newT (by simp) | refine blk_alloc ?_ _)
      | 1, hl => obtain rfl := Option.some.inj hl; repeat (first | exact blk_newT (by simp) | refine blk_alloc ?_ _)
      | 2, hl => obtain rfl := Option.some.inj hl; repeat (first | exact blk_newT (by simp) | refine blk_alloc ?_ _)
      | 3, hl => obtain rfl := Option.some.inj hl; repeat (first | exact blk_newT (by simp) | refine blk_alloc ?_ _)
      | 4, hl => obtain rfl := Option.some.inj hl; repeat (first | exact blk_newT (by simp) | refine blk_alloc ?_ _)
      | k + 5, hl => simp [LL] at hl
    · exact blk_newT (by simp)
    · exact ⟨.map [], ((((((World.ownsMap_made w _ _ _).alloc _).alloc _).alloc _).alloc _).alloc _).alloc _⟩
    · repeat (first | exact Below.refl _ _ | apply below_alloc)
  case round =>
    obtain ⟨i, rfl, HK, HI⟩ := hrel
    cases gk with
    | zero => have := HK.out; omega
    | succ k1 =>
      by_cases h5 : i < 5
      · have c5 : decide ((i : Int) < 5) = true := decide_eq_true (by omega)
        obtain ⟨n, hn, hI⟩ := HI.out
        obtain ⟨l, hl, hl23, hrow⟩ := hI.row h5
        have HI2 := Aside0.mk hI
        have HN := Aside0.mk hn
        have HL := Aside0.mk hl
        have HWF := Aside0.mk (wf5 i h5)
        have p1 : (0 : Int) ≤ (i : Int) := by omega
        have p2 : (i : Int) < 5 := by omega
        unfold rowV at hrow
        clear hI hn hl h5
        go_wp2_with fail
        go_loopg [21] (l.length + 1) (fun kq v21 wx => ∃ j : Nat, v21 = .int .i64 (j : Int) ∧ Aside0 (j + kq = l.length + 1 ∧ j ≤ l.length) ∧ Aside0 (∃ n, n ≤ 23 * i + j ∧ OI w wx n))
        case atStart => exact ⟨0, rfl, ⟨by omega⟩, ⟨n, by have := HN.out; omega, HI2.out⟩⟩
        case round =>
          clear HI2 hrow
          obtain ⟨j, rfl, HJ, HI3⟩ := hrel
          cases gk with
          | zero => have := HJ.out; omega
          | succ k2 =>
            by_cases h6 : j < l.length
            · have c6 : decide ((j : Int) < (l.length : Int)) = true := decide_eq_true (by omega)
              obtain ⟨n3, hn3, hI3⟩ := HI3.out
              obtain ⟨s, hs, hsm⟩ : ∃ s : ByteArray, wr.cell? ⟨w.heap.size + (i + 1), j, none⟩ = some (.string s) ∧ s.size ≤ 20 := ⟨_, hI3.str HL.out h6, small l (List.mem_of_getElem? HL.out) _ (List.getElem_mem h6)⟩
              obtain ⟨D, hD⟩ := hI3.m
              have HI4 := Aside0.mk hI3
              have HN3 := Aside0.mk hn3
              have HD := Aside0.mk hD
              have HSM := Aside0.mk hsm
              have p3 : (0 : Int) ≤ (j : Int) := by omega
              have p4 : (j : Int) < (l.length : Int) := by omega
              have HH := Aside0.mk h6
              clear hI3 hn3 hD hsm h6
              go_wp2_with (at_mapUpdate; refine wpList_mapUpdate_own _ rfl _ _ _ 81 rfl 9 3 (Go.Maps.string_keyed Try.underlying9) Try.underlying81 (plainElem Try.prog 3) w.heap.size n3 D rfl HD.out (by have := HN3.out; have := HJ.out; have := HK.out; unfold maxLen; omega) _ _ _ rfl rfl (Go.WideMaps.keyOf_string_mk Try.underlying9 (by have := HSM.out; unfold maxLen; omega)) _ [] (plainElem_int Try.underlying3 HWF.out) ?_; intro w3 hown3 hg3; have HI5 := Aside0.mk (HI4.out.kept ⟨_, hown3⟩ hg3); clear hown3 hg3)
              go_roundg k2
              case measure => have := HJ.out; omega
              case rel => exact ⟨j + 1, by first | rfl | (simp; done), ⟨by have := HJ.out; omega⟩, ⟨n3 + 1, by have := HN3.out; omega, HI5.out⟩⟩
            · have c6 : decide ((j : Int) < (l.length : Int)) = false := decide_eq_false (by omega)
              have c7 : decide (j < l.length) = false := decide_eq_false h6
              have c8 : (j < l.length) = False := eq_false h6
              have HH := Aside0.mk h6
              clear h6
              go_wp2_with fail
              go_roundg k1
              case measure => have := HK.out; omega
              case rel =>
                have hj : j ≤ 23 := by have := HJ.out; omega
                obtain ⟨n3, hn3, hI3⟩ := HI3.out
                exact ⟨i + 1, by first | rfl | (simp; done), ⟨by have := HK.out; omega⟩, ⟨n3, by omega, hI3⟩⟩
      · have c5 : decide ((i : Int) < 5) = false := decide_eq_false (by omega)
        have HB := Aside0.mk (HI.out.elim fun n h => h.2.bel)
        clear h5
        go_wp2_with fail
        go_ret
        exact ⟨⟨_, rfl⟩, HB.out⟩
end Go.Proofs.Ytelmcnngocklfaa.Need
