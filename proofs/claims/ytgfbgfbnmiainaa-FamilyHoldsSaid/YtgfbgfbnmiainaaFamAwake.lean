import Derived.Test.YtgfbgfbnmiainaaFamLit
import Derived.Test.YtgfbgfbnmiainaaQ25
/-! awake, the walk. -/
namespace Go.Proofs.Ytgfbgfbnmiainaa.Fam
set_option linter.unusedVariables false
set_option linter.unusedSimpArgs false
open Go.RowKit Go.Proofs.YtgfbgfbnmiainaaW.PrintWords Go.Proofs.YtgfbgfbnmiainaaW.PrintLast Go.Proofs.YtgfbgfbnmiainaaW.PrintMore Go.Proofs.Ytgfbgfbnmiainaa.Q
attribute [local go_sem] Go.Proofs.YtgfbgfbnmiainaaW.OwnWords.isSome_setCell max2_int min2_int
attribute [local go_sem high] eqA59
def aRels : List S33 := [⟨⟨#[112, 97, 114, 116]⟩, [0, 1], 0⟩, ⟨⟨#[115, 105, 122, 101]⟩, [1], 1⟩]
def aFams : List S37 := [⟨[3], [1, 3], 0, 64⟩, ⟨[], [2, 3], 0, 64⟩]
def aSp (i : Nat) : S59 × Bool := if i = 0 then (⟨8, 10, 0, 64⟩, true) else (⟨0, 12, 0, 64⟩, true)
def aQs (i : Nat) : Rl := if i = 0 then .part 0 1 else .size 1 1
def aT : St := ⟨[⟨8, 10, 1, 2⟩, ⟨0, 12, 0, 2⟩], false, true⟩
def aU : St := ⟨[⟨8, 8, 1, 1⟩, ⟨8, 8, 1, 1⟩], false, false⟩
theorem a_aux0 : openF 100 (rd_T37 aFams ((0 : Nat) : Int)) = some (aSp 0) := by kernel_rfl
theorem a_aux1 : openF 100 (rd_T37 aFams ((1 : Nat) : Int)) = some (aSp 1) := by kernel_rfl
theorem a_aux2 : family_ValidRel.f 100 (rd_T33 aRels ((0 : Nat) : Int)).f0 (rd_T33 aRels ((0 : Nat) : Int)).f1 (rd_T33 aRels ((0 : Nat) : Int)).f2 aFams.length = some true := by kernel_rfl
theorem a_aux3 : family_ValidRel.f 100 (rd_T33 aRels ((1 : Nat) : Int)).f0 (rd_T33 aRels ((1 : Nat) : Int)).f1 (rd_T33 aRels ((1 : Nat) : Int)).f2 aFams.length = some true := by kernel_rfl
theorem a_aux4 : closeF 100 (rd_T59 aU.xs ((0 : Nat) : Int)) = some ⟨[3], [3], 1, 1⟩ := by kernel_rfl
theorem a_aux5 : closeF 100 (rd_T59 aU.xs ((1 : Nat) : Int)) = some ⟨[3], [3], 1, 1⟩ := by kernel_rfl
theorem a_open : ∀ i : Nat, i < aFams.length → openF 100 (rd_T37 aFams i) = some (aSp i) := by
  intro i hi
  match i, hi with
  | 0, _ => exact a_aux0
  | 1, _ => exact a_aux1
theorem a_valid : ∀ i : Nat, i < aRels.length → family_ValidRel.f 100 (rd_T33 aRels i).f0 (rd_T33 aRels i).f1 (rd_T33 aRels i).f2 aFams.length = some true := by
  intro i hi
  match i, hi with
  | 0, _ => exact a_aux2
  | 1, _ => exact a_aux3
theorem a_init : initF 100 aFams.length 0 ⟨spans aSp aFams.length, false, false⟩ = some aT := by kernel_rfl
theorem a_round : roundF 100 aQs aRels.length 100 ⟨aT.xs, aT.fail, true⟩ = some aU := by kernel_rfl
theorem a_close : ∀ i : Nat, i < aFams.length → closeF 100 (rd_T59 aU.xs i) = some ⟨[3], [3], 1, 1⟩ := by
  intro i hi
  match i, hi with
  | 0, _ => exact a_aux4
  | 1, _ => exact a_aux5
theorem a_same : manystrandref07_Same.f 100 [3] [3] 1 1 [3] [3] 1 1 = some true := by kernel_rfl
theorem a_rels : RelsAre aRels aQs aFams.length := by
  intro i hi
  match i, hi with
  | 0, _ => exact ⟨⟨rfl, rfl⟩, ⟨by decide, by decide⟩, by decide, by decide⟩
  | 1, _ => exact ⟨⟨rfl, rfl, rfl⟩, by decide, by decide⟩
def aOut : List S37 := [⟨[3], [3], 1, 1⟩, ⟨[3], [3], 1, 1⟩]
/-- Fix of the two families, wherever they lie. -/
theorem a_fix (A0 : Option Addr) (c0 : Nat) (A1 : Option Addr) (c1 : Nat) (w : World) (hr0 : Kd.C k33 w A0 2 aRels) (hc0 : 2 ≤ c0) (hr1 : Kd.C k37 w A1 2 aFams) (hc1 : 2 ≤ c1) :
    Calls Try.prog 11 #[.slice A0 2 c0, .slice A1 2 c1] w fun e w' => ∃ v, e = .returned (.tuple #[v, .int .i64 0]) ∧ Kd.R k37 37 w' w.heap.size (fun _ => True) v aOut ∧ Below w.heap.size w w' :=
  fix_walk 100 aSp A0 c0 aRels A1 c1 aFams w hr0 hc0 hr1 hc1 a_open (by decide) (fun _ => true) a_valid (by decide) true ⟨rfl⟩ aOut 0
    ⟨fun _ => ⟨aQs, aT, aU, 100, a_rels, a_init, a_round, fun h => (by cases h), fun _ => ⟨rfl, fun _ => ⟨[3], [3], 1, 1⟩, a_close, rfl⟩⟩⟩ ⟨fun h => (by cases h)⟩
abbrev aW (w : World) : World := ((((((w.alloc (.cells #[.int .i64 0, .int .i64 1] 3)).alloc (.cells #[.int .i64 1] 3)).alloc (.cells #[.string ⟨#[112, 97, 114, 116]⟩, .slice (some ⟨w.heap.size, 0, none⟩) 2 2, .int .i64 0, .string ⟨#[115, 105, 122, 101]⟩, .slice (some ⟨w.heap.size + 1, 0, none⟩) 1 1, .int .i64 1] 33)).alloc (.cells #[.int .i64 3] 3)).alloc (.cells #[.int .i64 1, .int .i64 3] 3)).alloc (.cells #[.int .i64 2, .int .i64 3] 3)).alloc
  (.cells #[.slice (some ⟨w.heap.size + 1 + 1 + 1, 0, none⟩) 1 1, .slice (some ⟨w.heap.size + 1 + 1 + 1 + 1, 0, none⟩) 2 2, .int .i64 0, .int .i64 64, .slice none 0 0, .slice (some ⟨w.heap.size + 1 + 1 + 1 + 1 + 1, 0, none⟩) 2 2, .int .i64 0, .int .i64 64] 37)
theorem a_args (w : World) : Kd.C k33 (aW w) (some ⟨w.heap.size + 1 + 1, 0, none⟩) 2 aRels ∧ Kd.C k37 (aW w) (some ⟨w.heap.size + 1 + 1 + 1 + 1 + 1 + 1, 0, none⟩) 2 aFams := by
  obtain ⟨b0, b1, b2, b3, b4, b5, b6, _⟩ := allocs7 w _ _ _ _ _ _ _ (aW w) rfl
  refine ⟨rows_lit (css := [[.string ⟨#[112, 97, 114, 116]⟩, .slice (some ⟨w.heap.size, 0, none⟩) 2 2, .int .i64 0], [.string ⟨#[115, 105, 122, 101]⟩, .slice (some ⟨w.heap.size + 1, 0, none⟩) 1 1, .int .i64 1]]) b2 rfl ?_ rfl (by decide) ?_, rows_lit (css := [[.slice (some ⟨w.heap.size + 1 + 1 + 1, 0, none⟩) 1 1, .slice (some ⟨w.heap.size + 1 + 1 + 1 + 1, 0, none⟩) 2 2, .int .i64 0, .int .i64 64], [.slice none 0 0, .slice (some ⟨w.heap.size + 1 + 1 + 1 + 1 + 1, 0, none⟩) 2 2, .int .i64 0, .int .i64 64]]) b6 rfl ?_ rfl (by decide) ?_⟩
  · intro cs hcs
    simp only [List.mem_cons, List.not_mem_nil, or_false] at hcs
    rcases hcs with rfl | rfl <;> rfl
  · intro j p cs hp hc
    match j with
    | 0 => cases hp; cases hc; exact k33_mk _ ⟨⟨#[112, 97, 114, 116]⟩, [0, 1], 0⟩ (by decide) (ints_lit (xs := [0, 1]) b0 rfl (by decide))
    | 1 => cases hp; cases hc; exact k33_mk _ ⟨⟨#[115, 105, 122, 101]⟩, [1], 1⟩ (by decide) (ints_lit (xs := [1]) b1 rfl (by decide))
    | j + 2 => cases hp
  · intro cs hcs
    simp only [List.mem_cons, List.not_mem_nil, or_false] at hcs
    rcases hcs with rfl | rfl <;> rfl
  · intro j p cs hp hc
    match j with
    | 0 => cases hp; cases hc; exact k37_mk _ ⟨[3], [1, 3], 0, 64⟩ (by decide) (ints_lit (xs := [3]) b3 rfl (by decide)) (by decide) (ints_lit (xs := [1, 3]) b4 rfl (by decide))
    | 1 => cases hp; cases hc; exact k37_mk _ ⟨[], [2, 3], 0, 64⟩ (by decide) (Kd.C_nil _ _) (by decide) (ints_lit (xs := [2, 3]) b5 rfl (by decide))
    | j + 2 => cases hp
end Go.Proofs.Ytgfbgfbnmiainaa.Fam
