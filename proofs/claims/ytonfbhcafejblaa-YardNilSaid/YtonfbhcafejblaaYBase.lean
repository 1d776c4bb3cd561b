import Derived.Test.YtonfbhcafejblaaV2
import Derived.Test.YtonfbhcafejblaaQ7
import Derived.Deep.QuietTactic
import Derived.BigQuiet
import Derived.RegionTactic
/-! A yard (entity.Yard) that has one lock: what is said of it in memory; none, find. -/
namespace Go.Proofs.Ytonfbhcafejblaa.Yd
set_option linter.unusedVariables false
set_option linter.unusedSimpArgs false
open Go.RowKit Go.Proofs.YtonfbhcafejblaaW.PrintWords Go.Proofs.YtonfbhcafejblaaW.PrintLast Go.Proofs.YtonfbhcafejblaaW.PrintMore Go.Proofs.Ytonfbhcafejblaa.Q
attribute [local go_sem] Go.Proofs.YtonfbhcafejblaaW.OwnWords.isSome_setCell max2_int min2_int
abbrev lockS : ByteArray := ⟨#[108, 111, 99, 107]⟩
/-- The cells of a lock. -/
abbrev row10 (ow ti : Int) (v : Value) : List Value := [.string lockS, .int .i64 0, .int .i64 0, .int .i64 ow, .int .i64 ti, v, .slice none 0 0, .map none, .int .i64 0, .int .i64 0]
/-- Block yb is a yard with one thing, block tb, a lock: its owner, how often, who waits. -/
def IsYd (B : Nat) (w : World) (yb tb cap : Nat) (rest : List Value) (ow ti : Int) (v : Value) (xs : List Int) : Prop :=
  w.heap[yb]? = some (.cells #[.bool true, .slice (some ⟨tb, 0, none⟩) 1 cap] 65 (0, 0)) ∧ w.heap[tb]? = some (.cells (row10 ow ti v ++ rest).toArray 68 (0, 0)) ∧ 1 ≤ cap ∧ cap ≤ maxLen ∧
    w.ownsRow B 3 1 v xs.length (xs.map (Value.int .i64)) ∧ B ≤ yb ∧ B ≤ tb
/-- What is not the yard's stays. -/
def Kept3 (w w' : World) (yb tb : Nat) (v : Value) : Prop := w.heap.size ≤ w'.heap.size ∧ ∀ i, i < w.heap.size → i ≠ yb → i ≠ tb → some i ≠ v.ownBlock → w'.heap[i]? = w.heap[i]?
theorem Kept3.refl (w : World) (yb tb : Nat) (v : Value) : Kept3 w w yb tb v := ⟨Nat.le_refl _, fun _ _ _ _ _ => rfl⟩
theorem Kept3.trans {w w1 w2 : World} {yb tb : Nat} {v v1 : Value} (h : Kept3 w w1 yb tb v) (k : Kept3 w1 w2 yb tb v1) (hv : v1.ownBlock = v.ownBlock ∨ v1.ownBlock = none ∨ ∃ b, v1.ownBlock = some b ∧ w.heap.size ≤ b) : Kept3 w w2 yb tb v := by
  refine ⟨Nat.le_trans h.1 k.1, fun i hi h1 h2 h3 => ?_⟩
  refine (k.2 i (Nat.lt_of_lt_of_le hi h.1) h1 h2 ?_).trans (h.2 i hi h1 h2 h3)
  rcases hv with e | e | ⟨b, e, hb⟩
  · rw [e]; exact h3
  · rw [e]; simp
  · rw [e]; intro hc; injection hc with hc; omega
theorem Kept3.below {w w' : World} (h : Below w.heap.size w w') (yb tb : Nat) (v : Value) : Kept3 w w' yb tb v := ⟨h.size, fun i hi _ _ _ => h.block i hi⟩
theorem Kept3.then {w w1 w2 : World} {yb tb : Nat} {v : Value} (h : Kept3 w w1 yb tb v) (k : Below w1.heap.size w1 w2) : Kept3 w w2 yb tb v := h.trans (Kept3.below k yb tb v) (.inl rfl)
theorem owns_ne {w : World} {B e size n g : Nat} {v : Value} {xs : List Value} (h : w.ownsRow B e size v n xs) {cs : Array Value} {t : Nat} (hg : w.heap[g]? = some (.cells cs t (0, 0))) (ht : t ≠ e) : v.ownBlock ≠ some g := by
  intro hc
  obtain ⟨cells, hk⟩ := own_typed h g hc
  rw [hg] at hk
  injection hk with hk
  injection hk with _ hk _
  exact ht hk
section
variable {B : Nat} {w w' : World} {yb tb cap : Nat} {rest : List Value} {ow ti : Int} {v : Value} {xs : List Int}
theorem yd_below (h : IsYd B w yb tb cap rest ow ti v xs) (hb : Below w.heap.size w w') : IsYd B w' yb tb cap rest ow ti v xs := by
  obtain ⟨h1, h2, h3, h4, h5, h6, h7⟩ := h
  refine ⟨blk_below h1 hb, blk_below h2 hb, h3, h4, own_move h5 (fun k hk => ?_), h6, h7⟩
  obtain ⟨cells, hc⟩ := own_typed h5 k hk
  exact hb.block k (blk_lt hc)
end
theorem none_calls (yb : Nat) (w : World) (h : w.cell? ⟨yb, 0, none⟩ = some (.bool true)) :
    Calls Try.prog 29 #[.pointer (some ⟨yb, 0, none⟩)] w fun e w' => e = .returned (.bool false) ∧ w' = w := by
  go_enter Try.func29, Try.ntmps29
  go_wp2
  go_ret
  exact ⟨rfl, rfl⟩
theorem none_nil (w : World) :
    Calls Try.prog 29 #[.pointer none] w fun e w' => e = .returned (.bool true) ∧ w' = w := by
  go_enter Try.func29, Try.ntmps29
  go_wp2
  go_ret
  exact ⟨rfl, rfl⟩
end Go.Proofs.Ytonfbhcafejblaa.Yd
