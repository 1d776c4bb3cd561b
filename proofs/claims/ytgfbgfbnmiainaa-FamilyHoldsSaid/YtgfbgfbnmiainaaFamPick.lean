import Derived.Test.YtgfbgfbnmiainaaQ66
import Derived.Test.YtgfbgfbnmiainaaV2
import Derived.Deep.QuietTactic
import Derived.BigQuiet
import Derived.DataElems
/-! picked, against a Lean function. (Written by fam_pick.py.) -/
namespace Go.Proofs.Ytgfbgfbnmiainaa.Fam
set_option linter.unusedVariables false
set_option linter.unusedSimpArgs false
open Go.RowKit Go.Proofs.YtgfbgfbnmiainaaW.PrintWords Go.Proofs.YtgfbgfbnmiainaaW.PrintLast Go.Proofs.YtgfbgfbnmiainaaW.PrintMore Go.Proofs.Ytgfbgfbnmiainaa.Q
attribute [local go_sem] Go.Proofs.YtgfbgfbnmiainaaW.OwnWords.isSome_setCell max2_int min2_int
/-- What of both lists a rule picks, smaller numbers first. -/
def pick (rule : Bool → Bool → Bool) : Nat → List Int → List Int → List Int
  | 0, _, _ => []
  | _ + 1, [], [] => []
  | k + 1, x :: a, [] => (if rule true false then [x] else []) ++ pick rule k a []
  | k + 1, [], y :: b => (if rule false true then [y] else []) ++ pick rule k [] b
  | k + 1, x :: a, y :: b => if x < y then (if rule true false then [x] else []) ++ pick rule k a (y :: b) else if y < x then (if rule false true then [y] else []) ++ pick rule k (x :: a) b else (if rule true true then [y] else []) ++ pick rule k a b
theorem pick_nil (rule : Bool → Bool → Bool) (k : Nat) : pick rule k [] [] = [] := by cases k <;> rfl
/-- A list that is read at A. -/
def Sl (w : World) (A : Option Addr) (c : Nat) (xs : List Int) : Prop := (Kd.int .i64).C w A xs.length xs ∧ xs.length ≤ c
theorem sl_below {w w' : World} {A : Option Addr} {c : Nat} {xs : List Int} (h : Sl w A c xs) (hb : Below w.heap.size w w') : Sl w' A c xs := ⟨Kd.C_below h.1 hb, h.2⟩
theorem sl_head {w : World} {A : Option Addr} {c : Nat} {x : Int} {xs : List Int} (h : Sl w A c (x :: xs)) : ∃ ad, A = some ad ∧ w.cell? ad = some (.int .i64 x) ∧ w.cell? (ad.add 0) = some (.int .i64 x) ∧ xs.length + 1 ≤ c := by
  obtain ⟨ad, he, hc⟩ := Kd.at_int h.1 0 (by decide) (by simp)
  have hz : ad.add 0 = ad := by unfold Addr.add; split <;> simp_all
  have h1 : w.cell? (ad.add 0) = some (.int .i64 x) := hc
  exact ⟨ad, he, by rw [← hz]; exact h1, h1, by have := h.2; simpa using this⟩
theorem add_one (ad : Addr) (j : Nat) : (ad.add 1).add j = ad.add (j + 1) := by
  have h := Addr.add_add ad 1 j
  rw [h, Nat.add_comm]
theorem sl_tail {w : World} {ad : Addr} {c : Nat} {x : Int} {xs : List Int} (h : Sl w (some ad) c (x :: xs)) : Sl w (some (ad.add 1)) (c - 1) xs := by
  refine ⟨⟨rfl, by have := h.1.2.1; simp only [List.length_cons] at this; omega, fun _ => ⟨_, rfl, fun j p hj => ⟨[.int .i64 p], rfl, rfl, fun i u hu => ?_⟩⟩⟩, by have := h.2; simp only [List.length_cons] at this; omega⟩
  have hi : i = 0 := by
    cases i with
    | zero => rfl
    | succ i => simp at hu
  subst hi
  have hu' : Value.int .i64 p = u := by simpa using hu
  subst hu'
  show w.cell? ((ad.add 1).add (j * 1 + 0)) = _
  have hj' : j < xs.length := (List.getElem?_eq_some_iff.1 hj).1
  obtain ⟨ad', he, hc⟩ := Kd.at_int h.1 ((j + 1 : Nat) : Int) (by omega) (by simp only [List.length_cons]; omega)
  cases he
  have hr : rd (x :: xs) ((j + 1 : Nat) : Int) = p := by
    unfold rd
    rw [Int.toNat_natCast, List.getD_eq_getElem?_getD, List.getElem?_cons_succ, hj]
    rfl
  rw [hr, Int.toNat_natCast] at hc
  rw [Nat.mul_one, Nat.add_zero, add_one]
  exact hc
theorem sl_nil {w : World} (A : Option Addr) (c : Nat) : Sl w A c [] := ⟨⟨rfl, by simp, fun h => absurd h (by simp)⟩, by simp⟩
/-- What is picked already, in memory of the call's own. -/
def Pk (w w' : World) (v : Value) (zs : List Int) : Prop := w'.ownsRow w.heap.size 3 1 v zs.length (zs.map (Value.int .i64)) ∧ Below w.heap.size w w'
theorem pk_below {w w1 w2 : World} {v : Value} {zs : List Int} (h : Pk w w1 v zs) (hb : Below w1.heap.size w1 w2) : Pk w w2 v zs := by
  refine ⟨own_move h.1 (fun k hk => ?_), below_then h.2 h.2.size hb⟩
  obtain ⟨cells, hc⟩ := own_typed h.1 k hk
  exact hb.block k (blk_lt hc)
theorem pk_drewN {w w1 : World} {v : Value} {zs : List Int} (h : Pk w w1 v zs) (n : Nat) : Pk w (w1.drewN n) v zs := pk_below h (pw_below_drewN (Below.refl _ _) n)
theorem own_drewN {w : World} {B e size n : Nat} {v : Value} {xs : List Value} (h : w.ownsRow B e size v n xs) (m : Nat) : (w.drewN m).ownsRow B e size v n xs := by
  refine own_move h (fun k hk => ?_)
  obtain ⟨cells, hc⟩ := own_typed h k hk
  exact (pw_below_drewN (Below.refl w.heap.size w) m).block k (blk_lt hc)
theorem pk_form {w : World} {B e size n : Nat} {v : Value} {xs : List Value} (h : w.ownsRow B e size v n xs) (hn : 0 < n) : ∃ g cap, v = .slice (some ⟨g, 0, none⟩) n cap := by
  rcases h.2 with ⟨_, h0⟩ | ⟨g, cap, cur, hv, _⟩
  · omega
  · exact ⟨g, cap, hv⟩
theorem info3' : (Try.prog.info? 3).map (fun i => (i.zero, i.size, i.bytes)) = some (some (.int .i64 0), 1, 8) := by kernel_rfl
/-- What picked ends with: a list of its own. -/
def PickEnd (w : World) (zs : List Int) (e : Ending) (w' : World) : Prop := ∃ v, e = .returned v ∧ Pk w w' v zs
end Go.Proofs.Ytgfbgfbnmiainaa.Fam
