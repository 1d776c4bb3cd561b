-- The words of the walks: those of print.sh's words that this seat's texts use, taken out by own_print.py of this repo (see NOTES.md), and two of our own.
import Derived.Test.YtonfbhcafejblaaV

set_option linter.unusedVariables false
set_option linter.unusedSimpArgs false
namespace Go.Proofs.YtonfbhcafejblaaW.PrintWords
open Go.RowKit
theorem own_nil (W : World) (base : Nat) (e : TypeId) (size : Nat) : W.ownsRow base e size (.slice none 0 0) 0 [] := ⟨by simp, .inl ⟨rfl, rfl⟩⟩
theorem own_other {w w1 : World} {base : Nat} {e : TypeId} {size n : Nat} {v : Value} {xs : List Value} (h : w.ownsRow base e size v n xs) {row : Option Nat} (hg : w.grownBy w1 row) (hne : v.ownBlock = none ∨ v.ownBlock ≠ row) : w1.ownsRow base e size v n xs := h.kept hg hne
section
variable {α : Type} {R R' : α → List Value → Prop} {e : TypeId} {size : Nat} {w w1 : World} {base : Nat} {v : Value} {ps : List α}
theorem OwnRow.none_ (R : α → List Value → Prop) (e : TypeId) (size : Nat) (w : World) (base : Nat) : OwnRow R e size w base (.slice none 0 0) [] := ⟨[], own_nil _ _ _ _, Reps.none _ _⟩
theorem OwnRow.other (h : OwnRow R e size w base v ps) {row : Option Nat} (hg : w.grownBy w1 row) (hne : v.ownBlock = none ∨ v.ownBlock ≠ row) : OwnRow R e size w1 base v ps := by
  obtain ⟨inner, ho, hr⟩ := h
  exact ⟨inner, own_other ho hg hne, hr⟩
end
namespace Kd
section
variable {α : Type} {d : Kd α} {e : Nat} {w w1 : World} {base : Nat} {ok ok' : Nat → Prop} {v : Value} {xs : List α}
theorem R_nil (d : Kd α) (e : Nat) (w : World) (base : Nat) (ok : Nat → Prop) : d.R e w base ok (.slice none 0 0) [] := ⟨fun k hk => by simp [Value.ownBlock] at hk, OwnRow.none_ _ _ _ _ _⟩
end
end Kd
namespace Kd
end Kd
namespace Kd
end Kd
namespace Kd
section
variable {α β : Type} {d : Kd α} {d' : Kd β} {e e' : Nat} {w w1 W : World} {base b b' : Nat} {ok ok' okv oku : Nat → Prop} {v u : Value} {xs : List α} {ys : List β}
theorem C_nil (d : Kd α) (w : World) : d.C w none ([] : List α).length [] := ⟨rfl, by simp, fun h => absurd h (Nat.lt_irrefl 0)⟩
end
section
variable {P : Program} {ops : Array Oper} {rest : List Oper} {o : Oper} {a : Act} {Q : Exit → Act → World → Prop}
variable {α : Type}
theorem reps_made {α : Type} {R : α → List Value → Prop} {z : Value} {size : Nat} {z0 : α} (hz : z.cells.size = size) (hs : 0 < size) (h0 : R z0 z.cells.toList) (m : Nat) : Reps R size (List.replicate m z0) (madeCells z.cells (m * size)).toList := by
  refine ⟨by simp [size_madeCells], fun j p hj => ?_⟩
  obtain ⟨hjl, hp⟩ := List.getElem?_eq_some_iff.1 hj
  have hjm : j < m := by simpa using hjl
  have hp' : z0 = p := by simpa using hp
  subst hp'
  have hle : j * size + size ≤ m * size := by rw [← Nat.succ_mul]; exact Nat.mul_le_mul_right _ hjm
  have : ((madeCells z.cells (m * size)).toList.drop (j * size)).take size = z.cells.toList := by
    apply List.ext_getElem
    · simp [size_madeCells, hz]
      omega
    · intro i h1 h2
      have hi : i < size := by rw [Array.length_toList, hz] at h2; exact h2
      have hmod : (j * size + i) % size = i := by
        rw [Nat.mul_comm, Nat.mul_add_mod]
        exact Nat.mod_eq_of_lt hi
      simp [madeCells, hz, hmod]
      rw [getElem!_pos z.cells i (by omega)]
  rw [this]
  exact h0
theorem R_make (d : Kd α) {w0 W : World} (base e : Nat) (hgd : o.guard = none) {N : Tmp} (hd : o.dst = some N) (t : TypeId) (x y : Operand) (ho : o.op = .makeSlice t x y) (n : Int) (hx : a.eval x = .int .i64 n) (hy : a.eval y = .int .i64 n)
    (ht : P.underlying t = some (.slice e)) (z : Value) (bytes : Nat) (hinfo : (P.info? e).map (fun i => (i.zero, i.size, i.bytes)) = some (some z, d.sz, bytes)) (hz : z.cells.size = d.sz) (hs0 : 0 < d.sz) (hb0 : 0 < bytes)
    (z0 : α) {ok okp : Nat → Prop} (hzero : d.M W base okp z0 z.cells.toList) (hok : ∀ k, okp k → ok k) (hfresh : ok W.heap.size) (h0 : 0 ≤ n) (hl : n.toNat * bytes ≤ 281474976710656) (HB : Below base w0 W) (hbase : base ≤ W.heap.size)
    (h : ∀ v1 w1, d.R e w1 base ok v1 (List.replicate n.toNat z0) → Below base w0 w1 → W.grownBy w1 none → (∃ b, v1.ownBlock = some b ∧ W.heap.size ≤ b) → wpList P ops Q rest (a.put o.dst v1) w1) : wpList P ops Q (o :: rest) a W := by
  obtain ⟨m, rfl⟩ := Int.eq_ofNat_of_zero_le h0
  simp only [Int.toNat_natCast] at hl h
  obtain ⟨i0, hi, hzz⟩ := Option.map_eq_some_iff.1 hinfo
  simp only [Prod.mk.injEq] at hzz
  obtain ⟨hz0, hz1, hz2⟩ := hzz
  have hm : m ≤ 281474976710656 := Nat.le_trans (Nat.le_mul_of_pos_right _ hb0) hl
  have hr := run_make (P := P) W t e i0 z ht hi hz0 .i64 .i64 (m : Int) (m : Int) (by omega) (by omega)
    (by
      have h3 : ((i0.bytes * m : Nat) : Int) ≤ 281474976710656 := by rw [hz2, Nat.mul_comm]; omega
      rwa [Int.natCast_mul] at h3) (by omega)
  simp only [Int.toNat_natCast] at hr
  rw [hz1] at hr
  refine R_lit d base e hgd hd (xs := List.replicate m z0) (inner := (madeCells z.cells (m * d.sz)).toList) (okp := okp) (ok := ok) ?_ (reps_made hz hs0 hzero m) hok hfresh HB hbase (by simp; omega) h
  simp [execOp, ho, hx, hy, hr]
end
end Kd
namespace Kd
end Kd
namespace Kd
end Kd
namespace Kd
end Kd
namespace Kd
end Kd
namespace Kd
end Kd
namespace Kd
end Kd
namespace Kd
end Kd
theorem keep_far {w W : World} {g : Nat} {row : Option Nat} (h : KeepBut w W g row) {p : Addr} (hp : w.heap.size ≤ p.block) (u : Value) : KeepBut w (W.setCell p u) g row :=
  ⟨by simpa [World.setCell] using h.1, fun i hi hg hr => (Below.heap_setCell W p u i (by omega)).trans (h.2 i hi hg hr)⟩
namespace Kd
end Kd
namespace Kd
end Kd
namespace Kd
end Kd
namespace Kd
end Kd
section
variable {P : Program} {ops : Array Oper} {o : Oper} {a : Act} {Q : Exit → Act → World → Prop} {Kc : Act → World → Prop}
namespace Kd
variable {α : Type}
end Kd
end
namespace Kd
end Kd
end Go.Proofs.YtonfbhcafejblaaW.PrintWords
namespace Go.Proofs.YtonfbhcafejblaaW.PrintLast
end Go.Proofs.YtonfbhcafejblaaW.PrintLast
namespace Go.Proofs.YtonfbhcafejblaaW.PrintLast
open Go.Proofs.YtonfbhcafejblaaW.PrintWords (Aside0)
end Go.Proofs.YtonfbhcafejblaaW.PrintLast
namespace Go.Proofs.YtonfbhcafejblaaW.PrintLast
end Go.Proofs.YtonfbhcafejblaaW.PrintLast
namespace Go.Proofs.YtonfbhcafejblaaW.PrintWords
open Go.RowKit
namespace Kd
end Kd
end Go.Proofs.YtonfbhcafejblaaW.PrintWords
namespace Go.Proofs.YtonfbhcafejblaaW.PrintWords
open Go.RowKit
namespace Kd
end Kd
end Go.Proofs.YtonfbhcafejblaaW.PrintWords
namespace Go.Proofs.YtonfbhcafejblaaW.PrintWords
open Go.RowKit
namespace Kd
end Kd
end Go.Proofs.YtonfbhcafejblaaW.PrintWords
namespace Go.Proofs.YtonfbhcafejblaaW.PrintWords
open Go.RowKit
namespace Kd
end Kd
end Go.Proofs.YtonfbhcafejblaaW.PrintWords
namespace Go.Proofs.YtonfbhcafejblaaW.PrintWords
open Go.RowKit
namespace Kd
end Kd
end Go.Proofs.YtonfbhcafejblaaW.PrintWords
namespace Go.Proofs.YtonfbhcafejblaaW.PrintWords
open Go.RowKit
namespace Kd
end Kd
end Go.Proofs.YtonfbhcafejblaaW.PrintWords
namespace Go.Proofs.YtonfbhcafejblaaW.PrintWords
open Go.RowKit
namespace Foot
variable {P Q : World → Prop} {W W1 : World} {ok ok' : Nat → Prop}
end Foot
namespace Kd
end Kd
end Go.Proofs.YtonfbhcafejblaaW.PrintWords
namespace Go.Proofs.YtonfbhcafejblaaW.PrintWords
open Go.RowKit
namespace Kd
end Kd
end Go.Proofs.YtonfbhcafejblaaW.PrintWords
namespace Go.Proofs.YtonfbhcafejblaaW.PrintWords
open Go.RowKit
namespace Kd
end Kd
end Go.Proofs.YtonfbhcafejblaaW.PrintWords
namespace Go.Proofs.YtonfbhcafejblaaW.PrintWords
open Go.RowKit
namespace Kd
end Kd
end Go.Proofs.YtonfbhcafejblaaW.PrintWords
namespace Go.Proofs.YtonfbhcafejblaaW.PrintWords
open Go.RowKit
end Go.Proofs.YtonfbhcafejblaaW.PrintWords
namespace Go.Proofs.YtonfbhcafejblaaW.PrintWords
end Go.Proofs.YtonfbhcafejblaaW.PrintWords
namespace Go.Proofs.YtonfbhcafejblaaW.PrintLast
def up (b : Nat → Bool) (i : Nat) : Nat → Bool := fun j => if j = i then true else b j
end Go.Proofs.YtonfbhcafejblaaW.PrintLast
namespace Go.Proofs.YtonfbhcafejblaaW.PrintWords
open Go.RowKit
end Go.Proofs.YtonfbhcafejblaaW.PrintWords
namespace Go.Proofs.YtonfbhcafejblaaW.PrintLast
end Go.Proofs.YtonfbhcafejblaaW.PrintLast
namespace Go.Proofs.YtonfbhcafejblaaW.PrintWords
open Go.RowKit
end Go.Proofs.YtonfbhcafejblaaW.PrintWords
namespace Go.Proofs.YtonfbhcafejblaaW.PrintWords
open Go.RowKit
namespace Kd
end Kd
end Go.Proofs.YtonfbhcafejblaaW.PrintWords
namespace Go.Proofs.YtonfbhcafejblaaW.PrintMore
open Go.RowKit Go.Proofs.YtonfbhcafejblaaW.PrintWords
namespace Kd
open Go.Proofs.YtonfbhcafejblaaW.PrintWords.Kd
end Kd
namespace Kd
open Go.Proofs.YtonfbhcafejblaaW.PrintWords.Kd
end Kd
end Go.Proofs.YtonfbhcafejblaaW.PrintMore
namespace Go.Proofs.YtonfbhcafejblaaW.PrintWords
open Go.RowKit
namespace Kd
end Kd
end Go.Proofs.YtonfbhcafejblaaW.PrintWords
namespace Go.Proofs.YtonfbhcafejblaaW.PrintWords
open Go.RowKit
namespace Kd
end Kd
end Go.Proofs.YtonfbhcafejblaaW.PrintWords
namespace Go.Proofs.YtonfbhcafejblaaW.PrintWords
open Go.ChangeShapes Go.WideShapes
end Go.Proofs.YtonfbhcafejblaaW.PrintWords
namespace Go.Proofs.YtonfbhcafejblaaW.OwnWords
open Go.RowKit
end Go.Proofs.YtonfbhcafejblaaW.OwnWords
