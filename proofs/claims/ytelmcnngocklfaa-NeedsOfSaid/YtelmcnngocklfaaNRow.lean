import Derived.Test.YtelmcnngocklfaaNInv
import Derived.Test.YtelmcnngocklfaaQ0
import Derived.Test.YtelmcnngocklfaaV2
import Derived.Maps.AppendAt
import Derived.Laws.OwnMore
import Derived.Deep.QuietTactic
import Derived.BigQuiet
import Derived.BigRegion
/-! Lists of the call's own. -/
namespace Go.Proofs.Ytelmcnngocklfaa.Need
set_option linter.unusedVariables false
set_option linter.unusedSimpArgs false
open Go.RowKit Go.Proofs.YtelmcnngocklfaaW.PrintWords Go.Proofs.YtelmcnngocklfaaW.PrintLast Go.Proofs.YtelmcnngocklfaaW.PrintMore
/-- All but block g, and the row, stays; the outer world stays. -/
structure KB (w w' : World) (g : Nat) (row : Option Nat) : Prop where
  s : w.heap.size ≤ w'.heap.size
  k : ∀ i, i < w.heap.size → i ≠ g → some i ≠ row → w'.heap[i]? = w.heap[i]?
  io : w'.os = w.os ∧ w'.tape = w.tape ∧ w'.output = w.output
theorem KB.refl (w : World) (g : Nat) (row : Option Nat) : KB w w g row := ⟨Nat.le_refl _, fun _ _ _ _ => rfl, rfl, rfl, rfl⟩
theorem KB.start (w : World) (d g : Nat) (row : Option Nat) : KB w { w with drawn := d } g row := ⟨Nat.le_refl _, fun _ _ _ _ => rfl, rfl, rfl, rfl⟩
theorem KB.of_below {w w1 : World} (h : Below w.heap.size w w1) (g : Nat) (row : Option Nat) : KB w w1 g row := ⟨h.size, fun i hi _ _ => h.block i hi, h.os, h.tape, h.output⟩
theorem KB.trans {w w1 w2 : World} {g : Nat} {row row1 : Option Nat} (h : KB w w1 g row) (k : KB w1 w2 g row1) (hr : row1 = row ∨ ∃ b, row1 = some b ∧ w.heap.size ≤ b) : KB w w2 g row :=
  ⟨Nat.le_trans h.1 k.1, fun i hi hg hn => by
    refine (k.2 i (Nat.lt_of_lt_of_le hi h.1) hg ?_).trans (h.2 i hi hg hn)
    rcases hr with rfl | ⟨b, rfl, hb⟩
    · exact hn
    · intro e
      injection e with e
      omega, k.3.1.trans h.3.1, k.3.2.1.trans h.3.2.1, k.3.2.2.trans h.3.2.2⟩
theorem kb_set {w w1 : World} {g : Nat} (h : KB w w1 g none) (j : Nat) (u : Value) : KB w (w1.setCell ⟨g, j, none⟩ u) g none :=
  ⟨by simpa [World.setCell] using h.1, fun i hi hg hr => (Below.heap_setCell w1 ⟨g, j, none⟩ u i hg).trans (h.2 i hi hg hr), h.3⟩
theorem KB.below {w w1 w2 : World} {g l : Nat} (h : Below w.heap.size w w1) (k : KB w1 w2 g (some l)) (hg : w.heap.size ≤ g) (hl : w.heap.size ≤ l) : Below w.heap.size w w2 :=
  ⟨k.3.1.trans h.os, k.3.2.1.trans h.tape, k.3.2.2.trans h.output, Nat.le_trans h.size k.1, fun i hi => (k.2 i (Nat.lt_of_lt_of_le hi h.size) (by omega) (by intro e; injection e with e; omega)).trans (h.block i hi)⟩
theorem own_put {w : World} {B e size n : Nat} {v : Value} {xs : List Value} (h : w.ownsRow B e size v n xs) {p j : Nat} (hp : p < B) (u : Value) : (w.setCell ⟨p, j, none⟩ u).ownsRow B e size v n xs :=
  own_move h (fun k hk => Below.heap_setCell w ⟨p, j, none⟩ u k (by have := (h.lt k hk).1; show k ≠ p; omega))
theorem own_below {w w' : World} {B e size n : Nat} {v : Value} {xs : List Value} (h : w.ownsRow B e size v n xs) (hb : Below w.heap.size w w') : w'.ownsRow B e size v n xs :=
  own_move h (fun k hk => hb.block k (h.lt k hk).2)
theorem own_keep {w w' : World} {B e size n g : Nat} {v : Value} {xs : List Value} (h : w.ownsRow B e size v n xs) (hb : KB w w' g none) (hg : v.ownBlock ≠ some g) : w'.ownsRow B e size v n xs :=
  own_move h (fun k hk => hb.2 k (h.lt k hk).2 (fun e => hg (e ▸ hk)) (by simp))
theorem own_apart {w : World} {B e size n g t : Nat} {cs : Array Value} {v : Value} {xs : List Value} (h : w.ownsRow B e size v n xs) (hg : w.heap[g]? = some (.cells cs t (0, 0))) (ht : t ≠ e) : v.ownBlock ≠ some g := by
  intro hk
  obtain ⟨c, hc⟩ := own_typed h g hk
  rw [hg] at hc
  injection hc with hc
  injection hc with _ h2 _
  exact ht h2
theorem own_slice {w : World} {B e size n : Nat} {v : Value} {xs : List Value} (h : w.ownsRow B e size v (n + 1) xs) : ∃ g cap, v = .slice (some ⟨g, 0, none⟩) (n + 1) cap ∧ B ≤ g ∧ g < w.heap.size := by
  rcases h.2 with ⟨_, h0⟩ | ⟨g, cap, cur, rfl, hb, hh, _⟩
  · omega
  · exact ⟨g, cap, rfl, hb, blk_lt hh⟩
theorem own_weak {w : World} {B B' e size n : Nat} {v : Value} {xs : List Value} (h : w.ownsRow B e size v n xs) (hB : B' ≤ B) : w.ownsRow B' e size v n xs := by
  refine ⟨h.1, ?_⟩
  rcases h.2 with h0 | ⟨g, cap, cur, rfl, hb, hh⟩
  · exact .inl h0
  · exact .inr ⟨g, cap, cur, rfl, by omega, hh⟩
/-- append of one thing to a list that is none. -/
theorem app_nil {P : Program} {ops : Array Oper} {rest : List Oper} {o : Oper} {a : Act} {Q : Exit → Act → World → Prop} (W : World) (hgd : o.guard = none) (s x : Operand) (t e size bytes : Nat) (z : Value)
    (ho : o.op = .call { callee := .builtin .append, args := #[s, x], argTypes := #[t, t] }) (ht : P.underlying t = some (.slice e)) (hi : (P.info? e).map (fun i => (i.zero, i.size, i.bytes)) = some (some z, size, bytes)) (hzs : z.cells.size = size) (hsz : 0 < size)
    (hs : a.eval s = .slice none 0 0) (g : Nat) (news : List Value) (hx : a.eval x = .slice (some ⟨g, 0, none⟩) 1 1) (hl : news.length = size) (hg : W.heap[g]? = some (.cells news.toArray e (0, 0))) (h1 : ∀ u ∈ news, u.oneCell' = true) (hb : bytes ≤ 1000) (N : Nat) (hN : o.dst = some N)
    (h : ∀ v' w', w'.ownsRow W.heap.size e size v' 1 news → Below W.heap.size W w' → wpList P ops Q rest { a with tmps := a.tmps.setIfInBounds N v' } w') : wpList P ops Q (o :: rest) a W := by
  obtain ⟨i0, hi, hzz⟩ := Option.map_eq_some_iff.1 hi
  simp only [Prod.mk.injEq] at hzz
  obtain ⟨hz0, hz1, hz2⟩ := hzz
  refine wpList_append_own_at W hgd s x t ho W.heap.size e i0 z size bytes ht hi hz0 hz1 hz2 hzs hsz (.slice none 0 0) 0 [] hs (own_nil _ _ _ _) ⟨g, 0, none⟩ 1 1 news hx (by omega) (fun j u hu => ?_) h1 (by decide) (by omega) (Nat.le_refl _) ?_
  · have e : (⟨g, 0, none⟩ : Addr).add j = ⟨g, j, none⟩ := by cases j <;> simp [Addr.add]
    rw [e, blk_cell hg]
    simpa using hu
  · intro v' w' hr hgr _ _
    rw [hN]
    exact h v' w' (by simpa using hr) ⟨hgr.os, hgr.tape, hgr.output, hgr.size, fun k hk => hgr.block k hk (by intro e; cases e)⟩
theorem inf9 : (Try.prog.info? 9).map (fun i => (i.zero, i.size, i.bytes)) = some (some (.string ⟨#[]⟩), 1, 16) := by kernel_rfl
theorem inf4 : (Try.prog.info? 4).map (fun i => (i.zero, i.size, i.bytes)) = some (some (.bool false), 1, 1) := by kernel_rfl
theorem inf3 : (Try.prog.info? 3).map (fun i => (i.zero, i.size, i.bytes)) = some (some (.int .i64 0), 1, 8) := by kernel_rfl
theorem inf29 : (Try.prog.info? 29).map (fun i => (i.zero, i.size, i.bytes)) = some (some (.slice none 0 0), 1, 24) := by kernel_rfl
theorem inf86 : (Try.prog.info? 86).map (fun i => (i.zero, i.size, i.bytes)) = some (some (.agg #[.int .i64 0, .int .i64 0]), 2, 16) := by kernel_rfl
theorem inf88 : (Try.prog.info? 88).map (fun i => (i.zero, i.size, i.bytes)) = some (some (.agg #[.int .i64 0, .int .i64 0, .int .i64 0, .bool false]), 4, 32) := by kernel_rfl
end Go.Proofs.Ytelmcnngocklfaa.Need
