import Derived.Test.YtgfbgfbnmiainaaQ10
import Derived.Test.YtgfbgfbnmiainaaV2
import Derived.RegionTactic
/-! The families under way (family.fixing): what is said of them in memory; put. -/
namespace Go.Proofs.Ytgfbgfbnmiainaa.Fam
set_option linter.unusedVariables false
set_option linter.unusedSimpArgs false
open Go.RowKit Go.Proofs.YtgfbgfbnmiainaaW.PrintWords Go.Proofs.YtgfbgfbnmiainaaW.PrintLast Go.Proofs.YtgfbgfbnmiainaaW.PrintMore Go.Proofs.Ytgfbgfbnmiainaa.Q
attribute [local go_sem] Go.Proofs.YtgfbgfbnmiainaaW.OwnWords.isSome_setCell max2_int min2_int
attribute [local go_sem high] eqA59
/-- Block g is the families under way: the list xs (value v), whether it fails, whether it moved. -/
def IsFx (w0 w : World) (g : Nat) (v : Value) (xs : List S59) (f m : Bool) : Prop :=
  w.heap[g]? = some (.cells #[v, .bool f, .bool m] 56 (0, 0)) ∧ w0.heap.size ≤ g ∧ Kd.R k59 59 w w0.heap.size (fun k_ => k_ ≠ g) v xs
/-- The same, with what else is kept since w1. -/
def Fx (w0 w1 w : World) (g : Nat) (v : Value) (xs : List S59) (f m : Bool) : Prop :=
  IsFx w0 w g v xs f m ∧ Below w0.heap.size w0 w ∧ KeepBut w1 w g v.ownBlock ∧ g < w1.heap.size ∧ (∀ k, v.ownBlock = some k → k < w1.heap.size) ∧ w0.heap.size ≤ w1.heap.size
theorem fx_start {w0 w : World} {g : Nat} {v : Value} {xs : List S59} {f m : Bool} (h : IsFx w0 w g v xs f m) (hB : Below w0.heap.size w0 w) : Fx w0 w w g v xs f m :=
  ⟨h, hB, KeepBut.refl _ _ _, blk_lt h.1, fun k hk => Kd.R_lt h.2.2 k hk, hB.size⟩
theorem fx_below {w0 w1 w w' : World} {g : Nat} {v : Value} {xs : List S59} {f m : Bool} (h : Fx w0 w1 w g v xs f m) (hb : Below w.heap.size w w') : Fx w0 w1 w' g v xs f m := by
  obtain ⟨⟨h1, h2, h3⟩, h4, h5, h6, h7, h8⟩ := h
  refine ⟨⟨blk_below h1 hb, h2, Kd.R_below h3 hb⟩, h4.trans (hb.mono (by have := h5.1; omega)), ⟨Nat.le_trans h5.1 hb.size, fun i hi hg hr => (hb.block i (by have := h5.1; omega)).trans (h5.2 i hi hg hr)⟩, h6, h7, h8⟩
theorem fx_alloc {w0 w1 w : World} {g : Nat} {v : Value} {xs : List S59} {f m : Bool} (h : Fx w0 w1 w g v xs f m) (o : Obj) : Fx w0 w1 (w.alloc o) g v xs f m := fx_below h (below_alloc (Below.refl _ _) o)
theorem fx_drew {w0 w1 w : World} {g : Nat} {v : Value} {xs : List S59} {f m : Bool} (h : Fx w0 w1 w g v xs f m) : Fx w0 w1 w.drew g v xs f m := fx_below h (below_drew (Below.refl _ _))
theorem fx_drewN {w0 w1 w : World} {g : Nat} {v : Value} {xs : List S59} {f m : Bool} (h : Fx w0 w1 w g v xs f m) (n : Nat) : Fx w0 w1 (w.drewN n) g v xs f m := fx_below h (pw_below_drewN (Below.refl _ _) n)
/-- The elements have no rows of their own: only where the list's own row lies counts. -/
theorem r59_ok {e : Nat} {w : World} {base : Nat} {ok ok' : Nat → Prop} {v : Value} {xs : List S59} (h : Kd.R k59 e w base ok v xs) (hok : ∀ k, v.ownBlock = some k → ok' k) : Kd.R k59 e w base ok' v xs := by
  obtain ⟨_, inner, ho, hr⟩ := h
  refine ⟨hok, inner, ho, hr.imp_ (fun x c hp => ?_)⟩
  rw [k59_openM hp]
  exact k59_mkM _ _ _ x
theorem r59_move {e : Nat} {w w' : World} {base : Nat} {ok ok' : Nat → Prop} {v : Value} {xs : List S59} (h : Kd.R k59 e w base ok v xs) (hok : ∀ k, v.ownBlock = some k → ok' k) (hm : ∀ k, v.ownBlock = some k → w'.heap[k]? = w.heap[k]?) : Kd.R k59 e w' base ok' v xs := by
  have h1 : Kd.R k59 e w base (fun k => v.ownBlock = some k) v xs := r59_ok h (fun _ hk => hk)
  exact r59_ok (Kd.R_move h1 hm) hok
theorem fx_own {w0 w1 w : World} {g : Nat} {v : Value} {xs : List S59} {f m : Bool} (h : Fx w0 w1 w g v xs f m) : ∀ k, v.ownBlock = some k → k ≠ g ∧ w0.heap.size ≤ k :=
  fun k hk => ⟨h.1.2.2.1 k hk, Kd.R_base h.1.2.2 k hk⟩
/-- A store into a block that was made since. -/
theorem fx_far {w0 w1 w : World} {g : Nat} {v : Value} {xs : List S59} {f m : Bool} (h : Fx w0 w1 w g v xs f m) {p : Addr} (hp : w1.heap.size ≤ p.block) (u : Value) : Fx w0 w1 (w.setCell p u) g v xs f m := by
  have ho := fx_own h
  obtain ⟨⟨h1, h2, h3⟩, h4, h5, h6, h7, h8⟩ := h
  refine ⟨⟨(Below.heap_setCell w p u g (by omega)).trans h1, h2, r59_move h3 (fun k hk => (ho k hk).1) (fun k hk => Below.heap_setCell w p u k (by have := h7 k hk; omega))⟩, h4.setCell (by omega) _, keep_far h5 hp u, h6, h7, h8⟩
/-- A store into the block itself. -/
theorem fx_put1 {w0 w1 w : World} {g : Nat} {v : Value} {xs : List S59} {f m : Bool} (h : Fx w0 w1 w g v xs f m) (b : Bool) : Fx w0 w1 (w.setCell ⟨g, 1, none⟩ (.bool b)) g v xs b m := by
  have ho := fx_own h
  obtain ⟨⟨h1, h2, h3⟩, h4, h5, h6, h7, h8⟩ := h
  refine ⟨⟨blk_put h1 1 (.bool b) rfl, h2, r59_move h3 (fun k hk => (ho k hk).1) (fun k hk => Below.heap_setCell w _ _ k (by have := (ho k hk).1; exact this))⟩, h4.setCell (by exact h2) _, ?_, h6, h7, h8⟩
  exact ⟨by simpa [World.setCell] using h5.1, fun i hi hg hr => (Below.heap_setCell w _ _ i (by exact hg)).trans (h5.2 i hi hg hr)⟩
theorem fx_put2 {w0 w1 w : World} {g : Nat} {v : Value} {xs : List S59} {f m : Bool} (h : Fx w0 w1 w g v xs f m) (b : Bool) : Fx w0 w1 (w.setCell ⟨g, 2, none⟩ (.bool b)) g v xs f b := by
  have ho := fx_own h
  obtain ⟨⟨h1, h2, h3⟩, h4, h5, h6, h7, h8⟩ := h
  refine ⟨⟨blk_put h1 2 (.bool b) rfl, h2, r59_move h3 (fun k hk => (ho k hk).1) (fun k hk => Below.heap_setCell w _ _ k (by have := (ho k hk).1; exact this))⟩, h4.setCell (by exact h2) _, ?_, h6, h7, h8⟩
  exact ⟨by simpa [World.setCell] using h5.1, fun i hi hg hr => (Below.heap_setCell w _ _ i (by exact hg)).trans (h5.2 i hi hg hr)⟩
/-- What is read of an element. -/
theorem fx_elem {w0 w1 w : World} {g gs cap n : Nat} {xs : List S59} {f m : Bool} (h : Fx w0 w1 w g (.slice (some ⟨gs, 0, none⟩) n cap) xs f m) (i : Int) (h0 : 0 ≤ i) (h1 : i < n) :
    w.cell? ⟨gs, i.toNat * 4, none⟩ = some (.int .u64 (rd_T59 xs i).f0) ∧ w.cell? ⟨gs, i.toNat * 4 + 1, none⟩ = some (.int .u64 (rd_T59 xs i).f1) ∧ w.cell? ⟨gs, i.toNat * 4 + 2, none⟩ = some (.int .i64 (rd_T59 xs i).f2) ∧ w.cell? ⟨gs, i.toNat * 4 + 3, none⟩ = some (.int .i64 (rd_T59 xs i).f3) ∧
      w.frozen? ⟨gs, i.toNat * 4, none⟩ = false ∧ w.frozen? ⟨gs, i.toNat * 4 + 1, none⟩ = false ∧ w.frozen? ⟨gs, i.toNat * 4 + 2, none⟩ = false ∧ w.frozen? ⟨gs, i.toNat * 4 + 3, none⟩ = false := by
  obtain ⟨c, hl, hM, hc, hf⟩ := Kd.R_elem h.1.2.2 z59 i h0 h1
  obtain rfl := k59_openM hM
  exact ⟨hc 0 _ rfl, hc 1 _ rfl, hc 2 _ rfl, hc 3 _ rfl, hf 0, hf 1, hf 2, hf 3⟩
/-- An element is stored. -/
theorem fx_store {w0 w1 w : World} {g gs cap n : Nat} {xs : List S59} {f m : Bool} (h : Fx w0 w1 w g (.slice (some ⟨gs, 0, none⟩) n cap) xs f m) (i : Int) (h0 : 0 ≤ i) (h1 : i < n) (s : S59) :
    Fx w0 w1 ((((w.setCell ⟨gs, i.toNat * 4, none⟩ (.int .u64 s.f0)).setCell ⟨gs, i.toNat * 4 + 1, none⟩ (.int .u64 s.f1)).setCell ⟨gs, i.toNat * 4 + 2, none⟩ (.int .i64 s.f2)).setCell ⟨gs, i.toNat * 4 + 3, none⟩ (.int .i64 s.f3)) g (.slice (some ⟨gs, 0, none⟩) n cap) (xs.set i.toNat s) f m := by
  have ho := fx_own h
  have hgs := ho gs (by simp [Value.ownBlock])
  obtain ⟨⟨h1', h2, h3⟩, h4, h5, h6, h7, h8⟩ := h
  obtain ⟨c, hl, hM, hc, hf⟩ := Kd.R_elem h3 z59 i h0 h1
  have hl4 : c.length = 4 := hl
  obtain ⟨r1, r2⟩ := Kd.R_seg h3 i h0 h1 (c := c) (seg := [.int .u64 s.f0, .int .u64 s.f1, .int .i64 s.f2, .int .i64 s.f3]) (j := 0) hl hc (show 4 ≤ 4 from by decide) (x' := s) (okp := fun _ => False) (by
    have : c.take 0 ++ [.int .u64 s.f0, .int .u64 s.f1, .int .i64 s.f2, .int .i64 s.f3] ++ c.drop (0 + [Value.int .u64 s.f0, .int .u64 s.f1, .int .i64 s.f2, .int .i64 s.f3].length) = [.int .u64 s.f0, .int .u64 s.f1, .int .i64 s.f2, .int .i64 s.f3] := by
      rw [List.drop_of_length_le (by simp; omega)]
      simp
    rw [this]
    exact k59_mkM _ _ _ s) (fun _ hk => hk.elim)
  have hneg : g ≠ gs := fun e => hgs.1 e.symm
  refine ⟨⟨?_, h2, r1⟩, ?_, ?_, h6, h7, h8⟩
  · exact (r2.block g (blk_lt h1') (by simpa using hneg)).trans h1'
  · exact (((h4.setCell (by exact hgs.2) _).setCell (by exact hgs.2) _).setCell (by exact hgs.2) _).setCell (by exact hgs.2) _
  · refine ⟨Nat.le_trans h5.1 r2.size, fun j hj hg hr => (r2.block j (by have := h5.1; omega) (by simpa [Value.ownBlock] using hr)).trans (h5.2 j hj hg hr)⟩
end Go.Proofs.Ytgfbgfbnmiainaa.Fam
