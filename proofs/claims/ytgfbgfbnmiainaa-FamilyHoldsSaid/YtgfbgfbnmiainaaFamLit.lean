import Derived.Test.YtgfbgfbnmiainaaFamFix
/-! Lists that are written out in memory. -/
namespace Go.Proofs.Ytgfbgfbnmiainaa.Fam
set_option linter.unusedVariables false
set_option linter.unusedSimpArgs false
open Go.RowKit Go.Proofs.YtgfbgfbnmiainaaW.PrintWords Go.Proofs.YtgfbgfbnmiainaaW.PrintLast Go.Proofs.YtgfbgfbnmiainaaW.PrintMore Go.Proofs.Ytgfbgfbnmiainaa.Q
theorem ints_lit {w : World} {b : Nat} {xs : List Int} {c : Array Value} {t : Nat} (h : w.heap[b]? = some (.cells c t)) (hc : c.toList = xs.map (.int .i64)) (hn : xs.length ≤ 9223372036854775807) : (Kd.int .i64).C w (some ⟨b, 0, none⟩) xs.length xs := by
  refine ⟨rfl, hn, fun _ => ⟨_, rfl, fun j p hj => ⟨[.int .i64 p], rfl, rfl, fun i u hu => ?_⟩⟩⟩
  have hi : i = 0 := by
    cases i with
    | zero => rfl
    | succ i => simp at hu
  subst hi
  have hu' : Value.int .i64 p = u := by simpa using hu
  subst hu'
  show w.cell? ((⟨b, 0, none⟩ : Addr).add (j * 1 + 0)) = _
  rw [add_plain, Nat.mul_one, Nat.add_zero, blk_cell h j]
  rw [← Array.getElem?_toList, hc, List.getElem?_map, hj]
  rfl
/-- A list of things of some cells each, in a block that is written out. -/
theorem rows_lit {α : Type} {d : Kd α} {w : World} {b : Nat} {ps : List α} {css : List (List Value)} {c : Array Value} {t : Nat} (h : w.heap[b]? = some (.cells c t)) (hl : css.length = ps.length) (hs : ∀ cs ∈ css, cs.length = d.sz) (hc : c.toList = css.flatten) (hn : ps.length ≤ 9223372036854775807)
    (hK : ∀ (j : Nat) (p : α) (cs : List Value), ps[j]? = some p → css[j]? = some cs → d.K w p cs) : d.C w (some ⟨b, 0, none⟩) ps.length ps := by
  refine ⟨rfl, hn, fun _ => ⟨_, rfl, fun j p hj => ?_⟩⟩
  have hjl : j < ps.length := (List.getElem?_eq_some_iff.1 hj).1
  have hjc : css[j]? = some css[j] := List.getElem?_eq_getElem (by omega)
  refine ⟨css[j], hs _ (List.getElem_mem _), hK j p _ hj hjc, fun i u hu => ?_⟩
  rw [add_plain, blk_cell h]
  rw [← Array.getElem?_toList, hc]
  have hi : i < d.sz := by
    rw [← hs _ (List.getElem_mem (l := css) (n := j) (by omega))]
    exact (List.getElem?_eq_some_iff.1 hu).1
  clear hK hj
  have key : ∀ (css : List (List Value)) (j : Nat) (cs : List Value), (∀ cs ∈ css, cs.length = d.sz) → css[j]? = some cs → css.flatten[j * d.sz + i]? = cs[i]? := by
    intro css
    induction css with
    | nil => intro j cs _ hj; simp at hj
    | cons c0 css ih =>
      intro j cs hs hj
      have h0 : c0.length = d.sz := hs _ List.mem_cons_self
      cases j with
      | zero =>
        simp only [List.getElem?_cons_zero, Option.some.injEq] at hj
        subst hj
        simp only [List.flatten_cons, Nat.zero_mul, Nat.zero_add]
        exact List.getElem?_append_left (by omega)
      | succ j =>
        rw [List.flatten_cons, List.getElem?_append_right (by rw [h0, Nat.succ_mul]; omega), h0]
        have e : (j + 1) * d.sz + i - d.sz = j * d.sz + i := by rw [Nat.succ_mul]; omega
        rw [e]
        exact ih j cs (fun x hx => hs x (List.mem_cons_of_mem _ hx)) (by simpa using hj)
  rw [key css j _ hs hjc]
  exact hu
theorem alloc_size (w : World) (o : Obj) : (w.alloc o).heap.size = w.heap.size + 1 := by
  have := World.alloc_eq w o
  simp [this]
theorem blk_new' {w W : World} {o : Obj} {n : Nat} (hW : W = w.alloc o) (hn : n = w.heap.size) : W.heap[n]? = some o ∧ W.heap.size = n + 1 := by
  subst hW hn
  exact ⟨blk_new w o, alloc_size w o⟩
theorem blk_old {w W : World} {o o' : Obj} {n : Nat} (hW : W = w.alloc o) (h : w.heap[n]? = some o') : W.heap[n]? = some o' := by
  subst hW
  exact blk_below h (below_alloc (Below.refl _ _) o)
theorem allocs7 (w : World) (o0 o1 o2 o3 o4 o5 o6 : Obj) : ∀ W, W = ((((((w.alloc o0).alloc o1).alloc o2).alloc o3).alloc o4).alloc o5).alloc o6 →
    W.heap[w.heap.size]? = some o0 ∧ W.heap[w.heap.size + 1]? = some o1 ∧ W.heap[w.heap.size + 1 + 1]? = some o2 ∧ W.heap[w.heap.size + 1 + 1 + 1]? = some o3 ∧ W.heap[w.heap.size + 1 + 1 + 1 + 1]? = some o4 ∧ W.heap[w.heap.size + 1 + 1 + 1 + 1 + 1]? = some o5 ∧ W.heap[w.heap.size + 1 + 1 + 1 + 1 + 1 + 1]? = some o6 ∧ W.heap.size = w.heap.size + 1 + 1 + 1 + 1 + 1 + 1 + 1 := by
  rintro W rfl
  obtain ⟨a0, s0⟩ := blk_new' (o := o0) rfl (rfl : w.heap.size = w.heap.size)
  obtain ⟨a1, s1⟩ := blk_new' (o := o1) rfl s0.symm
  obtain ⟨a2, s2⟩ := blk_new' (o := o2) rfl s1.symm
  obtain ⟨a3, s3⟩ := blk_new' (o := o3) rfl s2.symm
  obtain ⟨a4, s4⟩ := blk_new' (o := o4) rfl s3.symm
  obtain ⟨a5, s5⟩ := blk_new' (o := o5) rfl s4.symm
  obtain ⟨a6, s6⟩ := blk_new' (o := o6) rfl s5.symm
  exact ⟨blk_old rfl (blk_old rfl (blk_old rfl (blk_old rfl (blk_old rfl (blk_old rfl a0))))), blk_old rfl (blk_old rfl (blk_old rfl (blk_old rfl (blk_old rfl a1)))), blk_old rfl (blk_old rfl (blk_old rfl (blk_old rfl a2))), blk_old rfl (blk_old rfl (blk_old rfl a3)), blk_old rfl (blk_old rfl a4), blk_old rfl a5, a6, s6⟩
end Go.Proofs.Ytgfbgfbnmiainaa.Fam
