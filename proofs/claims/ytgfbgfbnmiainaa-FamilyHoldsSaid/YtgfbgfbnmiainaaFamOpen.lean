import Derived.Test.YtgfbgfbnmiainaaV2
import Derived.Test.YtgfbgfbnmiainaaQ66
import Derived.ChangeSlices
import Derived.ChangeArms
import Derived.DataReads
import Derived.DataElems
/-! What came in, read: numbers, texts, lists, structs. -/
namespace Go.Proofs.Ytgfbgfbnmiainaa.Fam
set_option linter.unusedVariables false
set_option linter.unusedSimpArgs false
open Go.RowKit Go.Proofs.YtgfbgfbnmiainaaW.PrintWords Go.Proofs.YtgfbgfbnmiainaaW.PrintLast Go.Proofs.YtgfbgfbnmiainaaW.PrintMore Go.Proofs.Ytgfbgfbnmiainaa.Q
section
variable {H : Type} {enc : TypeId × Value → H} {w : World} {base : Nat} {spare : Nat → Bool} {held : Bool} {fuel : Nat} {cs : List Value} {x : DataW H × List MemPlace}
theorem in_int {t : TypeId} {k : IntKind} (ht : Try.prog.underlying t = some (.int k)) (h : DataW.trod enc Try.prog w base spare held fuel t cs = some x) : ∃ n, cs = [.int k n] ∧ (Lit.int k n).wf = true := by
  cases fuel with
  | zero => simp [DataW.trod] at h
  | succ n =>
    unfold DataW.trod at h
    rw [ht] at h
    split at h <;> simp_all
theorem in_string {t : TypeId} (ht : Try.prog.underlying t = some .string) (h : DataW.trod enc Try.prog w base spare held fuel t cs = some x) : ∃ s, cs = [.string s] := by
  cases fuel with
  | zero => simp [DataW.trod] at h
  | succ n =>
    unfold DataW.trod at h
    rw [ht] at h
    split at h <;> simp_all
/-- A list of what can be read. -/
theorem in_slice {α : Type} (d : Kd α) {t e : TypeId} (ht : Try.prog.underlying t = some (.slice e)) (hc : Try.prog.cellsOf e = d.sz) (hd : ∀ (n : Nat) (cs : List Value) (y : DataW H × List MemPlace), DataW.trod enc Try.prog w base spare held n e cs = some y → ∃ p, d.K w p cs)
    (h : DataW.trod enc Try.prog w base spare held fuel t cs = some x) : ∃ (xs : List α) (A : Option Addr) (c : Nat), cs = [.slice A xs.length c] ∧ xs.length ≤ c ∧ d.C w A xs.length xs := by
  rcases DataW.trod_slice ht h with ⟨rfl, _⟩ | ⟨a, len, cap, elems, rest, n, _, rfl, _, hb, hl, hm, hlen, hel, _, _⟩
  · exact ⟨[], none, 0, rfl, Nat.le_refl _, rfl, by simp, fun h => absurd h (by simp)⟩
  · have each : ∀ i, i < len → ∃ (ci : List Value) (p : α), w.cells? base (a.add (i * d.sz)) d.sz = some ci ∧ d.K w p ci := by
      intro i hi
      have h1 := hel i hi
      rw [List.getElem?_eq_getElem (by omega), hc] at h1
      obtain ⟨ci, h2, h3⟩ := Option.bind_eq_some_iff.1 h1
      obtain ⟨p, hp⟩ := hd _ _ _ h3
      exact ⟨ci, p, h2, hp⟩
    have hex : ∃ xs : List α, xs.length = len ∧ ∀ i (hi : i < xs.length), ∃ ci, w.cells? base (a.add (i * d.sz)) d.sz = some ci ∧ d.K w xs[i] ci := by
      clear hel hlen
      have key : ∀ m, m ≤ len → ∃ xs : List α, xs.length = m ∧ ∀ i (hi : i < xs.length), ∃ ci, w.cells? base (a.add (i * d.sz)) d.sz = some ci ∧ d.K w xs[i] ci := by
        intro m
        induction m with
        | zero => exact fun _ => ⟨[], rfl, fun i hi => absurd hi (by simp)⟩
        | succ m ih =>
          intro hm'
          obtain ⟨xs, hxl, hx⟩ := ih (by omega)
          obtain ⟨ci, p, h1, h2⟩ := each m (by omega)
          refine ⟨xs ++ [p], by simp [hxl], fun i hi => ?_⟩
          rcases Nat.lt_or_ge i xs.length with hlt | hge
          · obtain ⟨cj, h3, h4⟩ := hx i hlt
            exact ⟨cj, h3, by rw [List.getElem_append_left hlt]; exact h4⟩
          · simp only [List.length_append, List.length_cons, List.length_nil] at hi
            obtain rfl : i = m := by omega
            exact ⟨ci, h1, by rw [List.getElem_append_right hge]; simpa [hxl] using h2⟩
      exact key len (Nat.le_refl _)
    obtain ⟨xs, hxl, hx⟩ := hex
    refine ⟨xs, some a, cap, by rw [hxl], by omega, rfl, by simp only [maxLen] at hm; omega, fun _ => ⟨a, rfl, fun j p hj => ?_⟩⟩
    obtain ⟨hj1, hj2⟩ := List.getElem?_eq_some_iff.1 hj
    obtain ⟨ci, h1, h2⟩ := hx j hj1
    rw [hj2] at h2
    refine ⟨ci, d.K_len h2, h2, fun i u hu => ?_⟩
    obtain ⟨hb1, hb2, hb3⟩ := World.cells?_some h1
    have hi : i < d.sz := by rw [← d.K_len h2]; exact (List.getElem?_eq_some_iff.1 hu).1
    rw [← Addr.add_add]
    exact (hb3 i hi).trans hu
theorem size9 : Try.prog.cellsOf 9 = 1 := by kernel_rfl
theorem size31 : Try.prog.cellsOf 31 = 1 := by kernel_rfl
theorem size3 : Try.prog.cellsOf 3 = 1 := by kernel_rfl
theorem size33 : Try.prog.cellsOf 33 = 3 := by kernel_rfl
theorem in_ints (h : DataW.trod enc Try.prog w base spare held fuel 31 cs = some x) : ∃ (xs : List Int) (A : Option Addr) (c : Nat), cs = [.slice A xs.length c] ∧ xs.length ≤ c ∧ (Kd.int .i64).C w A xs.length xs :=
  in_slice (Kd.int .i64) Try.underlying31 size3 (fun n cs y hy => by obtain ⟨m, rfl, _⟩ := in_int Try.underlying3 hy; exact ⟨m, rfl⟩) h
set_option maxRecDepth 100000 in
theorem in_33 (h : DataW.trod enc Try.prog w base spare held fuel 33 cs = some x) : ∃ p : S33, k33.K w p cs := by
  obtain ⟨xs, n, _, _, hl, hxl, hf⟩ := DataW.trod_struct Try.underlying33 h
  rw [size33] at hl
  have hg : ∀ i, i < 3 → ∃ y, xs[i]? = some y := fun i hi => ⟨_, List.getElem?_eq_getElem (by simp at hxl; omega)⟩
  match cs, hl with
  | [c0, c1, c2], _ =>
    obtain ⟨y0, e0⟩ := hg 0 (by decide)
    obtain ⟨y1, e1⟩ := hg 1 (by decide)
    obtain ⟨y2, e2⟩ := hg 2 (by decide)
    have h0 : DataW.trod enc Try.prog w base spare held n 9 (([c0, c1, c2].drop 0).take (Try.prog.cellsOf 9)) = some y0 := (hf 0 _ rfl).trans e0
    have h1 : DataW.trod enc Try.prog w base spare held n 31 (([c0, c1, c2].drop 1).take (Try.prog.cellsOf 31)) = some y1 := (hf 1 _ rfl).trans e1
    have h2 : DataW.trod enc Try.prog w base spare held n 3 (([c0, c1, c2].drop 2).take (Try.prog.cellsOf 3)) = some y2 := (hf 2 _ rfl).trans e2
    rw [size9] at h0
    rw [size31] at h1
    rw [size3] at h2
    obtain ⟨s, g0⟩ := in_string Try.underlying9 h0
    obtain ⟨vs, A, c, g1, hv, hC⟩ := in_ints h1
    obtain ⟨m, g2, _⟩ := in_int Try.underlying3 h2
    simp at g0 g1 g2
    subst g0 g1 g2
    exact ⟨⟨s, vs, m⟩, k33_mk w ⟨s, vs, m⟩ hv hC⟩
theorem in_lists (h : DataW.trod enc Try.prog w base spare held fuel 51 cs = some x) : ∃ (L : List (List Int)) (A : Option Addr) (c : Nat), cs = [.slice A L.length c] ∧ L.length ≤ c ∧ (Kd.slice 3 (Kd.int .i64)).C w A L.length L :=
  in_slice (Kd.slice 3 (Kd.int .i64)) Try.underlying51 size31 (fun n cs y hy => by obtain ⟨xs, A, c, rfl, hc, hC⟩ := in_ints hy; exact ⟨xs, A, c, rfl, hc, hC⟩) h
end
end Go.Proofs.Ytgfbgfbnmiainaa.Fam
