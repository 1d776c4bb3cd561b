import Derived.Test.YtonfbhcafejblaaYAwake
import Derived.ArgAppend
/-! The law's own list of those who wait, beside the yard. -/
namespace Go.Proofs.Ytonfbhcafejblaa.Yd
set_option linter.unusedVariables false
set_option linter.unusedSimpArgs false
open Go.RowKit Go.Proofs.YtonfbhcafejblaaW.PrintWords Go.Proofs.YtonfbhcafejblaaW.PrintLast Go.Proofs.YtonfbhcafejblaaW.PrintMore Go.Proofs.Ytonfbhcafejblaa.Q
/-- A list of numbers in memory of its own, maybe behind the first place of its block. -/
def IsRw (B : Nat) (w : World) (A : Option Addr) (c : Nat) (xs : List Int) : Prop :=
  (A = none ∧ c = 0 ∧ xs = []) ∨ ∃ rb off cur, A = some ⟨rb, off, none⟩ ∧ B ≤ rb ∧ w.heap[rb]? = some (.cells cur 3 (0, 0)) ∧ off + c ≤ cur.size ∧ xs.length ≤ c ∧ c ≤ maxLen ∧ ∀ (j : Nat) (p : Int), xs[j]? = some p → cur[off + j]? = some (.int .i64 p)
section
variable {B : Nat} {w w' : World} {A : Option Addr} {c : Nat} {xs : List Int}
theorem rw_C (h : IsRw B w A c xs) : (Kd.int .i64).C w A xs.length xs ∧ xs.length ≤ c := by
  rcases h with ⟨rfl, rfl, rfl⟩ | ⟨rb, off, cur, rfl, hB, hh, hs, hl, hm, hc⟩
  · exact ⟨Kd.C_nil _ _, Nat.le_refl _⟩
  · refine ⟨⟨rfl, by simp only [maxLen] at hm; omega, fun _ => ⟨_, rfl, fun j p hj => ⟨[.int .i64 p], rfl, rfl, fun i u hu => ?_⟩⟩⟩, hl⟩
    have hi : i = 0 := by
      cases i with
      | zero => rfl
      | succ i => simp at hu
    subst hi
    have hu' : Value.int .i64 p = u := by simpa using hu
    subst hu'
    show w.cell? ((⟨rb, off, none⟩ : Addr).add (j * 1 + 0)) = _
    rw [add_off, Nat.mul_one, Nat.add_zero, blk_cell hh]
    exact hc j p hj
theorem rw_kept (h : IsRw B w A c xs) (hk : ∀ a, A = some a → w'.heap[a.block]? = w.heap[a.block]?) : IsRw B w' A c xs := by
  rcases h with ⟨rfl, rfl, rfl⟩ | ⟨rb, off, cur, rfl, hB, hh, r⟩
  · exact .inl ⟨rfl, rfl, rfl⟩
  · exact .inr ⟨rb, off, cur, rfl, hB, (hk _ rfl).trans hh, r⟩
theorem rw_blk (h : IsRw B w A c xs) (a : Addr) (ha : A = some a) : B ≤ a.block ∧ ∃ cur, w.heap[a.block]? = some (.cells cur 3 (0, 0)) := by
  rcases h with ⟨rfl, rfl, rfl⟩ | ⟨rb, off, cur, rfl, hB, hh, r⟩
  · cases ha
  · cases ha
    exact ⟨hB, cur, hh⟩
theorem rw_form {x : Int} (h : IsRw B w A c (x :: xs)) : ∃ rb off, A = some ⟨rb, off, none⟩ ∧ 1 ≤ c ∧ w.cell? ⟨rb, off, none⟩ = some (.int .i64 x) ∧ xs.length + 1 ≤ c := by
  rcases h with ⟨rfl, rfl, h⟩ | ⟨rb, off, cur, rfl, hB, hh, hs, hl, hm, hc⟩
  · cases h
  · exact ⟨rb, off, rfl, by simp only [List.length_cons] at hl; omega, (blk_cell hh off).trans (by simpa using hc 0 x rfl), by simpa using hl⟩
theorem rw_tail {rb off : Nat} {x : Int} (h : IsRw B w (some ⟨rb, off, none⟩) c (x :: xs)) : IsRw B w (some ⟨rb, off + 1, none⟩) (c - 1) xs := by
  rcases h with ⟨h, _, _⟩ | ⟨rb', off', cur, e, hB, hh, hs, hl, hm, hc⟩
  · cases h
  · cases e
    simp only [List.length_cons] at hl
    exact .inr ⟨rb, off + 1, cur, rfl, hB, hh, by omega, by omega, by omega, fun j p hj => by rw [Nat.add_assoc, Nat.add_comm 1 j]; exact hc (j + 1) p hj⟩
theorem rw_last {rb off : Nat} {x : Int} (h : IsRw B w (some ⟨rb, off, none⟩) 1 [x]) : IsRw B w (some ⟨rb, off, none⟩) 0 [] := by
  rcases h with ⟨h, _, _⟩ | ⟨rb', off', cur, e, hB, hh, hs, hl, hm, hc⟩
  · cases h
  · cases e
    exact .inr ⟨rb, off, cur, rfl, hB, hh, by omega, by simp, by simp, fun j p hj => by simp at hj⟩
end
/-- The yard and the law's list. -/
def Lk (B : Nat) (w0 w : World) (yb tb cap : Nat) (rest : List Value) (ow ti : Int) (v : Value) (xs : List Int) (A : Option Addr) (c : Nat) (ys : List Int) : Prop :=
  IsYd B w yb tb cap rest ow ti v xs ∧ IsRw B w A c ys ∧ (∀ a, A = some a → v.ownBlock ≠ some a.block) ∧ Below B w0 w ∧ B ≤ w.heap.size
section
variable {B : Nat} {w0 w w' : World} {yb tb cap : Nat} {rest : List Value} {ow ti ow' ti' : Int} {v : Value} {xs xs' ys : List Int} {A : Option Addr} {c : Nat}
theorem lk_call (h : Lk B w0 w yb tb cap rest ow ti v xs A c ys) (k : ∃ v1, IsYd B w' yb tb cap rest ow' ti' v1 xs' ∧ Below B w w' ∧ Kept3 w w' yb tb v ∧ (v1.ownBlock = v.ownBlock ∨ ∃ b, v1.ownBlock = some b ∧ w.heap.size ≤ b)) :
    ∃ v1, Lk B w0 w' yb tb cap rest ow' ti' v1 xs' A c ys := by
  obtain ⟨v1, k1, k2, k3, k4⟩ := k
  obtain ⟨h1, h2, h3, h4, h5⟩ := h
  refine ⟨v1, k1, rw_kept h2 (fun a ha => ?_), fun a ha => ?_, h4.trans k2, Nat.le_trans h5 k3.1⟩
  · obtain ⟨hB, cur, hh⟩ := rw_blk h2 a ha
    refine k3.2 _ (blk_lt hh) (fun e => ?_) (fun e => ?_) (fun e => h3 a ha e.symm)
    · rw [e, h1.1] at hh; injection hh with hh; injection hh with _ hh _; exact absurd hh (by decide)
    · rw [e, h1.2.1] at hh; injection hh with hh; injection hh with _ hh _; exact absurd hh (by decide)
  · obtain ⟨hB, cur, hh⟩ := rw_blk h2 a ha
    rcases k4 with e | ⟨b, e, hb⟩
    · rw [e]; exact h3 a ha
    · rw [e]; intro e2; injection e2 with e2; have := blk_lt hh; omega
theorem lk_below (h : Lk B w0 w yb tb cap rest ow ti v xs A c ys) (hb : Below w.heap.size w w') : Lk B w0 w' yb tb cap rest ow ti v xs A c ys := by
  obtain ⟨h1, h2, h3, h4, h5⟩ := h
  refine ⟨yd_below h1 hb, rw_kept h2 (fun a ha => ?_), h3, h4.trans (hb.mono h5), Nat.le_trans h5 hb.size⟩
  obtain ⟨hB, cur, hh⟩ := rw_blk h2 a ha
  exact hb.block _ (blk_lt hh)
theorem lk_alloc (h : Lk B w0 w yb tb cap rest ow ti v xs A c ys) (o : Obj) : Lk B w0 (w.alloc o) yb tb cap rest ow ti v xs A c ys := lk_below h (below_alloc (Below.refl _ _) o)
theorem lk_drewN (h : Lk B w0 w yb tb cap rest ow ti v xs A c ys) (n : Nat) : Lk B w0 (w.drewN n) yb tb cap rest ow ti v xs A c ys := lk_below h (pw_below_drewN (Below.refl _ _) n)
theorem lk_row {A' : Option Addr} {c' : Nat} {ys' : List Int} (h : Lk B w0 w yb tb cap rest ow ti v xs A c ys) (hr : IsRw B w A' c' ys') (hA : ∀ a, A' = some a → ∃ b, A = some b ∧ a.block = b.block) : Lk B w0 w yb tb cap rest ow ti v xs A' c' ys' := by
  obtain ⟨h1, h2, h3, h4, h5⟩ := h
  refine ⟨h1, hr, fun a ha => ?_, h4, h5⟩
  obtain ⟨b, hb, e⟩ := hA a ha
  rw [e]
  exact h3 b hb
end
section
variable {P : Program} {ops : Array Oper} {rst : List Oper} {o : Oper} {a : Act} {Q : Exit → Act → World → Prop}
theorem add_zero' (b : Nat) (x : Value) (t : TypeId) (w : World) : ∀ j u, [x][j]? = some u → (w.alloc (.cells #[x] t)).cell? ((⟨w.heap.size, 0, none⟩ : Addr).add j) = some u := cell_one_new w x t
/-- append of one number to the law's list. -/
theorem lk_append {B : Nat} {w0 w : World} {yb tb cap : Nat} {rest : List Value} {ow ti : Int} {v : Value} {xs ys : List Int} {A : Option Addr} {c : Nat} (h : Lk B w0 w yb tb cap rest ow ti v xs A c ys) (t : Int) (hl : ys.length ≤ 1000000)
    (hgd : o.guard = none) (s x : Operand) (ho : o.op = .call { callee := .builtin .append, args := #[s, x], argTypes := #[29, 29] })
    (hs : a.eval s = .slice A ys.length c) (hx : a.eval x = .slice (some ⟨w.heap.size, 0, none⟩) 1 1)
    (hK : ∀ A' c' w1, Lk B w0 w1 yb tb cap rest ow ti v xs A' c' (ys ++ [t]) → wpList Try.prog ops Q rst (a.put o.dst (.slice A' (ys.length + 1) c')) w1) :
    wpList Try.prog ops Q (o :: rst) a (w.alloc (.cells #[.int .i64 t] 3)) := by
  obtain ⟨i0, hi, hzz⟩ := Option.map_eq_some_iff.1 info3
  simp only [Prod.mk.injEq] at hzz
  obtain ⟨hz0, hz1, hz2⟩ := hzz
  have hA := lk_alloc h (.cells #[.int .i64 t] 3)
  have hlt : w.heap.size = (w.alloc (.cells #[.int .i64 t] 3)).heap.size - 1 := by simp
  have grown : ∀ v1 w1, w1.ownsRow (w.alloc (.cells #[.int .i64 t] 3)).heap.size 3 1 v1 (ys.length + 1) ((ys ++ [t]).map (Value.int .i64)) → (w.alloc (.cells #[.int .i64 t] 3)).grownBy w1 none → wpList Try.prog ops Q rst (a.put o.dst v1) w1 := by
    intro v1 w1 hown hg
    rcases hown.2 with ⟨_, h0⟩ | ⟨g, cp, cur, rfl, hb, hh, hn, hc, hsz, ht⟩
    · omega
    refine hK (some ⟨g, 0, none⟩) cp w1 ⟨?_, .inr ⟨g, 0, cur, rfl, Nat.le_trans hA.2.2.2.2 hb, hh, by omega, by simpa using hn, hc, fun j p hj => ?_⟩, fun a' ha' => ?_, ?_, Nat.le_trans hA.2.2.2.2 hg.size⟩
    · obtain ⟨k1, k2, k3, k4, k5, k6, k7⟩ := hA.1
      refine ⟨(hg.block _ (blk_lt k1) (by simp)).trans k1, (hg.block _ (blk_lt k2) (by simp)).trans k2, k3, k4, own_move k5 (fun k hk => ?_), k6, k7⟩
      obtain ⟨cells, hc'⟩ := own_typed k5 k hk
      exact hg.block k (blk_lt hc') (by simp)
    · have hj' : j < (ys ++ [t]).length := (List.getElem?_eq_some_iff.1 hj).1
      simp only [List.length_append, List.length_cons, List.length_nil] at hj'
      have : (cur.toList.take ((ys.length + 1) * 1))[j]? = some (.int .i64 p) := by rw [ht, List.getElem?_map, hj]; rfl
      rw [List.getElem?_take_of_lt (by omega), Array.getElem?_toList] at this
      rw [Nat.zero_add]
      exact this
    · cases ha'
      intro e
      obtain ⟨cells, hc'⟩ := own_typed hA.1.2.2.2.2.1 g e
      have := blk_lt hc'
      omega
    · exact hA.2.2.2.1.grown hg hA.2.2.2.2 (by intro k hk; cases hk)
  rcases hA.2.1 with ⟨rfl, rfl, rfl⟩ | ⟨rb, off, cur, rfl, hB, hh, hsz, hln, hm, hc⟩
  · refine wpList_append_own_at (w.alloc (.cells #[.int .i64 t] 3)) hgd s x 29 ho (w.alloc (.cells #[.int .i64 t] 3)).heap.size 3 i0 (.int .i64 0) 1 8 Try.underlying29 hi hz0 hz1 hz2 rfl (by decide) (.slice none 0 0) 0 [] hs (own_nil _ _ _ _) ⟨w.heap.size, 0, none⟩ 1 1 [.int .i64 t] hx rfl (cell_one_new w _ _) (by intro u hu; rw [List.mem_singleton] at hu; subst hu; rfl) (by decide) (by decide) (Nat.le_refl _) ?_
    intro v1 w1 hown hg _ _
    exact grown v1 w1 hown hg
  · refine wpList_append_arg (w.alloc (.cells #[.int .i64 t] 3)) hgd s x 29 ho 3 i0 (.int .i64 0) 1 8 Try.underlying29 hi hz0 hz1 hz2 rfl (by decide) rb off ys.length c (ys.map (Value.int .i64)) hs (by simp) ?_ ⟨w.heap.size, 0, none⟩ 1 1 [.int .i64 t] hx rfl (cell_one_new w _ _) (by intro u hu; rw [List.mem_singleton] at hu; subst hu; rfl) ?_ (by simp only [maxLen]; omega) (by omega) ?_ ?_
    · intro j u hu
      rw [List.getElem?_map] at hu
      obtain ⟨p, hp, rfl⟩ := Option.map_eq_some_iff.1 hu
      rw [blk_cell hh]
      exact hc j p hp
    · intro hr j hj
      have hj0 : j = 0 := by simpa using hj
      subst hj0
      refine ⟨?_, blk_frozen hh _⟩
      rw [blk_cell hh, Array.getElem?_eq_getElem (by omega)]
      rfl
    · intro hr
      refine hK (some ⟨rb, off, none⟩) c _ ?_
      show Lk B w0 ((w.alloc (.cells #[.int .i64 t] 3)).setCell ⟨rb, off + ys.length * 1, none⟩ (.int .i64 t)) yb tb cap rest ow ti v xs (some ⟨rb, off, none⟩) c (ys ++ [t])
      rw [Nat.mul_one]
      have hap := hA.2.2.1 _ rfl
      obtain ⟨k1, k2, k3, k4, k5, k6, k7⟩ := hA.1
      have n1 : yb ≠ rb := by intro e; rw [← e, k1] at hh; injection hh with hh; injection hh with _ hh _; exact absurd hh (by decide)
      have n2 : tb ≠ rb := by intro e; rw [← e, k2] at hh; injection hh with hh; injection hh with _ hh _; exact absurd hh (by decide)
      refine ⟨⟨(blk_other _ _ _ _ n1).trans k1, (blk_other _ _ _ _ n2).trans k2, k3, k4, own_move k5 (fun k hk => blk_other _ _ _ _ (fun e => hap (hk.trans (congrArg some e)))), k6, k7⟩, .inr ⟨rb, off, _, rfl, hB, blk_set hh _ _, by simpa using hsz, by simpa using hr, hm, fun j p hj => ?_⟩, hA.2.2.1, hA.2.2.2.1.setCell hB _, by simpa [World.setCell] using hA.2.2.2.2⟩
      rcases Nat.lt_or_ge j ys.length with hjl | hjl
      · rw [List.getElem?_append_left hjl] at hj
        rw [Array.getElem?_setIfInBounds_ne (by omega)]
        exact hc j p hj
      · rw [List.getElem?_append_right hjl] at hj
        obtain ⟨k0, hk0⟩ : ∃ k0, j - ys.length = k0 := ⟨_, rfl⟩
        rw [hk0] at hj
        match k0, hj with
        | 0, hj =>
          cases hj
          obtain rfl : j = ys.length := by omega
          rw [Array.getElem?_setIfInBounds_self_of_lt (by omega)]
        | k0 + 1, hj => cases hj
    · intro hr v1 w1 hown hg
      refine grown v1 w1 ?_ hg
      simpa using hown
end
end Go.Proofs.Ytonfbhcafejblaa.Yd
