import Derived.Test.YtonfbhcafejblaaYFind
import Derived.Test.YtonfbhcafejblaaYPlain
/-! A yard that has one lock: Take. -/
namespace Go.Proofs.Ytonfbhcafejblaa.Yd
set_option linter.unusedVariables false
set_option linter.unusedSimpArgs false
open Go.RowKit Go.Proofs.YtonfbhcafejblaaW.PrintWords Go.Proofs.YtonfbhcafejblaaW.PrintLast Go.Proofs.YtonfbhcafejblaaW.PrintMore Go.Proofs.Ytonfbhcafejblaa.Q
attribute [local go_sem] Go.Proofs.YtonfbhcafejblaaW.OwnWords.isSome_setCell max2_int min2_int
theorem blk_other (w : World) (b : Nat) (a : Addr) (u : Value) (h : b ≠ a.block) : (w.setCell a u).heap[b]? = w.heap[b]? := by
  simp [World.setCell, Array.getElem?_modify, Ne.symm h]
/-- A call of the yard has ended with r; the yard is now as told, the slice of those who wait is v1. -/
def YdEnd (B : Nat) (w : World) (yb tb cap : Nat) (rest : List Value) (v : Value) (r : Ending) (ow ti : Int) (xs : List Int) (e : Ending) (w' : World) : Prop :=
  e = r ∧ ∃ v1, IsYd B w' yb tb cap rest ow ti v1 xs ∧ Below B w w' ∧ Kept3 w w' yb tb v ∧ (v1.ownBlock = v.ownBlock ∨ ∃ b, v1.ownBlock = some b ∧ w.heap.size ≤ b)
section
variable {B : Nat} {w w' : World} {yb tb cap : Nat} {rest : List Value} {ow ti : Int} {v : Value} {xs : List Int}
theorem yd_set3 (h : IsYd B w yb tb cap rest ow ti v xs) (x : Int) : IsYd B (w.setCell ⟨tb, 3, none⟩ (.int .i64 x)) yb tb cap rest x ti v xs := by
  obtain ⟨h1, h2, h3, h4, h5, h6, h7⟩ := h
  have hne : yb ≠ tb := fun e => by subst e; rw [h1] at h2; injection h2 with h2; injection h2 with _ h2 _; exact absurd h2 (by decide)
  have hv := owns_ne h5 h2 (by decide)
  exact ⟨(blk_other _ _ _ _ hne).trans h1, (blk_set h2 3 _).trans rfl, h3, h4, own_move h5 (fun k hk => blk_other _ _ _ _ (fun e => hv (hk.trans (congrArg some e)))), h6, h7⟩
theorem yd_set4 (h : IsYd B w yb tb cap rest ow ti v xs) (x : Int) : IsYd B (w.setCell ⟨tb, 4, none⟩ (.int .i64 x)) yb tb cap rest ow x v xs := by
  obtain ⟨h1, h2, h3, h4, h5, h6, h7⟩ := h
  have hne : yb ≠ tb := fun e => by subst e; rw [h1] at h2; injection h2 with h2; injection h2 with _ h2 _; exact absurd h2 (by decide)
  have hv := owns_ne h5 h2 (by decide)
  exact ⟨(blk_other _ _ _ _ hne).trans h1, (blk_set h2 4 _).trans rfl, h3, h4, own_move h5 (fun k hk => blk_other _ _ _ _ (fun e => hv (hk.trans (congrArg some e)))), h6, h7⟩
theorem kept_set (h : Kept3 w w' yb tb v) (i : Nat) (x : Value) : Kept3 w (w'.setCell ⟨tb, i, none⟩ x) yb tb v :=
  ⟨by simpa [World.setCell] using h.1, fun j hj h1 h2 h3 => (blk_other _ _ _ _ h2).trans (h.2 j hj h1 h2 h3)⟩
end
/-- Where the yard and what else is kept are, in the course of a call. -/
def Yw (B : Nat) (w0 w : World) (yb tb cap : Nat) (rest : List Value) (v0 : Value) (ow ti : Int) (v : Value) (xs : List Int) : Prop :=
  IsYd B w yb tb cap rest ow ti v xs ∧ Below B w0 w ∧ Kept3 w0 w yb tb v0 ∧ B ≤ w0.heap.size
section
variable {B : Nat} {w0 w w' : World} {yb tb cap : Nat} {rest : List Value} {ow ti : Int} {v0 v : Value} {xs : List Int}
theorem yw_start (h : IsYd B w yb tb cap rest ow ti v xs) (hB : B ≤ w.heap.size) : Yw B w w yb tb cap rest v ow ti v xs := ⟨h, Below.refl _ _, Kept3.refl _ _ _ _, hB⟩
theorem yw_below (h : Yw B w0 w yb tb cap rest v0 ow ti v xs) (hb : Below w.heap.size w w') : Yw B w0 w' yb tb cap rest v0 ow ti v xs :=
  ⟨yd_below h.1 hb, h.2.1.trans (hb.mono (Nat.le_trans h.2.2.2 h.2.2.1.1)), h.2.2.1.then hb, h.2.2.2⟩
theorem yw_alloc (h : Yw B w0 w yb tb cap rest v0 ow ti v xs) (o : Obj) : Yw B w0 (w.alloc o) yb tb cap rest v0 ow ti v xs := yw_below h (below_alloc (Below.refl _ _) o)
theorem yw_drewN (h : Yw B w0 w yb tb cap rest v0 ow ti v xs) (n : Nat) : Yw B w0 (w.drewN n) yb tb cap rest v0 ow ti v xs := yw_below h (pw_below_drewN (Below.refl _ _) n)
theorem yw_drew (h : Yw B w0 w yb tb cap rest v0 ow ti v xs) : Yw B w0 w.drew yb tb cap rest v0 ow ti v xs := yw_below h (below_drew (Below.refl _ _))
theorem yw_set3 (h : Yw B w0 w yb tb cap rest v0 ow ti v xs) (x : Int) : Yw B w0 (w.setCell ⟨tb, 3, none⟩ (.int .i64 x)) yb tb cap rest v0 x ti v xs :=
  ⟨yd_set3 h.1 x, h.2.1.setCell h.1.2.2.2.2.2.2 _, kept_set h.2.2.1 _ _, h.2.2.2⟩
theorem yw_set4 (h : Yw B w0 w yb tb cap rest v0 ow ti v xs) (x : Int) : Yw B w0 (w.setCell ⟨tb, 4, none⟩ (.int .i64 x)) yb tb cap rest v0 ow x v xs :=
  ⟨yd_set4 h.1 x, h.2.1.setCell h.1.2.2.2.2.2.2 _, kept_set h.2.2.1 _ _, h.2.2.2⟩
end
theorem yw_end {B : Nat} {w0 w : World} {yb tb cap : Nat} {rest : List Value} {ow ti : Int} {v0 v : Value} {xs : List Int} {r : Ending} (h : Yw B w0 w yb tb cap rest v0 ow ti v xs) (hv : v.ownBlock = v0.ownBlock ∨ ∃ b, v.ownBlock = some b ∧ w0.heap.size ≤ b) : YdEnd B w0 yb tb cap rest v0 r ow ti xs r w :=
  ⟨rfl, v, h.1, h.2.1, h.2.2.1, hv⟩
/-- Those who wait, as a list that is read. -/
theorem own_C {w : World} {B : Nat} {v : Value} {xs : List Int} (h : w.ownsRow B 3 1 v xs.length (xs.map (Value.int .i64))) : ∃ A c, v = .slice A xs.length c ∧ (Kd.int .i64).C w A xs.length xs ∧ xs.length ≤ c := by
  rcases h.2 with ⟨hv, hn⟩ | ⟨g, cap, cur, hv, hb, hh, hn, hc, hs, ht⟩
  · obtain rfl : xs = [] := List.eq_nil_of_length_eq_zero hn
    exact ⟨none, 0, hv, Kd.C_nil _ _, Nat.le_refl _⟩
  · refine ⟨_, cap, hv, ⟨rfl, by simp only [maxLen] at hc; omega, fun _ => ⟨_, rfl, fun j p hj => ⟨[.int .i64 p], rfl, rfl, fun i u hu => ?_⟩⟩⟩, hn⟩
    have hi : i = 0 := by
      cases i with
      | zero => rfl
      | succ i => simp at hu
    subst hi
    have hu' : Value.int .i64 p = u := by simpa using hu
    subst hu'
    show w.cell? ((⟨g, 0, none⟩ : Addr).add (j * 1 + 0)) = _
    rw [add_plain, Nat.mul_one, Nat.add_zero, blk_cell hh j, ← Array.getElem?_toList]
    have hj' : j < xs.length := (List.getElem?_eq_some_iff.1 hj).1
    have : (cur.toList.take (xs.length * 1))[j]? = some (.int .i64 p) := by rw [ht, List.getElem?_map, hj]; rfl
    rw [List.getElem?_take_of_lt (by omega)] at this
    exact this
theorem take_free (B : Nat) (yb tb cap : Nat) (rest : List Value) (ow ti : Int) (v : Value) (xs : List Int) (t : Int) (ht : 1 ≤ t) (hti : IntKind.i64.wrap (ti + 1) = ti + 1) (ho : ow = 0 ∨ ow = t) (w : World) (hY : IsYd B w yb tb cap rest ow ti v xs) (hB : B ≤ w.heap.size) :
    Calls Try.prog 9 #[.pointer (some ⟨yb, 0, none⟩), .int .i64 1, .int .i64 t] w (YdEnd B w yb tb cap rest v (.returned (.tuple #[.bool true, .int .i64 0])) t (ti + 1) xs) := by
  have HY := Aside0.mk (yw_start hY hB)
  have h1 : decide (t < 1) = false := decide_eq_false (by omega)
  have h2 : (t < 1) = False := eq_false (by omega)
  have h3 : (t = 0) = False := eq_false (by omega)
  have h4 : decide (t = 0) = false := decide_eq_false (by omega)
  clear hY hB
  rcases ho with rfl | rfl
  all_goals
    go_enter Try.func9, Try.ntmps9
    go_wp2_with (first | (go_at_call 31; (refine (find_calls B yb tb cap rest _ ti v xs w.heap.size _ (yw_alloc HY.out (.cells #[.string lockS] 9)).1 (blk_new w _)).mono ?_); rintro e w2 ⟨rfl, hb2⟩; have HY2 := Aside0.mk (yw_below (yw_alloc HY.out _) hb2); have t3 : w2.cell? ⟨tb, 3, none⟩ = some (.int .i64 _) := (blk_cell HY2.out.1.2.1 3).trans rfl; have t4 : w2.cell? ⟨tb, 4, none⟩ = some (.int .i64 ti) := (blk_cell HY2.out.1.2.1 4).trans rfl; have z3 := blk_frozen HY2.out.1.2.1 3; have z4 := blk_frozen HY2.out.1.2.1 4; clear hb2))
    go_ret2
    exact yw_end (yw_set4 (yw_set3 HY2.out _) _) (.inl rfl)
theorem take_waits (B : Nat) (yb tb cap : Nat) (rest : List Value) (ow ti : Int) (v : Value) (xs : List Int) (hl : xs.length ≤ 4611686018427387904) (t : Int) (ht : 1 ≤ t) (ho : ow ≠ 0) (ho' : ow ≠ t) (hin : t ∈ xs) (w : World) (hY : IsYd B w yb tb cap rest ow ti v xs) (hB : B ≤ w.heap.size) :
    Calls Try.prog 9 #[.pointer (some ⟨yb, 0, none⟩), .int .i64 1, .int .i64 t] w (YdEnd B w yb tb cap rest v (.returned (.tuple #[.bool false, .int .i64 0])) ow ti xs) := by
  have HY := Aside0.mk (yw_start hY hB)
  obtain ⟨A, c, rfl, hC, hc⟩ := own_C hY.2.2.2.2.1
  have hf := contains_f xs t hl
  rw [decide_eq_true hin] at hf
  have HF := Aside0.mk hf
  have HC := Aside0.mk hC
  have h1 : decide (t < 1) = false := decide_eq_false (by omega)
  have h2 : (t < 1) = False := eq_false (by omega)
  have h3 : (ow = 0) = False := eq_false ho
  have h4 : decide (ow = 0) = false := decide_eq_false ho
  have h5 : (ow = t) = False := eq_false ho'
  have h6 : decide (ow = t) = false := decide_eq_false ho'
  have h7 : (ow == 0) = false := beq_false_of_ne ho
  have h8 : (ow == t) = false := beq_false_of_ne ho'
  clear hY hB hf hin hC ho ho'
  go_enter Try.func9, Try.ntmps9
  go_wp2_with (first | (go_at_call 31; (refine (find_calls B yb tb cap rest _ ti _ xs w.heap.size _ (yw_alloc HY.out (.cells #[.string lockS] 9)).1 (blk_new w _)).mono ?_); rintro e w2 ⟨rfl, hb2⟩; have HC2 := Aside0.mk (Kd.C_below (Kd.C_alloc HC.out (.cells #[.string lockS] 9)) hb2); have HY2 := Aside0.mk (yw_below (yw_alloc HY.out _) hb2); have t3 : w2.cell? ⟨tb, 3, none⟩ = some (.int .i64 _) := (blk_cell HY2.out.1.2.1 3).trans rfl; have t5 : w2.cell? ⟨tb, 5, none⟩ = some (.slice A xs.length c) := (blk_cell HY2.out.1.2.1 5).trans rfl; clear hb2) | (go_at_call 33; (refine (slices_Contains_int_int.calls (xs.length + 1) A c xs t true _ HC2.out hc HF.out).mono ?_); rintro e w3 ⟨rfl, ⟨nd, rfl⟩⟩))
  go_ret2
  exact yw_end (yw_drewN HY2.out _) (.inl rfl)
theorem yw_set5 {B : Nat} {w0 w : World} {yb tb cap : Nat} {rest : List Value} {ow ti : Int} {v0 v1 : Value} {xs : List Int}
    (h1 : w.heap[yb]? = some (.cells #[.bool true, .slice (some ⟨tb, 0, none⟩) 1 cap] 65 (0, 0))) {v : Value} (h2 : w.heap[tb]? = some (.cells (row10 ow ti v ++ rest).toArray 68 (0, 0))) (h3 : 1 ≤ cap) (h4 : cap ≤ maxLen)
    (h5 : w.ownsRow B 3 1 v1 xs.length (xs.map (Value.int .i64))) (h6 : B ≤ yb) (h7 : B ≤ tb) (hb : Below B w0 w) (hk : Kept3 w0 w yb tb v0) (hB : B ≤ w0.heap.size) :
    Yw B w0 (w.setCell ⟨tb, 5, none⟩ v1) yb tb cap rest v0 ow ti v1 xs := by
  have hne : yb ≠ tb := fun e => by subst e; rw [h1] at h2; injection h2 with h2; injection h2 with _ h2 _; exact absurd h2 (by decide)
  have hv := owns_ne h5 h2 (by decide)
  exact ⟨⟨(blk_other _ _ _ _ hne).trans h1, (blk_set h2 5 _).trans rfl, h3, h4, own_move h5 (fun k hk => blk_other _ _ _ _ (fun e => hv (hk.trans (congrArg some e)))), h6, h7⟩, hb.setCell h7 _, kept_set hk _ _, hB⟩
theorem yw_grown {B : Nat} {w0 w w1 : World} {yb tb cap : Nat} {rest : List Value} {ow ti : Int} {v : Value} {xs : List Int} (h : Yw B w0 w yb tb cap rest v ow ti v xs) (hg : w.grownBy w1 v.ownBlock) :
    w1.heap[yb]? = some (.cells #[.bool true, .slice (some ⟨tb, 0, none⟩) 1 cap] 65 (0, 0)) ∧ w1.heap[tb]? = some (.cells (row10 ow ti v ++ rest).toArray 68 (0, 0)) ∧ Kept3 w0 w1 yb tb v := by
  obtain ⟨⟨h1, h2, h3, h4, h5, h6, h7⟩, hb, hk, hB⟩ := h
  have n1 := owns_ne h5 h1 (by decide)
  have n2 := owns_ne h5 h2 (by decide)
  refine ⟨(hg.block _ (blk_lt h1) (fun e => n1 e.symm)).trans h1, (hg.block _ (blk_lt h2) (fun e => n2 e.symm)).trans h2, Nat.le_trans hk.1 hg.size, fun i hi a b c => (hg.block i (Nat.lt_of_lt_of_le hi hk.1) c).trans (hk.2 i hi a b c)⟩
theorem own_form {w : World} {B e size n : Nat} {v : Value} {xs : List Value} (h : w.ownsRow B e size v n xs) (hn : 0 < n) : ∃ g cap, v = .slice (some ⟨g, 0, none⟩) n cap := by
  rcases h.2 with ⟨_, h0⟩ | ⟨g, cap, cur, hv, _⟩
  · omega
  · exact ⟨g, cap, hv⟩
theorem info3 : (Try.prog.info? 3).map (fun i => (i.zero, i.size, i.bytes)) = some (some (.int .i64 0), 1, 8) := by kernel_rfl
theorem take_new (B : Nat) (yb tb cap : Nat) (rest : List Value) (ow ti : Int) (v : Value) (xs : List Int) (hl : xs.length ≤ 1000000) (t : Int) (ht : 1 ≤ t) (ho : ow ≠ 0) (ho' : ow ≠ t) (hin : t ∉ xs) (w : World) (hY : IsYd B w yb tb cap rest ow ti v xs) (hB : B ≤ w.heap.size) :
    Calls Try.prog 9 #[.pointer (some ⟨yb, 0, none⟩), .int .i64 1, .int .i64 t] w (YdEnd B w yb tb cap rest v (.returned (.tuple #[.bool false, .int .i64 0])) ow ti (xs ++ [t])) := by
  have HY := Aside0.mk (yw_start hY hB)
  obtain ⟨A, c, rfl, hC, hc⟩ := own_C hY.2.2.2.2.1
  have hf := contains_f xs t (by omega)
  rw [decide_eq_false hin] at hf
  have HF := Aside0.mk hf
  have HC := Aside0.mk hC
  have h1 : decide (t < 1) = false := decide_eq_false (by omega)
  have h2 : (t < 1) = False := eq_false (by omega)
  have h3 : (ow = 0) = False := eq_false ho
  have h4 : decide (ow = 0) = false := decide_eq_false ho
  have h5 : (ow = t) = False := eq_false ho'
  have h6 : decide (ow = t) = false := decide_eq_false ho'
  have h7 : (ow == 0) = false := beq_false_of_ne ho
  have h8 : (ow == t) = false := beq_false_of_ne ho'
  clear hY hf hin hC ho ho'
  go_enter Try.func9, Try.ntmps9
  go_wp2_with (first | (go_at_call 31; (refine (find_calls B yb tb cap rest _ ti _ xs w.heap.size _ (yw_alloc HY.out (.cells #[.string lockS] 9)).1 (blk_new w _)).mono ?_); rintro e w2 ⟨rfl, hb2⟩; have HC2 := Aside0.mk (Kd.C_below (Kd.C_alloc HC.out (.cells #[.string lockS] 9)) hb2); have HY2 := Aside0.mk (yw_below (yw_alloc HY.out _) hb2); have t3 : w2.cell? ⟨tb, 3, none⟩ = some (.int .i64 _) := (blk_cell HY2.out.1.2.1 3).trans rfl; have t5 : w2.cell? ⟨tb, 5, none⟩ = some (.slice A xs.length c) := (blk_cell HY2.out.1.2.1 5).trans rfl; clear hb2) | (go_at_call 33; (refine (slices_Contains_int_int.calls (xs.length + 1) A c xs t false _ HC2.out hc HF.out).mono ?_); rintro e w3 ⟨rfl, ⟨nd, rfl⟩⟩) | (at_builtin; refine print_append_cells (w0 := w) B rfl (.tmp 57) (.tmp 59) 29 3 (.int .i64 0) 1 8 rfl Try.underlying29 info3 rfl (by decide) (by decide) (.slice A xs.length c) xs.length (xs.map (Value.int .i64)) [.int .i64 t] rfl rfl rfl ?a1 ?aO ?aB ?aS ?aL ?_; (case a1 => intro u hu; rw [List.mem_singleton] at hu; subst hu; rfl); (case aO => exact (yw_drewN HY2.out _).1.2.2.2.2.1); (case aB => exact (yw_drewN HY2.out _).2.1); (case aS => exact Nat.le_trans hB HY2.out.2.2.1.1); (case aL => omega); intro v1 w4 ho hb hg hat; obtain ⟨gb, cp, rfl⟩ := own_form ho (by omega); have HG := Aside0.mk (And.intro (yw_grown (yw_drewN HY2.out _) hg) (And.intro ho (And.intro hb hat))); clear ho hb hg hat; have c5 : w4.cell? ⟨tb, 5, none⟩ = some (.slice A xs.length c) := (blk_cell HG.out.1.2.1 5).trans rfl; have z5 := blk_frozen HG.out.1.2.1 5))
  go_ret2
  obtain ⟨⟨g1, g2, g3⟩, ho, hb, hat⟩ := HG.out
  refine yw_end (yw_set5 g1 g2 HY2.out.1.2.2.1 HY2.out.1.2.2.2.1 (by simpa using ho) HY2.out.1.2.2.2.2.2.1 HY2.out.1.2.2.2.2.2.2 hb g3 hB) ?_
  rcases hat with e | ⟨b, e, hb'⟩
  · exact .inl e
  · exact .inr ⟨b, e, Nat.le_trans HY2.out.2.2.1.1 hb'⟩
end Go.Proofs.Ytonfbhcafejblaa.Yd
