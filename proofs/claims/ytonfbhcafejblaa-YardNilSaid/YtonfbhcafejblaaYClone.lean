import Derived.Test.YtonfbhcafejblaaYTake
/-! slices.Clone of numbers. -/
namespace Go.Proofs.Ytonfbhcafejblaa.Yd
set_option linter.unusedVariables false
set_option linter.unusedSimpArgs false
open Go.RowKit Go.Proofs.YtonfbhcafejblaaW.PrintWords Go.Proofs.YtonfbhcafejblaaW.PrintLast Go.Proofs.YtonfbhcafejblaaW.PrintMore Go.Proofs.Ytonfbhcafejblaa.Q
attribute [local go_sem] Go.Proofs.YtonfbhcafejblaaW.OwnWords.isSome_setCell max2_int min2_int
theorem C_cells {w : World} {ad : Addr} {xs : List Int} {n : Nat} (h : (Kd.int .i64).C w (some ad) n xs) : ∀ j u, (xs.map (Value.int .i64))[j]? = some u → w.cell? (ad.add j) = some u := by
  intro j u hu
  rw [List.getElem?_map] at hu
  obtain ⟨p, hp, rfl⟩ := Option.map_eq_some_iff.1 hu
  have hj : j < xs.length := (List.getElem?_eq_some_iff.1 hp).1
  obtain ⟨ad', he, hcell⟩ := h.2.2 (by have := h.1; omega)
  injection he with he
  subst he
  obtain ⟨c, hcl, hK, hcc⟩ := hcell j p hp
  have hK' : c = [.int .i64 p] := hK
  subst hK'
  have hz : w.cell? (ad.add (j * 1 + 0)) = some (.int .i64 p) := hcc 0 _ rfl
  rwa [Nat.mul_one, Nat.add_zero] at hz
/-- What Clone ends with: a slice of its own. -/
def CloneEnd (w : World) (xs : List Int) (e : Ending) (w' : World) : Prop :=
  ∃ g cap, e = .returned (.slice (some ⟨g, 0, none⟩) xs.length cap) ∧ w'.ownsRow w.heap.size 3 1 (.slice (some ⟨g, 0, none⟩) xs.length cap) xs.length (xs.map (Value.int .i64)) ∧ Below w.heap.size w w'
theorem own_form' {w : World} {B e size n : Nat} {v : Value} {xs : List Value} (h : w.ownsRow B e size v n xs) (hn : v ≠ .slice none 0 0) : ∃ g cap, v = .slice (some ⟨g, 0, none⟩) n cap := by
  rcases h.2 with ⟨h0, _⟩ | ⟨g, cap, cur, hv, _⟩
  · exact absurd h0 hn
  · exact ⟨g, cap, hv⟩
theorem own_empty (w : World) : (w.alloc (.cells #[] 3)).ownsRow w.heap.size 3 1 (.slice (some ⟨w.heap.size, 0, none⟩) 0 0) 0 [] :=
  ⟨by simp, .inr ⟨w.heap.size, 0, #[], rfl, Nat.le_refl _, heap_alloc_new w _, Nat.le_refl _, by simp, rfl, rfl⟩⟩
theorem not_nil (ad : Addr) (n c : Nat) (w : World) : Sem.run Try.prog (binOp BinOp.eql 29 (Value.slice (some ad) n c) (Value.slice none 0 0)) w = .ok (.bool false) w := by kernel_rfl
theorem is_nil (w : World) : Sem.run Try.prog (binOp BinOp.eql 29 (Value.slice none 0 0) (Value.slice none 0 0)) w = .ok (.bool true) w := by kernel_rfl
attribute [local go_sem high] not_nil is_nil
theorem clone_nil (w : World) : Calls Try.prog 34 #[.slice none 0 0] w fun e w' => e = .returned (.slice none 0 0) ∧ w' = w := by
  go_enter Try.func34, Try.ntmps34
  go_wp2
  go_ret
  exact ⟨rfl, rfl⟩
set_option maxRecDepth 10000 in
theorem clone_calls (ad : Addr) (c : Nat) (xs : List Int) (hl : xs.length ≤ 1000000) (w : World) (hC : (Kd.int .i64).C w (some ad) xs.length xs) :
    Calls Try.prog 34 #[.slice (some ad) xs.length c] w (CloneEnd w xs) := by
  have HC := Aside0.mk (C_cells (Kd.C_alloc hC (.cells #[] 3)))
  clear hC
  obtain ⟨i0, hi, hzz⟩ := Option.map_eq_some_iff.1 info3
  simp only [Prod.mk.injEq] at hzz
  have HI := Aside0.mk (And.intro hi hzz)
  clear hi hzz
  go_enter Try.func34, Try.ntmps34
  go_wp2_with (first | (at_builtin; (refine wpList_append_own_at (w.alloc (.cells #[] 3)) rfl (.tmp 5) (.tmp 6) 29 rfl w.heap.size 3 i0 (.int .i64 0) 1 8 Try.underlying29 HI.out.1 HI.out.2.1 HI.out.2.2.1 HI.out.2.2.2 rfl (by decide) (.slice (some ⟨w.heap.size, 0, none⟩) 0 0) 0 [] rfl (own_empty w) ad xs.length c (xs.map (Value.int .i64)) rfl ?aL HC.out ?a1 ?aM ?aY ?aB ?_); (case aL => simp); (case a1 => intro u hu; obtain ⟨x, _, rfl⟩ := List.mem_map.1 hu; rfl); (case aM => simp only [maxLen]; omega); (case aY => omega); (case aB => simp); intro v1 w4 ho hg hnil hat; obtain ⟨gb, cp, rfl⟩ := own_form' ho (by intro e_; exact absurd (hnil.1 e_).1 (by simp)); have HG := Aside0.mk (And.intro ho hg); clear ho hg hnil hat))
  go_ret
  obtain ⟨ho, hg⟩ := HG.out
  refine ⟨gb, cp, rfl, by simpa using ho, ?_⟩
  exact ((Below.refl w.heap.size w).alloc (Nat.le_refl _) _).grown hg (by simp) (by intro k hk; simp [Value.ownBlock] at hk; omega)
end Go.Proofs.Ytonfbhcafejblaa.Yd
