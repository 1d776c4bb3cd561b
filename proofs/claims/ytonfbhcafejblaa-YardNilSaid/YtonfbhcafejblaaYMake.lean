import Derived.Test.YtonfbhcafejblaaYWait
/-! A yard that has one lock: New, add, Make. -/
namespace Go.Proofs.Ytonfbhcafejblaa.Yd
set_option linter.unusedVariables false
set_option linter.unusedSimpArgs false
open Go.RowKit Go.Proofs.YtonfbhcafejblaaW.PrintWords Go.Proofs.YtonfbhcafejblaaW.PrintLast Go.Proofs.YtonfbhcafejblaaW.PrintMore Go.Proofs.Ytonfbhcafejblaa.Q
attribute [local go_sem] Go.Proofs.YtonfbhcafejblaaW.OwnWords.isSome_setCell max2_int min2_int
/-- A new yard. -/
def NewEnd (w : World) (e : Ending) (w' : World) : Prop :=
  e = .returned (.pointer (some ⟨w.heap.size, 0, none⟩)) ∧ w' = w.alloc (.cells #[.bool true, .slice none 0 0] 65)
theorem new_calls (w : World) : Calls Try.prog 6 #[] w (NewEnd w) := by
  go_enter Try.func6, Try.ntmps6
  go_wp2
  go_ret
  exact ⟨rfl, rfl⟩
abbrev zero10 : Value := .agg #[.string ByteArray.empty, .int .i64 0, .int .i64 0, .int .i64 0, .int .i64 0, .slice none 0 0, .slice none 0 0, .map none, .int .i64 0, .int .i64 0]
theorem info68 : (Try.prog.info? 68).map (fun i => (i.zero, i.size, i.bytes)) = some (some zero10, 10, 120) := by kernel_rfl
def AddEnd (B : Nat) (w0 : World) (yb : Nat) (e : Ending) (w' : World) : Prop :=
  e = .returned (.int .i64 1) ∧ ∃ tb cap rest, IsYd B w' yb tb cap rest 0 0 (.slice none 0 0) [] ∧ Below B w0 w'
theorem add_end {B yb cp : Nat} {w0 w : World} (hy : w.heap[yb]? = some (.cells #[.bool true, .slice none 0 0] 65 (0, 0))) (hb : Below B w0 w) (hB : B ≤ yb) (h1 : 1 ≤ cp) (h2 : cp ≤ maxLen) (o o1 : Obj) (zs : Array Value) :
    AddEnd B w0 yb (.returned (.int .i64 1)) (((((w.alloc o).alloc o1).alloc (.cells (#[.string lockS, .int .i64 0, .int .i64 0, .int .i64 0, .int .i64 0, .slice none 0 0, .slice none 0 0, .map none, .int .i64 0, .int .i64 0] ++ zs) 68)).setCell ⟨yb, 1, none⟩ (.slice (some ⟨w.heap.size + 1 + 1, 0, none⟩) 1 cp)).drew.drew) := by
  have hlt := blk_lt hy
  have hsz : ((w.alloc o).alloc o1).heap.size = w.heap.size + 1 + 1 := by simp
  refine ⟨rfl, w.heap.size + 1 + 1, cp, zs.toList, ⟨?_, ?_, h1, h2, own_nil _ _ _ _, hB, by omega⟩, ?_⟩
  · exact (blk_set (blk_below hy (below_alloc (below_alloc (below_alloc (Below.refl _ _) o) o1) _)) 1 _).trans rfl
  · refine (blk_other _ _ _ _ (show w.heap.size + 1 + 1 ≠ yb by omega)).trans ?_
    have := heap_alloc_new ((w.alloc o).alloc o1) (.cells (#[.string lockS, .int .i64 0, .int .i64 0, .int .i64 0, .int .i64 0, .slice none 0 0, .slice none 0 0, .map none, .int .i64 0, .int .i64 0] ++ zs) 68)
    rw [hsz] at this
    rw [this]
    congr 2
    apply Array.toList_inj.1
    simp
  · exact below_drew (below_drew ((hb.trans ((below_alloc (below_alloc (below_alloc (Below.refl w.heap.size w) o) o1) _).mono (by omega))).setCell hB _))
set_option maxRecDepth 100000 in
theorem add_calls (B : Nat) (yb : Nat) (w0 w : World) (hb : Below B w0 w) (hB : B ≤ yb) (hy : w.heap[yb]? = some (.cells #[.bool true, .slice none 0 0] 65 (0, 0))) :
    Calls Try.prog 30 #[.pointer (some ⟨yb, 0, none⟩), .agg #[.string lockS, .int .i64 0, .int .i64 0, .int .i64 0, .int .i64 0, .slice none 0 0, .slice none 0 0, .map none, .int .i64 0, .int .i64 0]] w (AddEnd B w0 yb) := by
  have y1 : w.cell? ⟨yb, 1, none⟩ = some (.slice none 0 0) := (blk_cell hy 1).trans rfl
  have z1 := blk_frozen hy 1
  have hlt := blk_lt hy
  have hne : yb ≠ w.heap.size := by omega
  have hne1 : yb ≠ w.heap.size + 1 := by omega
  have hne2 : yb ≠ w.heap.size + 1 + 1 := by omega
  have hne3 : w.heap.size ≠ yb := by omega
  have hne4 : w.heap.size + 1 ≠ yb := by omega
  have hne5 : w.heap.size + 1 + 1 ≠ yb := by omega
  have HY := Aside0.mk (And.intro hy (And.intro hb hB))
  clear hy hb
  go_enter Try.func30, Try.ntmps30
  go_upto_region 1 with fail
  have hx : ∀ o o1 o2 : Obj, (((w.alloc o).alloc o1).alloc o2).cell? ⟨yb, 1, none⟩ = some (.slice none 0 0) := fun o o1 o2 => (blk_cell (blk_below HY.out.1 (below_alloc (below_alloc (below_alloc (Below.refl _ _) o) o1) o2)) 1).trans rfl
  have hz : ∀ o o1 o2 : Obj, (((w.alloc o).alloc o1).alloc o2).frozen? ⟨yb, 1, none⟩ = false := fun o o1 o2 => blk_frozen (blk_below HY.out.1 (below_alloc (below_alloc (below_alloc (Below.refl _ _) o) o1) o2)) 1
  have hcap : (281474976710656 < Builtin.nextslicecap 1 0 * Try.t68.bytes) = False := eq_false (of_decide_eq_false (by kernel_rfl))
  go_region
  have hcp : ∃ cp, (Question.appendCap 1 0 68).cut (w.tape (w.drawn + 1) (Question.appendCap 1 0 68)) = cp ∧ 1 ≤ cp ∧ cp ≤ maxLen := by
    refine ⟨_, rfl, ?_⟩
    have hlt := Nat.mod_lt (w.tape (w.drawn + 1) (.appendCap 1 0 68)) (show 0 < 2 ^ 63 - 1 by decide)
    show 1 ≤ 1 + _ % (2 ^ 63 - 1) ∧ 1 + _ % (2 ^ 63 - 1) ≤ maxLen
    simp only [maxLen]
    omega
  obtain ⟨cp, hcp, hc1, hc2⟩ := hcp
  simp only [hcp]
  have HC := Aside0.mk (And.intro hc1 hc2)
  clear hc1 hc2 hcp
  try go_wp2
  go_ret
  exact add_end HY.out.1 HY.out.2.1 hB HC.out.1 HC.out.2 _ _ _
def MakeEnd (B : Nat) (w0 : World) (yb : Nat) (e : Ending) (w' : World) : Prop :=
  e = .returned (.tuple #[.int .i64 1, .int .i64 0]) ∧ ∃ tb cap rest, IsYd B w' yb tb cap rest 0 0 (.slice none 0 0) [] ∧ Below B w0 w'
set_option maxRecDepth 100000 in
theorem make_calls (B : Nat) (yb : Nat) (w0 w : World) (hb : Below B w0 w) (hB : B ≤ yb) (hy : w.heap[yb]? = some (.cells #[.bool true, .slice none 0 0] 65 (0, 0))) :
    Calls Try.prog 7 #[.pointer (some ⟨yb, 0, none⟩), .string lockS, .int .i64 0, .int .i64 0] w (MakeEnd B w0 yb) := by
  have y0 : w.cell? ⟨yb, 0, none⟩ = some (.bool true) := (blk_cell hy 0).trans rfl
  have HY := Aside0.mk (And.intro hy (And.intro hb hB))
  clear hy hb
  go_enter Try.func7, Try.ntmps7
  go_wp2_with (first | (go_at_call 29; (refine (none_calls yb _ y0).mono ?_); rintro e w2 ⟨rfl, rfl⟩) | (go_at_call 30; (refine (add_calls B yb w0 _ (HY.out.2.1.alloc (Nat.le_trans HY.out.2.2 (Nat.le_of_lt (blk_lt HY.out.1))) _) hB (blk_below HY.out.1 (below_alloc (Below.refl _ _) _))).mono ?_); rintro e w3 ⟨rfl, h3⟩; have HG := Aside0.mk h3; clear h3))
  go_ret2
  exact ⟨rfl, HG.out⟩
end Go.Proofs.Ytonfbhcafejblaa.Yd
