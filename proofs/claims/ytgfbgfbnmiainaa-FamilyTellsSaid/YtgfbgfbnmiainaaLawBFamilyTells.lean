/- FamilyTells of the program holds for every input: the law returns true, whatever two families and set it gets, and what came in reads as it did. No condition. -/
import Derived.Test.YtgfbgfbnmiainaaRows
import Derived.Test.YtgfbgfbnmiainaaBFamilyTellsp1
import Derived.WalkKit
import Derived.ProofKit
import Derived.OpenShut
import Derived.ShutString
import Derived.ChangeOld
import Derived.Below
namespace Go.Proofs.Ytgfbgfbnmiainaa.familyTells
set_option linter.unusedVariables false
set_option linter.unusedSimpArgs false
open Go.ChangeShapes Go.WideShapes Go.ChangeAt Go.RowKit Go.Proofs.YtgfbgfbnmiainaaW.PrintWords Go.Proofs.YtgfbgfbnmiainaaW.PrintLast Go.Proofs.YtgfbgfbnmiainaaW.PrintMore Go.Proofs.Ytgfbgfbnmiainaa.Q Go.Proofs.Ytgfbgfbnmiainaa.Fam
set_option maxRecDepth 100000
theorem own : ownKnob Try.prog.godebug = none := by kernel_rfl
theorem laidOut : laidOutB Try.prog = true := by kernel_rfl
theorem lifted (os : Os) (started : os.Started) (H : Type) (enc : TypeId × Value → H) :
    ReturnsInHanded {} Try.checked os 4 .any (Rows.familyTellsSpec.pre6 enc Try.prog Try.f4 Rows.familyTellsRow.domain false) (Rows.familyTellsSpec.post enc Try.prog Try.f4 false true false false) := by
  refine returnsInHanded_of_change_sized (C := Try.checked) own started (by kernel_rfl) Try.func4
    (ChangeSpec.witness6 (enc := enc) (C := Try.checked) false ⟨#[], #[.agg #[.slice none 0 0, .slice none 0 0, .int .i64 0, .int .i64 0], .agg #[.slice none 0 0, .slice none 0 0, .int .i64 0, .int .i64 0], .slice none 0 0], []⟩ 8 (by kernel_rfl) (by kernel_rfl) (by kernel_rfl) (by kernel_rfl)) ?_
  intro W base args ds gs before hval0 hW hcnd hsz0 _
  have hval : ∀ (j : Nat) t v, Try.f4.params[j]? = some t → args[j]? = some v → Value.okWide Try.prog W .any base t v := hval0
  have hW' := hW
  obtain ⟨p, q, hA0, hV, rfl, hfz, hnd⟩ := hW
  have hA : DataW.TrodAll enc Try.prog W 0 (fun _ => true) true Try.f4.params.toList args.toList ds p := hA0
  rw [Try.params4] at hA hval
  obtain ⟨v0, vs0, d0, ds0, p0, q0, hargs, rfl, rfl, h0, r0⟩ := trodAll_cons hA
  obtain ⟨v1, vs1, d1, ds1, p1, q1, rfl, rfl, rfl, h1, r1⟩ := trodAll_cons r0
  obtain ⟨v2, vs2, d2, ds2, p2, q2, rfl, rfl, rfl, h2, r2⟩ := trodAll_cons r1
  obtain ⟨rfl, rfl, rfl⟩ := trodAll_nil r2
  obtain rfl : args = #[v0, v1, v2] := by cases args; simp_all
  obtain ⟨rfl, rfl⟩ := trodVars_none hV
  have k0 := h0
  have k1 := h1
  have k2 := h2
  have lt0 : ∀ x ∈ p0, x.block < W.heap.size := by obtain ⟨m, hm⟩ := k0; exact DataW.trod_lt m _ _ _ hm
  have lt1 : ∀ x ∈ p1, x.block < W.heap.size := by obtain ⟨m, hm⟩ := k1; exact DataW.trod_lt m _ _ _ hm
  have lt2 : ∀ x ∈ p2, x.block < W.heap.size := by obtain ⟨m, hm⟩ := k2; exact DataW.trod_lt m _ _ _ hm
  have hv0 := hval 0 37 v0 rfl rfl
  have hv1 := hval 1 37 v1 rfl rfl
  have hv2 := hval 2 31 v2 rfl rfl
  simp only [Value.okWide, Try.underlying37] at hv0
  obtain ⟨cs, rfl, _, _⟩ := hv0
  simp only [Value.okWide, Try.underlying37] at hv1
  obtain ⟨ds', rfl, _, _⟩ := hv1
  obtain ⟨La, ln, lc, rfl⟩ := okWide_slice Try.underlying31 hv2
  obtain ⟨f0, h0⟩ := h0
  obtain ⟨f1, h1⟩ := h1
  obtain ⟨f2, h2⟩ := h2
  obtain ⟨x, hx⟩ := in_37 h0
  obtain ⟨y, hy⟩ := in_37 h1
  obtain ⟨s, B, b, hB, hb, hL⟩ := in_ints h2
  obtain ⟨A0, c0, A1, c1, hcs, l0, g0, l1, g1⟩ := k37_open hx
  have hcs' : cs.toList = [.slice A0 x.f0.length c0, .slice A1 x.f1.length c1, .int .i64 x.f2, .int .i64 x.f3] := hcs
  obtain rfl : cs = #[.slice A0 x.f0.length c0, .slice A1 x.f1.length c1, .int .i64 x.f2, .int .i64 x.f3] := Array.toList_inj.1 hcs'
  obtain ⟨C0, e0, C1, e1, hds, m0, i0, m1, i1⟩ := k37_open hy
  have hds' : ds'.toList = [.slice C0 y.f0.length e0, .slice C1 y.f1.length e1, .int .i64 y.f2, .int .i64 y.f3] := hds
  obtain rfl : ds' = #[.slice C0 y.f0.length e0, .slice C1 y.f1.length e1, .int .i64 y.f2, .int .i64 y.f3] := Array.toList_inj.1 hds'
  have hB' : [Value.slice La ln lc] = [.slice B s.length b] := hB
  injection hB' with hB'
  injection hB' with e1' e2' e3'
  subst e1' e2' e3'
  clear hA0 hval0 hsz0
  refine (tells_any x y s A0 c0 A1 c1 C0 e0 C1 e1 La lc W ⟨g0, l0, g1, l1⟩ ⟨i0, m0, i1, m1⟩ hL hb).mono fun e W' ⟨he, bel⟩ => ?_
  subst he
  exact ⟨_, rfl, _, _, _, [], _, [], hW', trodAll_mk1 (shut_bool Try.underlying4 _), (trodAll_cons_mk (Below.trod laidOut (by kernel_rfl) (of_decide_eq_true (by kernel_rfl)) k0 bel lt0) (trodAll_cons_mk (Below.trod laidOut (by kernel_rfl) (of_decide_eq_true (by kernel_rfl)) k1 bel lt1) (trodAll_cons_mk (Below.trod laidOut (by kernel_rfl) (of_decide_eq_true (by kernel_rfl)) k2 bel lt2) trodAll_mk0))), rfl, bel.frame _, fun h => by cases h⟩
theorem over : Rows.familyTellsRow.holds Try.pinned (OpenSpec.ofChange Rows.familyTellsSpec) :=
  OpenClaim.holds_of_wide 4 Try.f4 rfl rfl rfl rfl rfl rfl rfl ⟨rfl, rfl, rfl, rfl, rfl⟩ rfl rfl rfl rfl rfl (by kernel_rfl) Try.func4 (by kernel_rfl)
    (of_decide_eq_true (by kernel_rfl)) (by unfold Func.isWrapper; first | (rw [if_pos (by decide +kernel)]; kernel_rfl) | (rw [if_neg (by decide +kernel)]; exact ⟨rfl, rfl⟩))
    (fun os started H enc _ => lifted os started H enc)
theorem proved : Rows.FamilyTellsSaid := over
#print axioms proved
end Go.Proofs.Ytgfbgfbnmiainaa.familyTells
namespace Go.Proofs.Ytgfbgfbnmiainaa
/-- The row, under a short name, for the claim. -/
theorem familyTells_holds : Rows.FamilyTellsSaid := familyTells.proved
end Go.Proofs.Ytgfbgfbnmiainaa
