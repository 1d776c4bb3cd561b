/- FamilyHolds of the program holds for every input: the law returns true, whatever relation and lists it gets, and what came in reads as it did. No condition. -/
import Derived.Test.YtgfbgfbnmiainaaRows
import Derived.Test.YtgfbgfbnmiainaaFamHoldsWalk
import Derived.Test.YtgfbgfbnmiainaaFamOpen
import Derived.WalkKit
import Derived.ProofKit
import Derived.OpenShut
import Derived.ShutString
import Derived.ChangeOld
import Derived.Below
namespace Go.Proofs.Ytgfbgfbnmiainaa.familyHolds
set_option linter.unusedVariables false
set_option linter.unusedSimpArgs false
open Go.ChangeShapes Go.WideShapes Go.ChangeAt Go.RowKit Go.Proofs.YtgfbgfbnmiainaaW.PrintWords Go.Proofs.YtgfbgfbnmiainaaW.PrintLast Go.Proofs.YtgfbgfbnmiainaaW.PrintMore Go.Proofs.Ytgfbgfbnmiainaa.Q Go.Proofs.Ytgfbgfbnmiainaa.Fam
set_option maxRecDepth 100000
theorem own : ownKnob Try.prog.godebug = none := by kernel_rfl
theorem laidOut : laidOutB Try.prog = true := by kernel_rfl
theorem lifted (os : Os) (started : os.Started) (H : Type) (enc : TypeId × Value → H) :
    ReturnsInHanded {} Try.checked os 6 .any (Rows.familyHoldsSpec.pre6 enc Try.prog Try.f6 Rows.familyHoldsRow.domain false) (Rows.familyHoldsSpec.post enc Try.prog Try.f6 false true false false) := by
  refine returnsInHanded_of_change_sized (C := Try.checked) own started (by kernel_rfl) Try.func6
    (ChangeSpec.witness6 (enc := enc) (C := Try.checked) false ⟨#[], #[.agg #[.string ByteArray.empty, .slice none 0 0, .int .i64 0], .slice none 0 0], []⟩ 8 (by kernel_rfl) (by kernel_rfl) (by kernel_rfl) (by kernel_rfl)) ?_
  intro W base args ds gs before hval0 hW hcnd hsz0 _
  have hval : ∀ (j : Nat) t v, Try.f6.params[j]? = some t → args[j]? = some v → Value.okWide Try.prog W .any base t v := hval0
  have hW' := hW
  obtain ⟨p, q, hA0, hV, rfl, hfz, hnd⟩ := hW
  have hA : DataW.TrodAll enc Try.prog W 0 (fun _ => true) true Try.f6.params.toList args.toList ds p := hA0
  rw [Try.params6] at hA hval
  obtain ⟨v0, vs0, d0, ds0, p0, q0, hargs, rfl, rfl, h0, r0⟩ := trodAll_cons hA
  obtain ⟨v1, vs1, d1, ds1, p1, q1, rfl, rfl, rfl, h1, r1⟩ := trodAll_cons r0
  obtain ⟨rfl, rfl, rfl⟩ := trodAll_nil r1
  obtain rfl : args = #[v0, v1] := by cases args; simp_all
  obtain ⟨rfl, rfl⟩ := trodVars_none hV
  have k0 := h0
  have k1 := h1
  have lt0 : ∀ x ∈ p0, x.block < W.heap.size := by obtain ⟨m, hm⟩ := k0; exact DataW.trod_lt m _ _ _ hm
  have lt1 : ∀ x ∈ p1, x.block < W.heap.size := by obtain ⟨m, hm⟩ := k1; exact DataW.trod_lt m _ _ _ hm
  have hv0 := hval 0 33 v0 rfl rfl
  have hv1 := hval 1 51 v1 rfl rfl
  simp only [Value.okWide, Try.underlying33] at hv0
  obtain ⟨cs, rfl, _, _⟩ := hv0
  obtain ⟨La, ln, lc, rfl⟩ := okWide_slice Try.underlying51 hv1
  obtain ⟨f0, h0⟩ := h0
  obtain ⟨f1, h1⟩ := h1
  obtain ⟨x, hx⟩ := in_33 h0
  obtain ⟨L, B, b, hB, hb, hL⟩ := in_lists h1
  obtain ⟨A1, c1, hcs, hc1, hC1⟩ := k33_open hx
  have hcs' : cs.toList = [.string x.f0, .slice A1 x.f1.length c1, .int .i64 x.f2] := hcs
  obtain rfl : cs = #[.string x.f0, .slice A1 x.f1.length c1, .int .i64 x.f2] := Array.toList_inj.1 hcs'
  have hB' : [Value.slice La ln lc] = [.slice B L.length b] := hB
  injection hB' with hB'
  injection hB' with e1 e2 e3
  subst e1 e2 e3
  clear hA0 hval0 hsz0
  refine (holds_law x.f0 A1 c1 x.f1 x.f2 La lc L W ⟨hC1, hc1⟩ hL hb).mono fun e W' ⟨he, bel⟩ => ?_
  subst he
  exact ⟨_, rfl, _, _, _, [], _, [], hW', trodAll_mk1 (shut_bool Try.underlying4 _), (trodAll_cons_mk (Below.trod laidOut (by kernel_rfl) (of_decide_eq_true (by kernel_rfl)) k0 bel lt0) (trodAll_cons_mk (Below.trod laidOut (by kernel_rfl) (of_decide_eq_true (by kernel_rfl)) k1 bel lt1) trodAll_mk0)), rfl, bel.frame _, fun h => by cases h⟩
theorem over : Rows.familyHoldsRow.holds Try.pinned (OpenSpec.ofChange Rows.familyHoldsSpec) :=
  OpenClaim.holds_of_wide 6 Try.f6 rfl rfl rfl rfl rfl rfl rfl ⟨rfl, rfl, rfl, rfl, rfl⟩ rfl rfl rfl rfl rfl (by kernel_rfl) Try.func6 (by kernel_rfl)
    (of_decide_eq_true (by kernel_rfl)) (by unfold Func.isWrapper; first | (rw [if_pos (by decide +kernel)]; kernel_rfl) | (rw [if_neg (by decide +kernel)]; exact ⟨rfl, rfl⟩))
    (fun os started H enc _ => lifted os started H enc)
theorem proved : Rows.FamilyHoldsSaid := over
#print axioms proved
end Go.Proofs.Ytgfbgfbnmiainaa.familyHolds
namespace Go.Proofs.Ytgfbgfbnmiainaa
/-- The row, under a short name, for the claim. -/
theorem familyHolds_holds : Rows.FamilyHoldsSaid := familyHolds.proved
end Go.Proofs.Ytgfbgfbnmiainaa
