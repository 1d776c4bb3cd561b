/- YardNil of the program holds for every input: the law returns true, whatever act it gets, and what came in reads as it did. No condition. -/
import Derived.Test.YtonfbhcafejblaaRows
import Derived.Test.YtonfbhcafejblaaYNilLaw
import Derived.WalkKit
import Derived.ProofKit
import Derived.OpenShut
import Derived.ShutString
import Derived.ChangeOld
import Derived.Below
namespace Go.Proofs.Ytonfbhcafejblaa.yardNil
set_option linter.unusedVariables false
set_option linter.unusedSimpArgs false
open Go.ChangeShapes Go.WideShapes Go.ChangeAt Go.RowKit Go.Proofs.YtonfbhcafejblaaW.PrintWords Go.Proofs.YtonfbhcafejblaaW.PrintLast Go.Proofs.YtonfbhcafejblaaW.PrintMore Go.Proofs.Ytonfbhcafejblaa.Q
set_option maxRecDepth 100000
theorem own : ownKnob Try.prog.godebug = none := by kernel_rfl
theorem laidOut : laidOutB Try.prog = true := by kernel_rfl
theorem cell_int {W : World} {r : Reach} {b : Nat} {t : TypeId} {k : IntKind} {v : Value} (ht : Try.prog.underlying t = some (.int k)) (h : Cell.okWide Try.prog W r b t v) : ∃ n, v = .int k n := by
  simp only [Cell.okWide, ht] at h
  cases v <;> simp_all [Cell.ok]
theorem cell_string {W : World} {r : Reach} {b : Nat} {t : TypeId} {v : Value} (ht : Try.prog.underlying t = some .string) (h : Cell.okWide Try.prog W r b t v) : ∃ s, v = .string s := by
  simp only [Cell.okWide, ht] at h
  cases v <;> simp_all [Cell.ok]
theorem types43 : Try.prog.cellTypes Try.prog.depth 43 = some [3, 9, 3, 3, 3, 3, 3, 9] := by kernel_rfl
theorem size43 : Try.prog.cellsOf 43 = 8 := by kernel_rfl
/-- An act that came in, written out. -/
theorem open43 {W : World} {r : Reach} {b : Nat} {v : Value} (h : Value.okWide Try.prog W r b 43 v) :
    ∃ x : S43, v = .agg #[.int .i64 x.f0, .string x.f1, .int .i64 x.f2, .int .i64 x.f3, .int .i64 x.f4, .int .i64 x.f5, .int .i64 x.f6.f0, .string x.f6.f1] := by
  simp only [Value.okWide, Try.underlying43] at h
  obtain ⟨cs, rfl, hs, ts, ht, _, hc⟩ := h
  rw [types43] at ht
  cases ht
  rw [size43] at hs
  obtain ⟨l⟩ := cs
  match l, hs with
  | [c0, c1, c2, c3, c4, c5, c6, c7], _ =>
    obtain ⟨u0, e0, k0⟩ := hc 0 c0 rfl
    obtain ⟨u1, e1, k1⟩ := hc 1 c1 rfl
    obtain ⟨u2, e2, k2⟩ := hc 2 c2 rfl
    obtain ⟨u3, e3, k3⟩ := hc 3 c3 rfl
    obtain ⟨u4, e4, k4⟩ := hc 4 c4 rfl
    obtain ⟨u5, e5, k5⟩ := hc 5 c5 rfl
    obtain ⟨u6, e6, k6⟩ := hc 6 c6 rfl
    obtain ⟨u7, e7, k7⟩ := hc 7 c7 rfl
    cases e0; cases e1; cases e2; cases e3; cases e4; cases e5; cases e6; cases e7
    obtain ⟨n0, rfl⟩ := cell_int Try.underlying3 k0
    obtain ⟨n1, rfl⟩ := cell_string Try.underlying9 k1
    obtain ⟨n2, rfl⟩ := cell_int Try.underlying3 k2
    obtain ⟨n3, rfl⟩ := cell_int Try.underlying3 k3
    obtain ⟨n4, rfl⟩ := cell_int Try.underlying3 k4
    obtain ⟨n5, rfl⟩ := cell_int Try.underlying3 k5
    obtain ⟨n6, rfl⟩ := cell_int Try.underlying3 k6
    obtain ⟨n7, rfl⟩ := cell_string Try.underlying9 k7
    exact ⟨⟨n0, n1, n2, n3, n4, n5, ⟨n6, n7⟩⟩, rfl⟩
theorem lifted (os : Os) (started : os.Started) (H : Type) (enc : TypeId × Value → H) :
    ReturnsInHanded {} Try.checked os 4 .any (Rows.yardNilSpec.pre6 enc Try.prog Try.f4 Rows.yardNilRow.domain false) (Rows.yardNilSpec.post enc Try.prog Try.f4 false true false false) := by
  refine returnsInHanded_of_change_sized (C := Try.checked) own started (by kernel_rfl) Try.func4
    (ChangeSpec.witness6 (enc := enc) (C := Try.checked) false ⟨#[], #[.agg #[.int .i64 0, .string ByteArray.empty, .int .i64 0, .int .i64 0, .int .i64 0, .int .i64 0, .int .i64 0, .string ByteArray.empty]], []⟩ 8 (by kernel_rfl) (by kernel_rfl) (by kernel_rfl) (by kernel_rfl)) ?_
  intro W base args ds gs before hval0 hW hcnd hsz0 _
  have hval : ∀ (j : Nat) t v, Try.f4.params[j]? = some t → args[j]? = some v → Value.okWide Try.prog W .any base t v := hval0
  have hW' := hW
  obtain ⟨p, q, hA0, hV, rfl, hfz, hnd⟩ := hW
  have hA : DataW.TrodAll enc Try.prog W 0 (fun _ => true) true Try.f4.params.toList args.toList ds p := hA0
  rw [Try.params4] at hA hval
  obtain ⟨v0, vs0, d0, ds0, p0, q0, hargs, rfl, rfl, h0, r0⟩ := trodAll_cons hA
  obtain ⟨rfl, rfl, rfl⟩ := trodAll_nil r0
  obtain rfl : args = #[v0] := by cases args; simp_all
  obtain ⟨rfl, rfl⟩ := trodVars_none hV
  obtain ⟨x, rfl⟩ := open43 (hval 0 43 v0 rfl rfl)
  have k0 := h0
  have lt0 : ∀ x ∈ p0, x.block < W.heap.size := by obtain ⟨m, hm⟩ := k0; exact DataW.trod_lt m _ _ _ hm
  clear hA0 hval0 hsz0
  refine (Yd.yard_nil x W).mono fun e W' ⟨he, bel⟩ => ?_
  subst he
  exact ⟨_, rfl, _, _, _, [], _, [], hW', trodAll_mk1 (shut_bool Try.underlying4 _), (trodAll_cons_mk (Below.trod laidOut (by kernel_rfl) (of_decide_eq_true (by kernel_rfl)) k0 bel lt0) trodAll_mk0), rfl, bel.frame _, fun h => by cases h⟩
theorem over : Rows.yardNilRow.holds Try.pinned (OpenSpec.ofChange Rows.yardNilSpec) :=
  OpenClaim.holds_of_wide 4 Try.f4 rfl rfl rfl rfl rfl rfl rfl ⟨rfl, rfl, rfl, rfl, rfl⟩ rfl rfl rfl rfl rfl (by kernel_rfl) Try.func4 (by kernel_rfl)
    (of_decide_eq_true (by kernel_rfl)) (by unfold Func.isWrapper; first | (rw [if_pos (by decide +kernel)]; kernel_rfl) | (rw [if_neg (by decide +kernel)]; exact ⟨rfl, rfl⟩))
    (fun os started H enc _ => lifted os started H enc)
theorem proved : Rows.YardNilSaid := over
#print axioms proved
end Go.Proofs.Ytonfbhcafejblaa.yardNil
namespace Go.Proofs.Ytonfbhcafejblaa
/-- The row, under a short name, for the claim. -/
theorem yardNil_holds : Rows.YardNilSaid := yardNil.proved
end Go.Proofs.Ytonfbhcafejblaa
