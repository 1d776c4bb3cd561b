/- TreeFeats of the program holds for every input: the law returns true, whatever three features it gets, and what came in reads as it did. No condition. -/
import Derived.Test.YtlabfjaddgakkaaGreatBTreeFeatsm1
import Derived.Test.YtlabfjaddgakkaaGreatBTreeFeatsm4
namespace Go.Proofs.YtlabfjaddgakkaaGreat.treeFeats
set_option linter.unusedVariables false
set_option linter.unusedSimpArgs false
open Go.ChangeShapes Go.WideShapes Go.ChangeAt Go.RowKit Go.Proofs.YtlabfjaddgakkaaGreatW.PrintWords Go.Proofs.YtlabfjaddgakkaaGreatW.PrintLast Go.Proofs.YtlabfjaddgakkaaGreatW.PrintMore Go.Proofs.YtlabfjaddgakkaaGreat.Q Go.Proofs.YtlabfjaddgakkaaGreat.Feats
set_option maxRecDepth 100000
theorem own : ownKnob Tryz.prog.godebug = none := by kernel_rfl
theorem laidOut : laidOutB Tryz.prog = true := by kernel_rfl
theorem lifted (os : Os) (started : os.Started) (H : Type) (enc : TypeId × Value → H) :
    ReturnsInHanded {} Tryz.checked os 3 .any (Rows.treeFeatsSpec.pre6 enc Tryz.prog Tryz.f3 Rows.treeFeatsRow.domain false) (Rows.treeFeatsSpec.post enc Tryz.prog Tryz.f3 false true false false) := by
  refine returnsInHanded_of_change_sized (C := Tryz.checked) own started (by kernel_rfl) Tryz.func3
    (ChangeSpec.witness6 (enc := enc) (C := Tryz.checked) false ⟨#[], #[.agg #[.int .i64 0, .string ByteArray.empty], .agg #[.int .i64 0, .string ByteArray.empty], .agg #[.int .i64 0, .string ByteArray.empty]], []⟩ 8 (by kernel_rfl) (by kernel_rfl) (by kernel_rfl) (by kernel_rfl)) ?_
  intro W base args ds gs before hval0 hW hcnd hsz0 _
  have hsz : (DataW.weightsEach Tryz.prog (Tryz.f3.params.toList ++ Rows.treeFeatsSpec.plain.varTypes Tryz.prog) (ds ++ gs)).all (· ≤ reachBytes) = true := hsz0
  have hval : ∀ (j : Nat) t v, Tryz.f3.params[j]? = some t → args[j]? = some v → Value.okWide Tryz.prog W .any base t v := hval0
  have hW' := hW
  obtain ⟨p, q, hA0, hV, rfl, hfz, hnd⟩ := hW
  have hA : DataW.TrodAll enc Tryz.prog W 0 (fun _ => true) true Tryz.f3.params.toList args.toList ds p := hA0
  rw [Tryz.params3] at hA hval hsz
  obtain ⟨v0, vs0, d0, ds0, p0, q0, hargs0, rfl, rfl, h0, r0⟩ := trodAll_cons hA
  obtain ⟨v1, vs1, d1, ds1, p1, q1, rfl, rfl, rfl, h1, r1⟩ := trodAll_cons r0
  obtain ⟨v2, vs2, d2, ds2, p2, q2, rfl, rfl, rfl, h2, r2⟩ := trodAll_cons r1
  obtain ⟨rfl, rfl, rfl⟩ := trodAll_nil r2
  obtain rfl : args = #[v0, v1, v2] := by cases args; simp_all
  obtain ⟨rfl, rfl⟩ := trodVars_none hV
  obtain ⟨n0, s0, rfl⟩ := open23 (hval 0 23 v0 rfl rfl)
  obtain ⟨n1, s1, rfl⟩ := open23 (hval 1 23 v1 rfl rfl)
  obtain ⟨n2, s2, rfl⟩ := open23 (hval 2 23 v2 rfl rfl)
  have z0 : s0.size ≤ 140737488351232 := sized_feat hsz (j := 0) rfl rfl (feat_size h0)
  have z1 : s1.size ≤ 140737488351232 := sized_feat hsz (j := 1) rfl rfl (feat_size h1)
  have z2 : s2.size ≤ 140737488351232 := sized_feat hsz (j := 2) rfl rfl (feat_size h2)
  have lt0 : ∀ x ∈ p0, x.block < W.heap.size := by obtain ⟨m, hm⟩ := h0; exact DataW.trod_lt m _ _ _ hm
  have lt1 : ∀ x ∈ p1, x.block < W.heap.size := by obtain ⟨m, hm⟩ := h1; exact DataW.trod_lt m _ _ _ hm
  have lt2 : ∀ x ∈ p2, x.block < W.heap.size := by obtain ⟨m, hm⟩ := h2; exact DataW.trod_lt m _ _ _ hm
  clear hA0 hval0 hsz0 hsz
  obtain ⟨k, hk⟩ := Pure.treeFeats_ok n0 n1 n2 z0 z1 z2
  refine (manystrandlaw02_TreeFeats.calls k n0 s0 n1 s1 n2 s2 true W hk).mono fun e W' ⟨he, bel⟩ => ?_
  subst he
  exact ⟨_, rfl, _, _, _, [], _, [], hW', trodAll_mk1 (shut_bool Tryz.underlying4 _), (trodAll_cons_mk (Below.trod laidOut (by kernel_rfl) (of_decide_eq_true (by kernel_rfl)) h0 bel lt0) (trodAll_cons_mk (Below.trod laidOut (by kernel_rfl) (of_decide_eq_true (by kernel_rfl)) h1 bel lt1) (trodAll_cons_mk (Below.trod laidOut (by kernel_rfl) (of_decide_eq_true (by kernel_rfl)) h2 bel lt2) trodAll_mk0))), rfl, bel.frame _, fun h => by cases h⟩
theorem over : Rows.treeFeatsRow.holds Tryz.pinned (OpenSpec.ofChange Rows.treeFeatsSpec) :=
  OpenClaim.holds_of_wide 3 Tryz.f3 rfl rfl rfl rfl rfl rfl rfl ⟨rfl, rfl, rfl, rfl, rfl⟩ rfl rfl rfl rfl rfl (by kernel_rfl) Tryz.func3 (by kernel_rfl)
    (of_decide_eq_true (by kernel_rfl)) (by unfold Func.isWrapper; first | (rw [if_pos (by decide +kernel)]; kernel_rfl) | (rw [if_neg (by decide +kernel)]; exact ⟨rfl, rfl⟩))
    (fun os started H enc _ => lifted os started H enc)
theorem proved : Rows.TreeFeatsSaid := over
#print axioms proved
end Go.Proofs.YtlabfjaddgakkaaGreat.treeFeats
namespace Go.Proofs.YtlabfjaddgakkaaGreat
/-- The row, under a short name, for the claim. -/
theorem treeFeats_holds : Rows.TreeFeatsSaid := treeFeats.proved
end Go.Proofs.YtlabfjaddgakkaaGreat
