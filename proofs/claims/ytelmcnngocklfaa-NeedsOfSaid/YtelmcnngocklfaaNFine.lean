import Derived.Test.YtelmcnngocklfaaNOps
import Derived.Test.YtelmcnngocklfaaQ9
import Derived.Test.YtelmcnngocklfaaQ10
import Derived.Test.YtelmcnngocklfaaQ13
import Derived.BigQuiet
/-! kernel.fine at the four statements of awake. -/
namespace Go.Proofs.Ytelmcnngocklfaa.Need
set_option linter.unusedVariables false
set_option linter.unusedSimpArgs false
open Go.RowKit Go.Proofs.YtelmcnngocklfaaW.PrintWords Go.Proofs.YtelmcnngocklfaaW.PrintLast Go.Proofs.YtelmcnngocklfaaW.PrintMore Go.Proofs.Ytelmcnngocklfaa.Q
/-- A statement's lists lie there. -/
structure SF (w : World) (x : S26) (A3 : Option Addr) (c3 : Nat) (A4 : Option Addr) (c4 : Nat) (A5 : Option Addr) (c5 : Nat) : Prop where
  h3 : Kd.C Kd.string w A3 x.f3.length x.f3
  l3 : x.f3.length ≤ c3
  h4 : Kd.C k96 w A4 x.f4.length x.f4
  l4 : x.f4.length ≤ c4
  h5 : Kd.C k26 w A5 x.f5.length x.f5
  l5 : x.f5.length ≤ c5
theorem SF.below {w w' : World} {x : S26} {A3 A4 A5 : Option Addr} {c3 c4 c5 : Nat} (h : SF w x A3 c3 A4 c4 A5 c5) (hb : Below w.heap.size w w') : SF w' x A3 c3 A4 c4 A5 c5 :=
  ⟨Kd.C_below h.h3 hb, h.l3, Kd.C_below h.h4 hb, h.l4, Kd.C_below h.h5 hb, h.l5⟩
abbrev nP : ByteArray := ⟨#[80]⟩
abbrev nSkip : ByteArray := ⟨#[115, 107, 105, 112]⟩
abbrev nThread : ByteArray := ⟨#[116, 104, 114, 101, 97, 100]⟩
abbrev nProc : ByteArray := ⟨#[112, 114, 111, 99]⟩
abbrev nLocal : ByteArray := ⟨#[108, 111, 99, 97, 108]⟩
abbrev no : ByteArray := ⟨#[]⟩
abbrev s3 : S26 := ⟨nSkip, no, 0, [], [], []⟩
abbrev s2 : S26 := ⟨nThread, no, 0, [], [], [s3]⟩
abbrev s1 : S26 := ⟨nProc, no, 0, [nP], [], [s2]⟩
abbrev s0 : S26 := ⟨nLocal, no, 0, [nP], [], [s1]⟩
theorem blank3 : kernel_blank.f nSkip no 0 [] [] [] false false false = some true := by unfold kernel_blank.f; decide +kernel
theorem blank2 : kernel_blank.f nThread no 0 [] [] [s3] false false false = some true := by unfold kernel_blank.f; decide +kernel
theorem blank1 : kernel_blank.f nProc no 0 [nP] [] [s2] false false false = some true := by unfold kernel_blank.f; decide +kernel
theorem blank0 : kernel_blank.f nLocal no 0 [nP] [] [s1] false false false = some true := by unfold kernel_blank.f; decide +kernel
theorem names0 : kernel_names.f 50 [] = some true := by decide +kernel
theorem names1 : kernel_names.f 50 [nP] = some true := by decide +kernel
theorem unlike1 : kernel_unlike.f 50 [nP] = some true := by decide +kernel
theorem unlike0 : kernel_unlike.f 50 [] = some true := by decide +kernel
set_option maxHeartbeats 2000000 in
set_option maxRecDepth 100000 in
theorem fine_skip (w : World) (m : Value) {A3 A4 A5 : Option Addr} {c3 c4 c5 : Nat} (h : SF w s3 A3 c3 A4 c4 A5 c5) :
    Calls Try.prog 53 #[.agg #[.string nSkip, .string no, .int .i64 0, .slice A3 0 c3, .slice A4 0 c4, .slice A5 0 c5], m] w (fun e w' => e = .returned (.bool true) ∧ Below w.heap.size w w') := by
  have HS := Aside0.mk h
  clear h
  go_enter Try.func53, Try.ntmps53
  go_upto_region 1 with fail
  (try simp only [Act.put, List.setIfInBounds_toArray, List.set_cons_zero, List.set_cons_succ])
  go_quiet (fail)
  go_wp2_with (first
    | (go_at_call 65; go_loud ((refine (kernel_blank.calls nSkip no 0 A3 c3 [] A4 c4 [] A5 c5 [] false false false true _ (HS.out.below HB.out).h3 HS.out.l3 (HS.out.below HB.out).h4 HS.out.l4 (HS.out.below HB.out).h5 HS.out.l5 blank3).mono ?_); rintro e w2 ⟨rfl, hb⟩; have HB2 := Aside0.mk (below_then HB.out HB.out.size hb); have C0 := Aside0.mk (blk_below B0.out hb); have x0 := (blk_cell C0.out 0).trans rfl; have x1 := (blk_cell C0.out 1).trans rfl; have x2 := (blk_cell C0.out 2).trans rfl; have x3 := (blk_cell C0.out 3).trans rfl; have x4 := (blk_cell C0.out 4).trans rfl; have x5 := (blk_cell C0.out 5).trans rfl; clear hb))
    | (go_at_call 64; (refine (kernel_names.calls 50 A3 c3 [] true _ (HS.out.below (pw_below_drewN (below_alloc (Below.refl _ _) _) _)).h3 HS.out.l3 names0).mono ?_); rintro e w2 ⟨rfl, hd⟩; have HB := Aside0.mk (below_then (pw_below_drewN (below_alloc (Below.refl _ _) _) _) (by simp) hd.below); have B0 := Aside0.mk (blk_below (blk_drewN (blk_new w _) _) hd.below); have x0 := (blk_cell B0.out 0).trans rfl; have x1 := (blk_cell B0.out 1).trans rfl; have x2 := (blk_cell B0.out 2).trans rfl; have x3 := (blk_cell B0.out 3).trans rfl; have x4 := (blk_cell B0.out 4).trans rfl; have x5 := (blk_cell B0.out 5).trans rfl; clear hd))
  go_ret
  exact ⟨rfl, HB2.out⟩
set_option maxHeartbeats 2000000 in
set_option maxRecDepth 100000 in
theorem fine_thread (w : World) (m : Value) {A3 A4 A5 : Option Addr} {c3 c4 c5 : Nat} (h : SF w s2 A3 c3 A4 c4 A5 c5) :
    Calls Try.prog 53 #[.agg #[.string nThread, .string no, .int .i64 0, .slice A3 0 c3, .slice A4 0 c4, .slice A5 1 c5], m] w (fun e w' => e = .returned (.bool true) ∧ Below w.heap.size w w') := by
  have HS := Aside0.mk h
  clear h
  go_enter Try.func53, Try.ntmps53
  go_upto_region 1 with fail
  (try simp only [Act.put, List.setIfInBounds_toArray, List.set_cons_zero, List.set_cons_succ])
  go_quiet (fail)
  go_wp2_with (first
    | (go_at_call 65; go_loud ((refine (kernel_blank.calls nThread no 0 A3 c3 [] A4 c4 [] A5 c5 [s3] false false false true _ (HS.out.below HB.out).h3 HS.out.l3 (HS.out.below HB.out).h4 HS.out.l4 (HS.out.below HB.out).h5 HS.out.l5 blank2).mono ?_); rintro e w2 ⟨rfl, hb⟩; have HB2 := Aside0.mk (below_then HB.out HB.out.size hb); have C0 := Aside0.mk (blk_below B0.out hb); have x0 := (blk_cell C0.out 0).trans rfl; have x1 := (blk_cell C0.out 1).trans rfl; have x2 := (blk_cell C0.out 2).trans rfl; have x3 := (blk_cell C0.out 3).trans rfl; have x4 := (blk_cell C0.out 4).trans rfl; have x5 := (blk_cell C0.out 5).trans rfl; clear hb))
    | (go_at_call 64; (refine (kernel_names.calls 50 A3 c3 [] true _ (HS.out.below (pw_below_drewN (below_alloc (Below.refl _ _) _) _)).h3 HS.out.l3 names0).mono ?_); rintro e w2 ⟨rfl, hd⟩; have HB := Aside0.mk (below_then (pw_below_drewN (below_alloc (Below.refl _ _) _) _) (by simp) hd.below); have B0 := Aside0.mk (blk_below (blk_drewN (blk_new w _) _) hd.below); have x0 := (blk_cell B0.out 0).trans rfl; have x1 := (blk_cell B0.out 1).trans rfl; have x2 := (blk_cell B0.out 2).trans rfl; have x3 := (blk_cell B0.out 3).trans rfl; have x4 := (blk_cell B0.out 4).trans rfl; have x5 := (blk_cell B0.out 5).trans rfl; clear hd))
  go_ret
  exact ⟨rfl, HB2.out⟩
set_option maxHeartbeats 2000000 in
set_option maxRecDepth 100000 in
theorem fine_local (w : World) (m : Value) {A3 A4 A5 : Option Addr} {c3 c4 c5 : Nat} (h : SF w s0 A3 c3 A4 c4 A5 c5) :
    Calls Try.prog 53 #[.agg #[.string nLocal, .string no, .int .i64 0, .slice A3 1 c3, .slice A4 0 c4, .slice A5 1 c5], m] w (fun e w' => e = .returned (.bool true) ∧ Below w.heap.size w w') := by
  have HS := Aside0.mk h
  clear h
  go_enter Try.func53, Try.ntmps53
  go_upto_region 1 with fail
  (try simp only [Act.put, List.setIfInBounds_toArray, List.set_cons_zero, List.set_cons_succ])
  go_quiet (fail)
  go_wp2_with (first
    | (go_at_call 66; go_loud ((refine (kernel_unlike.calls 50 A3 c3 [nP] true _ (HS.out.below HB2.out).h3 HS.out.l3 unlike1).mono ?_); rintro e w3 ⟨rfl, hd⟩; have HB3 := Aside0.mk (below_then HB2.out HB2.out.size hd.below); clear hd))
    | (go_at_call 65; go_loud ((refine (kernel_blank.calls nLocal no 0 A3 c3 [nP] A4 c4 [] A5 c5 [s1] false false false true _ (HS.out.below HB.out).h3 HS.out.l3 (HS.out.below HB.out).h4 HS.out.l4 (HS.out.below HB.out).h5 HS.out.l5 blank0).mono ?_); rintro e w2 ⟨rfl, hb⟩; have HB2 := Aside0.mk (below_then HB.out HB.out.size hb); have C0 := Aside0.mk (blk_below B0.out hb); have x0 := (blk_cell C0.out 0).trans rfl; have x1 := (blk_cell C0.out 1).trans rfl; have x2 := (blk_cell C0.out 2).trans rfl; have x3 := (blk_cell C0.out 3).trans rfl; have x4 := (blk_cell C0.out 4).trans rfl; have x5 := (blk_cell C0.out 5).trans rfl; clear hb))
    | (go_at_call 64; (refine (kernel_names.calls 50 A3 c3 [nP] true _ (HS.out.below (pw_below_drewN (below_alloc (Below.refl _ _) _) _)).h3 HS.out.l3 names1).mono ?_); rintro e w2 ⟨rfl, hd⟩; have HB := Aside0.mk (below_then (pw_below_drewN (below_alloc (Below.refl _ _) _) _) (by simp) hd.below); have B0 := Aside0.mk (blk_below (blk_drewN (blk_new w _) _) hd.below); have x0 := (blk_cell B0.out 0).trans rfl; have x1 := (blk_cell B0.out 1).trans rfl; have x2 := (blk_cell B0.out 2).trans rfl; have x3 := (blk_cell B0.out 3).trans rfl; have x4 := (blk_cell B0.out 4).trans rfl; have x5 := (blk_cell B0.out 5).trans rfl; clear hd))
  go_ret
  exact ⟨rfl, HB3.out⟩
set_option maxHeartbeats 2000000 in
set_option maxRecDepth 100000 in
theorem fine_proc (w : World) (m : Value) {a3 : Nat} {A4 A5 : Option Addr} {c4 c5 : Nat} (h : SF w s1 (some ⟨a3, 0, none⟩) 1 A4 c4 A5 c5) :
    Calls Try.prog 53 #[.agg #[.string nProc, .string no, .int .i64 0, .slice (some ⟨a3, 0, none⟩) 1 1, .slice A4 0 c4, .slice A5 1 c5], m] w (fun e w' => e = .returned (.bool true) ∧ Below w.heap.size w w') := by
  have HS := Aside0.mk h
  clear h
  go_enter Try.func53, Try.ntmps53
  go_upto_region 1 with fail
  (try simp only [Act.put, List.setIfInBounds_toArray, List.set_cons_zero, List.set_cons_succ])
  go_quiet (fail)
  go_wp2_with (first
    | (go_at_call 66; go_loud ((refine (kernel_unlike.calls 50 (some ⟨a3, 0, none⟩) 0 [] true _ ⟨rfl, by simp, fun h => absurd h (by simp)⟩ (by simp) unlike0).mono ?_); rintro e w3 ⟨rfl, hd⟩; have HB3 := Aside0.mk (below_then HB2.out HB2.out.size hd.below); clear hd))
    | (go_at_call 65; go_loud ((refine (kernel_blank.calls nProc no 0 (some ⟨a3, 0, none⟩) 1 [nP] A4 c4 [] A5 c5 [s2] false false false true _ (HS.out.below HB.out).h3 HS.out.l3 (HS.out.below HB.out).h4 HS.out.l4 (HS.out.below HB.out).h5 HS.out.l5 blank1).mono ?_); rintro e w2 ⟨rfl, hb⟩; have HB2 := Aside0.mk (below_then HB.out HB.out.size hb); have C0 := Aside0.mk (blk_below B0.out hb); have x0 := (blk_cell C0.out 0).trans rfl; have x1 := (blk_cell C0.out 1).trans rfl; have x2 := (blk_cell C0.out 2).trans rfl; have x3 := (blk_cell C0.out 3).trans rfl; have x4 := (blk_cell C0.out 4).trans rfl; have x5 := (blk_cell C0.out 5).trans rfl; clear hb))
    | (go_at_call 64; (refine (kernel_names.calls 50 (some ⟨a3, 0, none⟩) 1 [nP] true _ (HS.out.below (pw_below_drewN (below_alloc (Below.refl _ _) _) _)).h3 HS.out.l3 names1).mono ?_); rintro e w2 ⟨rfl, hd⟩; have HB := Aside0.mk (below_then (pw_below_drewN (below_alloc (Below.refl _ _) _) _) (by simp) hd.below); have B0 := Aside0.mk (blk_below (blk_drewN (blk_new w _) _) hd.below); have x0 := (blk_cell B0.out 0).trans rfl; have x1 := (blk_cell B0.out 1).trans rfl; have x2 := (blk_cell B0.out 2).trans rfl; have x3 := (blk_cell B0.out 3).trans rfl; have x4 := (blk_cell B0.out 4).trans rfl; have x5 := (blk_cell B0.out 5).trans rfl; clear hd))
  go_ret
  exact ⟨rfl, HB3.out⟩
end Go.Proofs.Ytelmcnngocklfaa.Need
