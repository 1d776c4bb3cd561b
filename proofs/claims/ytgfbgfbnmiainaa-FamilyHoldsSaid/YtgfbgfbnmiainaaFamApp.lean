import Derived.Test.YtgfbgfbnmiainaaFamOps
import Derived.Test.YtgfbgfbnmiainaaQuietLast
/-! apply: what follows from a relation, once: a kind of relation each. -/
namespace Go.Proofs.Ytgfbgfbnmiainaa.Fam
set_option linter.unusedVariables false
set_option linter.unusedSimpArgs false
open Go.RowKit Go.Proofs.YtgfbgfbnmiainaaW.PrintWords Go.Proofs.YtgfbgfbnmiainaaW.PrintLast Go.Proofs.YtgfbgfbnmiainaaW.PrintMore Go.Proofs.Ytgfbgfbnmiainaa.Q
attribute [local go_sem] Go.Proofs.YtgfbgfbnmiainaaW.OwnWords.isSome_setCell max2_int min2_int
attribute [local go_sem high] eqA59
def partL (k : Nat) (a b : Int) (t : St) : Option St :=
  (putL k b (intoS t.xs b (rd_T59 t.xs a).f0) t).bind fun t =>
  (putL k a (onlyS t.xs a (rd_T59 t.xs b).f1) t).bind fun t =>
  (putL k a (greatestS t.xs a (rd_T59 t.xs b).f3) t).bind fun t =>
  (putL k b (leastS t.xs b (rd_T59 t.xs a).f2) t).bind fun t =>
  some t
set_option maxHeartbeats 8000000 in
set_option maxRecDepth 100000 in
theorem apply_part (k : Nat) (g gs cap n : Nat) (t u : St) (ab ao : Nat) (vc : Nat) (a b N : Int) (w0 w1 w : World) (la : 0 ≤ a) (ra : a < n) (lb : 0 ≤ b) (rb : b < n) (q0 : w.cell? ⟨ab, ao, none⟩ = some (.int .i64 a)) (q1 : w.cell? ⟨ab, ao + 1, none⟩ = some (.int .i64 b)) (hF : Fx w0 w1 w g (.slice (some ⟨gs, 0, none⟩) n cap) t.xs t.fail t.moved) (hn : partL k a b t = some u) :
    Calls Try.prog 38 #[.pointer (some ⟨g, 0, none⟩), .agg #[.string ⟨#[112, 97, 114, 116]⟩, .slice (some ⟨ab, ao, none⟩) 2 vc, .int .i64 N]] w (FxEnd w0 w1 g (.slice (some ⟨gs, 0, none⟩) n cap) u.xs u.fail u.moved) := by
  have HF := Aside0.mk hF
  have hlt := blk_lt hF.1.1
  have hne : g ≠ w.heap.size := by omega
  have hab : ab ≠ w.heap.size := by
    have := World.block_lt_of_cell? w _ q0
    exact Nat.ne_of_lt this
  have hab2 : ab < w.heap.size := World.block_lt_of_cell? w _ q0
  have hab1 : w.heap.size ≠ ab := fun e => hab e.symm
  have pa : decide (0 ≤ a) = true := decide_eq_true la
  have sa : decide (a < (n : Int)) = true := decide_eq_true ra
  have pb : decide (0 ≤ b) = true := decide_eq_true lb
  have sb : decide (b < (n : Int)) = true := decide_eq_true rb
  unfold partL at hn
  obtain ⟨t1, hn1, hn⟩ := Option.bind_eq_some_iff.mp hn
  have H1 := Aside0.mk hn1
  clear hn1
  obtain ⟨t2, hn2, hn⟩ := Option.bind_eq_some_iff.mp hn
  have H2 := Aside0.mk hn2
  clear hn2
  obtain ⟨t3, hn3, hn⟩ := Option.bind_eq_some_iff.mp hn
  have H3 := Aside0.mk hn3
  clear hn3
  obtain ⟨t4, hn4, hn⟩ := Option.bind_eq_some_iff.mp hn
  have H4 := Aside0.mk hn4
  clear hn4
  obtain rfl := Option.some.inj hn
  clear hn
  clear hF
  go_enter Try.func38, Try.ntmps38
  go_upto_region 10 with fail
  have HF1 := Aside0.mk (fx_alloc HF.out (.cells #[.string ⟨#[112, 97, 114, 116]⟩, .slice (some ⟨ab, ao, none⟩) 2 vc, .int .i64 N] 33))
  clear HF
  have HF := HF1
  clear HF1
  have g0 : World.cell? _ ⟨g, 0, none⟩ = some (.slice (some ⟨gs, 0, none⟩) n cap) := (blk_cell HF.out.1.1 0).trans rfl
  have y0 := blk_frozen HF.out.1.1 0
  have ae0 := (fx_elem HF.out a la ra).1
  clear q0 q1 hab hab1 hab2 hne hlt
  go_cut [] from 37 to 47 (fun wx => Fx w0 w1 wx g (.slice (some ⟨gs, 0, none⟩) n cap) t1.xs t1.fail t1.moved)
  case first =>
    go_wp2_with (go_at_call 71; (with_reducible refine (into_calls k g gs cap n t t1 b lb rb _ w0 w1 _ (by repeat (first | exact HF.out | refine fx_drewN ?_ _ | refine fx_drew ?_)) H1.out).mono ?_); rintro e w2 ⟨rfl, HF2⟩; replace HF2 := Aside0.mk HF2)
    all_goals ((try go_wp2_with fail); go_meet; exact HF2.out)
  case rest =>
  clear HF g0 y0 ae0
  have HF := Aside0.mk hcut
  clear hcut
  go_upto_region 11 with fail
  have g0 : World.cell? _ ⟨g, 0, none⟩ = some (.slice (some ⟨gs, 0, none⟩) n cap) := (blk_cell HF.out.1.1 0).trans rfl
  have y0 := blk_frozen HF.out.1.1 0
  have be1 := (fx_elem HF.out b lb rb).2.1
  go_cut [] from 48 to 58 (fun wx => Fx w0 w1 wx g (.slice (some ⟨gs, 0, none⟩) n cap) t2.xs t2.fail t2.moved)
  case first =>
    go_wp2_with (go_at_call 72; (with_reducible refine (only_calls k g gs cap n t1 t2 a la ra _ w0 w1 _ (by repeat (first | exact HF.out | refine fx_drewN ?_ _ | refine fx_drew ?_)) H2.out).mono ?_); rintro e w2 ⟨rfl, HF2⟩; replace HF2 := Aside0.mk HF2)
    all_goals ((try go_wp2_with fail); go_meet; exact HF2.out)
  case rest =>
  clear HF g0 y0 be1
  have HF := Aside0.mk hcut
  clear hcut
  go_upto_region 12 with fail
  have g0 : World.cell? _ ⟨g, 0, none⟩ = some (.slice (some ⟨gs, 0, none⟩) n cap) := (blk_cell HF.out.1.1 0).trans rfl
  have y0 := blk_frozen HF.out.1.1 0
  have be3 := (fx_elem HF.out b lb rb).2.2.2.1
  go_cut [] from 59 to 69 (fun wx => Fx w0 w1 wx g (.slice (some ⟨gs, 0, none⟩) n cap) t3.xs t3.fail t3.moved)
  case first =>
    go_wp2_with (go_at_call 73; (with_reducible refine (greatest_calls k g gs cap n t2 t3 a la ra _ w0 w1 _ (by repeat (first | exact HF.out | refine fx_drewN ?_ _ | refine fx_drew ?_)) H3.out).mono ?_); rintro e w2 ⟨rfl, HF2⟩; replace HF2 := Aside0.mk HF2)
    all_goals ((try go_wp2_with fail); go_meet; exact HF2.out)
  case rest =>
  clear HF g0 y0 be3
  have HF := Aside0.mk hcut
  clear hcut
  go_upto_region 13 with fail
  have g0 : World.cell? _ ⟨g, 0, none⟩ = some (.slice (some ⟨gs, 0, none⟩) n cap) := (blk_cell HF.out.1.1 0).trans rfl
  have y0 := blk_frozen HF.out.1.1 0
  have ae2 := (fx_elem HF.out a la ra).2.2.1
  go_wp2_with (go_at_call 74; (with_reducible refine (least_calls k g gs cap n t3 t4 b lb rb _ w0 w1 _ (by repeat (first | exact HF.out | refine fx_drewN ?_ _ | refine fx_drew ?_)) H4.out).mono ?_); rintro e w2 ⟨rfl, HF2⟩; replace HF2 := Aside0.mk HF2)
  all_goals (try go_wp2_with fail)
  all_goals first | exact ⟨rfl, HF2.out⟩ | (go_end0; exact ⟨rfl, HF2.out⟩) | ((try simp only [Exit.inBlock, Exit.then]); refine bodyPost_ret (results_none rfl _ _ _) rfl ?_; exact ⟨rfl, HF2.out⟩)
def apartL (k : Nat) (a b : Int) (t : St) : Option St :=
  (putL k b (onlyS t.xs b (Go.bits .xor .u64 (IntKind.max .u64) (rd_T59 t.xs a).f0)) t).bind fun t =>
  (putL k a (onlyS t.xs a (Go.bits .xor .u64 (IntKind.max .u64) (rd_T59 t.xs b).f0)) t).bind fun t =>
  some t
set_option maxHeartbeats 8000000 in
set_option maxRecDepth 100000 in
theorem apply_apart (k : Nat) (g gs cap n : Nat) (t u : St) (ab ao : Nat) (vc : Nat) (a b N : Int) (w0 w1 w : World) (la : 0 ≤ a) (ra : a < n) (lb : 0 ≤ b) (rb : b < n) (q0 : w.cell? ⟨ab, ao, none⟩ = some (.int .i64 a)) (q1 : w.cell? ⟨ab, ao + 1, none⟩ = some (.int .i64 b)) (hF : Fx w0 w1 w g (.slice (some ⟨gs, 0, none⟩) n cap) t.xs t.fail t.moved) (hn : apartL k a b t = some u) :
    Calls Try.prog 38 #[.pointer (some ⟨g, 0, none⟩), .agg #[.string ⟨#[97, 112, 97, 114, 116]⟩, .slice (some ⟨ab, ao, none⟩) 2 vc, .int .i64 N]] w (FxEnd w0 w1 g (.slice (some ⟨gs, 0, none⟩) n cap) u.xs u.fail u.moved) := by
  have HF := Aside0.mk hF
  have hlt := blk_lt hF.1.1
  have hne : g ≠ w.heap.size := by omega
  have hab : ab ≠ w.heap.size := by
    have := World.block_lt_of_cell? w _ q0
    exact Nat.ne_of_lt this
  have hab2 : ab < w.heap.size := World.block_lt_of_cell? w _ q0
  have hab1 : w.heap.size ≠ ab := fun e => hab e.symm
  have pa : decide (0 ≤ a) = true := decide_eq_true la
  have sa : decide (a < (n : Int)) = true := decide_eq_true ra
  have pb : decide (0 ≤ b) = true := decide_eq_true lb
  have sb : decide (b < (n : Int)) = true := decide_eq_true rb
  unfold apartL at hn
  obtain ⟨t1, hn1, hn⟩ := Option.bind_eq_some_iff.mp hn
  have H1 := Aside0.mk hn1
  clear hn1
  obtain ⟨t2, hn2, hn⟩ := Option.bind_eq_some_iff.mp hn
  have H2 := Aside0.mk hn2
  clear hn2
  obtain rfl := Option.some.inj hn
  clear hn
  clear hF
  go_enter Try.func38, Try.ntmps38
  go_upto_region 15 with fail
  have HF1 := Aside0.mk (fx_alloc HF.out (.cells #[.string ⟨#[97, 112, 97, 114, 116]⟩, .slice (some ⟨ab, ao, none⟩) 2 vc, .int .i64 N] 33))
  clear HF
  have HF := HF1
  clear HF1
  have g0 : World.cell? _ ⟨g, 0, none⟩ = some (.slice (some ⟨gs, 0, none⟩) n cap) := (blk_cell HF.out.1.1 0).trans rfl
  have y0 := blk_frozen HF.out.1.1 0
  have ae0 := (fx_elem HF.out a la ra).1
  clear q0 q1 hab hab1 hab2 hne hlt
  go_cut [] from 83 to 94 (fun wx => Fx w0 w1 wx g (.slice (some ⟨gs, 0, none⟩) n cap) t1.xs t1.fail t1.moved)
  case first =>
    go_wp2_with (go_at_call 72; (with_reducible refine (only_calls k g gs cap n t t1 b lb rb _ w0 w1 _ (by repeat (first | exact HF.out | refine fx_drewN ?_ _ | refine fx_drew ?_)) H1.out).mono ?_); rintro e w2 ⟨rfl, HF2⟩; replace HF2 := Aside0.mk HF2)
    all_goals ((try go_wp2_with fail); go_meet; exact HF2.out)
  case rest =>
  clear HF g0 y0 ae0
  have HF := Aside0.mk hcut
  clear hcut
  go_upto_region 16 with fail
  have g0 : World.cell? _ ⟨g, 0, none⟩ = some (.slice (some ⟨gs, 0, none⟩) n cap) := (blk_cell HF.out.1.1 0).trans rfl
  have y0 := blk_frozen HF.out.1.1 0
  have be0 := (fx_elem HF.out b lb rb).1
  go_wp2_with (go_at_call 72; (with_reducible refine (only_calls k g gs cap n t1 t2 a la ra _ w0 w1 _ (by repeat (first | exact HF.out | refine fx_drewN ?_ _ | refine fx_drew ?_)) H2.out).mono ?_); rintro e w2 ⟨rfl, HF2⟩; replace HF2 := Aside0.mk HF2)
  all_goals (try go_wp2_with fail)
  all_goals first | exact ⟨rfl, HF2.out⟩ | (go_end0; exact ⟨rfl, HF2.out⟩) | ((try simp only [Exit.inBlock, Exit.then]); refine bodyPost_ret (results_none rfl _ _ _) rfl ?_; exact ⟨rfl, HF2.out⟩)
def unionL (k : Nat) (a b c : Int) (t : St) : Option St :=
  (putL k c (intoS t.xs c (Go.bits .or .u64 (rd_T59 t.xs a).f0 (rd_T59 t.xs b).f0)) t).bind fun t =>
  (putL k a (onlyS t.xs a (rd_T59 t.xs c).f1) t).bind fun t =>
  (putL k b (onlyS t.xs b (rd_T59 t.xs c).f1) t).bind fun t =>
  (putL k c (onlyS t.xs c (Go.bits .or .u64 (rd_T59 t.xs a).f1 (rd_T59 t.xs b).f1)) t).bind fun t =>
  (putL k b (intoS t.xs b (Go.bits .andNot .u64 (rd_T59 t.xs c).f0 (rd_T59 t.xs a).f1)) t).bind fun t =>
  (putL k a (intoS t.xs a (Go.bits .andNot .u64 (rd_T59 t.xs c).f0 (rd_T59 t.xs b).f1)) t).bind fun t =>
  (putL k c (greatestS t.xs c (wrap64 ((rd_T59 t.xs a).f3 + (rd_T59 t.xs b).f3))) t).bind fun t =>
  (putL k c (leastS t.xs c (if (rd_T59 t.xs a).f2 < (rd_T59 t.xs b).f2 then (rd_T59 t.xs b).f2 else (rd_T59 t.xs a).f2)) t).bind fun t =>
  some t
set_option maxHeartbeats 8000000 in
set_option maxRecDepth 100000 in
theorem apply_union (k : Nat) (g gs cap n : Nat) (t u : St) (ab ao : Nat) (vc : Nat) (a b c N : Int) (w0 w1 w : World) (la : 0 ≤ a) (ra : a < n) (lb : 0 ≤ b) (rb : b < n) (lc : 0 ≤ c) (rc : c < n) (q0 : w.cell? ⟨ab, ao, none⟩ = some (.int .i64 a)) (q1 : w.cell? ⟨ab, ao + 1, none⟩ = some (.int .i64 b)) (q2 : w.cell? ⟨ab, ao + 2, none⟩ = some (.int .i64 c)) (hF : Fx w0 w1 w g (.slice (some ⟨gs, 0, none⟩) n cap) t.xs t.fail t.moved) (hn : unionL k a b c t = some u) :
    Calls Try.prog 38 #[.pointer (some ⟨g, 0, none⟩), .agg #[.string ⟨#[117, 110, 105, 111, 110]⟩, .slice (some ⟨ab, ao, none⟩) 3 vc, .int .i64 N]] w (FxEnd w0 w1 g (.slice (some ⟨gs, 0, none⟩) n cap) u.xs u.fail u.moved) := by
  have HF := Aside0.mk hF
  have hlt := blk_lt hF.1.1
  have hne : g ≠ w.heap.size := by omega
  have hab : ab ≠ w.heap.size := by
    have := World.block_lt_of_cell? w _ q0
    exact Nat.ne_of_lt this
  have hab2 : ab < w.heap.size := World.block_lt_of_cell? w _ q0
  have hab1 : w.heap.size ≠ ab := fun e => hab e.symm
  have pa : decide (0 ≤ a) = true := decide_eq_true la
  have sa : decide (a < (n : Int)) = true := decide_eq_true ra
  have pb : decide (0 ≤ b) = true := decide_eq_true lb
  have sb : decide (b < (n : Int)) = true := decide_eq_true rb
  have pc : decide (0 ≤ c) = true := decide_eq_true lc
  have sc : decide (c < (n : Int)) = true := decide_eq_true rc
  unfold unionL at hn
  obtain ⟨t1, hn1, hn⟩ := Option.bind_eq_some_iff.mp hn
  have H1 := Aside0.mk hn1
  clear hn1
  obtain ⟨t2, hn2, hn⟩ := Option.bind_eq_some_iff.mp hn
  have H2 := Aside0.mk hn2
  clear hn2
  obtain ⟨t3, hn3, hn⟩ := Option.bind_eq_some_iff.mp hn
  have H3 := Aside0.mk hn3
  clear hn3
  obtain ⟨t4, hn4, hn⟩ := Option.bind_eq_some_iff.mp hn
  have H4 := Aside0.mk hn4
  clear hn4
  obtain ⟨t5, hn5, hn⟩ := Option.bind_eq_some_iff.mp hn
  have H5 := Aside0.mk hn5
  clear hn5
  obtain ⟨t6, hn6, hn⟩ := Option.bind_eq_some_iff.mp hn
  have H6 := Aside0.mk hn6
  clear hn6
  obtain ⟨t7, hn7, hn⟩ := Option.bind_eq_some_iff.mp hn
  have H7 := Aside0.mk hn7
  clear hn7
  obtain ⟨t8, hn8, hn⟩ := Option.bind_eq_some_iff.mp hn
  have H8 := Aside0.mk hn8
  clear hn8
  obtain rfl := Option.some.inj hn
  clear hn
  clear hF
  go_enter Try.func38, Try.ntmps38
  go_upto_region 18 with fail
  have HF1 := Aside0.mk (fx_alloc HF.out (.cells #[.string ⟨#[117, 110, 105, 111, 110]⟩, .slice (some ⟨ab, ao, none⟩) 3 vc, .int .i64 N] 33))
  clear HF
  have HF := HF1
  clear HF1
  have g0 : World.cell? _ ⟨g, 0, none⟩ = some (.slice (some ⟨gs, 0, none⟩) n cap) := (blk_cell HF.out.1.1 0).trans rfl
  have y0 := blk_frozen HF.out.1.1 0
  have ae0 := (fx_elem HF.out a la ra).1
  have be0 := (fx_elem HF.out b lb rb).1
  clear q0 q1 q2 hab hab1 hab2 hne hlt
  go_cut [] from 109 to 128 (fun wx => Fx w0 w1 wx g (.slice (some ⟨gs, 0, none⟩) n cap) t1.xs t1.fail t1.moved)
  case first =>
    refine QuietLast.wp_region_qlast (by kernel_rfl) (by kernel_rfl) ?_
    dsimp only [QuietLast.initL, QuietLast.lastL]
    repeat (go_big_quiet_step (fail))
    refine wpQuiet_nil ?_
    intro _ hw'
    obtain ⟨nq, hw''⟩ := hw'
    subst hw''
    go_wp2_with (go_at_call 71; (with_reducible refine (into_calls k g gs cap n t t1 c lc rc _ w0 w1 _ (by repeat (first | exact HF.out | refine fx_drewN ?_ _ | refine fx_drew ?_)) H1.out).mono ?_); rintro e w2 ⟨rfl, HF2⟩; replace HF2 := Aside0.mk HF2)
    all_goals ((try go_wp2_with fail); go_meet; exact HF2.out)
  case rest =>
  clear HF g0 y0 ae0 be0
  have HF := Aside0.mk hcut
  clear hcut
  go_upto_region 19 with fail
  have g0 : World.cell? _ ⟨g, 0, none⟩ = some (.slice (some ⟨gs, 0, none⟩) n cap) := (blk_cell HF.out.1.1 0).trans rfl
  have y0 := blk_frozen HF.out.1.1 0
  have ce1 := (fx_elem HF.out c lc rc).2.1
  go_cut [] from 129 to 139 (fun wx => Fx w0 w1 wx g (.slice (some ⟨gs, 0, none⟩) n cap) t2.xs t2.fail t2.moved)
  case first =>
    go_wp2_with (go_at_call 72; (with_reducible refine (only_calls k g gs cap n t1 t2 a la ra _ w0 w1 _ (by repeat (first | exact HF.out | refine fx_drewN ?_ _ | refine fx_drew ?_)) H2.out).mono ?_); rintro e w2 ⟨rfl, HF2⟩; replace HF2 := Aside0.mk HF2)
    all_goals ((try go_wp2_with fail); go_meet; exact HF2.out)
  case rest =>
  clear HF g0 y0 ce1
  have HF := Aside0.mk hcut
  clear hcut
  go_upto_region 20 with fail
  have g0 : World.cell? _ ⟨g, 0, none⟩ = some (.slice (some ⟨gs, 0, none⟩) n cap) := (blk_cell HF.out.1.1 0).trans rfl
  have y0 := blk_frozen HF.out.1.1 0
  have ce1 := (fx_elem HF.out c lc rc).2.1
  go_cut [] from 140 to 150 (fun wx => Fx w0 w1 wx g (.slice (some ⟨gs, 0, none⟩) n cap) t3.xs t3.fail t3.moved)
  case first =>
    go_wp2_with (go_at_call 72; (with_reducible refine (only_calls k g gs cap n t2 t3 b lb rb _ w0 w1 _ (by repeat (first | exact HF.out | refine fx_drewN ?_ _ | refine fx_drew ?_)) H3.out).mono ?_); rintro e w2 ⟨rfl, HF2⟩; replace HF2 := Aside0.mk HF2)
    all_goals ((try go_wp2_with fail); go_meet; exact HF2.out)
  case rest =>
  clear HF g0 y0 ce1
  have HF := Aside0.mk hcut
  clear hcut
  go_upto_region 21 with fail
  have g0 : World.cell? _ ⟨g, 0, none⟩ = some (.slice (some ⟨gs, 0, none⟩) n cap) := (blk_cell HF.out.1.1 0).trans rfl
  have y0 := blk_frozen HF.out.1.1 0
  have ae1 := (fx_elem HF.out a la ra).2.1
  have be1 := (fx_elem HF.out b lb rb).2.1
  go_cut [] from 151 to 170 (fun wx => Fx w0 w1 wx g (.slice (some ⟨gs, 0, none⟩) n cap) t4.xs t4.fail t4.moved)
  case first =>
    refine QuietLast.wp_region_qlast (by kernel_rfl) (by kernel_rfl) ?_
    dsimp only [QuietLast.initL, QuietLast.lastL]
    repeat (go_big_quiet_step (fail))
    refine wpQuiet_nil ?_
    intro _ hw'
    obtain ⟨nq, hw''⟩ := hw'
    subst hw''
    go_wp2_with (go_at_call 72; (with_reducible refine (only_calls k g gs cap n t3 t4 c lc rc _ w0 w1 _ (by repeat (first | exact HF.out | refine fx_drewN ?_ _ | refine fx_drew ?_)) H4.out).mono ?_); rintro e w2 ⟨rfl, HF2⟩; replace HF2 := Aside0.mk HF2)
    all_goals ((try go_wp2_with fail); go_meet; exact HF2.out)
  case rest =>
  clear HF g0 y0 ae1 be1
  have HF := Aside0.mk hcut
  clear hcut
  go_upto_region 22 with fail
  have g0 : World.cell? _ ⟨g, 0, none⟩ = some (.slice (some ⟨gs, 0, none⟩) n cap) := (blk_cell HF.out.1.1 0).trans rfl
  have y0 := blk_frozen HF.out.1.1 0
  have ae1 := (fx_elem HF.out a la ra).2.1
  have ce0 := (fx_elem HF.out c lc rc).1
  go_cut [] from 171 to 190 (fun wx => Fx w0 w1 wx g (.slice (some ⟨gs, 0, none⟩) n cap) t5.xs t5.fail t5.moved)
  case first =>
    refine QuietLast.wp_region_qlast (by kernel_rfl) (by kernel_rfl) ?_
    dsimp only [QuietLast.initL, QuietLast.lastL]
    repeat (go_big_quiet_step (fail))
    refine wpQuiet_nil ?_
    intro _ hw'
    obtain ⟨nq, hw''⟩ := hw'
    subst hw''
    go_wp2_with (go_at_call 71; (with_reducible refine (into_calls k g gs cap n t4 t5 b lb rb _ w0 w1 _ (by repeat (first | exact HF.out | refine fx_drewN ?_ _ | refine fx_drew ?_)) H5.out).mono ?_); rintro e w2 ⟨rfl, HF2⟩; replace HF2 := Aside0.mk HF2)
    all_goals ((try go_wp2_with fail); go_meet; exact HF2.out)
  case rest =>
  clear HF g0 y0 ae1 ce0
  have HF := Aside0.mk hcut
  clear hcut
  go_upto_region 23 with fail
  have g0 : World.cell? _ ⟨g, 0, none⟩ = some (.slice (some ⟨gs, 0, none⟩) n cap) := (blk_cell HF.out.1.1 0).trans rfl
  have y0 := blk_frozen HF.out.1.1 0
  have be1 := (fx_elem HF.out b lb rb).2.1
  have ce0 := (fx_elem HF.out c lc rc).1
  go_cut [] from 191 to 210 (fun wx => Fx w0 w1 wx g (.slice (some ⟨gs, 0, none⟩) n cap) t6.xs t6.fail t6.moved)
  case first =>
    refine QuietLast.wp_region_qlast (by kernel_rfl) (by kernel_rfl) ?_
    dsimp only [QuietLast.initL, QuietLast.lastL]
    repeat (go_big_quiet_step (fail))
    refine wpQuiet_nil ?_
    intro _ hw'
    obtain ⟨nq, hw''⟩ := hw'
    subst hw''
    go_wp2_with (go_at_call 71; (with_reducible refine (into_calls k g gs cap n t5 t6 a la ra _ w0 w1 _ (by repeat (first | exact HF.out | refine fx_drewN ?_ _ | refine fx_drew ?_)) H6.out).mono ?_); rintro e w2 ⟨rfl, HF2⟩; replace HF2 := Aside0.mk HF2)
    all_goals ((try go_wp2_with fail); go_meet; exact HF2.out)
  case rest =>
  clear HF g0 y0 be1 ce0
  have HF := Aside0.mk hcut
  clear hcut
  go_upto_region 24 with fail
  have g0 : World.cell? _ ⟨g, 0, none⟩ = some (.slice (some ⟨gs, 0, none⟩) n cap) := (blk_cell HF.out.1.1 0).trans rfl
  have y0 := blk_frozen HF.out.1.1 0
  have ae3 := (fx_elem HF.out a la ra).2.2.2.1
  have be3 := (fx_elem HF.out b lb rb).2.2.2.1
  go_cut [] from 211 to 230 (fun wx => Fx w0 w1 wx g (.slice (some ⟨gs, 0, none⟩) n cap) t7.xs t7.fail t7.moved)
  case first =>
    refine QuietLast.wp_region_qlast (by kernel_rfl) (by kernel_rfl) ?_
    dsimp only [QuietLast.initL, QuietLast.lastL]
    repeat (go_big_quiet_step (fail))
    refine wpQuiet_nil ?_
    intro _ hw'
    obtain ⟨nq, hw''⟩ := hw'
    subst hw''
    go_wp2_with (go_at_call 73; (with_reducible refine (greatest_calls k g gs cap n t6 t7 c lc rc _ w0 w1 _ (by repeat (first | exact HF.out | refine fx_drewN ?_ _ | refine fx_drew ?_)) H7.out).mono ?_); rintro e w2 ⟨rfl, HF2⟩; replace HF2 := Aside0.mk HF2)
    all_goals ((try go_wp2_with fail); go_meet; exact HF2.out)
  case rest =>
  clear HF g0 y0 ae3 be3
  have HF := Aside0.mk hcut
  clear hcut
  go_upto_region 25 with fail
  have g0 : World.cell? _ ⟨g, 0, none⟩ = some (.slice (some ⟨gs, 0, none⟩) n cap) := (blk_cell HF.out.1.1 0).trans rfl
  have y0 := blk_frozen HF.out.1.1 0
  have ae2 := (fx_elem HF.out a la ra).2.2.1
  have be2 := (fx_elem HF.out b lb rb).2.2.1
  refine QuietLast.wp_region_qlast (by kernel_rfl) (by kernel_rfl) ?_
  dsimp only [QuietLast.initL, QuietLast.lastL]
  repeat (go_big_quiet_step (fail))
  refine wpQuiet_nil ?_
  intro _ hw'
  obtain ⟨nq, hw''⟩ := hw'
  subst hw''
  go_wp2_with (go_at_call 74; (with_reducible refine (least_calls k g gs cap n t7 t8 c lc rc _ w0 w1 _ (by repeat (first | exact HF.out | refine fx_drewN ?_ _ | refine fx_drew ?_)) H8.out).mono ?_); rintro e w2 ⟨rfl, HF2⟩; replace HF2 := Aside0.mk HF2)
  all_goals (try go_wp2_with fail)
  all_goals first | exact ⟨rfl, HF2.out⟩ | (go_end0; exact ⟨rfl, HF2.out⟩) | ((try simp only [Exit.inBlock, Exit.then]); refine bodyPost_ret (results_none rfl _ _ _) rfl ?_; exact ⟨rfl, HF2.out⟩)
def meetL (k : Nat) (a b c : Int) (t : St) : Option St :=
  (putL k c (intoS t.xs c (Go.bits .and .u64 (rd_T59 t.xs a).f0 (rd_T59 t.xs b).f0)) t).bind fun t =>
  (putL k a (intoS t.xs a (rd_T59 t.xs c).f0) t).bind fun t =>
  (putL k b (intoS t.xs b (rd_T59 t.xs c).f0) t).bind fun t =>
  (putL k c (onlyS t.xs c (Go.bits .and .u64 (rd_T59 t.xs a).f1 (rd_T59 t.xs b).f1)) t).bind fun t =>
  (putL k b (onlyS t.xs b (Go.bits .xor .u64 (IntKind.max .u64) (Go.bits .andNot .u64 (rd_T59 t.xs a).f0 (rd_T59 t.xs c).f1))) t).bind fun t =>
  (putL k a (onlyS t.xs a (Go.bits .xor .u64 (IntKind.max .u64) (Go.bits .andNot .u64 (rd_T59 t.xs b).f0 (rd_T59 t.xs c).f1))) t).bind fun t =>
  (putL k c (greatestS t.xs c (if (rd_T59 t.xs b).f3 < (rd_T59 t.xs a).f3 then (rd_T59 t.xs b).f3 else (rd_T59 t.xs a).f3)) t).bind fun t =>
  some t
set_option maxHeartbeats 8000000 in
set_option maxRecDepth 100000 in
theorem apply_meet (k : Nat) (g gs cap n : Nat) (t u : St) (ab ao : Nat) (vc : Nat) (a b c N : Int) (w0 w1 w : World) (la : 0 ≤ a) (ra : a < n) (lb : 0 ≤ b) (rb : b < n) (lc : 0 ≤ c) (rc : c < n) (q0 : w.cell? ⟨ab, ao, none⟩ = some (.int .i64 a)) (q1 : w.cell? ⟨ab, ao + 1, none⟩ = some (.int .i64 b)) (q2 : w.cell? ⟨ab, ao + 2, none⟩ = some (.int .i64 c)) (hF : Fx w0 w1 w g (.slice (some ⟨gs, 0, none⟩) n cap) t.xs t.fail t.moved) (hn : meetL k a b c t = some u) :
    Calls Try.prog 38 #[.pointer (some ⟨g, 0, none⟩), .agg #[.string ⟨#[109, 101, 101, 116]⟩, .slice (some ⟨ab, ao, none⟩) 3 vc, .int .i64 N]] w (FxEnd w0 w1 g (.slice (some ⟨gs, 0, none⟩) n cap) u.xs u.fail u.moved) := by
  have HF := Aside0.mk hF
  have hlt := blk_lt hF.1.1
  have hne : g ≠ w.heap.size := by omega
  have hab : ab ≠ w.heap.size := by
    have := World.block_lt_of_cell? w _ q0
    exact Nat.ne_of_lt this
  have hab2 : ab < w.heap.size := World.block_lt_of_cell? w _ q0
  have hab1 : w.heap.size ≠ ab := fun e => hab e.symm
  have pa : decide (0 ≤ a) = true := decide_eq_true la
  have sa : decide (a < (n : Int)) = true := decide_eq_true ra
  have pb : decide (0 ≤ b) = true := decide_eq_true lb
  have sb : decide (b < (n : Int)) = true := decide_eq_true rb
  have pc : decide (0 ≤ c) = true := decide_eq_true lc
  have sc : decide (c < (n : Int)) = true := decide_eq_true rc
  unfold meetL at hn
  obtain ⟨t1, hn1, hn⟩ := Option.bind_eq_some_iff.mp hn
  have H1 := Aside0.mk hn1
  clear hn1
  obtain ⟨t2, hn2, hn⟩ := Option.bind_eq_some_iff.mp hn
  have H2 := Aside0.mk hn2
  clear hn2
  obtain ⟨t3, hn3, hn⟩ := Option.bind_eq_some_iff.mp hn
  have H3 := Aside0.mk hn3
  clear hn3
  obtain ⟨t4, hn4, hn⟩ := Option.bind_eq_some_iff.mp hn
  have H4 := Aside0.mk hn4
  clear hn4
  obtain ⟨t5, hn5, hn⟩ := Option.bind_eq_some_iff.mp hn
  have H5 := Aside0.mk hn5
  clear hn5
  obtain ⟨t6, hn6, hn⟩ := Option.bind_eq_some_iff.mp hn
  have H6 := Aside0.mk hn6
  clear hn6
  obtain ⟨t7, hn7, hn⟩ := Option.bind_eq_some_iff.mp hn
  have H7 := Aside0.mk hn7
  clear hn7
  obtain rfl := Option.some.inj hn
  clear hn
  clear hF
  go_enter Try.func38, Try.ntmps38
  go_upto_region 27 with fail
  have HF1 := Aside0.mk (fx_alloc HF.out (.cells #[.string ⟨#[109, 101, 101, 116]⟩, .slice (some ⟨ab, ao, none⟩) 3 vc, .int .i64 N] 33))
  clear HF
  have HF := HF1
  clear HF1
  have g0 : World.cell? _ ⟨g, 0, none⟩ = some (.slice (some ⟨gs, 0, none⟩) n cap) := (blk_cell HF.out.1.1 0).trans rfl
  have y0 := blk_frozen HF.out.1.1 0
  have ae0 := (fx_elem HF.out a la ra).1
  have be0 := (fx_elem HF.out b lb rb).1
  clear q0 q1 q2 hab hab1 hab2 hne hlt
  go_cut [] from 253 to 272 (fun wx => Fx w0 w1 wx g (.slice (some ⟨gs, 0, none⟩) n cap) t1.xs t1.fail t1.moved)
  case first =>
    refine QuietLast.wp_region_qlast (by kernel_rfl) (by kernel_rfl) ?_
    dsimp only [QuietLast.initL, QuietLast.lastL]
    repeat (go_big_quiet_step (fail))
    refine wpQuiet_nil ?_
    intro _ hw'
    obtain ⟨nq, hw''⟩ := hw'
    subst hw''
    go_wp2_with (go_at_call 71; (with_reducible refine (into_calls k g gs cap n t t1 c lc rc _ w0 w1 _ (by repeat (first | exact HF.out | refine fx_drewN ?_ _ | refine fx_drew ?_)) H1.out).mono ?_); rintro e w2 ⟨rfl, HF2⟩; replace HF2 := Aside0.mk HF2)
    all_goals ((try go_wp2_with fail); go_meet; exact HF2.out)
  case rest =>
  clear HF g0 y0 ae0 be0
  have HF := Aside0.mk hcut
  clear hcut
  go_upto_region 28 with fail
  have g0 : World.cell? _ ⟨g, 0, none⟩ = some (.slice (some ⟨gs, 0, none⟩) n cap) := (blk_cell HF.out.1.1 0).trans rfl
  have y0 := blk_frozen HF.out.1.1 0
  have ce0 := (fx_elem HF.out c lc rc).1
  go_cut [] from 273 to 283 (fun wx => Fx w0 w1 wx g (.slice (some ⟨gs, 0, none⟩) n cap) t2.xs t2.fail t2.moved)
  case first =>
    go_wp2_with (go_at_call 71; (with_reducible refine (into_calls k g gs cap n t1 t2 a la ra _ w0 w1 _ (by repeat (first | exact HF.out | refine fx_drewN ?_ _ | refine fx_drew ?_)) H2.out).mono ?_); rintro e w2 ⟨rfl, HF2⟩; replace HF2 := Aside0.mk HF2)
    all_goals ((try go_wp2_with fail); go_meet; exact HF2.out)
  case rest =>
  clear HF g0 y0 ce0
  have HF := Aside0.mk hcut
  clear hcut
  go_upto_region 29 with fail
  have g0 : World.cell? _ ⟨g, 0, none⟩ = some (.slice (some ⟨gs, 0, none⟩) n cap) := (blk_cell HF.out.1.1 0).trans rfl
  have y0 := blk_frozen HF.out.1.1 0
  have ce0 := (fx_elem HF.out c lc rc).1
  go_cut [] from 284 to 294 (fun wx => Fx w0 w1 wx g (.slice (some ⟨gs, 0, none⟩) n cap) t3.xs t3.fail t3.moved)
  case first =>
    go_wp2_with (go_at_call 71; (with_reducible refine (into_calls k g gs cap n t2 t3 b lb rb _ w0 w1 _ (by repeat (first | exact HF.out | refine fx_drewN ?_ _ | refine fx_drew ?_)) H3.out).mono ?_); rintro e w2 ⟨rfl, HF2⟩; replace HF2 := Aside0.mk HF2)
    all_goals ((try go_wp2_with fail); go_meet; exact HF2.out)
  case rest =>
  clear HF g0 y0 ce0
  have HF := Aside0.mk hcut
  clear hcut
  go_upto_region 30 with fail
  have g0 : World.cell? _ ⟨g, 0, none⟩ = some (.slice (some ⟨gs, 0, none⟩) n cap) := (blk_cell HF.out.1.1 0).trans rfl
  have y0 := blk_frozen HF.out.1.1 0
  have ae1 := (fx_elem HF.out a la ra).2.1
  have be1 := (fx_elem HF.out b lb rb).2.1
  go_cut [] from 295 to 314 (fun wx => Fx w0 w1 wx g (.slice (some ⟨gs, 0, none⟩) n cap) t4.xs t4.fail t4.moved)
  case first =>
    refine QuietLast.wp_region_qlast (by kernel_rfl) (by kernel_rfl) ?_
    dsimp only [QuietLast.initL, QuietLast.lastL]
    repeat (go_big_quiet_step (fail))
    refine wpQuiet_nil ?_
    intro _ hw'
    obtain ⟨nq, hw''⟩ := hw'
    subst hw''
    go_wp2_with (go_at_call 72; (with_reducible refine (only_calls k g gs cap n t3 t4 c lc rc _ w0 w1 _ (by repeat (first | exact HF.out | refine fx_drewN ?_ _ | refine fx_drew ?_)) H4.out).mono ?_); rintro e w2 ⟨rfl, HF2⟩; replace HF2 := Aside0.mk HF2)
    all_goals ((try go_wp2_with fail); go_meet; exact HF2.out)
  case rest =>
  clear HF g0 y0 ae1 be1
  have HF := Aside0.mk hcut
  clear hcut
  go_upto_region 31 with fail
  have g0 : World.cell? _ ⟨g, 0, none⟩ = some (.slice (some ⟨gs, 0, none⟩) n cap) := (blk_cell HF.out.1.1 0).trans rfl
  have y0 := blk_frozen HF.out.1.1 0
  have ae0 := (fx_elem HF.out a la ra).1
  have ce1 := (fx_elem HF.out c lc rc).2.1
  go_cut [] from 315 to 335 (fun wx => Fx w0 w1 wx g (.slice (some ⟨gs, 0, none⟩) n cap) t5.xs t5.fail t5.moved)
  case first =>
    refine QuietLast.wp_region_qlast (by kernel_rfl) (by kernel_rfl) ?_
    dsimp only [QuietLast.initL, QuietLast.lastL]
    repeat (go_big_quiet_step (fail))
    refine wpQuiet_nil ?_
    intro _ hw'
    obtain ⟨nq, hw''⟩ := hw'
    subst hw''
    go_wp2_with (go_at_call 72; (with_reducible refine (only_calls k g gs cap n t4 t5 b lb rb _ w0 w1 _ (by repeat (first | exact HF.out | refine fx_drewN ?_ _ | refine fx_drew ?_)) H5.out).mono ?_); rintro e w2 ⟨rfl, HF2⟩; replace HF2 := Aside0.mk HF2)
    all_goals ((try go_wp2_with fail); go_meet; exact HF2.out)
  case rest =>
  clear HF g0 y0 ae0 ce1
  have HF := Aside0.mk hcut
  clear hcut
  go_upto_region 32 with fail
  have g0 : World.cell? _ ⟨g, 0, none⟩ = some (.slice (some ⟨gs, 0, none⟩) n cap) := (blk_cell HF.out.1.1 0).trans rfl
  have y0 := blk_frozen HF.out.1.1 0
  have be0 := (fx_elem HF.out b lb rb).1
  have ce1 := (fx_elem HF.out c lc rc).2.1
  go_cut [] from 336 to 356 (fun wx => Fx w0 w1 wx g (.slice (some ⟨gs, 0, none⟩) n cap) t6.xs t6.fail t6.moved)
  case first =>
    refine QuietLast.wp_region_qlast (by kernel_rfl) (by kernel_rfl) ?_
    dsimp only [QuietLast.initL, QuietLast.lastL]
    repeat (go_big_quiet_step (fail))
    refine wpQuiet_nil ?_
    intro _ hw'
    obtain ⟨nq, hw''⟩ := hw'
    subst hw''
    go_wp2_with (go_at_call 72; (with_reducible refine (only_calls k g gs cap n t5 t6 a la ra _ w0 w1 _ (by repeat (first | exact HF.out | refine fx_drewN ?_ _ | refine fx_drew ?_)) H6.out).mono ?_); rintro e w2 ⟨rfl, HF2⟩; replace HF2 := Aside0.mk HF2)
    all_goals ((try go_wp2_with fail); go_meet; exact HF2.out)
  case rest =>
  clear HF g0 y0 be0 ce1
  have HF := Aside0.mk hcut
  clear hcut
  go_upto_region 33 with fail
  have g0 : World.cell? _ ⟨g, 0, none⟩ = some (.slice (some ⟨gs, 0, none⟩) n cap) := (blk_cell HF.out.1.1 0).trans rfl
  have y0 := blk_frozen HF.out.1.1 0
  have ae3 := (fx_elem HF.out a la ra).2.2.2.1
  have be3 := (fx_elem HF.out b lb rb).2.2.2.1
  refine QuietLast.wp_region_qlast (by kernel_rfl) (by kernel_rfl) ?_
  dsimp only [QuietLast.initL, QuietLast.lastL]
  repeat (go_big_quiet_step (fail))
  refine wpQuiet_nil ?_
  intro _ hw'
  obtain ⟨nq, hw''⟩ := hw'
  subst hw''
  go_wp2_with (go_at_call 73; (with_reducible refine (greatest_calls k g gs cap n t6 t7 c lc rc _ w0 w1 _ (by repeat (first | exact HF.out | refine fx_drewN ?_ _ | refine fx_drew ?_)) H7.out).mono ?_); rintro e w2 ⟨rfl, HF2⟩; replace HF2 := Aside0.mk HF2)
  all_goals (try go_wp2_with fail)
  all_goals first | exact ⟨rfl, HF2.out⟩ | (go_end0; exact ⟨rfl, HF2.out⟩) | ((try simp only [Exit.inBlock, Exit.then]); refine bodyPost_ret (results_none rfl _ _ _) rfl ?_; exact ⟨rfl, HF2.out⟩)
def minusL (k : Nat) (a b c : Int) (t : St) : Option St :=
  (putL k c (intoS t.xs c (Go.bits .andNot .u64 (rd_T59 t.xs a).f0 (rd_T59 t.xs b).f1)) t).bind fun t =>
  (putL k a (intoS t.xs a (rd_T59 t.xs c).f0) t).bind fun t =>
  (putL k b (onlyS t.xs b (Go.bits .xor .u64 (IntKind.max .u64) (rd_T59 t.xs c).f0)) t).bind fun t =>
  (putL k c (onlyS t.xs c (Go.bits .andNot .u64 (rd_T59 t.xs a).f1 (rd_T59 t.xs b).f0)) t).bind fun t =>
  (putL k b (intoS t.xs b (Go.bits .andNot .u64 (rd_T59 t.xs a).f0 (rd_T59 t.xs c).f1)) t).bind fun t =>
  (putL k c (greatestS t.xs c (rd_T59 t.xs a).f3) t).bind fun t =>
  some t
set_option maxHeartbeats 8000000 in
set_option maxRecDepth 100000 in
theorem apply_minus (k : Nat) (g gs cap n : Nat) (t u : St) (ab ao : Nat) (vc : Nat) (a b c N : Int) (w0 w1 w : World) (la : 0 ≤ a) (ra : a < n) (lb : 0 ≤ b) (rb : b < n) (lc : 0 ≤ c) (rc : c < n) (q0 : w.cell? ⟨ab, ao, none⟩ = some (.int .i64 a)) (q1 : w.cell? ⟨ab, ao + 1, none⟩ = some (.int .i64 b)) (q2 : w.cell? ⟨ab, ao + 2, none⟩ = some (.int .i64 c)) (hF : Fx w0 w1 w g (.slice (some ⟨gs, 0, none⟩) n cap) t.xs t.fail t.moved) (hn : minusL k a b c t = some u) :
    Calls Try.prog 38 #[.pointer (some ⟨g, 0, none⟩), .agg #[.string ⟨#[109, 105, 110, 117, 115]⟩, .slice (some ⟨ab, ao, none⟩) 3 vc, .int .i64 N]] w (FxEnd w0 w1 g (.slice (some ⟨gs, 0, none⟩) n cap) u.xs u.fail u.moved) := by
  have HF := Aside0.mk hF
  have hlt := blk_lt hF.1.1
  have hne : g ≠ w.heap.size := by omega
  have hab : ab ≠ w.heap.size := by
    have := World.block_lt_of_cell? w _ q0
    exact Nat.ne_of_lt this
  have hab2 : ab < w.heap.size := World.block_lt_of_cell? w _ q0
  have hab1 : w.heap.size ≠ ab := fun e => hab e.symm
  have pa : decide (0 ≤ a) = true := decide_eq_true la
  have sa : decide (a < (n : Int)) = true := decide_eq_true ra
  have pb : decide (0 ≤ b) = true := decide_eq_true lb
  have sb : decide (b < (n : Int)) = true := decide_eq_true rb
  have pc : decide (0 ≤ c) = true := decide_eq_true lc
  have sc : decide (c < (n : Int)) = true := decide_eq_true rc
  unfold minusL at hn
  obtain ⟨t1, hn1, hn⟩ := Option.bind_eq_some_iff.mp hn
  have H1 := Aside0.mk hn1
  clear hn1
  obtain ⟨t2, hn2, hn⟩ := Option.bind_eq_some_iff.mp hn
  have H2 := Aside0.mk hn2
  clear hn2
  obtain ⟨t3, hn3, hn⟩ := Option.bind_eq_some_iff.mp hn
  have H3 := Aside0.mk hn3
  clear hn3
  obtain ⟨t4, hn4, hn⟩ := Option.bind_eq_some_iff.mp hn
  have H4 := Aside0.mk hn4
  clear hn4
  obtain ⟨t5, hn5, hn⟩ := Option.bind_eq_some_iff.mp hn
  have H5 := Aside0.mk hn5
  clear hn5
  obtain ⟨t6, hn6, hn⟩ := Option.bind_eq_some_iff.mp hn
  have H6 := Aside0.mk hn6
  clear hn6
  obtain rfl := Option.some.inj hn
  clear hn
  clear hF
  go_enter Try.func38, Try.ntmps38
  go_upto_region 35 with fail
  have HF1 := Aside0.mk (fx_alloc HF.out (.cells #[.string ⟨#[109, 105, 110, 117, 115]⟩, .slice (some ⟨ab, ao, none⟩) 3 vc, .int .i64 N] 33))
  clear HF
  have HF := HF1
  clear HF1
  have g0 : World.cell? _ ⟨g, 0, none⟩ = some (.slice (some ⟨gs, 0, none⟩) n cap) := (blk_cell HF.out.1.1 0).trans rfl
  have y0 := blk_frozen HF.out.1.1 0
  have ae0 := (fx_elem HF.out a la ra).1
  have be1 := (fx_elem HF.out b lb rb).2.1
  clear q0 q1 q2 hab hab1 hab2 hne hlt
  go_cut [] from 379 to 398 (fun wx => Fx w0 w1 wx g (.slice (some ⟨gs, 0, none⟩) n cap) t1.xs t1.fail t1.moved)
  case first =>
    refine QuietLast.wp_region_qlast (by kernel_rfl) (by kernel_rfl) ?_
    dsimp only [QuietLast.initL, QuietLast.lastL]
    repeat (go_big_quiet_step (fail))
    refine wpQuiet_nil ?_
    intro _ hw'
    obtain ⟨nq, hw''⟩ := hw'
    subst hw''
    go_wp2_with (go_at_call 71; (with_reducible refine (into_calls k g gs cap n t t1 c lc rc _ w0 w1 _ (by repeat (first | exact HF.out | refine fx_drewN ?_ _ | refine fx_drew ?_)) H1.out).mono ?_); rintro e w2 ⟨rfl, HF2⟩; replace HF2 := Aside0.mk HF2)
    all_goals ((try go_wp2_with fail); go_meet; exact HF2.out)
  case rest =>
  clear HF g0 y0 ae0 be1
  have HF := Aside0.mk hcut
  clear hcut
  go_upto_region 36 with fail
  have g0 : World.cell? _ ⟨g, 0, none⟩ = some (.slice (some ⟨gs, 0, none⟩) n cap) := (blk_cell HF.out.1.1 0).trans rfl
  have y0 := blk_frozen HF.out.1.1 0
  have ce0 := (fx_elem HF.out c lc rc).1
  go_cut [] from 399 to 409 (fun wx => Fx w0 w1 wx g (.slice (some ⟨gs, 0, none⟩) n cap) t2.xs t2.fail t2.moved)
  case first =>
    go_wp2_with (go_at_call 71; (with_reducible refine (into_calls k g gs cap n t1 t2 a la ra _ w0 w1 _ (by repeat (first | exact HF.out | refine fx_drewN ?_ _ | refine fx_drew ?_)) H2.out).mono ?_); rintro e w2 ⟨rfl, HF2⟩; replace HF2 := Aside0.mk HF2)
    all_goals ((try go_wp2_with fail); go_meet; exact HF2.out)
  case rest =>
  clear HF g0 y0 ce0
  have HF := Aside0.mk hcut
  clear hcut
  go_upto_region 37 with fail
  have g0 : World.cell? _ ⟨g, 0, none⟩ = some (.slice (some ⟨gs, 0, none⟩) n cap) := (blk_cell HF.out.1.1 0).trans rfl
  have y0 := blk_frozen HF.out.1.1 0
  have ce0 := (fx_elem HF.out c lc rc).1
  go_cut [] from 410 to 421 (fun wx => Fx w0 w1 wx g (.slice (some ⟨gs, 0, none⟩) n cap) t3.xs t3.fail t3.moved)
  case first =>
    go_wp2_with (go_at_call 72; (with_reducible refine (only_calls k g gs cap n t2 t3 b lb rb _ w0 w1 _ (by repeat (first | exact HF.out | refine fx_drewN ?_ _ | refine fx_drew ?_)) H3.out).mono ?_); rintro e w2 ⟨rfl, HF2⟩; replace HF2 := Aside0.mk HF2)
    all_goals ((try go_wp2_with fail); go_meet; exact HF2.out)
  case rest =>
  clear HF g0 y0 ce0
  have HF := Aside0.mk hcut
  clear hcut
  go_upto_region 38 with fail
  have g0 : World.cell? _ ⟨g, 0, none⟩ = some (.slice (some ⟨gs, 0, none⟩) n cap) := (blk_cell HF.out.1.1 0).trans rfl
  have y0 := blk_frozen HF.out.1.1 0
  have ae1 := (fx_elem HF.out a la ra).2.1
  have be0 := (fx_elem HF.out b lb rb).1
  go_cut [] from 422 to 441 (fun wx => Fx w0 w1 wx g (.slice (some ⟨gs, 0, none⟩) n cap) t4.xs t4.fail t4.moved)
  case first =>
    refine QuietLast.wp_region_qlast (by kernel_rfl) (by kernel_rfl) ?_
    dsimp only [QuietLast.initL, QuietLast.lastL]
    repeat (go_big_quiet_step (fail))
    refine wpQuiet_nil ?_
    intro _ hw'
    obtain ⟨nq, hw''⟩ := hw'
    subst hw''
    go_wp2_with (go_at_call 72; (with_reducible refine (only_calls k g gs cap n t3 t4 c lc rc _ w0 w1 _ (by repeat (first | exact HF.out | refine fx_drewN ?_ _ | refine fx_drew ?_)) H4.out).mono ?_); rintro e w2 ⟨rfl, HF2⟩; replace HF2 := Aside0.mk HF2)
    all_goals ((try go_wp2_with fail); go_meet; exact HF2.out)
  case rest =>
  clear HF g0 y0 ae1 be0
  have HF := Aside0.mk hcut
  clear hcut
  go_upto_region 39 with fail
  have g0 : World.cell? _ ⟨g, 0, none⟩ = some (.slice (some ⟨gs, 0, none⟩) n cap) := (blk_cell HF.out.1.1 0).trans rfl
  have y0 := blk_frozen HF.out.1.1 0
  have ae0 := (fx_elem HF.out a la ra).1
  have ce1 := (fx_elem HF.out c lc rc).2.1
  go_cut [] from 442 to 461 (fun wx => Fx w0 w1 wx g (.slice (some ⟨gs, 0, none⟩) n cap) t5.xs t5.fail t5.moved)
  case first =>
    refine QuietLast.wp_region_qlast (by kernel_rfl) (by kernel_rfl) ?_
    dsimp only [QuietLast.initL, QuietLast.lastL]
    repeat (go_big_quiet_step (fail))
    refine wpQuiet_nil ?_
    intro _ hw'
    obtain ⟨nq, hw''⟩ := hw'
    subst hw''
    go_wp2_with (go_at_call 71; (with_reducible refine (into_calls k g gs cap n t4 t5 b lb rb _ w0 w1 _ (by repeat (first | exact HF.out | refine fx_drewN ?_ _ | refine fx_drew ?_)) H5.out).mono ?_); rintro e w2 ⟨rfl, HF2⟩; replace HF2 := Aside0.mk HF2)
    all_goals ((try go_wp2_with fail); go_meet; exact HF2.out)
  case rest =>
  clear HF g0 y0 ae0 ce1
  have HF := Aside0.mk hcut
  clear hcut
  go_upto_region 40 with fail
  have g0 : World.cell? _ ⟨g, 0, none⟩ = some (.slice (some ⟨gs, 0, none⟩) n cap) := (blk_cell HF.out.1.1 0).trans rfl
  have y0 := blk_frozen HF.out.1.1 0
  have ae3 := (fx_elem HF.out a la ra).2.2.2.1
  go_wp2_with (go_at_call 73; (with_reducible refine (greatest_calls k g gs cap n t5 t6 c lc rc _ w0 w1 _ (by repeat (first | exact HF.out | refine fx_drewN ?_ _ | refine fx_drew ?_)) H6.out).mono ?_); rintro e w2 ⟨rfl, HF2⟩; replace HF2 := Aside0.mk HF2)
  all_goals (try go_wp2_with fail)
  all_goals first | exact ⟨rfl, HF2.out⟩ | (go_end0; exact ⟨rfl, HF2.out⟩) | ((try simp only [Exit.inBlock, Exit.then]); refine bodyPost_ret (results_none rfl _ _ _) rfl ?_; exact ⟨rfl, HF2.out⟩)
set_option maxHeartbeats 8000000 in
set_option maxRecDepth 100000 in
theorem apply_has (g : Nat) (v : Value) (t u : St) (ab ao : Nat) (vc : Nat) (a N : Int) (w0 w1 w : World) (q0 : w.cell? ⟨ab, ao, none⟩ = some (.int .i64 a)) (hF : Fx w0 w1 w g v t.xs t.fail t.moved) (hone : ∀ w', Fx w0 w1 w' g v t.xs t.fail t.moved → Calls Try.prog 75 #[.pointer (some ⟨g, 0, none⟩), .agg #[.string ⟨#[104, 97, 115]⟩, .slice (some ⟨ab, ao, none⟩) 1 vc, .int .i64 N], .int .i64 a] w' (FxEnd w0 w1 g v u.xs u.fail u.moved)) :
    Calls Try.prog 38 #[.pointer (some ⟨g, 0, none⟩), .agg #[.string ⟨#[104, 97, 115]⟩, .slice (some ⟨ab, ao, none⟩) 1 vc, .int .i64 N]] w (FxEnd w0 w1 g v u.xs u.fail u.moved) := by
  have HF := Aside0.mk hF
  have HO := Aside0.mk hone
  have hlt := blk_lt hF.1.1
  have hne : g ≠ w.heap.size := by omega
  have hab2 : ab < w.heap.size := World.block_lt_of_cell? w _ q0
  clear hF hone
  go_enter Try.func38, Try.ntmps38
  go_wp2_with (go_at_call 75; (with_reducible refine (HO.out _ (fx_alloc HF.out _)).mono ?_); rintro e w2 ⟨rfl, HF2⟩; replace HF2 := Aside0.mk HF2)
  first | exact ⟨rfl, HF2.out⟩ | (go_end0; exact ⟨rfl, HF2.out⟩) | ((try simp only [Exit.inBlock, Exit.then]); refine bodyPost_ret (results_none rfl _ _ _) rfl ?_; exact ⟨rfl, HF2.out⟩)
set_option maxHeartbeats 8000000 in
set_option maxRecDepth 100000 in
theorem apply_lacks (g : Nat) (v : Value) (t u : St) (ab ao : Nat) (vc : Nat) (a N : Int) (w0 w1 w : World) (q0 : w.cell? ⟨ab, ao, none⟩ = some (.int .i64 a)) (hF : Fx w0 w1 w g v t.xs t.fail t.moved) (hone : ∀ w', Fx w0 w1 w' g v t.xs t.fail t.moved → Calls Try.prog 75 #[.pointer (some ⟨g, 0, none⟩), .agg #[.string ⟨#[108, 97, 99, 107, 115]⟩, .slice (some ⟨ab, ao, none⟩) 1 vc, .int .i64 N], .int .i64 a] w' (FxEnd w0 w1 g v u.xs u.fail u.moved)) :
    Calls Try.prog 38 #[.pointer (some ⟨g, 0, none⟩), .agg #[.string ⟨#[108, 97, 99, 107, 115]⟩, .slice (some ⟨ab, ao, none⟩) 1 vc, .int .i64 N]] w (FxEnd w0 w1 g v u.xs u.fail u.moved) := by
  have HF := Aside0.mk hF
  have HO := Aside0.mk hone
  have hlt := blk_lt hF.1.1
  have hne : g ≠ w.heap.size := by omega
  have hab2 : ab < w.heap.size := World.block_lt_of_cell? w _ q0
  clear hF hone
  go_enter Try.func38, Try.ntmps38
  go_wp2_with (go_at_call 75; (with_reducible refine (HO.out _ (fx_alloc HF.out _)).mono ?_); rintro e w2 ⟨rfl, HF2⟩; replace HF2 := Aside0.mk HF2)
  first | exact ⟨rfl, HF2.out⟩ | (go_end0; exact ⟨rfl, HF2.out⟩) | ((try simp only [Exit.inBlock, Exit.then]); refine bodyPost_ret (results_none rfl _ _ _) rfl ?_; exact ⟨rfl, HF2.out⟩)
set_option maxHeartbeats 8000000 in
set_option maxRecDepth 100000 in
theorem apply_size (g : Nat) (v : Value) (t u : St) (ab ao : Nat) (vc : Nat) (a N : Int) (w0 w1 w : World) (q0 : w.cell? ⟨ab, ao, none⟩ = some (.int .i64 a)) (hF : Fx w0 w1 w g v t.xs t.fail t.moved) (hone : ∀ w', Fx w0 w1 w' g v t.xs t.fail t.moved → Calls Try.prog 75 #[.pointer (some ⟨g, 0, none⟩), .agg #[.string ⟨#[115, 105, 122, 101]⟩, .slice (some ⟨ab, ao, none⟩) 1 vc, .int .i64 N], .int .i64 a] w' (FxEnd w0 w1 g v u.xs u.fail u.moved)) :
    Calls Try.prog 38 #[.pointer (some ⟨g, 0, none⟩), .agg #[.string ⟨#[115, 105, 122, 101]⟩, .slice (some ⟨ab, ao, none⟩) 1 vc, .int .i64 N]] w (FxEnd w0 w1 g v u.xs u.fail u.moved) := by
  have HF := Aside0.mk hF
  have HO := Aside0.mk hone
  have hlt := blk_lt hF.1.1
  have hne : g ≠ w.heap.size := by omega
  have hab2 : ab < w.heap.size := World.block_lt_of_cell? w _ q0
  clear hF hone
  go_enter Try.func38, Try.ntmps38
  go_wp2_with (go_at_call 75; (with_reducible refine (HO.out _ (fx_alloc HF.out _)).mono ?_); rintro e w2 ⟨rfl, HF2⟩; replace HF2 := Aside0.mk HF2)
  first | exact ⟨rfl, HF2.out⟩ | (go_end0; exact ⟨rfl, HF2.out⟩) | ((try simp only [Exit.inBlock, Exit.then]); refine bodyPost_ret (results_none rfl _ _ _) rfl ?_; exact ⟨rfl, HF2.out⟩)
end Go.Proofs.Ytgfbgfbnmiainaa.Fam
