import Derived.Test.YtgfbgfbnmiainaaFamHoldsF
import Derived.Test.YtgfbgfbnmiainaaQ27
import Derived.Laws.OwnMore
/-! manystrandref07.Holds, the walk. (Written by fam_holdsr.py.) -/
namespace Go.Proofs.Ytgfbgfbnmiainaa.Fam
set_option linter.unusedVariables false
set_option linter.unusedSimpArgs false
open Go.RowKit Go.Proofs.YtgfbgfbnmiainaaW.PrintWords Go.Proofs.YtgfbgfbnmiainaaW.PrintLast Go.Proofs.YtgfbgfbnmiainaaW.PrintMore Go.Proofs.Ytgfbgfbnmiainaa.Q
attribute [local go_sem] Go.Proofs.YtgfbgfbnmiainaaW.OwnWords.isSome_setCell max2_int min2_int
/-- Whether a relation of three lists holds for a number: by whether the first, the second, the third one has it. -/
def Kn.okR (x y z : Bool) : Kn → Bool
  | .union => z == (x || y)
  | .meet => z == (x && y)
  | .minus => z == (x && !y)
  | _ => true
/-- What the reference answers, by the lists. -/
def Kn.resR (a b c : List Int) (n : Int) : Kn → Bool
  | .part => decide (∀ x ∈ a, decide (x ∈ b) = true)
  | .apart => decide (∀ x ∈ a, decide (x ∈ b) = false)
  | .has => decide (n ∈ a)
  | .lacks => !decide (n ∈ a)
  | .size => decide ((a.length : Int) = n)
  | .union => (a ++ b ++ c).all fun x => Kn.okR (decide (x ∈ a)) (decide (x ∈ b)) (decide (x ∈ c)) .union
  | .meet => (a ++ b ++ c).all fun x => Kn.okR (decide (x ∈ a)) (decide (x ∈ b)) (decide (x ∈ c)) .meet
  | .minus => (a ++ b ++ c).all fun x => Kn.okR (decide (x ∈ a)) (decide (x ∈ b)) (decide (x ∈ c)) .minus
section
variable {ops : Array Oper} {rst : List Oper} {o : Oper} {a : Act} {Q : Exit → Act → World → Prop}
/-- append of a list that is read to one of the call's own. -/
theorem app_row {w0 W : World} {v : Value} {zs : List Int} (HP : Pk w0 W v zs) {A : Option Addr} {c : Nat} {ys : List Int} (HS : Sl W A c ys) (hl : zs.length + ys.length ≤ 1000000)
    (hgd : o.guard = none) (s x : Operand) (ho : o.op = .call { callee := .builtin .append, args := #[s, x], argTypes := #[31, 31] }) (hs : a.eval s = v) (hx : a.eval x = .slice A ys.length c)
    (h : ∀ v1 w1, Pk w0 w1 v1 (zs ++ ys) → wpList Try.prog ops Q rst (a.put o.dst v1) w1) : wpList Try.prog ops Q (o :: rst) a W := by
  obtain ⟨i0, hi, hzz⟩ := Option.map_eq_some_iff.1 info3'
  simp only [Prod.mk.injEq] at hzz
  obtain ⟨hz0, hz1, hz2⟩ := hzz
  rcases A with _ | ad
  · obtain rfl : ys = [] := by
      rcases Nat.eq_zero_or_pos ys.length with h0 | h0
      · exact List.eq_nil_of_length_eq_zero h0
      · obtain ⟨ad, h, _⟩ := HS.1.2.2 h0
        cases h
    have hrun : (Builtin.append_ #[31, 31] o.type #[v, .slice none ([] : List Int).length c]).run Try.prog W = .ok v W := by
      rcases HP.1.2 with ⟨rfl, hn⟩ | ⟨g, cap, cur, rfl, _, _, hnc, _⟩
      · simp [Builtin.append_, run_underlying Try.underlying31, sizeOf, typeInfo, hi, Builtin.lenOf, Builtin.firstCells]
      · simp [Builtin.append_, run_underlying Try.underlying31, sizeOf, typeInfo, hi, Builtin.lenOf, Builtin.firstCells, hnc, storeCells]
    refine wpList_plain hgd fun K hK => ?_
    unfold Oper.wp
    simp only [List.length_nil] at hrun hx
    simp [execOp, ho, resolve, invoke, builtin, hs, hx, hrun, Result.andThen]
    exact hK _ _ (h v W (by simpa using HP))
  · refine wpList_append_own_at W hgd s x 31 ho w0.heap.size 3 i0 (.int .i64 0) 1 8 Try.underlying31 hi hz0 hz1 hz2 rfl (by decide) v zs.length (zs.map (Value.int .i64)) hs HP.1 ad ys.length c (ys.map (Value.int .i64)) hx (by simp) ?_ (by intro u hu; obtain ⟨y, _, rfl⟩ := List.mem_map.1 hu; rfl) (by simp only [maxLen]; omega) (by omega) HP.2.size ?_
    · intro j u hu
      rw [List.getElem?_map] at hu
      obtain ⟨p, hp, rfl⟩ := Option.map_eq_some_iff.1 hu
      have hj : j < ys.length := (List.getElem?_eq_some_iff.1 hp).1
      obtain ⟨ad', he, hc⟩ := Kd.at_int HS.1 (j : Int) (by omega) (by omega)
      cases he
      have hr : rd ys (j : Int) = p := by
        unfold rd
        rw [Int.toNat_natCast, List.getD_eq_getElem?_getD, hp]
        rfl
      rw [hr, Int.toNat_natCast] at hc
      exact hc
    · intro v1 w1 hown hg _ _
      exact h v1 w1 ⟨by simpa using hown, HP.2.grown hg HP.2.size (own_base HP.1)⟩
end
theorem all_no {al : List Int} {p : Int → Bool} {i : Nat} (h : i < al.length) (hp : p (rd al (i : Int)) = false) : al.all p = false := by
  rw [List.all_eq_false]
  refine ⟨al[i], List.getElem_mem h, ?_⟩
  rw [rd_at h] at hp
  simp [hp]
theorem all_yes {al : List Int} {p : Int → Bool} (h : ∀ j : Nat, j < al.length → p (rd al (j : Int)) = true) : al.all p = true := by
  rw [List.all_eq_true]
  intro x hx
  obtain ⟨j, hj, rfl⟩ := List.getElem_of_mem hx
  have := h j hj
  rwa [rd_at hj] at this
theorem add_num (ad : Addr) (j : Nat) (h : j ≠ 0) : ad.add j = ⟨ad.block, ad.off + j, none⟩ := by
  unfold Addr.add
  simp [h]
theorem holdsR_not (k : Nat) (kind : ByteArray) (A : Option Addr) (c : Nat) (vars : List Int) (n : Int) (La : Option Addr) (lc : Nat) (L : List (List Int)) (w : World) (hv : Sl w A c vars) (h : manystrandref07_ValidRel.f k kind vars n L.length = some false) :
    Calls Try.prog 35 #[.agg #[.string kind, .slice A vars.length c, .int .i64 n], .slice La L.length lc] w (HoldsEnd w false) := by
  have HV := Aside0.mk hv
  have HF := Aside0.mk h
  clear hv h
  go_enter Try.func35, Try.ntmps35
  go_wp2_with (go_at_call 15; (refine (manystrandref07_ValidRel.calls k kind A c vars n L.length false _ (Kd.C_alloc HV.out.1 _) HV.out.2 HF.out).mono ?_); rintro e w2 ⟨rfl, hb⟩; have HB := Aside0.mk (below_then (below_alloc (Below.refl _ _) _) (by simp) hb); clear hb)
  go_ret
  exact ⟨rfl, HB.out⟩
/-- What is known where the lists are read: where they lie, and where the box of the relation is. -/
def Rw (w wr : World) (B0 : Option Addr) (d0 : Nat) (a : List Int) (B1 : Option Addr) (d1 : Nat) (b : List Int) (B2 : Option Addr) (d2 : Nat) (c : List Int) : Prop :=
  Below w.heap.size w wr ∧ Sl wr B0 d0 a ∧ Sl wr B1 d1 b ∧ Sl wr B2 d2 c
theorem rw_pk {w wr w' : World} {B0 : Option Addr} {d0 : Nat} {a : List Int} {B1 : Option Addr} {d1 : Nat} {b : List Int} {B2 : Option Addr} {d2 : Nat} {c : List Int} (h : Rw w wr B0 d0 a B1 d1 b B2 d2 c) {v : Value} {zs : List Int} (hp : Pk wr w' v zs) : Rw w w' B0 d0 a B1 d1 b B2 d2 c :=
  ⟨below_then h.1 h.1.size hp.2, sl_below h.2.1 hp.2, sl_below h.2.2.1 hp.2, sl_below h.2.2.2 hp.2⟩
set_option maxHeartbeats 2000000 in
set_option maxRecDepth 100000 in
theorem holdsR_calls (k : Nat) (q : Kn) (A : Option Addr) (c : Nat) (vars : List Int) (n : Int) (La : Option Addr) (lc : Nat) (L : List (List Int)) (asc : Nat → Bool) (w : World) (hv : Sl w A c vars) (hL : kII.C w La L.length L)
    (h : manystrandref07_ValidRel.f k q.text vars n L.length = some true) (hasc : ∀ i : Nat, i < L.length → manystrandref07_ascending.f k (lst L i) = some (asc i)) (hn : vars.length = q.arity) (hin : ∀ j : Nat, j < vars.length → 0 ≤ rd vars (j : Int) ∧ rd vars (j : Int) < L.length) (hsz : L.length ≤ 1000)
    (hl : ∀ i : Nat, (lst L i).length ≤ 1000) (r : Bool) (hr0 : ∀ i : Nat, i < L.length → asc i = false → r = false)
    (hr1 : (∀ i : Nat, i < L.length → asc i = true) → r = q.resR (lst L (rd vars 0).toNat) (lst L (rd vars 1).toNat) (lst L (rd vars 2).toNat) n) :
    Calls Try.prog 35 #[.agg #[.string q.text, .slice A vars.length c, .int .i64 n], .slice La L.length lc] w (HoldsEnd w r) := by
  have HV := Aside0.mk hv
  have HF := Aside0.mk h
  have HL := Aside0.mk hL
  have HA := Aside0.mk hasc
  have HN := Aside0.mk (And.intro hn (And.intro hin (And.intro hsz hl)))
  have HR := Aside0.mk (And.intro hr0 hr1)
  clear hv h hL hasc hn hin hsz hl hr0 hr1
  go_enter Try.func35, Try.ntmps35
  go_upto_region 4 with (go_at_call 15; (refine (manystrandref07_ValidRel.calls k q.text A c vars n L.length true _ (Kd.C_alloc HV.out.1 _) HV.out.2 HF.out).mono ?_); rintro e w2 ⟨rfl, hb⟩; have HB := Aside0.mk (And.intro (blk_below (blk_new w _) hb) (below_then (below_alloc (Below.refl _ _) _) (by simp) hb)); clear hb)
  go_loopg [5] L.length (fun kq v5 w' => ∃ (i : Nat) (x : Int), v5 = .int .i64 x ∧ Aside0 (x = (i : Int)) ∧ i + kq = L.length ∧ Aside0 (∀ j : Nat, j < i → asc j = true) ∧ Aside0 (w'.heap[w.heap.size]? = some (.cells #[.string q.text, .slice A vars.length c, .int .i64 n] 33 (0, 0)) ∧ Below w.heap.size w w'))
  case atStart => exact ⟨0, 0, rfl, ⟨rfl⟩, by omega, ⟨fun j hj => absurd hj (by omega)⟩, HB⟩
  case round =>
    clear HB
    obtain ⟨i, x, rfl, HX, hi, HT, HB⟩ := hrel
    by_cases hlt : i < L.length
    · have d0 : decide (0 ≤ x) = true := decide_eq_true (by have := HX.out; omega)
      have d1 : decide (x < (L.length : Int)) = true := decide_eq_true (by have := HX.out; omega)
      have p0 := eq_true (show 0 ≤ x by have := HX.out; omega)
      have p1 := eq_true (show x < (L.length : Int) by have := HX.out; omega)
      obtain ⟨ad, B, b, rfl, hx0, hS⟩ := at_II HL.out x (by have := HX.out; omega) (by have := HX.out; omega)
      have HS := Aside0.mk (sl_below hS HB.out.2)
      replace hx0 := (HB.out.2.cell (World.block_lt_of_cell? w _ hx0)).trans hx0
      have hf := HA.out i hlt
      have hxi : x.toNat = i := by have := HX.out; omega
      rw [← hxi] at hf
      have HF2 := Aside0.mk hf
      have HXI := Aside0.mk hxi
      clear hf hS hxi
      cases ha : asc x.toNat with
      | false =>
        rw [ha] at HF2
        go_wp2_with (go_at_call 68; (refine (manystrandref07_ascending.calls k B b (lst L x.toNat) false _ HS.out.1 HS.out.2 HF2.out).mono ?_); rintro e w3 ⟨rfl, ⟨nd, rfl⟩⟩)
        go_ret
        exact ⟨by rw [HR.out.1 i hlt (by rw [← HXI.out]; exact ha)]; rfl, pw_below_drewN HB.out.2 _⟩
      | true =>
        rw [ha] at HF2
        go_wp2_with (go_at_call 68; (refine (manystrandref07_ascending.calls k B b (lst L x.toNat) true _ HS.out.1 HS.out.2 HF2.out).mono ?_); rintro e w3 ⟨rfl, ⟨nd, rfl⟩⟩)
        go_roundg (L.length - (i + 1))
        case measure => omega
        case rel => exact ⟨i + 1, _, rfl, ⟨by rw [HX.out]; unfold wrap64; have := HN.out.2.2.1; omega⟩, by omega, ⟨all_next HT.out (by rw [← HXI.out]; exact ha)⟩, ⟨blk_below HB.out.1 (pw_below_drewN (Below.refl _ _) _), pw_below_drewN HB.out.2 _⟩⟩
    · obtain rfl : i = L.length := by omega
      have d1 : decide (x < (L.length : Int)) = false := decide_eq_false (by have := HX.out; omega)
      have p1 := eq_false (show ¬ x < (L.length : Int) by have := HX.out; omega)
      have b1 : wr.cell? ⟨w.heap.size, 1, none⟩ = some (.slice A vars.length c) := (blk_cell HB.out.1 1).trans rfl
      have b2 : wr.cell? ⟨w.heap.size, 2, none⟩ = some (.int .i64 n) := (blk_cell HB.out.1 2).trans rfl
      have HR1 := Aside0.mk (HR.out.2 HT.out)
      have HBX := Aside0.mk HB.out.1
      have HBB := Aside0.mk HB.out.2
      clear HB HT HR HA HF hlt hi HX
      cases q with
      | part =>
        have hn : vars.length = 2 := HN.out.1
        have b0 := (blk_cell HBX.out 0)
        simp only [List.getElem?_toArray, List.getElem?_cons_zero, List.getElem?_cons_succ, Kn.text] at b0
        have hv0 := HN.out.2.1 0 (by omega)
        obtain ⟨ad, ea0, hx0⟩ := Kd.at_int HV.out.1 0 (by omega) (by omega)
        subst ea0
        replace hx0 : wr.cell? (ad.add 0) = some (.int .i64 (rd vars 0)) := (HBB.out.cell (World.block_lt_of_cell? w _ hx0)).trans hx0
        have hx0' : wr.cell? ad = some (.int .i64 (rd vars 0)) := by rw [← Addr.add_zero' ad]; exact hx0
        replace hv0 : 0 ≤ rd vars 0 ∧ rd vars 0 < L.length := hv0
        obtain ⟨bd, B0, e0, eb0, hy0, hS0⟩ := at_II HL.out (rd vars 0) hv0.1 hv0.2
        subst eb0
        replace hy0 := (HBB.out.cell (World.block_lt_of_cell? w _ hy0)).trans hy0
        replace hS0 := sl_below hS0 HBB.out
        have r0 := decide_eq_true hv0.1
        have s0 := decide_eq_true hv0.2
        have t0 := eq_true hv0.1
        have u0 := eq_true hv0.2
        have hv1 := HN.out.2.1 1 (by omega)
        obtain ⟨ad, ea1, hx1⟩ := Kd.at_int HV.out.1 1 (by omega) (by omega)
        cases ea1
        replace hx1 : wr.cell? (ad.add 1) = some (.int .i64 (rd vars 1)) := (HBB.out.cell (World.block_lt_of_cell? w _ hx1)).trans hx1
        have hx1' : wr.cell? ⟨ad.block, ad.off + 1, none⟩ = some (.int .i64 (rd vars 1)) := by rw [← add_num ad 1 (by decide)]; exact hx1
        replace hv1 : 0 ≤ rd vars 1 ∧ rd vars 1 < L.length := hv1
        obtain ⟨bd, B1, e1, eb1, hy1, hS1⟩ := at_II HL.out (rd vars 1) hv1.1 hv1.2
        cases eb1
        replace hy1 := (HBB.out.cell (World.block_lt_of_cell? w _ hy1)).trans hy1
        replace hS1 := sl_below hS1 HBB.out
        have r1 := decide_eq_true hv1.1
        have s1 := decide_eq_true hv1.2
        have t1 := eq_true hv1.1
        have u1 := eq_true hv1.2
        have n0 : decide (0 < vars.length) = true := decide_eq_true (by omega)
        have n0' := eq_true (show 0 < vars.length by omega)
        have n1 : decide (1 < vars.length) = true := decide_eq_true (by omega)
        have n1' := eq_true (show 1 < vars.length by omega)
        have n2 : decide (2 < vars.length) = false := decide_eq_false (by omega)
        have n2' := eq_false (show ¬ 2 < vars.length by omega)
        have k0 : decide ((0 : Int) < (vars.length : Int)) = true := decide_eq_true (by omega)
        have k0' := eq_true (show (0 : Int) < (vars.length : Int) by omega)
        have k1 : decide ((1 : Int) < (vars.length : Int)) = true := decide_eq_true (by omega)
        have k1' := eq_true (show (1 : Int) < (vars.length : Int) by omega)
        have k2 : decide ((2 : Int) < (vars.length : Int)) = false := decide_eq_false (by omega)
        have k2' := eq_false (show ¬ (2 : Int) < (vars.length : Int) by omega)
        have HW : Aside0 (Rw w wr B0 e0 (lst L (rd vars 0).toNat) B1 e1 (lst L (rd vars 1).toNat) B0 e0 (lst L (rd vars 0).toNat)) := ⟨⟨HBB.out, hS0, hS1, hS0⟩⟩
        have HZ : Aside0 ((lst L (rd vars 0).toNat).length ≤ 1000 ∧ (lst L (rd vars 1).toNat).length ≤ 1000 ∧ (lst L (rd vars 0).toNat).length ≤ 1000) := ⟨⟨HN.out.2.2.2 _, HN.out.2.2.2 _, HN.out.2.2.2 _⟩⟩
        have HP0 : Aside0 (Pk wr wr (.slice none 0 0) []) := ⟨⟨by simp, .inl ⟨rfl, rfl⟩⟩, Below.refl _ _⟩
        clear hS0 hv0 hS1 hv1 HV HL HN hn
        go_upto_region 15 with (first
          | (at_builtin; (refine app_row HP2.out (rw_pk HW.out HP2.out).2.2.2 (by have := HZ.out; simp only [List.length_append, List.length_nil]; omega) rfl (.tmp 65) (.tmp 66) rfl rfl rfl ?_); intro v3 w3 hp; have HP3 := Aside0.mk hp; clear hp)
          | (at_builtin; (refine app_row HP1.out (rw_pk HW.out HP1.out).2.2.1 (by have := HZ.out; simp only [List.length_append, List.length_nil]; omega) rfl (.tmp 63) (.tmp 64) rfl rfl rfl ?_); intro v2 w2' hp; have HP2 := Aside0.mk hp; clear hp)
          | (at_builtin; (refine app_row HP0.out HW.out.2.1 (by have := HZ.out; simp only [List.length_nil]; omega) rfl (.const (.slice none 0 0)) (.tmp 62) rfl rfl rfl ?_); intro v1 w1' hp; have HP1 := Aside0.mk hp; clear hp))
        have HW3 := Aside0.mk (rw_pk HW.out HP3.out)
        replace b0 := pw_cell_below HP3.out.2 b0
        replace b2 := pw_cell_below HP3.out.2 b2
        have hIF := inAll_f (lst L (rd vars 0).toNat) (lst L (rd vars 1).toNat) true (by have := HZ.out; omega) (by have := HZ.out; omega)
        obtain ⟨rb, hrb⟩ : ∃ rb, decide (∀ x ∈ (lst L (rd vars 0).toNat), decide (x ∈ (lst L (rd vars 1).toNat)) = true) = rb := ⟨_, rfl⟩
        rw [hrb] at hIF
        have HQ := Aside0.mk (HR1.out.trans hrb)
        have HIF := Aside0.mk hIF
        clear hrb hIF HR1
        go_wp2_with (go_at_call 69; (refine (manystrandref07_inAll.calls _ B0 e0 (lst L (rd vars 0).toNat) B1 e1 (lst L (rd vars 1).toNat) true rb _ HW3.out.2.1.1 HW3.out.2.1.2 HW3.out.2.2.1.1 HW3.out.2.2.1.2 HIF.out).mono ?_); rintro e w4 ⟨rfl, ⟨nd, rfl⟩⟩)
        go_ret
        exact ⟨by rw [HQ.out]; rfl, pw_below_drewN HW3.out.1 _⟩
      | apart =>
        have hn : vars.length = 2 := HN.out.1
        have b0 := (blk_cell HBX.out 0)
        simp only [List.getElem?_toArray, List.getElem?_cons_zero, List.getElem?_cons_succ, Kn.text] at b0
        have hv0 := HN.out.2.1 0 (by omega)
        obtain ⟨ad, ea0, hx0⟩ := Kd.at_int HV.out.1 0 (by omega) (by omega)
        subst ea0
        replace hx0 : wr.cell? (ad.add 0) = some (.int .i64 (rd vars 0)) := (HBB.out.cell (World.block_lt_of_cell? w _ hx0)).trans hx0
        have hx0' : wr.cell? ad = some (.int .i64 (rd vars 0)) := by rw [← Addr.add_zero' ad]; exact hx0
        replace hv0 : 0 ≤ rd vars 0 ∧ rd vars 0 < L.length := hv0
        obtain ⟨bd, B0, e0, eb0, hy0, hS0⟩ := at_II HL.out (rd vars 0) hv0.1 hv0.2
        subst eb0
        replace hy0 := (HBB.out.cell (World.block_lt_of_cell? w _ hy0)).trans hy0
        replace hS0 := sl_below hS0 HBB.out
        have r0 := decide_eq_true hv0.1
        have s0 := decide_eq_true hv0.2
        have t0 := eq_true hv0.1
        have u0 := eq_true hv0.2
        have hv1 := HN.out.2.1 1 (by omega)
        obtain ⟨ad, ea1, hx1⟩ := Kd.at_int HV.out.1 1 (by omega) (by omega)
        cases ea1
        replace hx1 : wr.cell? (ad.add 1) = some (.int .i64 (rd vars 1)) := (HBB.out.cell (World.block_lt_of_cell? w _ hx1)).trans hx1
        have hx1' : wr.cell? ⟨ad.block, ad.off + 1, none⟩ = some (.int .i64 (rd vars 1)) := by rw [← add_num ad 1 (by decide)]; exact hx1
        replace hv1 : 0 ≤ rd vars 1 ∧ rd vars 1 < L.length := hv1
        obtain ⟨bd, B1, e1, eb1, hy1, hS1⟩ := at_II HL.out (rd vars 1) hv1.1 hv1.2
        cases eb1
        replace hy1 := (HBB.out.cell (World.block_lt_of_cell? w _ hy1)).trans hy1
        replace hS1 := sl_below hS1 HBB.out
        have r1 := decide_eq_true hv1.1
        have s1 := decide_eq_true hv1.2
        have t1 := eq_true hv1.1
        have u1 := eq_true hv1.2
        have n0 : decide (0 < vars.length) = true := decide_eq_true (by omega)
        have n0' := eq_true (show 0 < vars.length by omega)
        have n1 : decide (1 < vars.length) = true := decide_eq_true (by omega)
        have n1' := eq_true (show 1 < vars.length by omega)
        have n2 : decide (2 < vars.length) = false := decide_eq_false (by omega)
        have n2' := eq_false (show ¬ 2 < vars.length by omega)
        have k0 : decide ((0 : Int) < (vars.length : Int)) = true := decide_eq_true (by omega)
        have k0' := eq_true (show (0 : Int) < (vars.length : Int) by omega)
        have k1 : decide ((1 : Int) < (vars.length : Int)) = true := decide_eq_true (by omega)
        have k1' := eq_true (show (1 : Int) < (vars.length : Int) by omega)
        have k2 : decide ((2 : Int) < (vars.length : Int)) = false := decide_eq_false (by omega)
        have k2' := eq_false (show ¬ (2 : Int) < (vars.length : Int) by omega)
        have HW : Aside0 (Rw w wr B0 e0 (lst L (rd vars 0).toNat) B1 e1 (lst L (rd vars 1).toNat) B0 e0 (lst L (rd vars 0).toNat)) := ⟨⟨HBB.out, hS0, hS1, hS0⟩⟩
        have HZ : Aside0 ((lst L (rd vars 0).toNat).length ≤ 1000 ∧ (lst L (rd vars 1).toNat).length ≤ 1000 ∧ (lst L (rd vars 0).toNat).length ≤ 1000) := ⟨⟨HN.out.2.2.2 _, HN.out.2.2.2 _, HN.out.2.2.2 _⟩⟩
        have HP0 : Aside0 (Pk wr wr (.slice none 0 0) []) := ⟨⟨by simp, .inl ⟨rfl, rfl⟩⟩, Below.refl _ _⟩
        clear hS0 hv0 hS1 hv1 HV HL HN hn
        go_upto_region 15 with (first
          | (at_builtin; (refine app_row HP2.out (rw_pk HW.out HP2.out).2.2.2 (by have := HZ.out; simp only [List.length_append, List.length_nil]; omega) rfl (.tmp 65) (.tmp 66) rfl rfl rfl ?_); intro v3 w3 hp; have HP3 := Aside0.mk hp; clear hp)
          | (at_builtin; (refine app_row HP1.out (rw_pk HW.out HP1.out).2.2.1 (by have := HZ.out; simp only [List.length_append, List.length_nil]; omega) rfl (.tmp 63) (.tmp 64) rfl rfl rfl ?_); intro v2 w2' hp; have HP2 := Aside0.mk hp; clear hp)
          | (at_builtin; (refine app_row HP0.out HW.out.2.1 (by have := HZ.out; simp only [List.length_nil]; omega) rfl (.const (.slice none 0 0)) (.tmp 62) rfl rfl rfl ?_); intro v1 w1' hp; have HP1 := Aside0.mk hp; clear hp))
        have HW3 := Aside0.mk (rw_pk HW.out HP3.out)
        replace b0 := pw_cell_below HP3.out.2 b0
        replace b2 := pw_cell_below HP3.out.2 b2
        have hIF := inAll_f (lst L (rd vars 0).toNat) (lst L (rd vars 1).toNat) false (by have := HZ.out; omega) (by have := HZ.out; omega)
        obtain ⟨rb, hrb⟩ : ∃ rb, decide (∀ x ∈ (lst L (rd vars 0).toNat), decide (x ∈ (lst L (rd vars 1).toNat)) = false) = rb := ⟨_, rfl⟩
        rw [hrb] at hIF
        have HQ := Aside0.mk (HR1.out.trans hrb)
        have HIF := Aside0.mk hIF
        clear hrb hIF HR1
        go_wp2_with (go_at_call 69; (refine (manystrandref07_inAll.calls _ B0 e0 (lst L (rd vars 0).toNat) B1 e1 (lst L (rd vars 1).toNat) false rb _ HW3.out.2.1.1 HW3.out.2.1.2 HW3.out.2.2.1.1 HW3.out.2.2.1.2 HIF.out).mono ?_); rintro e w4 ⟨rfl, ⟨nd, rfl⟩⟩)
        go_ret
        exact ⟨by rw [HQ.out]; rfl, pw_below_drewN HW3.out.1 _⟩
      | union =>
        have hn : vars.length = 3 := HN.out.1
        have b0 := (blk_cell HBX.out 0)
        simp only [List.getElem?_toArray, List.getElem?_cons_zero, List.getElem?_cons_succ, Kn.text] at b0
        have hv0 := HN.out.2.1 0 (by omega)
        obtain ⟨ad, ea0, hx0⟩ := Kd.at_int HV.out.1 0 (by omega) (by omega)
        subst ea0
        replace hx0 : wr.cell? (ad.add 0) = some (.int .i64 (rd vars 0)) := (HBB.out.cell (World.block_lt_of_cell? w _ hx0)).trans hx0
        have hx0' : wr.cell? ad = some (.int .i64 (rd vars 0)) := by rw [← Addr.add_zero' ad]; exact hx0
        replace hv0 : 0 ≤ rd vars 0 ∧ rd vars 0 < L.length := hv0
        obtain ⟨bd, B0, e0, eb0, hy0, hS0⟩ := at_II HL.out (rd vars 0) hv0.1 hv0.2
        subst eb0
        replace hy0 := (HBB.out.cell (World.block_lt_of_cell? w _ hy0)).trans hy0
        replace hS0 := sl_below hS0 HBB.out
        have r0 := decide_eq_true hv0.1
        have s0 := decide_eq_true hv0.2
        have t0 := eq_true hv0.1
        have u0 := eq_true hv0.2
        have hv1 := HN.out.2.1 1 (by omega)
        obtain ⟨ad, ea1, hx1⟩ := Kd.at_int HV.out.1 1 (by omega) (by omega)
        cases ea1
        replace hx1 : wr.cell? (ad.add 1) = some (.int .i64 (rd vars 1)) := (HBB.out.cell (World.block_lt_of_cell? w _ hx1)).trans hx1
        have hx1' : wr.cell? ⟨ad.block, ad.off + 1, none⟩ = some (.int .i64 (rd vars 1)) := by rw [← add_num ad 1 (by decide)]; exact hx1
        replace hv1 : 0 ≤ rd vars 1 ∧ rd vars 1 < L.length := hv1
        obtain ⟨bd, B1, e1, eb1, hy1, hS1⟩ := at_II HL.out (rd vars 1) hv1.1 hv1.2
        cases eb1
        replace hy1 := (HBB.out.cell (World.block_lt_of_cell? w _ hy1)).trans hy1
        replace hS1 := sl_below hS1 HBB.out
        have r1 := decide_eq_true hv1.1
        have s1 := decide_eq_true hv1.2
        have t1 := eq_true hv1.1
        have u1 := eq_true hv1.2
        have hv2 := HN.out.2.1 2 (by omega)
        obtain ⟨ad, ea2, hx2⟩ := Kd.at_int HV.out.1 2 (by omega) (by omega)
        cases ea2
        replace hx2 : wr.cell? (ad.add 2) = some (.int .i64 (rd vars 2)) := (HBB.out.cell (World.block_lt_of_cell? w _ hx2)).trans hx2
        have hx2' : wr.cell? ⟨ad.block, ad.off + 2, none⟩ = some (.int .i64 (rd vars 2)) := by rw [← add_num ad 2 (by decide)]; exact hx2
        replace hv2 : 0 ≤ rd vars 2 ∧ rd vars 2 < L.length := hv2
        obtain ⟨bd, B2, e2, eb2, hy2, hS2⟩ := at_II HL.out (rd vars 2) hv2.1 hv2.2
        cases eb2
        replace hy2 := (HBB.out.cell (World.block_lt_of_cell? w _ hy2)).trans hy2
        replace hS2 := sl_below hS2 HBB.out
        have r2 := decide_eq_true hv2.1
        have s2 := decide_eq_true hv2.2
        have t2 := eq_true hv2.1
        have u2 := eq_true hv2.2
        have n0 : decide (0 < vars.length) = true := decide_eq_true (by omega)
        have n0' := eq_true (show 0 < vars.length by omega)
        have n1 : decide (1 < vars.length) = true := decide_eq_true (by omega)
        have n1' := eq_true (show 1 < vars.length by omega)
        have n2 : decide (2 < vars.length) = true := decide_eq_true (by omega)
        have n2' := eq_true (show 2 < vars.length by omega)
        have k0 : decide ((0 : Int) < (vars.length : Int)) = true := decide_eq_true (by omega)
        have k0' := eq_true (show (0 : Int) < (vars.length : Int) by omega)
        have k1 : decide ((1 : Int) < (vars.length : Int)) = true := decide_eq_true (by omega)
        have k1' := eq_true (show (1 : Int) < (vars.length : Int) by omega)
        have k2 : decide ((2 : Int) < (vars.length : Int)) = true := decide_eq_true (by omega)
        have k2' := eq_true (show (2 : Int) < (vars.length : Int) by omega)
        have HW : Aside0 (Rw w wr B0 e0 (lst L (rd vars 0).toNat) B1 e1 (lst L (rd vars 1).toNat) B2 e2 (lst L (rd vars 2).toNat)) := ⟨⟨HBB.out, hS0, hS1, hS2⟩⟩
        have HZ : Aside0 ((lst L (rd vars 0).toNat).length ≤ 1000 ∧ (lst L (rd vars 1).toNat).length ≤ 1000 ∧ (lst L (rd vars 2).toNat).length ≤ 1000) := ⟨⟨HN.out.2.2.2 _, HN.out.2.2.2 _, HN.out.2.2.2 _⟩⟩
        have HP0 : Aside0 (Pk wr wr (.slice none 0 0) []) := ⟨⟨by simp, .inl ⟨rfl, rfl⟩⟩, Below.refl _ _⟩
        clear hS0 hv0 hS1 hv1 hS2 hv2 HV HL HN hn
        go_upto_region 15 with (first
          | (at_builtin; (refine app_row HP2.out (rw_pk HW.out HP2.out).2.2.2 (by have := HZ.out; simp only [List.length_append, List.length_nil]; omega) rfl (.tmp 65) (.tmp 66) rfl rfl rfl ?_); intro v3 w3 hp; have HP3 := Aside0.mk hp; clear hp)
          | (at_builtin; (refine app_row HP1.out (rw_pk HW.out HP1.out).2.2.1 (by have := HZ.out; simp only [List.length_append, List.length_nil]; omega) rfl (.tmp 63) (.tmp 64) rfl rfl rfl ?_); intro v2 w2' hp; have HP2 := Aside0.mk hp; clear hp)
          | (at_builtin; (refine app_row HP0.out HW.out.2.1 (by have := HZ.out; simp only [List.length_nil]; omega) rfl (.const (.slice none 0 0)) (.tmp 62) rfl rfl rfl ?_); intro v1 w1' hp; have HP1 := Aside0.mk hp; clear hp))
        have HW3 := Aside0.mk (rw_pk HW.out HP3.out)
        replace b0 := pw_cell_below HP3.out.2 b0
        replace b2 := pw_cell_below HP3.out.2 b2
        obtain ⟨al, hal⟩ : ∃ al : List Int, ((([] ++ (lst L (rd vars 0).toNat)) ++ (lst L (rd vars 1).toNat)) ++ (lst L (rd vars 2).toNat)) = al := ⟨_, rfl⟩
        rw [hal] at HP3
        obtain ⟨A3, c3, rfl, hs3⟩ := pk_sl HP3.out
        have HS3 := Aside0.mk hs3
        have HR2 : Aside0 (r = al.all fun x => Kn.okR (decide (x ∈ (lst L (rd vars 0).toNat))) (decide (x ∈ (lst L (rd vars 1).toNat))) (decide (x ∈ (lst L (rd vars 2).toNat))) .union) := ⟨by rw [← hal, List.nil_append]; exact HR1.out⟩
        have HAL : Aside0 (al.length ≤ 3000) := ⟨by rw [← hal]; have := HZ.out; simp only [List.length_append, List.length_nil]; omega⟩
        clear hs3 hal HR1 HP0 HP1 HP2 HW
        go_upto_region 27 with fail
        go_loopg [10] al.length (fun kq v10 w' => ∃ (i : Nat) (y : Int), v10 = .int .i64 y ∧ Aside0 (y = (i : Int)) ∧ i + kq = al.length ∧ Aside0 (∀ j : Nat, j < i → Kn.okR (decide (rd al (j : Int) ∈ (lst L (rd vars 0).toNat))) (decide (rd al (j : Int) ∈ (lst L (rd vars 1).toNat))) (decide (rd al (j : Int) ∈ (lst L (rd vars 2).toNat))) .union = true) ∧ Aside0 (Below w3.heap.size w3 w'))
        case atStart => exact ⟨0, 0, rfl, ⟨rfl⟩, by omega, ⟨fun j hj => absurd hj (by omega)⟩, ⟨Below.refl _ _⟩⟩
        case round =>
          obtain ⟨i, y, rfl, HY, hi, HT, HB⟩ := hrel
          replace b0 := pw_cell_below HB.out b0
          by_cases hlt : i < al.length
          · have q0 : decide (0 ≤ y) = true := decide_eq_true (by have := HY.out; omega)
            have q1 : decide (y < (al.length : Int)) = true := decide_eq_true (by have := HY.out; omega)
            have q2 := eq_true (show 0 ≤ y by have := HY.out; omega)
            have q3 := eq_true (show y < (al.length : Int) by have := HY.out; omega)
            have HS4 := Aside0.mk (sl_below HS3.out HB.out)
            obtain ⟨cd, rfl, hz0⟩ := Kd.at_int HS4.out.1 y (by have := HY.out; omega) (by have := HY.out; omega)
            have HYI : Aside0 ((i : Int) = y) := ⟨by have := HY.out; omega⟩
            have hFx := has_f (lst L (rd vars 0).toNat) (rd al y) (k := 1001) (by have := HZ.out; omega) (by have := HZ.out; omega)
            obtain ⟨q_x, hbx⟩ : ∃ b, decide (rd al y ∈ (lst L (rd vars 0).toNat)) = b := ⟨_, rfl⟩
            rw [hbx] at hFx
            have HFx := Aside0.mk hFx
            have HSx := Aside0.mk (sl_below HW3.out.2.1 HB.out)
            have hFy := has_f (lst L (rd vars 1).toNat) (rd al y) (k := 1001) (by have := HZ.out; omega) (by have := HZ.out; omega)
            obtain ⟨q_y, hby⟩ : ∃ b, decide (rd al y ∈ (lst L (rd vars 1).toNat)) = b := ⟨_, rfl⟩
            rw [hby] at hFy
            have HFy := Aside0.mk hFy
            have HSy := Aside0.mk (sl_below HW3.out.2.2.1 HB.out)
            have hFz := has_f (lst L (rd vars 2).toNat) (rd al y) (k := 1001) (by have := HZ.out; omega) (by have := HZ.out; omega)
            obtain ⟨q_z, hbz⟩ : ∃ b, decide (rd al y ∈ (lst L (rd vars 2).toNat)) = b := ⟨_, rfl⟩
            rw [hbz] at hFz
            have HFz := Aside0.mk hFz
            have HSz := Aside0.mk (sl_below HW3.out.2.2.2 HB.out)
            have HBB3 := Aside0.mk (And.intro hbx (And.intro hby hbz))
            clear hFx hFy hFz hbx hby hbz
            cases q_x with
            | false =>
              cases q_y with
              | false =>
                cases q_z with
                | false =>
                  go_wp2
                  go_quiet (first | (go_at_call 70; (with_reducible refine (manystrandref07_has.calls 1001 B0 e0 (lst L (rd vars 0).toNat) (rd al y) _ _ ?s1 ?s2 HFx.out).mono ?_); (case s2 => exact HSx.out.2); (case s1 => repeat (first | exact HSx.out.1 | (with_reducible refine Kd.C_drewN ?_ _) | (with_reducible refine Kd.C_drew ?_))); rintro e w4 ⟨rfl, ⟨nd, rfl⟩⟩; (try first | exact ⟨rfl, _, World.drewN_drewN _ _ _⟩ | exact ⟨rfl, _, rfl⟩)) | (go_at_call 70; (with_reducible refine (manystrandref07_has.calls 1001 B1 e1 (lst L (rd vars 1).toNat) (rd al y) _ _ ?s1 ?s2 HFy.out).mono ?_); (case s2 => exact HSy.out.2); (case s1 => repeat (first | exact HSy.out.1 | (with_reducible refine Kd.C_drewN ?_ _) | (with_reducible refine Kd.C_drew ?_))); rintro e w4 ⟨rfl, ⟨nd, rfl⟩⟩; (try first | exact ⟨rfl, _, World.drewN_drewN _ _ _⟩ | exact ⟨rfl, _, rfl⟩)) | (go_at_call 70; (with_reducible refine (manystrandref07_has.calls 1001 B2 e2 (lst L (rd vars 2).toNat) (rd al y) _ _ ?s1 ?s2 HFz.out).mono ?_); (case s2 => exact HSz.out.2); (case s1 => repeat (first | exact HSz.out.1 | (with_reducible refine Kd.C_drewN ?_ _) | (with_reducible refine Kd.C_drew ?_))); rintro e w4 ⟨rfl, ⟨nd, rfl⟩⟩; (try first | exact ⟨rfl, _, World.drewN_drewN _ _ _⟩ | exact ⟨rfl, _, rfl⟩)))
                  try go_wp2
                  go_roundg (al.length - (i + 1))
                  case measure => omega
                  case rel => exact ⟨i + 1, _, rfl, ⟨by rw [HY.out]; unfold wrap64; have := HAL.out; omega⟩, by omega, ⟨all_next HT.out (by rw [HYI.out, HBB3.out.1, HBB3.out.2.1, HBB3.out.2.2]; rfl)⟩, ⟨by repeat (first | exact HB.out | (with_reducible refine pw_below_drewN ?_ _))⟩⟩
                | true =>
                  go_wp2
                  go_quiet (first | (go_at_call 70; (with_reducible refine (manystrandref07_has.calls 1001 B0 e0 (lst L (rd vars 0).toNat) (rd al y) _ _ ?s1 ?s2 HFx.out).mono ?_); (case s2 => exact HSx.out.2); (case s1 => repeat (first | exact HSx.out.1 | (with_reducible refine Kd.C_drewN ?_ _) | (with_reducible refine Kd.C_drew ?_))); rintro e w4 ⟨rfl, ⟨nd, rfl⟩⟩; (try first | exact ⟨rfl, _, World.drewN_drewN _ _ _⟩ | exact ⟨rfl, _, rfl⟩)) | (go_at_call 70; (with_reducible refine (manystrandref07_has.calls 1001 B1 e1 (lst L (rd vars 1).toNat) (rd al y) _ _ ?s1 ?s2 HFy.out).mono ?_); (case s2 => exact HSy.out.2); (case s1 => repeat (first | exact HSy.out.1 | (with_reducible refine Kd.C_drewN ?_ _) | (with_reducible refine Kd.C_drew ?_))); rintro e w4 ⟨rfl, ⟨nd, rfl⟩⟩; (try first | exact ⟨rfl, _, World.drewN_drewN _ _ _⟩ | exact ⟨rfl, _, rfl⟩)) | (go_at_call 70; (with_reducible refine (manystrandref07_has.calls 1001 B2 e2 (lst L (rd vars 2).toNat) (rd al y) _ _ ?s1 ?s2 HFz.out).mono ?_); (case s2 => exact HSz.out.2); (case s1 => repeat (first | exact HSz.out.1 | (with_reducible refine Kd.C_drewN ?_ _) | (with_reducible refine Kd.C_drew ?_))); rintro e w4 ⟨rfl, ⟨nd, rfl⟩⟩; (try first | exact ⟨rfl, _, World.drewN_drewN _ _ _⟩ | exact ⟨rfl, _, rfl⟩)))
                  try go_wp2
                  go_ret
                  exact ⟨by rw [HR2.out, all_no hlt (by rw [HYI.out, HBB3.out.1, HBB3.out.2.1, HBB3.out.2.2]; rfl)]; rfl, by repeat (first | exact below_then HW3.out.1 HW3.out.1.size HB.out | (with_reducible refine pw_below_drewN ?_ _))⟩
              | true =>
                cases q_z with
                | false =>
                  go_wp2
                  go_quiet (first | (go_at_call 70; (with_reducible refine (manystrandref07_has.calls 1001 B0 e0 (lst L (rd vars 0).toNat) (rd al y) _ _ ?s1 ?s2 HFx.out).mono ?_); (case s2 => exact HSx.out.2); (case s1 => repeat (first | exact HSx.out.1 | (with_reducible refine Kd.C_drewN ?_ _) | (with_reducible refine Kd.C_drew ?_))); rintro e w4 ⟨rfl, ⟨nd, rfl⟩⟩; (try first | exact ⟨rfl, _, World.drewN_drewN _ _ _⟩ | exact ⟨rfl, _, rfl⟩)) | (go_at_call 70; (with_reducible refine (manystrandref07_has.calls 1001 B1 e1 (lst L (rd vars 1).toNat) (rd al y) _ _ ?s1 ?s2 HFy.out).mono ?_); (case s2 => exact HSy.out.2); (case s1 => repeat (first | exact HSy.out.1 | (with_reducible refine Kd.C_drewN ?_ _) | (with_reducible refine Kd.C_drew ?_))); rintro e w4 ⟨rfl, ⟨nd, rfl⟩⟩; (try first | exact ⟨rfl, _, World.drewN_drewN _ _ _⟩ | exact ⟨rfl, _, rfl⟩)) | (go_at_call 70; (with_reducible refine (manystrandref07_has.calls 1001 B2 e2 (lst L (rd vars 2).toNat) (rd al y) _ _ ?s1 ?s2 HFz.out).mono ?_); (case s2 => exact HSz.out.2); (case s1 => repeat (first | exact HSz.out.1 | (with_reducible refine Kd.C_drewN ?_ _) | (with_reducible refine Kd.C_drew ?_))); rintro e w4 ⟨rfl, ⟨nd, rfl⟩⟩; (try first | exact ⟨rfl, _, World.drewN_drewN _ _ _⟩ | exact ⟨rfl, _, rfl⟩)))
                  try go_wp2
                  go_ret
                  exact ⟨by rw [HR2.out, all_no hlt (by rw [HYI.out, HBB3.out.1, HBB3.out.2.1, HBB3.out.2.2]; rfl)]; rfl, by repeat (first | exact below_then HW3.out.1 HW3.out.1.size HB.out | (with_reducible refine pw_below_drewN ?_ _))⟩
                | true =>
                  go_wp2
                  go_quiet (first | (go_at_call 70; (with_reducible refine (manystrandref07_has.calls 1001 B0 e0 (lst L (rd vars 0).toNat) (rd al y) _ _ ?s1 ?s2 HFx.out).mono ?_); (case s2 => exact HSx.out.2); (case s1 => repeat (first | exact HSx.out.1 | (with_reducible refine Kd.C_drewN ?_ _) | (with_reducible refine Kd.C_drew ?_))); rintro e w4 ⟨rfl, ⟨nd, rfl⟩⟩; (try first | exact ⟨rfl, _, World.drewN_drewN _ _ _⟩ | exact ⟨rfl, _, rfl⟩)) | (go_at_call 70; (with_reducible refine (manystrandref07_has.calls 1001 B1 e1 (lst L (rd vars 1).toNat) (rd al y) _ _ ?s1 ?s2 HFy.out).mono ?_); (case s2 => exact HSy.out.2); (case s1 => repeat (first | exact HSy.out.1 | (with_reducible refine Kd.C_drewN ?_ _) | (with_reducible refine Kd.C_drew ?_))); rintro e w4 ⟨rfl, ⟨nd, rfl⟩⟩; (try first | exact ⟨rfl, _, World.drewN_drewN _ _ _⟩ | exact ⟨rfl, _, rfl⟩)) | (go_at_call 70; (with_reducible refine (manystrandref07_has.calls 1001 B2 e2 (lst L (rd vars 2).toNat) (rd al y) _ _ ?s1 ?s2 HFz.out).mono ?_); (case s2 => exact HSz.out.2); (case s1 => repeat (first | exact HSz.out.1 | (with_reducible refine Kd.C_drewN ?_ _) | (with_reducible refine Kd.C_drew ?_))); rintro e w4 ⟨rfl, ⟨nd, rfl⟩⟩; (try first | exact ⟨rfl, _, World.drewN_drewN _ _ _⟩ | exact ⟨rfl, _, rfl⟩)))
                  try go_wp2
                  go_roundg (al.length - (i + 1))
                  case measure => omega
                  case rel => exact ⟨i + 1, _, rfl, ⟨by rw [HY.out]; unfold wrap64; have := HAL.out; omega⟩, by omega, ⟨all_next HT.out (by rw [HYI.out, HBB3.out.1, HBB3.out.2.1, HBB3.out.2.2]; rfl)⟩, ⟨by repeat (first | exact HB.out | (with_reducible refine pw_below_drewN ?_ _))⟩⟩
            | true =>
              cases q_y with
              | false =>
                cases q_z with
                | false =>
                  go_wp2
                  go_quiet (first | (go_at_call 70; (with_reducible refine (manystrandref07_has.calls 1001 B0 e0 (lst L (rd vars 0).toNat) (rd al y) _ _ ?s1 ?s2 HFx.out).mono ?_); (case s2 => exact HSx.out.2); (case s1 => repeat (first | exact HSx.out.1 | (with_reducible refine Kd.C_drewN ?_ _) | (with_reducible refine Kd.C_drew ?_))); rintro e w4 ⟨rfl, ⟨nd, rfl⟩⟩; (try first | exact ⟨rfl, _, World.drewN_drewN _ _ _⟩ | exact ⟨rfl, _, rfl⟩)) | (go_at_call 70; (with_reducible refine (manystrandref07_has.calls 1001 B1 e1 (lst L (rd vars 1).toNat) (rd al y) _ _ ?s1 ?s2 HFy.out).mono ?_); (case s2 => exact HSy.out.2); (case s1 => repeat (first | exact HSy.out.1 | (with_reducible refine Kd.C_drewN ?_ _) | (with_reducible refine Kd.C_drew ?_))); rintro e w4 ⟨rfl, ⟨nd, rfl⟩⟩; (try first | exact ⟨rfl, _, World.drewN_drewN _ _ _⟩ | exact ⟨rfl, _, rfl⟩)) | (go_at_call 70; (with_reducible refine (manystrandref07_has.calls 1001 B2 e2 (lst L (rd vars 2).toNat) (rd al y) _ _ ?s1 ?s2 HFz.out).mono ?_); (case s2 => exact HSz.out.2); (case s1 => repeat (first | exact HSz.out.1 | (with_reducible refine Kd.C_drewN ?_ _) | (with_reducible refine Kd.C_drew ?_))); rintro e w4 ⟨rfl, ⟨nd, rfl⟩⟩; (try first | exact ⟨rfl, _, World.drewN_drewN _ _ _⟩ | exact ⟨rfl, _, rfl⟩)))
                  try go_wp2
                  go_ret
                  exact ⟨by rw [HR2.out, all_no hlt (by rw [HYI.out, HBB3.out.1, HBB3.out.2.1, HBB3.out.2.2]; rfl)]; rfl, by repeat (first | exact below_then HW3.out.1 HW3.out.1.size HB.out | (with_reducible refine pw_below_drewN ?_ _))⟩
                | true =>
                  go_wp2
                  go_quiet (first | (go_at_call 70; (with_reducible refine (manystrandref07_has.calls 1001 B0 e0 (lst L (rd vars 0).toNat) (rd al y) _ _ ?s1 ?s2 HFx.out).mono ?_); (case s2 => exact HSx.out.2); (case s1 => repeat (first | exact HSx.out.1 | (with_reducible refine Kd.C_drewN ?_ _) | (with_reducible refine Kd.C_drew ?_))); rintro e w4 ⟨rfl, ⟨nd, rfl⟩⟩; (try first | exact ⟨rfl, _, World.drewN_drewN _ _ _⟩ | exact ⟨rfl, _, rfl⟩)) | (go_at_call 70; (with_reducible refine (manystrandref07_has.calls 1001 B1 e1 (lst L (rd vars 1).toNat) (rd al y) _ _ ?s1 ?s2 HFy.out).mono ?_); (case s2 => exact HSy.out.2); (case s1 => repeat (first | exact HSy.out.1 | (with_reducible refine Kd.C_drewN ?_ _) | (with_reducible refine Kd.C_drew ?_))); rintro e w4 ⟨rfl, ⟨nd, rfl⟩⟩; (try first | exact ⟨rfl, _, World.drewN_drewN _ _ _⟩ | exact ⟨rfl, _, rfl⟩)) | (go_at_call 70; (with_reducible refine (manystrandref07_has.calls 1001 B2 e2 (lst L (rd vars 2).toNat) (rd al y) _ _ ?s1 ?s2 HFz.out).mono ?_); (case s2 => exact HSz.out.2); (case s1 => repeat (first | exact HSz.out.1 | (with_reducible refine Kd.C_drewN ?_ _) | (with_reducible refine Kd.C_drew ?_))); rintro e w4 ⟨rfl, ⟨nd, rfl⟩⟩; (try first | exact ⟨rfl, _, World.drewN_drewN _ _ _⟩ | exact ⟨rfl, _, rfl⟩)))
                  try go_wp2
                  go_roundg (al.length - (i + 1))
                  case measure => omega
                  case rel => exact ⟨i + 1, _, rfl, ⟨by rw [HY.out]; unfold wrap64; have := HAL.out; omega⟩, by omega, ⟨all_next HT.out (by rw [HYI.out, HBB3.out.1, HBB3.out.2.1, HBB3.out.2.2]; rfl)⟩, ⟨by repeat (first | exact HB.out | (with_reducible refine pw_below_drewN ?_ _))⟩⟩
              | true =>
                cases q_z with
                | false =>
                  go_wp2
                  go_quiet (first | (go_at_call 70; (with_reducible refine (manystrandref07_has.calls 1001 B0 e0 (lst L (rd vars 0).toNat) (rd al y) _ _ ?s1 ?s2 HFx.out).mono ?_); (case s2 => exact HSx.out.2); (case s1 => repeat (first | exact HSx.out.1 | (with_reducible refine Kd.C_drewN ?_ _) | (with_reducible refine Kd.C_drew ?_))); rintro e w4 ⟨rfl, ⟨nd, rfl⟩⟩; (try first | exact ⟨rfl, _, World.drewN_drewN _ _ _⟩ | exact ⟨rfl, _, rfl⟩)) | (go_at_call 70; (with_reducible refine (manystrandref07_has.calls 1001 B1 e1 (lst L (rd vars 1).toNat) (rd al y) _ _ ?s1 ?s2 HFy.out).mono ?_); (case s2 => exact HSy.out.2); (case s1 => repeat (first | exact HSy.out.1 | (with_reducible refine Kd.C_drewN ?_ _) | (with_reducible refine Kd.C_drew ?_))); rintro e w4 ⟨rfl, ⟨nd, rfl⟩⟩; (try first | exact ⟨rfl, _, World.drewN_drewN _ _ _⟩ | exact ⟨rfl, _, rfl⟩)) | (go_at_call 70; (with_reducible refine (manystrandref07_has.calls 1001 B2 e2 (lst L (rd vars 2).toNat) (rd al y) _ _ ?s1 ?s2 HFz.out).mono ?_); (case s2 => exact HSz.out.2); (case s1 => repeat (first | exact HSz.out.1 | (with_reducible refine Kd.C_drewN ?_ _) | (with_reducible refine Kd.C_drew ?_))); rintro e w4 ⟨rfl, ⟨nd, rfl⟩⟩; (try first | exact ⟨rfl, _, World.drewN_drewN _ _ _⟩ | exact ⟨rfl, _, rfl⟩)))
                  try go_wp2
                  go_ret
                  exact ⟨by rw [HR2.out, all_no hlt (by rw [HYI.out, HBB3.out.1, HBB3.out.2.1, HBB3.out.2.2]; rfl)]; rfl, by repeat (first | exact below_then HW3.out.1 HW3.out.1.size HB.out | (with_reducible refine pw_below_drewN ?_ _))⟩
                | true =>
                  go_wp2
                  go_quiet (first | (go_at_call 70; (with_reducible refine (manystrandref07_has.calls 1001 B0 e0 (lst L (rd vars 0).toNat) (rd al y) _ _ ?s1 ?s2 HFx.out).mono ?_); (case s2 => exact HSx.out.2); (case s1 => repeat (first | exact HSx.out.1 | (with_reducible refine Kd.C_drewN ?_ _) | (with_reducible refine Kd.C_drew ?_))); rintro e w4 ⟨rfl, ⟨nd, rfl⟩⟩; (try first | exact ⟨rfl, _, World.drewN_drewN _ _ _⟩ | exact ⟨rfl, _, rfl⟩)) | (go_at_call 70; (with_reducible refine (manystrandref07_has.calls 1001 B1 e1 (lst L (rd vars 1).toNat) (rd al y) _ _ ?s1 ?s2 HFy.out).mono ?_); (case s2 => exact HSy.out.2); (case s1 => repeat (first | exact HSy.out.1 | (with_reducible refine Kd.C_drewN ?_ _) | (with_reducible refine Kd.C_drew ?_))); rintro e w4 ⟨rfl, ⟨nd, rfl⟩⟩; (try first | exact ⟨rfl, _, World.drewN_drewN _ _ _⟩ | exact ⟨rfl, _, rfl⟩)) | (go_at_call 70; (with_reducible refine (manystrandref07_has.calls 1001 B2 e2 (lst L (rd vars 2).toNat) (rd al y) _ _ ?s1 ?s2 HFz.out).mono ?_); (case s2 => exact HSz.out.2); (case s1 => repeat (first | exact HSz.out.1 | (with_reducible refine Kd.C_drewN ?_ _) | (with_reducible refine Kd.C_drew ?_))); rintro e w4 ⟨rfl, ⟨nd, rfl⟩⟩; (try first | exact ⟨rfl, _, World.drewN_drewN _ _ _⟩ | exact ⟨rfl, _, rfl⟩)))
                  try go_wp2
                  go_roundg (al.length - (i + 1))
                  case measure => omega
                  case rel => exact ⟨i + 1, _, rfl, ⟨by rw [HY.out]; unfold wrap64; have := HAL.out; omega⟩, by omega, ⟨all_next HT.out (by rw [HYI.out, HBB3.out.1, HBB3.out.2.1, HBB3.out.2.2]; rfl)⟩, ⟨by repeat (first | exact HB.out | (with_reducible refine pw_below_drewN ?_ _))⟩⟩
          · obtain rfl : i = al.length := by omega
            have q1 : decide (y < (al.length : Int)) = false := decide_eq_false (by have := HY.out; omega)
            have q3 := eq_false (show ¬ y < (al.length : Int) by have := HY.out; omega)
            go_wp2
            go_ret
            exact ⟨by rw [HR2.out, all_yes HT.out]; rfl, below_then HW3.out.1 HW3.out.1.size HB.out⟩
      | meet =>
        have hn : vars.length = 3 := HN.out.1
        have b0 := (blk_cell HBX.out 0)
        simp only [List.getElem?_toArray, List.getElem?_cons_zero, List.getElem?_cons_succ, Kn.text] at b0
        have hv0 := HN.out.2.1 0 (by omega)
        obtain ⟨ad, ea0, hx0⟩ := Kd.at_int HV.out.1 0 (by omega) (by omega)
        subst ea0
        replace hx0 : wr.cell? (ad.add 0) = some (.int .i64 (rd vars 0)) := (HBB.out.cell (World.block_lt_of_cell? w _ hx0)).trans hx0
        have hx0' : wr.cell? ad = some (.int .i64 (rd vars 0)) := by rw [← Addr.add_zero' ad]; exact hx0
        replace hv0 : 0 ≤ rd vars 0 ∧ rd vars 0 < L.length := hv0
        obtain ⟨bd, B0, e0, eb0, hy0, hS0⟩ := at_II HL.out (rd vars 0) hv0.1 hv0.2
        subst eb0
        replace hy0 := (HBB.out.cell (World.block_lt_of_cell? w _ hy0)).trans hy0
        replace hS0 := sl_below hS0 HBB.out
        have r0 := decide_eq_true hv0.1
        have s0 := decide_eq_true hv0.2
        have t0 := eq_true hv0.1
        have u0 := eq_true hv0.2
        have hv1 := HN.out.2.1 1 (by omega)
        obtain ⟨ad, ea1, hx1⟩ := Kd.at_int HV.out.1 1 (by omega) (by omega)
        cases ea1
        replace hx1 : wr.cell? (ad.add 1) = some (.int .i64 (rd vars 1)) := (HBB.out.cell (World.block_lt_of_cell? w _ hx1)).trans hx1
        have hx1' : wr.cell? ⟨ad.block, ad.off + 1, none⟩ = some (.int .i64 (rd vars 1)) := by rw [← add_num ad 1 (by decide)]; exact hx1
        replace hv1 : 0 ≤ rd vars 1 ∧ rd vars 1 < L.length := hv1
        obtain ⟨bd, B1, e1, eb1, hy1, hS1⟩ := at_II HL.out (rd vars 1) hv1.1 hv1.2
        cases eb1
        replace hy1 := (HBB.out.cell (World.block_lt_of_cell? w _ hy1)).trans hy1
        replace hS1 := sl_below hS1 HBB.out
        have r1 := decide_eq_true hv1.1
        have s1 := decide_eq_true hv1.2
        have t1 := eq_true hv1.1
        have u1 := eq_true hv1.2
        have hv2 := HN.out.2.1 2 (by omega)
        obtain ⟨ad, ea2, hx2⟩ := Kd.at_int HV.out.1 2 (by omega) (by omega)
        cases ea2
        replace hx2 : wr.cell? (ad.add 2) = some (.int .i64 (rd vars 2)) := (HBB.out.cell (World.block_lt_of_cell? w _ hx2)).trans hx2
        have hx2' : wr.cell? ⟨ad.block, ad.off + 2, none⟩ = some (.int .i64 (rd vars 2)) := by rw [← add_num ad 2 (by decide)]; exact hx2
        replace hv2 : 0 ≤ rd vars 2 ∧ rd vars 2 < L.length := hv2
        obtain ⟨bd, B2, e2, eb2, hy2, hS2⟩ := at_II HL.out (rd vars 2) hv2.1 hv2.2
        cases eb2
        replace hy2 := (HBB.out.cell (World.block_lt_of_cell? w _ hy2)).trans hy2
        replace hS2 := sl_below hS2 HBB.out
        have r2 := decide_eq_true hv2.1
        have s2 := decide_eq_true hv2.2
        have t2 := eq_true hv2.1
        have u2 := eq_true hv2.2
        have n0 : decide (0 < vars.length) = true := decide_eq_true (by omega)
        have n0' := eq_true (show 0 < vars.length by omega)
        have n1 : decide (1 < vars.length) = true := decide_eq_true (by omega)
        have n1' := eq_true (show 1 < vars.length by omega)
        have n2 : decide (2 < vars.length) = true := decide_eq_true (by omega)
        have n2' := eq_true (show 2 < vars.length by omega)
        have k0 : decide ((0 : Int) < (vars.length : Int)) = true := decide_eq_true (by omega)
        have k0' := eq_true (show (0 : Int) < (vars.length : Int) by omega)
        have k1 : decide ((1 : Int) < (vars.length : Int)) = true := decide_eq_true (by omega)
        have k1' := eq_true (show (1 : Int) < (vars.length : Int) by omega)
        have k2 : decide ((2 : Int) < (vars.length : Int)) = true := decide_eq_true (by omega)
        have k2' := eq_true (show (2 : Int) < (vars.length : Int) by omega)
        have HW : Aside0 (Rw w wr B0 e0 (lst L (rd vars 0).toNat) B1 e1 (lst L (rd vars 1).toNat) B2 e2 (lst L (rd vars 2).toNat)) := ⟨⟨HBB.out, hS0, hS1, hS2⟩⟩
        have HZ : Aside0 ((lst L (rd vars 0).toNat).length ≤ 1000 ∧ (lst L (rd vars 1).toNat).length ≤ 1000 ∧ (lst L (rd vars 2).toNat).length ≤ 1000) := ⟨⟨HN.out.2.2.2 _, HN.out.2.2.2 _, HN.out.2.2.2 _⟩⟩
        have HP0 : Aside0 (Pk wr wr (.slice none 0 0) []) := ⟨⟨by simp, .inl ⟨rfl, rfl⟩⟩, Below.refl _ _⟩
        clear hS0 hv0 hS1 hv1 hS2 hv2 HV HL HN hn
        go_upto_region 15 with (first
          | (at_builtin; (refine app_row HP2.out (rw_pk HW.out HP2.out).2.2.2 (by have := HZ.out; simp only [List.length_append, List.length_nil]; omega) rfl (.tmp 65) (.tmp 66) rfl rfl rfl ?_); intro v3 w3 hp; have HP3 := Aside0.mk hp; clear hp)
          | (at_builtin; (refine app_row HP1.out (rw_pk HW.out HP1.out).2.2.1 (by have := HZ.out; simp only [List.length_append, List.length_nil]; omega) rfl (.tmp 63) (.tmp 64) rfl rfl rfl ?_); intro v2 w2' hp; have HP2 := Aside0.mk hp; clear hp)
          | (at_builtin; (refine app_row HP0.out HW.out.2.1 (by have := HZ.out; simp only [List.length_nil]; omega) rfl (.const (.slice none 0 0)) (.tmp 62) rfl rfl rfl ?_); intro v1 w1' hp; have HP1 := Aside0.mk hp; clear hp))
        have HW3 := Aside0.mk (rw_pk HW.out HP3.out)
        replace b0 := pw_cell_below HP3.out.2 b0
        replace b2 := pw_cell_below HP3.out.2 b2
        obtain ⟨al, hal⟩ : ∃ al : List Int, ((([] ++ (lst L (rd vars 0).toNat)) ++ (lst L (rd vars 1).toNat)) ++ (lst L (rd vars 2).toNat)) = al := ⟨_, rfl⟩
        rw [hal] at HP3
        obtain ⟨A3, c3, rfl, hs3⟩ := pk_sl HP3.out
        have HS3 := Aside0.mk hs3
        have HR2 : Aside0 (r = al.all fun x => Kn.okR (decide (x ∈ (lst L (rd vars 0).toNat))) (decide (x ∈ (lst L (rd vars 1).toNat))) (decide (x ∈ (lst L (rd vars 2).toNat))) .meet) := ⟨by rw [← hal, List.nil_append]; exact HR1.out⟩
        have HAL : Aside0 (al.length ≤ 3000) := ⟨by rw [← hal]; have := HZ.out; simp only [List.length_append, List.length_nil]; omega⟩
        clear hs3 hal HR1 HP0 HP1 HP2 HW
        go_upto_region 27 with fail
        go_loopg [10] al.length (fun kq v10 w' => ∃ (i : Nat) (y : Int), v10 = .int .i64 y ∧ Aside0 (y = (i : Int)) ∧ i + kq = al.length ∧ Aside0 (∀ j : Nat, j < i → Kn.okR (decide (rd al (j : Int) ∈ (lst L (rd vars 0).toNat))) (decide (rd al (j : Int) ∈ (lst L (rd vars 1).toNat))) (decide (rd al (j : Int) ∈ (lst L (rd vars 2).toNat))) .meet = true) ∧ Aside0 (Below w3.heap.size w3 w'))
        case atStart => exact ⟨0, 0, rfl, ⟨rfl⟩, by omega, ⟨fun j hj => absurd hj (by omega)⟩, ⟨Below.refl _ _⟩⟩
        case round =>
          obtain ⟨i, y, rfl, HY, hi, HT, HB⟩ := hrel
          replace b0 := pw_cell_below HB.out b0
          by_cases hlt : i < al.length
          · have q0 : decide (0 ≤ y) = true := decide_eq_true (by have := HY.out; omega)
            have q1 : decide (y < (al.length : Int)) = true := decide_eq_true (by have := HY.out; omega)
            have q2 := eq_true (show 0 ≤ y by have := HY.out; omega)
            have q3 := eq_true (show y < (al.length : Int) by have := HY.out; omega)
            have HS4 := Aside0.mk (sl_below HS3.out HB.out)
            obtain ⟨cd, rfl, hz0⟩ := Kd.at_int HS4.out.1 y (by have := HY.out; omega) (by have := HY.out; omega)
            have HYI : Aside0 ((i : Int) = y) := ⟨by have := HY.out; omega⟩
            have hFx := has_f (lst L (rd vars 0).toNat) (rd al y) (k := 1001) (by have := HZ.out; omega) (by have := HZ.out; omega)
            obtain ⟨q_x, hbx⟩ : ∃ b, decide (rd al y ∈ (lst L (rd vars 0).toNat)) = b := ⟨_, rfl⟩
            rw [hbx] at hFx
            have HFx := Aside0.mk hFx
            have HSx := Aside0.mk (sl_below HW3.out.2.1 HB.out)
            have hFy := has_f (lst L (rd vars 1).toNat) (rd al y) (k := 1001) (by have := HZ.out; omega) (by have := HZ.out; omega)
            obtain ⟨q_y, hby⟩ : ∃ b, decide (rd al y ∈ (lst L (rd vars 1).toNat)) = b := ⟨_, rfl⟩
            rw [hby] at hFy
            have HFy := Aside0.mk hFy
            have HSy := Aside0.mk (sl_below HW3.out.2.2.1 HB.out)
            have hFz := has_f (lst L (rd vars 2).toNat) (rd al y) (k := 1001) (by have := HZ.out; omega) (by have := HZ.out; omega)
            obtain ⟨q_z, hbz⟩ : ∃ b, decide (rd al y ∈ (lst L (rd vars 2).toNat)) = b := ⟨_, rfl⟩
            rw [hbz] at hFz
            have HFz := Aside0.mk hFz
            have HSz := Aside0.mk (sl_below HW3.out.2.2.2 HB.out)
            have HBB3 := Aside0.mk (And.intro hbx (And.intro hby hbz))
            clear hFx hFy hFz hbx hby hbz
            cases q_x with
            | false =>
              cases q_y with
              | false =>
                cases q_z with
                | false =>
                  go_wp2
                  go_quiet (first | (go_at_call 70; (with_reducible refine (manystrandref07_has.calls 1001 B0 e0 (lst L (rd vars 0).toNat) (rd al y) _ _ ?s1 ?s2 HFx.out).mono ?_); (case s2 => exact HSx.out.2); (case s1 => repeat (first | exact HSx.out.1 | (with_reducible refine Kd.C_drewN ?_ _) | (with_reducible refine Kd.C_drew ?_))); rintro e w4 ⟨rfl, ⟨nd, rfl⟩⟩; (try first | exact ⟨rfl, _, World.drewN_drewN _ _ _⟩ | exact ⟨rfl, _, rfl⟩)) | (go_at_call 70; (with_reducible refine (manystrandref07_has.calls 1001 B1 e1 (lst L (rd vars 1).toNat) (rd al y) _ _ ?s1 ?s2 HFy.out).mono ?_); (case s2 => exact HSy.out.2); (case s1 => repeat (first | exact HSy.out.1 | (with_reducible refine Kd.C_drewN ?_ _) | (with_reducible refine Kd.C_drew ?_))); rintro e w4 ⟨rfl, ⟨nd, rfl⟩⟩; (try first | exact ⟨rfl, _, World.drewN_drewN _ _ _⟩ | exact ⟨rfl, _, rfl⟩)) | (go_at_call 70; (with_reducible refine (manystrandref07_has.calls 1001 B2 e2 (lst L (rd vars 2).toNat) (rd al y) _ _ ?s1 ?s2 HFz.out).mono ?_); (case s2 => exact HSz.out.2); (case s1 => repeat (first | exact HSz.out.1 | (with_reducible refine Kd.C_drewN ?_ _) | (with_reducible refine Kd.C_drew ?_))); rintro e w4 ⟨rfl, ⟨nd, rfl⟩⟩; (try first | exact ⟨rfl, _, World.drewN_drewN _ _ _⟩ | exact ⟨rfl, _, rfl⟩)))
                  try go_wp2
                  go_roundg (al.length - (i + 1))
                  case measure => omega
                  case rel => exact ⟨i + 1, _, rfl, ⟨by rw [HY.out]; unfold wrap64; have := HAL.out; omega⟩, by omega, ⟨all_next HT.out (by rw [HYI.out, HBB3.out.1, HBB3.out.2.1, HBB3.out.2.2]; rfl)⟩, ⟨by repeat (first | exact HB.out | (with_reducible refine pw_below_drewN ?_ _))⟩⟩
                | true =>
                  go_wp2
                  go_quiet (first | (go_at_call 70; (with_reducible refine (manystrandref07_has.calls 1001 B0 e0 (lst L (rd vars 0).toNat) (rd al y) _ _ ?s1 ?s2 HFx.out).mono ?_); (case s2 => exact HSx.out.2); (case s1 => repeat (first | exact HSx.out.1 | (with_reducible refine Kd.C_drewN ?_ _) | (with_reducible refine Kd.C_drew ?_))); rintro e w4 ⟨rfl, ⟨nd, rfl⟩⟩; (try first | exact ⟨rfl, _, World.drewN_drewN _ _ _⟩ | exact ⟨rfl, _, rfl⟩)) | (go_at_call 70; (with_reducible refine (manystrandref07_has.calls 1001 B1 e1 (lst L (rd vars 1).toNat) (rd al y) _ _ ?s1 ?s2 HFy.out).mono ?_); (case s2 => exact HSy.out.2); (case s1 => repeat (first | exact HSy.out.1 | (with_reducible refine Kd.C_drewN ?_ _) | (with_reducible refine Kd.C_drew ?_))); rintro e w4 ⟨rfl, ⟨nd, rfl⟩⟩; (try first | exact ⟨rfl, _, World.drewN_drewN _ _ _⟩ | exact ⟨rfl, _, rfl⟩)) | (go_at_call 70; (with_reducible refine (manystrandref07_has.calls 1001 B2 e2 (lst L (rd vars 2).toNat) (rd al y) _ _ ?s1 ?s2 HFz.out).mono ?_); (case s2 => exact HSz.out.2); (case s1 => repeat (first | exact HSz.out.1 | (with_reducible refine Kd.C_drewN ?_ _) | (with_reducible refine Kd.C_drew ?_))); rintro e w4 ⟨rfl, ⟨nd, rfl⟩⟩; (try first | exact ⟨rfl, _, World.drewN_drewN _ _ _⟩ | exact ⟨rfl, _, rfl⟩)))
                  try go_wp2
                  go_ret
                  exact ⟨by rw [HR2.out, all_no hlt (by rw [HYI.out, HBB3.out.1, HBB3.out.2.1, HBB3.out.2.2]; rfl)]; rfl, by repeat (first | exact below_then HW3.out.1 HW3.out.1.size HB.out | (with_reducible refine pw_below_drewN ?_ _))⟩
              | true =>
                cases q_z with
                | false =>
                  go_wp2
                  go_quiet (first | (go_at_call 70; (with_reducible refine (manystrandref07_has.calls 1001 B0 e0 (lst L (rd vars 0).toNat) (rd al y) _ _ ?s1 ?s2 HFx.out).mono ?_); (case s2 => exact HSx.out.2); (case s1 => repeat (first | exact HSx.out.1 | (with_reducible refine Kd.C_drewN ?_ _) | (with_reducible refine Kd.C_drew ?_))); rintro e w4 ⟨rfl, ⟨nd, rfl⟩⟩; (try first | exact ⟨rfl, _, World.drewN_drewN _ _ _⟩ | exact ⟨rfl, _, rfl⟩)) | (go_at_call 70; (with_reducible refine (manystrandref07_has.calls 1001 B1 e1 (lst L (rd vars 1).toNat) (rd al y) _ _ ?s1 ?s2 HFy.out).mono ?_); (case s2 => exact HSy.out.2); (case s1 => repeat (first | exact HSy.out.1 | (with_reducible refine Kd.C_drewN ?_ _) | (with_reducible refine Kd.C_drew ?_))); rintro e w4 ⟨rfl, ⟨nd, rfl⟩⟩; (try first | exact ⟨rfl, _, World.drewN_drewN _ _ _⟩ | exact ⟨rfl, _, rfl⟩)) | (go_at_call 70; (with_reducible refine (manystrandref07_has.calls 1001 B2 e2 (lst L (rd vars 2).toNat) (rd al y) _ _ ?s1 ?s2 HFz.out).mono ?_); (case s2 => exact HSz.out.2); (case s1 => repeat (first | exact HSz.out.1 | (with_reducible refine Kd.C_drewN ?_ _) | (with_reducible refine Kd.C_drew ?_))); rintro e w4 ⟨rfl, ⟨nd, rfl⟩⟩; (try first | exact ⟨rfl, _, World.drewN_drewN _ _ _⟩ | exact ⟨rfl, _, rfl⟩)))
                  try go_wp2
                  go_roundg (al.length - (i + 1))
                  case measure => omega
                  case rel => exact ⟨i + 1, _, rfl, ⟨by rw [HY.out]; unfold wrap64; have := HAL.out; omega⟩, by omega, ⟨all_next HT.out (by rw [HYI.out, HBB3.out.1, HBB3.out.2.1, HBB3.out.2.2]; rfl)⟩, ⟨by repeat (first | exact HB.out | (with_reducible refine pw_below_drewN ?_ _))⟩⟩
                | true =>
                  go_wp2
                  go_quiet (first | (go_at_call 70; (with_reducible refine (manystrandref07_has.calls 1001 B0 e0 (lst L (rd vars 0).toNat) (rd al y) _ _ ?s1 ?s2 HFx.out).mono ?_); (case s2 => exact HSx.out.2); (case s1 => repeat (first | exact HSx.out.1 | (with_reducible refine Kd.C_drewN ?_ _) | (with_reducible refine Kd.C_drew ?_))); rintro e w4 ⟨rfl, ⟨nd, rfl⟩⟩; (try first | exact ⟨rfl, _, World.drewN_drewN _ _ _⟩ | exact ⟨rfl, _, rfl⟩)) | (go_at_call 70; (with_reducible refine (manystrandref07_has.calls 1001 B1 e1 (lst L (rd vars 1).toNat) (rd al y) _ _ ?s1 ?s2 HFy.out).mono ?_); (case s2 => exact HSy.out.2); (case s1 => repeat (first | exact HSy.out.1 | (with_reducible refine Kd.C_drewN ?_ _) | (with_reducible refine Kd.C_drew ?_))); rintro e w4 ⟨rfl, ⟨nd, rfl⟩⟩; (try first | exact ⟨rfl, _, World.drewN_drewN _ _ _⟩ | exact ⟨rfl, _, rfl⟩)) | (go_at_call 70; (with_reducible refine (manystrandref07_has.calls 1001 B2 e2 (lst L (rd vars 2).toNat) (rd al y) _ _ ?s1 ?s2 HFz.out).mono ?_); (case s2 => exact HSz.out.2); (case s1 => repeat (first | exact HSz.out.1 | (with_reducible refine Kd.C_drewN ?_ _) | (with_reducible refine Kd.C_drew ?_))); rintro e w4 ⟨rfl, ⟨nd, rfl⟩⟩; (try first | exact ⟨rfl, _, World.drewN_drewN _ _ _⟩ | exact ⟨rfl, _, rfl⟩)))
                  try go_wp2
                  go_ret
                  exact ⟨by rw [HR2.out, all_no hlt (by rw [HYI.out, HBB3.out.1, HBB3.out.2.1, HBB3.out.2.2]; rfl)]; rfl, by repeat (first | exact below_then HW3.out.1 HW3.out.1.size HB.out | (with_reducible refine pw_below_drewN ?_ _))⟩
            | true =>
              cases q_y with
              | false =>
                cases q_z with
                | false =>
                  go_wp2
                  go_quiet (first | (go_at_call 70; (with_reducible refine (manystrandref07_has.calls 1001 B0 e0 (lst L (rd vars 0).toNat) (rd al y) _ _ ?s1 ?s2 HFx.out).mono ?_); (case s2 => exact HSx.out.2); (case s1 => repeat (first | exact HSx.out.1 | (with_reducible refine Kd.C_drewN ?_ _) | (with_reducible refine Kd.C_drew ?_))); rintro e w4 ⟨rfl, ⟨nd, rfl⟩⟩; (try first | exact ⟨rfl, _, World.drewN_drewN _ _ _⟩ | exact ⟨rfl, _, rfl⟩)) | (go_at_call 70; (with_reducible refine (manystrandref07_has.calls 1001 B1 e1 (lst L (rd vars 1).toNat) (rd al y) _ _ ?s1 ?s2 HFy.out).mono ?_); (case s2 => exact HSy.out.2); (case s1 => repeat (first | exact HSy.out.1 | (with_reducible refine Kd.C_drewN ?_ _) | (with_reducible refine Kd.C_drew ?_))); rintro e w4 ⟨rfl, ⟨nd, rfl⟩⟩; (try first | exact ⟨rfl, _, World.drewN_drewN _ _ _⟩ | exact ⟨rfl, _, rfl⟩)) | (go_at_call 70; (with_reducible refine (manystrandref07_has.calls 1001 B2 e2 (lst L (rd vars 2).toNat) (rd al y) _ _ ?s1 ?s2 HFz.out).mono ?_); (case s2 => exact HSz.out.2); (case s1 => repeat (first | exact HSz.out.1 | (with_reducible refine Kd.C_drewN ?_ _) | (with_reducible refine Kd.C_drew ?_))); rintro e w4 ⟨rfl, ⟨nd, rfl⟩⟩; (try first | exact ⟨rfl, _, World.drewN_drewN _ _ _⟩ | exact ⟨rfl, _, rfl⟩)))
                  try go_wp2
                  go_roundg (al.length - (i + 1))
                  case measure => omega
                  case rel => exact ⟨i + 1, _, rfl, ⟨by rw [HY.out]; unfold wrap64; have := HAL.out; omega⟩, by omega, ⟨all_next HT.out (by rw [HYI.out, HBB3.out.1, HBB3.out.2.1, HBB3.out.2.2]; rfl)⟩, ⟨by repeat (first | exact HB.out | (with_reducible refine pw_below_drewN ?_ _))⟩⟩
                | true =>
                  go_wp2
                  go_quiet (first | (go_at_call 70; (with_reducible refine (manystrandref07_has.calls 1001 B0 e0 (lst L (rd vars 0).toNat) (rd al y) _ _ ?s1 ?s2 HFx.out).mono ?_); (case s2 => exact HSx.out.2); (case s1 => repeat (first | exact HSx.out.1 | (with_reducible refine Kd.C_drewN ?_ _) | (with_reducible refine Kd.C_drew ?_))); rintro e w4 ⟨rfl, ⟨nd, rfl⟩⟩; (try first | exact ⟨rfl, _, World.drewN_drewN _ _ _⟩ | exact ⟨rfl, _, rfl⟩)) | (go_at_call 70; (with_reducible refine (manystrandref07_has.calls 1001 B1 e1 (lst L (rd vars 1).toNat) (rd al y) _ _ ?s1 ?s2 HFy.out).mono ?_); (case s2 => exact HSy.out.2); (case s1 => repeat (first | exact HSy.out.1 | (with_reducible refine Kd.C_drewN ?_ _) | (with_reducible refine Kd.C_drew ?_))); rintro e w4 ⟨rfl, ⟨nd, rfl⟩⟩; (try first | exact ⟨rfl, _, World.drewN_drewN _ _ _⟩ | exact ⟨rfl, _, rfl⟩)) | (go_at_call 70; (with_reducible refine (manystrandref07_has.calls 1001 B2 e2 (lst L (rd vars 2).toNat) (rd al y) _ _ ?s1 ?s2 HFz.out).mono ?_); (case s2 => exact HSz.out.2); (case s1 => repeat (first | exact HSz.out.1 | (with_reducible refine Kd.C_drewN ?_ _) | (with_reducible refine Kd.C_drew ?_))); rintro e w4 ⟨rfl, ⟨nd, rfl⟩⟩; (try first | exact ⟨rfl, _, World.drewN_drewN _ _ _⟩ | exact ⟨rfl, _, rfl⟩)))
                  try go_wp2
                  go_ret
                  exact ⟨by rw [HR2.out, all_no hlt (by rw [HYI.out, HBB3.out.1, HBB3.out.2.1, HBB3.out.2.2]; rfl)]; rfl, by repeat (first | exact below_then HW3.out.1 HW3.out.1.size HB.out | (with_reducible refine pw_below_drewN ?_ _))⟩
              | true =>
                cases q_z with
                | false =>
                  go_wp2
                  go_quiet (first | (go_at_call 70; (with_reducible refine (manystrandref07_has.calls 1001 B0 e0 (lst L (rd vars 0).toNat) (rd al y) _ _ ?s1 ?s2 HFx.out).mono ?_); (case s2 => exact HSx.out.2); (case s1 => repeat (first | exact HSx.out.1 | (with_reducible refine Kd.C_drewN ?_ _) | (with_reducible refine Kd.C_drew ?_))); rintro e w4 ⟨rfl, ⟨nd, rfl⟩⟩; (try first | exact ⟨rfl, _, World.drewN_drewN _ _ _⟩ | exact ⟨rfl, _, rfl⟩)) | (go_at_call 70; (with_reducible refine (manystrandref07_has.calls 1001 B1 e1 (lst L (rd vars 1).toNat) (rd al y) _ _ ?s1 ?s2 HFy.out).mono ?_); (case s2 => exact HSy.out.2); (case s1 => repeat (first | exact HSy.out.1 | (with_reducible refine Kd.C_drewN ?_ _) | (with_reducible refine Kd.C_drew ?_))); rintro e w4 ⟨rfl, ⟨nd, rfl⟩⟩; (try first | exact ⟨rfl, _, World.drewN_drewN _ _ _⟩ | exact ⟨rfl, _, rfl⟩)) | (go_at_call 70; (with_reducible refine (manystrandref07_has.calls 1001 B2 e2 (lst L (rd vars 2).toNat) (rd al y) _ _ ?s1 ?s2 HFz.out).mono ?_); (case s2 => exact HSz.out.2); (case s1 => repeat (first | exact HSz.out.1 | (with_reducible refine Kd.C_drewN ?_ _) | (with_reducible refine Kd.C_drew ?_))); rintro e w4 ⟨rfl, ⟨nd, rfl⟩⟩; (try first | exact ⟨rfl, _, World.drewN_drewN _ _ _⟩ | exact ⟨rfl, _, rfl⟩)))
                  try go_wp2
                  go_ret
                  exact ⟨by rw [HR2.out, all_no hlt (by rw [HYI.out, HBB3.out.1, HBB3.out.2.1, HBB3.out.2.2]; rfl)]; rfl, by repeat (first | exact below_then HW3.out.1 HW3.out.1.size HB.out | (with_reducible refine pw_below_drewN ?_ _))⟩
                | true =>
                  go_wp2
                  go_quiet (first | (go_at_call 70; (with_reducible refine (manystrandref07_has.calls 1001 B0 e0 (lst L (rd vars 0).toNat) (rd al y) _ _ ?s1 ?s2 HFx.out).mono ?_); (case s2 => exact HSx.out.2); (case s1 => repeat (first | exact HSx.out.1 | (with_reducible refine Kd.C_drewN ?_ _) | (with_reducible refine Kd.C_drew ?_))); rintro e w4 ⟨rfl, ⟨nd, rfl⟩⟩; (try first | exact ⟨rfl, _, World.drewN_drewN _ _ _⟩ | exact ⟨rfl, _, rfl⟩)) | (go_at_call 70; (with_reducible refine (manystrandref07_has.calls 1001 B1 e1 (lst L (rd vars 1).toNat) (rd al y) _ _ ?s1 ?s2 HFy.out).mono ?_); (case s2 => exact HSy.out.2); (case s1 => repeat (first | exact HSy.out.1 | (with_reducible refine Kd.C_drewN ?_ _) | (with_reducible refine Kd.C_drew ?_))); rintro e w4 ⟨rfl, ⟨nd, rfl⟩⟩; (try first | exact ⟨rfl, _, World.drewN_drewN _ _ _⟩ | exact ⟨rfl, _, rfl⟩)) | (go_at_call 70; (with_reducible refine (manystrandref07_has.calls 1001 B2 e2 (lst L (rd vars 2).toNat) (rd al y) _ _ ?s1 ?s2 HFz.out).mono ?_); (case s2 => exact HSz.out.2); (case s1 => repeat (first | exact HSz.out.1 | (with_reducible refine Kd.C_drewN ?_ _) | (with_reducible refine Kd.C_drew ?_))); rintro e w4 ⟨rfl, ⟨nd, rfl⟩⟩; (try first | exact ⟨rfl, _, World.drewN_drewN _ _ _⟩ | exact ⟨rfl, _, rfl⟩)))
                  try go_wp2
                  go_roundg (al.length - (i + 1))
                  case measure => omega
                  case rel => exact ⟨i + 1, _, rfl, ⟨by rw [HY.out]; unfold wrap64; have := HAL.out; omega⟩, by omega, ⟨all_next HT.out (by rw [HYI.out, HBB3.out.1, HBB3.out.2.1, HBB3.out.2.2]; rfl)⟩, ⟨by repeat (first | exact HB.out | (with_reducible refine pw_below_drewN ?_ _))⟩⟩
          · obtain rfl : i = al.length := by omega
            have q1 : decide (y < (al.length : Int)) = false := decide_eq_false (by have := HY.out; omega)
            have q3 := eq_false (show ¬ y < (al.length : Int) by have := HY.out; omega)
            go_wp2
            go_ret
            exact ⟨by rw [HR2.out, all_yes HT.out]; rfl, below_then HW3.out.1 HW3.out.1.size HB.out⟩
      | minus =>
        have hn : vars.length = 3 := HN.out.1
        have b0 := (blk_cell HBX.out 0)
        simp only [List.getElem?_toArray, List.getElem?_cons_zero, List.getElem?_cons_succ, Kn.text] at b0
        have hv0 := HN.out.2.1 0 (by omega)
        obtain ⟨ad, ea0, hx0⟩ := Kd.at_int HV.out.1 0 (by omega) (by omega)
        subst ea0
        replace hx0 : wr.cell? (ad.add 0) = some (.int .i64 (rd vars 0)) := (HBB.out.cell (World.block_lt_of_cell? w _ hx0)).trans hx0
        have hx0' : wr.cell? ad = some (.int .i64 (rd vars 0)) := by rw [← Addr.add_zero' ad]; exact hx0
        replace hv0 : 0 ≤ rd vars 0 ∧ rd vars 0 < L.length := hv0
        obtain ⟨bd, B0, e0, eb0, hy0, hS0⟩ := at_II HL.out (rd vars 0) hv0.1 hv0.2
        subst eb0
        replace hy0 := (HBB.out.cell (World.block_lt_of_cell? w _ hy0)).trans hy0
        replace hS0 := sl_below hS0 HBB.out
        have r0 := decide_eq_true hv0.1
        have s0 := decide_eq_true hv0.2
        have t0 := eq_true hv0.1
        have u0 := eq_true hv0.2
        have hv1 := HN.out.2.1 1 (by omega)
        obtain ⟨ad, ea1, hx1⟩ := Kd.at_int HV.out.1 1 (by omega) (by omega)
        cases ea1
        replace hx1 : wr.cell? (ad.add 1) = some (.int .i64 (rd vars 1)) := (HBB.out.cell (World.block_lt_of_cell? w _ hx1)).trans hx1
        have hx1' : wr.cell? ⟨ad.block, ad.off + 1, none⟩ = some (.int .i64 (rd vars 1)) := by rw [← add_num ad 1 (by decide)]; exact hx1
        replace hv1 : 0 ≤ rd vars 1 ∧ rd vars 1 < L.length := hv1
        obtain ⟨bd, B1, e1, eb1, hy1, hS1⟩ := at_II HL.out (rd vars 1) hv1.1 hv1.2
        cases eb1
        replace hy1 := (HBB.out.cell (World.block_lt_of_cell? w _ hy1)).trans hy1
        replace hS1 := sl_below hS1 HBB.out
        have r1 := decide_eq_true hv1.1
        have s1 := decide_eq_true hv1.2
        have t1 := eq_true hv1.1
        have u1 := eq_true hv1.2
        have hv2 := HN.out.2.1 2 (by omega)
        obtain ⟨ad, ea2, hx2⟩ := Kd.at_int HV.out.1 2 (by omega) (by omega)
        cases ea2
        replace hx2 : wr.cell? (ad.add 2) = some (.int .i64 (rd vars 2)) := (HBB.out.cell (World.block_lt_of_cell? w _ hx2)).trans hx2
        have hx2' : wr.cell? ⟨ad.block, ad.off + 2, none⟩ = some (.int .i64 (rd vars 2)) := by rw [← add_num ad 2 (by decide)]; exact hx2
        replace hv2 : 0 ≤ rd vars 2 ∧ rd vars 2 < L.length := hv2
        obtain ⟨bd, B2, e2, eb2, hy2, hS2⟩ := at_II HL.out (rd vars 2) hv2.1 hv2.2
        cases eb2
        replace hy2 := (HBB.out.cell (World.block_lt_of_cell? w _ hy2)).trans hy2
        replace hS2 := sl_below hS2 HBB.out
        have r2 := decide_eq_true hv2.1
        have s2 := decide_eq_true hv2.2
        have t2 := eq_true hv2.1
        have u2 := eq_true hv2.2
        have n0 : decide (0 < vars.length) = true := decide_eq_true (by omega)
        have n0' := eq_true (show 0 < vars.length by omega)
        have n1 : decide (1 < vars.length) = true := decide_eq_true (by omega)
        have n1' := eq_true (show 1 < vars.length by omega)
        have n2 : decide (2 < vars.length) = true := decide_eq_true (by omega)
        have n2' := eq_true (show 2 < vars.length by omega)
        have k0 : decide ((0 : Int) < (vars.length : Int)) = true := decide_eq_true (by omega)
        have k0' := eq_true (show (0 : Int) < (vars.length : Int) by omega)
        have k1 : decide ((1 : Int) < (vars.length : Int)) = true := decide_eq_true (by omega)
        have k1' := eq_true (show (1 : Int) < (vars.length : Int) by omega)
        have k2 : decide ((2 : Int) < (vars.length : Int)) = true := decide_eq_true (by omega)
        have k2' := eq_true (show (2 : Int) < (vars.length : Int) by omega)
        have HW : Aside0 (Rw w wr B0 e0 (lst L (rd vars 0).toNat) B1 e1 (lst L (rd vars 1).toNat) B2 e2 (lst L (rd vars 2).toNat)) := ⟨⟨HBB.out, hS0, hS1, hS2⟩⟩
        have HZ : Aside0 ((lst L (rd vars 0).toNat).length ≤ 1000 ∧ (lst L (rd vars 1).toNat).length ≤ 1000 ∧ (lst L (rd vars 2).toNat).length ≤ 1000) := ⟨⟨HN.out.2.2.2 _, HN.out.2.2.2 _, HN.out.2.2.2 _⟩⟩
        have HP0 : Aside0 (Pk wr wr (.slice none 0 0) []) := ⟨⟨by simp, .inl ⟨rfl, rfl⟩⟩, Below.refl _ _⟩
        clear hS0 hv0 hS1 hv1 hS2 hv2 HV HL HN hn
        go_upto_region 15 with (first
          | (at_builtin; (refine app_row HP2.out (rw_pk HW.out HP2.out).2.2.2 (by have := HZ.out; simp only [List.length_append, List.length_nil]; omega) rfl (.tmp 65) (.tmp 66) rfl rfl rfl ?_); intro v3 w3 hp; have HP3 := Aside0.mk hp; clear hp)
          | (at_builtin; (refine app_row HP1.out (rw_pk HW.out HP1.out).2.2.1 (by have := HZ.out; simp only [List.length_append, List.length_nil]; omega) rfl (.tmp 63) (.tmp 64) rfl rfl rfl ?_); intro v2 w2' hp; have HP2 := Aside0.mk hp; clear hp)
          | (at_builtin; (refine app_row HP0.out HW.out.2.1 (by have := HZ.out; simp only [List.length_nil]; omega) rfl (.const (.slice none 0 0)) (.tmp 62) rfl rfl rfl ?_); intro v1 w1' hp; have HP1 := Aside0.mk hp; clear hp))
        have HW3 := Aside0.mk (rw_pk HW.out HP3.out)
        replace b0 := pw_cell_below HP3.out.2 b0
        replace b2 := pw_cell_below HP3.out.2 b2
        obtain ⟨al, hal⟩ : ∃ al : List Int, ((([] ++ (lst L (rd vars 0).toNat)) ++ (lst L (rd vars 1).toNat)) ++ (lst L (rd vars 2).toNat)) = al := ⟨_, rfl⟩
        rw [hal] at HP3
        obtain ⟨A3, c3, rfl, hs3⟩ := pk_sl HP3.out
        have HS3 := Aside0.mk hs3
        have HR2 : Aside0 (r = al.all fun x => Kn.okR (decide (x ∈ (lst L (rd vars 0).toNat))) (decide (x ∈ (lst L (rd vars 1).toNat))) (decide (x ∈ (lst L (rd vars 2).toNat))) .minus) := ⟨by rw [← hal, List.nil_append]; exact HR1.out⟩
        have HAL : Aside0 (al.length ≤ 3000) := ⟨by rw [← hal]; have := HZ.out; simp only [List.length_append, List.length_nil]; omega⟩
        clear hs3 hal HR1 HP0 HP1 HP2 HW
        go_upto_region 27 with fail
        go_loopg [10] al.length (fun kq v10 w' => ∃ (i : Nat) (y : Int), v10 = .int .i64 y ∧ Aside0 (y = (i : Int)) ∧ i + kq = al.length ∧ Aside0 (∀ j : Nat, j < i → Kn.okR (decide (rd al (j : Int) ∈ (lst L (rd vars 0).toNat))) (decide (rd al (j : Int) ∈ (lst L (rd vars 1).toNat))) (decide (rd al (j : Int) ∈ (lst L (rd vars 2).toNat))) .minus = true) ∧ Aside0 (Below w3.heap.size w3 w'))
        case atStart => exact ⟨0, 0, rfl, ⟨rfl⟩, by omega, ⟨fun j hj => absurd hj (by omega)⟩, ⟨Below.refl _ _⟩⟩
        case round =>
          obtain ⟨i, y, rfl, HY, hi, HT, HB⟩ := hrel
          replace b0 := pw_cell_below HB.out b0
          by_cases hlt : i < al.length
          · have q0 : decide (0 ≤ y) = true := decide_eq_true (by have := HY.out; omega)
            have q1 : decide (y < (al.length : Int)) = true := decide_eq_true (by have := HY.out; omega)
            have q2 := eq_true (show 0 ≤ y by have := HY.out; omega)
            have q3 := eq_true (show y < (al.length : Int) by have := HY.out; omega)
            have HS4 := Aside0.mk (sl_below HS3.out HB.out)
            obtain ⟨cd, rfl, hz0⟩ := Kd.at_int HS4.out.1 y (by have := HY.out; omega) (by have := HY.out; omega)
            have HYI : Aside0 ((i : Int) = y) := ⟨by have := HY.out; omega⟩
            have hFx := has_f (lst L (rd vars 0).toNat) (rd al y) (k := 1001) (by have := HZ.out; omega) (by have := HZ.out; omega)
            obtain ⟨q_x, hbx⟩ : ∃ b, decide (rd al y ∈ (lst L (rd vars 0).toNat)) = b := ⟨_, rfl⟩
            rw [hbx] at hFx
            have HFx := Aside0.mk hFx
            have HSx := Aside0.mk (sl_below HW3.out.2.1 HB.out)
            have hFy := has_f (lst L (rd vars 1).toNat) (rd al y) (k := 1001) (by have := HZ.out; omega) (by have := HZ.out; omega)
            obtain ⟨q_y, hby⟩ : ∃ b, decide (rd al y ∈ (lst L (rd vars 1).toNat)) = b := ⟨_, rfl⟩
            rw [hby] at hFy
            have HFy := Aside0.mk hFy
            have HSy := Aside0.mk (sl_below HW3.out.2.2.1 HB.out)
            have hFz := has_f (lst L (rd vars 2).toNat) (rd al y) (k := 1001) (by have := HZ.out; omega) (by have := HZ.out; omega)
            obtain ⟨q_z, hbz⟩ : ∃ b, decide (rd al y ∈ (lst L (rd vars 2).toNat)) = b := ⟨_, rfl⟩
            rw [hbz] at hFz
            have HFz := Aside0.mk hFz
            have HSz := Aside0.mk (sl_below HW3.out.2.2.2 HB.out)
            have HBB3 := Aside0.mk (And.intro hbx (And.intro hby hbz))
            clear hFx hFy hFz hbx hby hbz
            cases q_x with
            | false =>
              cases q_y with
              | false =>
                cases q_z with
                | false =>
                  go_wp2
                  go_quiet (first | (go_at_call 70; (with_reducible refine (manystrandref07_has.calls 1001 B0 e0 (lst L (rd vars 0).toNat) (rd al y) _ _ ?s1 ?s2 HFx.out).mono ?_); (case s2 => exact HSx.out.2); (case s1 => repeat (first | exact HSx.out.1 | (with_reducible refine Kd.C_drewN ?_ _) | (with_reducible refine Kd.C_drew ?_))); rintro e w4 ⟨rfl, ⟨nd, rfl⟩⟩; (try first | exact ⟨rfl, _, World.drewN_drewN _ _ _⟩ | exact ⟨rfl, _, rfl⟩)) | (go_at_call 70; (with_reducible refine (manystrandref07_has.calls 1001 B1 e1 (lst L (rd vars 1).toNat) (rd al y) _ _ ?s1 ?s2 HFy.out).mono ?_); (case s2 => exact HSy.out.2); (case s1 => repeat (first | exact HSy.out.1 | (with_reducible refine Kd.C_drewN ?_ _) | (with_reducible refine Kd.C_drew ?_))); rintro e w4 ⟨rfl, ⟨nd, rfl⟩⟩; (try first | exact ⟨rfl, _, World.drewN_drewN _ _ _⟩ | exact ⟨rfl, _, rfl⟩)) | (go_at_call 70; (with_reducible refine (manystrandref07_has.calls 1001 B2 e2 (lst L (rd vars 2).toNat) (rd al y) _ _ ?s1 ?s2 HFz.out).mono ?_); (case s2 => exact HSz.out.2); (case s1 => repeat (first | exact HSz.out.1 | (with_reducible refine Kd.C_drewN ?_ _) | (with_reducible refine Kd.C_drew ?_))); rintro e w4 ⟨rfl, ⟨nd, rfl⟩⟩; (try first | exact ⟨rfl, _, World.drewN_drewN _ _ _⟩ | exact ⟨rfl, _, rfl⟩)))
                  try go_wp2
                  go_roundg (al.length - (i + 1))
                  case measure => omega
                  case rel => exact ⟨i + 1, _, rfl, ⟨by rw [HY.out]; unfold wrap64; have := HAL.out; omega⟩, by omega, ⟨all_next HT.out (by rw [HYI.out, HBB3.out.1, HBB3.out.2.1, HBB3.out.2.2]; rfl)⟩, ⟨by repeat (first | exact HB.out | (with_reducible refine pw_below_drewN ?_ _))⟩⟩
                | true =>
                  go_wp2
                  go_quiet (first | (go_at_call 70; (with_reducible refine (manystrandref07_has.calls 1001 B0 e0 (lst L (rd vars 0).toNat) (rd al y) _ _ ?s1 ?s2 HFx.out).mono ?_); (case s2 => exact HSx.out.2); (case s1 => repeat (first | exact HSx.out.1 | (with_reducible refine Kd.C_drewN ?_ _) | (with_reducible refine Kd.C_drew ?_))); rintro e w4 ⟨rfl, ⟨nd, rfl⟩⟩; (try first | exact ⟨rfl, _, World.drewN_drewN _ _ _⟩ | exact ⟨rfl, _, rfl⟩)) | (go_at_call 70; (with_reducible refine (manystrandref07_has.calls 1001 B1 e1 (lst L (rd vars 1).toNat) (rd al y) _ _ ?s1 ?s2 HFy.out).mono ?_); (case s2 => exact HSy.out.2); (case s1 => repeat (first | exact HSy.out.1 | (with_reducible refine Kd.C_drewN ?_ _) | (with_reducible refine Kd.C_drew ?_))); rintro e w4 ⟨rfl, ⟨nd, rfl⟩⟩; (try first | exact ⟨rfl, _, World.drewN_drewN _ _ _⟩ | exact ⟨rfl, _, rfl⟩)) | (go_at_call 70; (with_reducible refine (manystrandref07_has.calls 1001 B2 e2 (lst L (rd vars 2).toNat) (rd al y) _ _ ?s1 ?s2 HFz.out).mono ?_); (case s2 => exact HSz.out.2); (case s1 => repeat (first | exact HSz.out.1 | (with_reducible refine Kd.C_drewN ?_ _) | (with_reducible refine Kd.C_drew ?_))); rintro e w4 ⟨rfl, ⟨nd, rfl⟩⟩; (try first | exact ⟨rfl, _, World.drewN_drewN _ _ _⟩ | exact ⟨rfl, _, rfl⟩)))
                  try go_wp2
                  go_ret
                  exact ⟨by rw [HR2.out, all_no hlt (by rw [HYI.out, HBB3.out.1, HBB3.out.2.1, HBB3.out.2.2]; rfl)]; rfl, by repeat (first | exact below_then HW3.out.1 HW3.out.1.size HB.out | (with_reducible refine pw_below_drewN ?_ _))⟩
              | true =>
                cases q_z with
                | false =>
                  go_wp2
                  go_quiet (first | (go_at_call 70; (with_reducible refine (manystrandref07_has.calls 1001 B0 e0 (lst L (rd vars 0).toNat) (rd al y) _ _ ?s1 ?s2 HFx.out).mono ?_); (case s2 => exact HSx.out.2); (case s1 => repeat (first | exact HSx.out.1 | (with_reducible refine Kd.C_drewN ?_ _) | (with_reducible refine Kd.C_drew ?_))); rintro e w4 ⟨rfl, ⟨nd, rfl⟩⟩; (try first | exact ⟨rfl, _, World.drewN_drewN _ _ _⟩ | exact ⟨rfl, _, rfl⟩)) | (go_at_call 70; (with_reducible refine (manystrandref07_has.calls 1001 B1 e1 (lst L (rd vars 1).toNat) (rd al y) _ _ ?s1 ?s2 HFy.out).mono ?_); (case s2 => exact HSy.out.2); (case s1 => repeat (first | exact HSy.out.1 | (with_reducible refine Kd.C_drewN ?_ _) | (with_reducible refine Kd.C_drew ?_))); rintro e w4 ⟨rfl, ⟨nd, rfl⟩⟩; (try first | exact ⟨rfl, _, World.drewN_drewN _ _ _⟩ | exact ⟨rfl, _, rfl⟩)) | (go_at_call 70; (with_reducible refine (manystrandref07_has.calls 1001 B2 e2 (lst L (rd vars 2).toNat) (rd al y) _ _ ?s1 ?s2 HFz.out).mono ?_); (case s2 => exact HSz.out.2); (case s1 => repeat (first | exact HSz.out.1 | (with_reducible refine Kd.C_drewN ?_ _) | (with_reducible refine Kd.C_drew ?_))); rintro e w4 ⟨rfl, ⟨nd, rfl⟩⟩; (try first | exact ⟨rfl, _, World.drewN_drewN _ _ _⟩ | exact ⟨rfl, _, rfl⟩)))
                  try go_wp2
                  go_roundg (al.length - (i + 1))
                  case measure => omega
                  case rel => exact ⟨i + 1, _, rfl, ⟨by rw [HY.out]; unfold wrap64; have := HAL.out; omega⟩, by omega, ⟨all_next HT.out (by rw [HYI.out, HBB3.out.1, HBB3.out.2.1, HBB3.out.2.2]; rfl)⟩, ⟨by repeat (first | exact HB.out | (with_reducible refine pw_below_drewN ?_ _))⟩⟩
                | true =>
                  go_wp2
                  go_quiet (first | (go_at_call 70; (with_reducible refine (manystrandref07_has.calls 1001 B0 e0 (lst L (rd vars 0).toNat) (rd al y) _ _ ?s1 ?s2 HFx.out).mono ?_); (case s2 => exact HSx.out.2); (case s1 => repeat (first | exact HSx.out.1 | (with_reducible refine Kd.C_drewN ?_ _) | (with_reducible refine Kd.C_drew ?_))); rintro e w4 ⟨rfl, ⟨nd, rfl⟩⟩; (try first | exact ⟨rfl, _, World.drewN_drewN _ _ _⟩ | exact ⟨rfl, _, rfl⟩)) | (go_at_call 70; (with_reducible refine (manystrandref07_has.calls 1001 B1 e1 (lst L (rd vars 1).toNat) (rd al y) _ _ ?s1 ?s2 HFy.out).mono ?_); (case s2 => exact HSy.out.2); (case s1 => repeat (first | exact HSy.out.1 | (with_reducible refine Kd.C_drewN ?_ _) | (with_reducible refine Kd.C_drew ?_))); rintro e w4 ⟨rfl, ⟨nd, rfl⟩⟩; (try first | exact ⟨rfl, _, World.drewN_drewN _ _ _⟩ | exact ⟨rfl, _, rfl⟩)) | (go_at_call 70; (with_reducible refine (manystrandref07_has.calls 1001 B2 e2 (lst L (rd vars 2).toNat) (rd al y) _ _ ?s1 ?s2 HFz.out).mono ?_); (case s2 => exact HSz.out.2); (case s1 => repeat (first | exact HSz.out.1 | (with_reducible refine Kd.C_drewN ?_ _) | (with_reducible refine Kd.C_drew ?_))); rintro e w4 ⟨rfl, ⟨nd, rfl⟩⟩; (try first | exact ⟨rfl, _, World.drewN_drewN _ _ _⟩ | exact ⟨rfl, _, rfl⟩)))
                  try go_wp2
                  go_ret
                  exact ⟨by rw [HR2.out, all_no hlt (by rw [HYI.out, HBB3.out.1, HBB3.out.2.1, HBB3.out.2.2]; rfl)]; rfl, by repeat (first | exact below_then HW3.out.1 HW3.out.1.size HB.out | (with_reducible refine pw_below_drewN ?_ _))⟩
            | true =>
              cases q_y with
              | false =>
                cases q_z with
                | false =>
                  go_wp2
                  go_quiet (first | (go_at_call 70; (with_reducible refine (manystrandref07_has.calls 1001 B0 e0 (lst L (rd vars 0).toNat) (rd al y) _ _ ?s1 ?s2 HFx.out).mono ?_); (case s2 => exact HSx.out.2); (case s1 => repeat (first | exact HSx.out.1 | (with_reducible refine Kd.C_drewN ?_ _) | (with_reducible refine Kd.C_drew ?_))); rintro e w4 ⟨rfl, ⟨nd, rfl⟩⟩; (try first | exact ⟨rfl, _, World.drewN_drewN _ _ _⟩ | exact ⟨rfl, _, rfl⟩)) | (go_at_call 70; (with_reducible refine (manystrandref07_has.calls 1001 B1 e1 (lst L (rd vars 1).toNat) (rd al y) _ _ ?s1 ?s2 HFy.out).mono ?_); (case s2 => exact HSy.out.2); (case s1 => repeat (first | exact HSy.out.1 | (with_reducible refine Kd.C_drewN ?_ _) | (with_reducible refine Kd.C_drew ?_))); rintro e w4 ⟨rfl, ⟨nd, rfl⟩⟩; (try first | exact ⟨rfl, _, World.drewN_drewN _ _ _⟩ | exact ⟨rfl, _, rfl⟩)) | (go_at_call 70; (with_reducible refine (manystrandref07_has.calls 1001 B2 e2 (lst L (rd vars 2).toNat) (rd al y) _ _ ?s1 ?s2 HFz.out).mono ?_); (case s2 => exact HSz.out.2); (case s1 => repeat (first | exact HSz.out.1 | (with_reducible refine Kd.C_drewN ?_ _) | (with_reducible refine Kd.C_drew ?_))); rintro e w4 ⟨rfl, ⟨nd, rfl⟩⟩; (try first | exact ⟨rfl, _, World.drewN_drewN _ _ _⟩ | exact ⟨rfl, _, rfl⟩)))
                  try go_wp2
                  go_ret
                  exact ⟨by rw [HR2.out, all_no hlt (by rw [HYI.out, HBB3.out.1, HBB3.out.2.1, HBB3.out.2.2]; rfl)]; rfl, by repeat (first | exact below_then HW3.out.1 HW3.out.1.size HB.out | (with_reducible refine pw_below_drewN ?_ _))⟩
                | true =>
                  go_wp2
                  go_quiet (first | (go_at_call 70; (with_reducible refine (manystrandref07_has.calls 1001 B0 e0 (lst L (rd vars 0).toNat) (rd al y) _ _ ?s1 ?s2 HFx.out).mono ?_); (case s2 => exact HSx.out.2); (case s1 => repeat (first | exact HSx.out.1 | (with_reducible refine Kd.C_drewN ?_ _) | (with_reducible refine Kd.C_drew ?_))); rintro e w4 ⟨rfl, ⟨nd, rfl⟩⟩; (try first | exact ⟨rfl, _, World.drewN_drewN _ _ _⟩ | exact ⟨rfl, _, rfl⟩)) | (go_at_call 70; (with_reducible refine (manystrandref07_has.calls 1001 B1 e1 (lst L (rd vars 1).toNat) (rd al y) _ _ ?s1 ?s2 HFy.out).mono ?_); (case s2 => exact HSy.out.2); (case s1 => repeat (first | exact HSy.out.1 | (with_reducible refine Kd.C_drewN ?_ _) | (with_reducible refine Kd.C_drew ?_))); rintro e w4 ⟨rfl, ⟨nd, rfl⟩⟩; (try first | exact ⟨rfl, _, World.drewN_drewN _ _ _⟩ | exact ⟨rfl, _, rfl⟩)) | (go_at_call 70; (with_reducible refine (manystrandref07_has.calls 1001 B2 e2 (lst L (rd vars 2).toNat) (rd al y) _ _ ?s1 ?s2 HFz.out).mono ?_); (case s2 => exact HSz.out.2); (case s1 => repeat (first | exact HSz.out.1 | (with_reducible refine Kd.C_drewN ?_ _) | (with_reducible refine Kd.C_drew ?_))); rintro e w4 ⟨rfl, ⟨nd, rfl⟩⟩; (try first | exact ⟨rfl, _, World.drewN_drewN _ _ _⟩ | exact ⟨rfl, _, rfl⟩)))
                  try go_wp2
                  go_roundg (al.length - (i + 1))
                  case measure => omega
                  case rel => exact ⟨i + 1, _, rfl, ⟨by rw [HY.out]; unfold wrap64; have := HAL.out; omega⟩, by omega, ⟨all_next HT.out (by rw [HYI.out, HBB3.out.1, HBB3.out.2.1, HBB3.out.2.2]; rfl)⟩, ⟨by repeat (first | exact HB.out | (with_reducible refine pw_below_drewN ?_ _))⟩⟩
              | true =>
                cases q_z with
                | false =>
                  go_wp2
                  go_quiet (first | (go_at_call 70; (with_reducible refine (manystrandref07_has.calls 1001 B0 e0 (lst L (rd vars 0).toNat) (rd al y) _ _ ?s1 ?s2 HFx.out).mono ?_); (case s2 => exact HSx.out.2); (case s1 => repeat (first | exact HSx.out.1 | (with_reducible refine Kd.C_drewN ?_ _) | (with_reducible refine Kd.C_drew ?_))); rintro e w4 ⟨rfl, ⟨nd, rfl⟩⟩; (try first | exact ⟨rfl, _, World.drewN_drewN _ _ _⟩ | exact ⟨rfl, _, rfl⟩)) | (go_at_call 70; (with_reducible refine (manystrandref07_has.calls 1001 B1 e1 (lst L (rd vars 1).toNat) (rd al y) _ _ ?s1 ?s2 HFy.out).mono ?_); (case s2 => exact HSy.out.2); (case s1 => repeat (first | exact HSy.out.1 | (with_reducible refine Kd.C_drewN ?_ _) | (with_reducible refine Kd.C_drew ?_))); rintro e w4 ⟨rfl, ⟨nd, rfl⟩⟩; (try first | exact ⟨rfl, _, World.drewN_drewN _ _ _⟩ | exact ⟨rfl, _, rfl⟩)) | (go_at_call 70; (with_reducible refine (manystrandref07_has.calls 1001 B2 e2 (lst L (rd vars 2).toNat) (rd al y) _ _ ?s1 ?s2 HFz.out).mono ?_); (case s2 => exact HSz.out.2); (case s1 => repeat (first | exact HSz.out.1 | (with_reducible refine Kd.C_drewN ?_ _) | (with_reducible refine Kd.C_drew ?_))); rintro e w4 ⟨rfl, ⟨nd, rfl⟩⟩; (try first | exact ⟨rfl, _, World.drewN_drewN _ _ _⟩ | exact ⟨rfl, _, rfl⟩)))
                  try go_wp2
                  go_roundg (al.length - (i + 1))
                  case measure => omega
                  case rel => exact ⟨i + 1, _, rfl, ⟨by rw [HY.out]; unfold wrap64; have := HAL.out; omega⟩, by omega, ⟨all_next HT.out (by rw [HYI.out, HBB3.out.1, HBB3.out.2.1, HBB3.out.2.2]; rfl)⟩, ⟨by repeat (first | exact HB.out | (with_reducible refine pw_below_drewN ?_ _))⟩⟩
                | true =>
                  go_wp2
                  go_quiet (first | (go_at_call 70; (with_reducible refine (manystrandref07_has.calls 1001 B0 e0 (lst L (rd vars 0).toNat) (rd al y) _ _ ?s1 ?s2 HFx.out).mono ?_); (case s2 => exact HSx.out.2); (case s1 => repeat (first | exact HSx.out.1 | (with_reducible refine Kd.C_drewN ?_ _) | (with_reducible refine Kd.C_drew ?_))); rintro e w4 ⟨rfl, ⟨nd, rfl⟩⟩; (try first | exact ⟨rfl, _, World.drewN_drewN _ _ _⟩ | exact ⟨rfl, _, rfl⟩)) | (go_at_call 70; (with_reducible refine (manystrandref07_has.calls 1001 B1 e1 (lst L (rd vars 1).toNat) (rd al y) _ _ ?s1 ?s2 HFy.out).mono ?_); (case s2 => exact HSy.out.2); (case s1 => repeat (first | exact HSy.out.1 | (with_reducible refine Kd.C_drewN ?_ _) | (with_reducible refine Kd.C_drew ?_))); rintro e w4 ⟨rfl, ⟨nd, rfl⟩⟩; (try first | exact ⟨rfl, _, World.drewN_drewN _ _ _⟩ | exact ⟨rfl, _, rfl⟩)) | (go_at_call 70; (with_reducible refine (manystrandref07_has.calls 1001 B2 e2 (lst L (rd vars 2).toNat) (rd al y) _ _ ?s1 ?s2 HFz.out).mono ?_); (case s2 => exact HSz.out.2); (case s1 => repeat (first | exact HSz.out.1 | (with_reducible refine Kd.C_drewN ?_ _) | (with_reducible refine Kd.C_drew ?_))); rintro e w4 ⟨rfl, ⟨nd, rfl⟩⟩; (try first | exact ⟨rfl, _, World.drewN_drewN _ _ _⟩ | exact ⟨rfl, _, rfl⟩)))
                  try go_wp2
                  go_ret
                  exact ⟨by rw [HR2.out, all_no hlt (by rw [HYI.out, HBB3.out.1, HBB3.out.2.1, HBB3.out.2.2]; rfl)]; rfl, by repeat (first | exact below_then HW3.out.1 HW3.out.1.size HB.out | (with_reducible refine pw_below_drewN ?_ _))⟩
          · obtain rfl : i = al.length := by omega
            have q1 : decide (y < (al.length : Int)) = false := decide_eq_false (by have := HY.out; omega)
            have q3 := eq_false (show ¬ y < (al.length : Int) by have := HY.out; omega)
            go_wp2
            go_ret
            exact ⟨by rw [HR2.out, all_yes HT.out]; rfl, below_then HW3.out.1 HW3.out.1.size HB.out⟩
      | has =>
        have hn : vars.length = 1 := HN.out.1
        have b0 := (blk_cell HBX.out 0)
        simp only [List.getElem?_toArray, List.getElem?_cons_zero, List.getElem?_cons_succ, Kn.text] at b0
        have hv0 := HN.out.2.1 0 (by omega)
        obtain ⟨ad, ea0, hx0⟩ := Kd.at_int HV.out.1 0 (by omega) (by omega)
        subst ea0
        replace hx0 : wr.cell? (ad.add 0) = some (.int .i64 (rd vars 0)) := (HBB.out.cell (World.block_lt_of_cell? w _ hx0)).trans hx0
        have hx0' : wr.cell? ad = some (.int .i64 (rd vars 0)) := by rw [← Addr.add_zero' ad]; exact hx0
        replace hv0 : 0 ≤ rd vars 0 ∧ rd vars 0 < L.length := hv0
        obtain ⟨bd, B0, e0, eb0, hy0, hS0⟩ := at_II HL.out (rd vars 0) hv0.1 hv0.2
        subst eb0
        replace hy0 := (HBB.out.cell (World.block_lt_of_cell? w _ hy0)).trans hy0
        replace hS0 := sl_below hS0 HBB.out
        have r0 := decide_eq_true hv0.1
        have s0 := decide_eq_true hv0.2
        have t0 := eq_true hv0.1
        have u0 := eq_true hv0.2
        have n0 : decide (0 < vars.length) = true := decide_eq_true (by omega)
        have n0' := eq_true (show 0 < vars.length by omega)
        have n1 : decide (1 < vars.length) = false := decide_eq_false (by omega)
        have n1' := eq_false (show ¬ 1 < vars.length by omega)
        have n2 : decide (2 < vars.length) = false := decide_eq_false (by omega)
        have n2' := eq_false (show ¬ 2 < vars.length by omega)
        have k0 : decide ((0 : Int) < (vars.length : Int)) = true := decide_eq_true (by omega)
        have k0' := eq_true (show (0 : Int) < (vars.length : Int) by omega)
        have k1 : decide ((1 : Int) < (vars.length : Int)) = false := decide_eq_false (by omega)
        have k1' := eq_false (show ¬ (1 : Int) < (vars.length : Int) by omega)
        have k2 : decide ((2 : Int) < (vars.length : Int)) = false := decide_eq_false (by omega)
        have k2' := eq_false (show ¬ (2 : Int) < (vars.length : Int) by omega)
        have HW : Aside0 (Rw w wr B0 e0 (lst L (rd vars 0).toNat) B0 e0 (lst L (rd vars 0).toNat) B0 e0 (lst L (rd vars 0).toNat)) := ⟨⟨HBB.out, hS0, hS0, hS0⟩⟩
        have HZ : Aside0 ((lst L (rd vars 0).toNat).length ≤ 1000 ∧ (lst L (rd vars 0).toNat).length ≤ 1000 ∧ (lst L (rd vars 0).toNat).length ≤ 1000) := ⟨⟨HN.out.2.2.2 _, HN.out.2.2.2 _, HN.out.2.2.2 _⟩⟩
        have HP0 : Aside0 (Pk wr wr (.slice none 0 0) []) := ⟨⟨by simp, .inl ⟨rfl, rfl⟩⟩, Below.refl _ _⟩
        clear hS0 hv0 HV HL HN hn
        go_upto_region 15 with (first
          | (at_builtin; (refine app_row HP2.out (rw_pk HW.out HP2.out).2.2.2 (by have := HZ.out; simp only [List.length_append, List.length_nil]; omega) rfl (.tmp 65) (.tmp 66) rfl rfl rfl ?_); intro v3 w3 hp; have HP3 := Aside0.mk hp; clear hp)
          | (at_builtin; (refine app_row HP1.out (rw_pk HW.out HP1.out).2.2.1 (by have := HZ.out; simp only [List.length_append, List.length_nil]; omega) rfl (.tmp 63) (.tmp 64) rfl rfl rfl ?_); intro v2 w2' hp; have HP2 := Aside0.mk hp; clear hp)
          | (at_builtin; (refine app_row HP0.out HW.out.2.1 (by have := HZ.out; simp only [List.length_nil]; omega) rfl (.const (.slice none 0 0)) (.tmp 62) rfl rfl rfl ?_); intro v1 w1' hp; have HP1 := Aside0.mk hp; clear hp))
        have HW3 := Aside0.mk (rw_pk HW.out HP3.out)
        replace b0 := pw_cell_below HP3.out.2 b0
        replace b2 := pw_cell_below HP3.out.2 b2
        go_wp2_with (go_at_call 70; (refine (manystrandref07_has.calls ((lst L (rd vars 0).toNat).length + 1) B0 e0 (lst L (rd vars 0).toNat) n _ _ HW3.out.2.1.1 HW3.out.2.1.2 (has_f _ _ (by have := HZ.out; omega) (by omega))).mono ?_); rintro e w4 ⟨rfl, ⟨nd, rfl⟩⟩)
        go_ret
        exact ⟨by rw [HR1.out]; rfl, pw_below_drewN HW3.out.1 _⟩
      | lacks =>
        have hn : vars.length = 1 := HN.out.1
        have b0 := (blk_cell HBX.out 0)
        simp only [List.getElem?_toArray, List.getElem?_cons_zero, List.getElem?_cons_succ, Kn.text] at b0
        have hv0 := HN.out.2.1 0 (by omega)
        obtain ⟨ad, ea0, hx0⟩ := Kd.at_int HV.out.1 0 (by omega) (by omega)
        subst ea0
        replace hx0 : wr.cell? (ad.add 0) = some (.int .i64 (rd vars 0)) := (HBB.out.cell (World.block_lt_of_cell? w _ hx0)).trans hx0
        have hx0' : wr.cell? ad = some (.int .i64 (rd vars 0)) := by rw [← Addr.add_zero' ad]; exact hx0
        replace hv0 : 0 ≤ rd vars 0 ∧ rd vars 0 < L.length := hv0
        obtain ⟨bd, B0, e0, eb0, hy0, hS0⟩ := at_II HL.out (rd vars 0) hv0.1 hv0.2
        subst eb0
        replace hy0 := (HBB.out.cell (World.block_lt_of_cell? w _ hy0)).trans hy0
        replace hS0 := sl_below hS0 HBB.out
        have r0 := decide_eq_true hv0.1
        have s0 := decide_eq_true hv0.2
        have t0 := eq_true hv0.1
        have u0 := eq_true hv0.2
        have n0 : decide (0 < vars.length) = true := decide_eq_true (by omega)
        have n0' := eq_true (show 0 < vars.length by omega)
        have n1 : decide (1 < vars.length) = false := decide_eq_false (by omega)
        have n1' := eq_false (show ¬ 1 < vars.length by omega)
        have n2 : decide (2 < vars.length) = false := decide_eq_false (by omega)
        have n2' := eq_false (show ¬ 2 < vars.length by omega)
        have k0 : decide ((0 : Int) < (vars.length : Int)) = true := decide_eq_true (by omega)
        have k0' := eq_true (show (0 : Int) < (vars.length : Int) by omega)
        have k1 : decide ((1 : Int) < (vars.length : Int)) = false := decide_eq_false (by omega)
        have k1' := eq_false (show ¬ (1 : Int) < (vars.length : Int) by omega)
        have k2 : decide ((2 : Int) < (vars.length : Int)) = false := decide_eq_false (by omega)
        have k2' := eq_false (show ¬ (2 : Int) < (vars.length : Int) by omega)
        have HW : Aside0 (Rw w wr B0 e0 (lst L (rd vars 0).toNat) B0 e0 (lst L (rd vars 0).toNat) B0 e0 (lst L (rd vars 0).toNat)) := ⟨⟨HBB.out, hS0, hS0, hS0⟩⟩
        have HZ : Aside0 ((lst L (rd vars 0).toNat).length ≤ 1000 ∧ (lst L (rd vars 0).toNat).length ≤ 1000 ∧ (lst L (rd vars 0).toNat).length ≤ 1000) := ⟨⟨HN.out.2.2.2 _, HN.out.2.2.2 _, HN.out.2.2.2 _⟩⟩
        have HP0 : Aside0 (Pk wr wr (.slice none 0 0) []) := ⟨⟨by simp, .inl ⟨rfl, rfl⟩⟩, Below.refl _ _⟩
        clear hS0 hv0 HV HL HN hn
        go_upto_region 15 with (first
          | (at_builtin; (refine app_row HP2.out (rw_pk HW.out HP2.out).2.2.2 (by have := HZ.out; simp only [List.length_append, List.length_nil]; omega) rfl (.tmp 65) (.tmp 66) rfl rfl rfl ?_); intro v3 w3 hp; have HP3 := Aside0.mk hp; clear hp)
          | (at_builtin; (refine app_row HP1.out (rw_pk HW.out HP1.out).2.2.1 (by have := HZ.out; simp only [List.length_append, List.length_nil]; omega) rfl (.tmp 63) (.tmp 64) rfl rfl rfl ?_); intro v2 w2' hp; have HP2 := Aside0.mk hp; clear hp)
          | (at_builtin; (refine app_row HP0.out HW.out.2.1 (by have := HZ.out; simp only [List.length_nil]; omega) rfl (.const (.slice none 0 0)) (.tmp 62) rfl rfl rfl ?_); intro v1 w1' hp; have HP1 := Aside0.mk hp; clear hp))
        have HW3 := Aside0.mk (rw_pk HW.out HP3.out)
        replace b0 := pw_cell_below HP3.out.2 b0
        replace b2 := pw_cell_below HP3.out.2 b2
        go_wp2_with (go_at_call 70; (refine (manystrandref07_has.calls ((lst L (rd vars 0).toNat).length + 1) B0 e0 (lst L (rd vars 0).toNat) n _ _ HW3.out.2.1.1 HW3.out.2.1.2 (has_f _ _ (by have := HZ.out; omega) (by omega))).mono ?_); rintro e w4 ⟨rfl, ⟨nd, rfl⟩⟩)
        go_ret
        exact ⟨by rw [HR1.out]; rfl, pw_below_drewN HW3.out.1 _⟩
      | size =>
        have hn : vars.length = 1 := HN.out.1
        have b0 := (blk_cell HBX.out 0)
        simp only [List.getElem?_toArray, List.getElem?_cons_zero, List.getElem?_cons_succ, Kn.text] at b0
        have hv0 := HN.out.2.1 0 (by omega)
        obtain ⟨ad, ea0, hx0⟩ := Kd.at_int HV.out.1 0 (by omega) (by omega)
        subst ea0
        replace hx0 : wr.cell? (ad.add 0) = some (.int .i64 (rd vars 0)) := (HBB.out.cell (World.block_lt_of_cell? w _ hx0)).trans hx0
        have hx0' : wr.cell? ad = some (.int .i64 (rd vars 0)) := by rw [← Addr.add_zero' ad]; exact hx0
        replace hv0 : 0 ≤ rd vars 0 ∧ rd vars 0 < L.length := hv0
        obtain ⟨bd, B0, e0, eb0, hy0, hS0⟩ := at_II HL.out (rd vars 0) hv0.1 hv0.2
        subst eb0
        replace hy0 := (HBB.out.cell (World.block_lt_of_cell? w _ hy0)).trans hy0
        replace hS0 := sl_below hS0 HBB.out
        have r0 := decide_eq_true hv0.1
        have s0 := decide_eq_true hv0.2
        have t0 := eq_true hv0.1
        have u0 := eq_true hv0.2
        have n0 : decide (0 < vars.length) = true := decide_eq_true (by omega)
        have n0' := eq_true (show 0 < vars.length by omega)
        have n1 : decide (1 < vars.length) = false := decide_eq_false (by omega)
        have n1' := eq_false (show ¬ 1 < vars.length by omega)
        have n2 : decide (2 < vars.length) = false := decide_eq_false (by omega)
        have n2' := eq_false (show ¬ 2 < vars.length by omega)
        have k0 : decide ((0 : Int) < (vars.length : Int)) = true := decide_eq_true (by omega)
        have k0' := eq_true (show (0 : Int) < (vars.length : Int) by omega)
        have k1 : decide ((1 : Int) < (vars.length : Int)) = false := decide_eq_false (by omega)
        have k1' := eq_false (show ¬ (1 : Int) < (vars.length : Int) by omega)
        have k2 : decide ((2 : Int) < (vars.length : Int)) = false := decide_eq_false (by omega)
        have k2' := eq_false (show ¬ (2 : Int) < (vars.length : Int) by omega)
        have HW : Aside0 (Rw w wr B0 e0 (lst L (rd vars 0).toNat) B0 e0 (lst L (rd vars 0).toNat) B0 e0 (lst L (rd vars 0).toNat)) := ⟨⟨HBB.out, hS0, hS0, hS0⟩⟩
        have HZ : Aside0 ((lst L (rd vars 0).toNat).length ≤ 1000 ∧ (lst L (rd vars 0).toNat).length ≤ 1000 ∧ (lst L (rd vars 0).toNat).length ≤ 1000) := ⟨⟨HN.out.2.2.2 _, HN.out.2.2.2 _, HN.out.2.2.2 _⟩⟩
        have HP0 : Aside0 (Pk wr wr (.slice none 0 0) []) := ⟨⟨by simp, .inl ⟨rfl, rfl⟩⟩, Below.refl _ _⟩
        clear hS0 hv0 HV HL HN hn
        go_upto_region 15 with (first
          | (at_builtin; (refine app_row HP2.out (rw_pk HW.out HP2.out).2.2.2 (by have := HZ.out; simp only [List.length_append, List.length_nil]; omega) rfl (.tmp 65) (.tmp 66) rfl rfl rfl ?_); intro v3 w3 hp; have HP3 := Aside0.mk hp; clear hp)
          | (at_builtin; (refine app_row HP1.out (rw_pk HW.out HP1.out).2.2.1 (by have := HZ.out; simp only [List.length_append, List.length_nil]; omega) rfl (.tmp 63) (.tmp 64) rfl rfl rfl ?_); intro v2 w2' hp; have HP2 := Aside0.mk hp; clear hp)
          | (at_builtin; (refine app_row HP0.out HW.out.2.1 (by have := HZ.out; simp only [List.length_nil]; omega) rfl (.const (.slice none 0 0)) (.tmp 62) rfl rfl rfl ?_); intro v1 w1' hp; have HP1 := Aside0.mk hp; clear hp))
        have HW3 := Aside0.mk (rw_pk HW.out HP3.out)
        replace b0 := pw_cell_below HP3.out.2 b0
        replace b2 := pw_cell_below HP3.out.2 b2
        go_wp2
        go_ret
        exact ⟨by rw [HR1.out]; rfl, HW3.out.1⟩
end Go.Proofs.Ytgfbgfbnmiainaa.Fam
