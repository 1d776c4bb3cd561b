-- Walks of Go functions; written by own_print.py of this repo (see NOTES.md).
import Derived.Test.YtgfbgfbnmiainaaBFamilyTextsq0
import Derived.Test.YtgfbgfbnmiainaaBFamilyTextsq1
section
namespace Go.Proofs.Ytgfbgfbnmiainaa.Q
open Go.RowKit Go.Proofs.YtgfbgfbnmiainaaW.PrintWords Go.Proofs.YtgfbgfbnmiainaaW.PrintLast Go.Proofs.YtgfbgfbnmiainaaW.PrintMore
attribute [local go_sem] Go.Proofs.YtgfbgfbnmiainaaW.OwnWords.isSome_setCell max2_int min2_int max_two min_two max_three min_three max_four min_four
set_option linter.unusedVariables false
set_option linter.unusedSimpArgs false

/-! ### family_scan_list: function 55 -/
mutual
def family_scan_list.l0 : Nat → List Int → ByteArray → Bool → Option (List Int × ByteArray × Bool)
 | 0, _, _, _ => none
 | k + 1, x3, x1000, x1001 => if x1001 = true then (family_scan_list.j1 k x3 false x1000 x1001) else ((family_scan_word.f x1000 x1001 (⟨#[125]⟩ : ByteArray)).bind fun bt500 => (family_scan_list.j1 k x3 (!bt500.1) bt500.2.1 bt500.2.2))
def family_scan_list.j1 : Nat → List Int → Bool → ByteArray → Bool → Option (List Int × ByteArray × Bool)
 | 0, _, _, _, _ => none
 | k + 1, x3, x15, x1000, x1001 => if x15 = true then (if (x3.length : Int) > 0 then ((family_scan_must.f x1000 x1001 (⟨#[32]⟩ : ByteArray)).bind fun bt503 => ((family_scan_number.f k bt503.1 bt503.2).bind fun bt505 => (if x3.length < 17592186044416 then (family_scan_list.l0 k (x3 ++ [bt505.1]) bt505.2.1 bt505.2.2) else (none)))) else ((family_scan_number.f k x1000 x1001).bind fun bt511 => (if x3.length < 17592186044416 then (family_scan_list.l0 k (x3 ++ [bt511.1]) bt511.2.1 bt511.2.2) else (none)))) else (some (x3, x1000, x1001))
end
def family_scan_list.f (k : Nat) (s0_0 : ByteArray) (s0_1 : Bool) : Option (List Int × ByteArray × Bool) := (family_scan_must.f s0_0 s0_1 (⟨#[123]⟩ : ByteArray)).bind fun bt498 => (family_scan_list.l0 k ([] : List Int) bt498.1 bt498.2)
theorem family_scan_list.mono_l : ∀ k, (∀ y0 y1 y2, LeO (family_scan_list.l0 k y0 y1 y2) (family_scan_list.l0 (k + 1) y0 y1 y2)) ∧ (∀ y0 y1 y2 y3, LeO (family_scan_list.j1 k y0 y1 y2 y3) (family_scan_list.j1 (k + 1) y0 y1 y2 y3))
 | 0 => ⟨fun _ _ _ r h => by simp [family_scan_list.l0] at h, fun _ _ _ _ r h => by simp [family_scan_list.j1] at h⟩
 | k + 1 => by
  obtain ⟨ih0, ih1⟩ := family_scan_list.mono_l k
  refine ⟨?_, ?_⟩
  ·intro y0 y1 y2
   unfold family_scan_list.l0
   repeat' first
   | (with_reducible exact ih0 _ _ _)
   | (with_reducible exact ih1 _ _ _ _)
   | (with_reducible exact family_scan_number.mono _ _ _)
   | (with_reducible exact LeO.refl _)
   | (with_reducible exact LeO.none _)
   | (with_reducible refine LeO.ite ?_ ?_)
   | (with_reducible refine LeO.bind ?_ (fun _ => ?_))
   | exact ih0 _ _ _
   | exact ih1 _ _ _ _
   | exact family_scan_number.mono _ _ _
   | exact LeO.none _
   | refine LeO.ite ?_ ?_
   | refine LeO.bind ?_ (fun _ => ?_)
  ·intro y0 y1 y2 y3
   unfold family_scan_list.j1
   repeat' first
   | (with_reducible exact ih0 _ _ _)
   | (with_reducible exact ih1 _ _ _ _)
   | (with_reducible exact family_scan_number.mono _ _ _)
   | (with_reducible exact LeO.refl _)
   | (with_reducible exact LeO.none _)
   | (with_reducible refine LeO.ite ?_ ?_)
   | (with_reducible refine LeO.bind ?_ (fun _ => ?_))
   | exact ih0 _ _ _
   | exact ih1 _ _ _ _
   | exact family_scan_number.mono _ _ _
   | exact LeO.none _
   | refine LeO.ite ?_ ?_
   | refine LeO.bind ?_ (fun _ => ?_)
theorem family_scan_list.mono : ∀ a0 a1 k, LeO (family_scan_list.f k a0 a1) (family_scan_list.f (k + 1) a0 a1) := by
 intro a0 a1 k
 obtain ⟨ih0, ih1⟩ := family_scan_list.mono_l k
 unfold family_scan_list.f
 repeat' first
   | (with_reducible exact ih0 _ _ _)
   | (with_reducible exact ih1 _ _ _ _)
   | (with_reducible exact family_scan_number.mono _ _ _)
   | (with_reducible exact LeO.refl _)
   | (with_reducible exact LeO.none _)
   | (with_reducible refine LeO.ite ?_ ?_)
   | (with_reducible refine LeO.bind ?_ (fun _ => ?_))
   | exact ih0 _ _ _
   | exact ih1 _ _ _ _
   | exact family_scan_number.mono _ _ _
   | exact LeO.none _
   | refine LeO.ite ?_ ?_
   | refine LeO.bind ?_ (fun _ => ?_)
set_option maxHeartbeats 8000000 in
set_option maxRecDepth 100000 in
theorem family_scan_list.calls (k : Nat) (g : Nat) (s0_0 : ByteArray) (s0_1 : Bool) (r1 : List Int) (r2 : ByteArray) (r3 : Bool) (w0 w : World) (hI : IsS85 w0 w g s0_0 s0_1) (hB : Below w0.heap.size w0 w) (h : family_scan_list.f k s0_0 s0_1 = some (r1, r2, r3)) :
  Calls Try.prog 55 #[.pointer (some ⟨g, 0, none⟩)] w fun e w' => ∃ v0_ : Value, e = .returned (v0_) ∧ Kd.R (Kd.int .i64) 3 w' w.heap.size (fun _ => True) v0_ r1 ∧ IsS85 w0 w' g r2 r3 ∧ Below w0.heap.size w0 w' ∧ KeepBut w w' g none := by
 have HI0 := Aside0.mk hI
 have HK := Aside0.mk (KeepBut.refl w g none)
 have HL := Aside0.mk hB.size
 clear hI
 have HW0 := Aside0.mk hB.size
 have HB := Aside0.mk hB
 clear hB
 have H : ((family_scan_must.f s0_0 s0_1 (⟨#[123]⟩ : ByteArray)).bind fun bt498 => (family_scan_list.l0 k ([] : List Int) bt498.1 bt498.2)) = some (r1, r2, r3) := h
 clear h
 replace H := Option.bind_eq_some_iff.mp H
 obtain ⟨⟨t498, t499⟩, A20, H⟩ := H
 replace H : (family_scan_list.l0 k ([] : List Int) t498 t499) = some (r1, r2, r3) := H
 have A2 := Aside0.mk A20
 clear A20
 have H' := Aside0.mk H
 clear H
 go_enter Try.func55, Try.ntmps55
 go_wp2_with (first | ((with_reducible refine gate_callee (f := 56) rfl ?_); refine goesL_ (some 5) rfl rfl Try.func56 (by kernel_rfl) rfl #[.pointer (some ⟨g, 0, none⟩), .string (⟨#[123]⟩ : ByteArray)] rfl (by (try simp only [List.map_toArray, List.map_cons, List.map_nil]); first | done | rfl | (simp only [List.length_drop, List.length_take]; rfl)) ?_; (with_reducible refine (family_scan_must.calls g s0_0 s0_1 (⟨#[123]⟩ : ByteArray) t498 t499 w0 _ ?side1 ?side2 A2.out).mono ?_); (case side1 => repeat (first | (with_reducible first | exact HI0.out | apply IsS85.alloc | apply IsS85.drewN | apply IsS85.drew | apply IsS85.set_0 | apply IsS85.set_1) | exact HI0.out)); (case side2 => repeat (first | (with_reducible first | exact HB.out | apply below_alloc | apply pw_below_drewN | apply below_drew1 | refine below_set ?_ (IsS85.ge HI0.out)) | exact HB.out)); rintro e w3 ⟨rfl, hi, hb, hk⟩; refine ⟨_, rfl, ?_⟩; have n0_ := Aside0.mk (KeepBut.trans (by repeat (first | (with_reducible first | exact HK.out | apply KeepBut.set_ | apply keep_drewN | apply keep_drew | apply keep_alloc) | exact HK.out)) hk (.inl rfl)); have n1_ := Aside0.mk (hb); have n2_ := Aside0.mk (hi); clear HK; clear HB; clear HI0; have HK := n0_; have HB := n1_; have HI0 := n2_; clear n0_ n1_ n2_; (try clear hb); (try clear hb2); (try clear hk); (try clear hi)))
 try simp only [Act.put, List.setIfInBounds_toArray, List.set_cons_zero, List.set_cons_succ]
 go_loopg [3] k (fun kq v3 w' => ∃ (x3_1 : List Int) (x1000_1 : ByteArray) (x1001_1 : Bool), Aside0 (family_scan_list.l0 kq x3_1 x1000_1 x1001_1 = some (r1, r2, r3)) ∧ Aside0 (kq ≤ k) ∧ Aside0 (Kd.R (Kd.int .i64) 3 w' w.heap.size (fun _ => True) v3 x3_1) ∧ Aside0 (IsS85 w0 w' g x1000_1 x1001_1) ∧ Aside0 (KeepBut w w' g none) ∧ Aside0 (Below w0.heap.size w0 w'))
 case atStart => exact ⟨(([] : List Int)), (t498), (t499), H', ⟨Nat.le_refl _⟩, ⟨by first | exact Kd.R_nil _ _ _ _ _ | exact Kd.N_nil _ _ _ _ _ | exact Kd.V_nil _ _ _ _ _ | exact Kd.Q_nil _ _ _ _ _ | exact Kd.S_nil _ _ _ _ _⟩, ⟨by repeat (first | (with_reducible first | exact HI0.out | apply IsS85.alloc | apply IsS85.drewN | apply IsS85.drew | apply IsS85.set_0 | apply IsS85.set_1) | exact HI0.out)⟩, ⟨by repeat (first | (with_reducible first | exact HK.out | apply KeepBut.set_ | apply keep_drewN | apply keep_drew | apply keep_alloc) | exact HK.out)⟩, ⟨by repeat (first | (with_reducible first | exact HB.out | apply below_alloc | apply pw_below_drewN | apply below_drew1 | refine below_set ?_ (IsS85.ge HI0.out)) | exact HB.out)⟩⟩
 case round =>
  clear H'
  try clear p2
  obtain ⟨x3_1, x1000_1, x1001_1, HA, HK1, HO_3, HI0, HK, HB⟩ := hrel
  cases gk with
  | zero => exact absurd HA.out (by simp [family_scan_list.l0])
  | succ k1 =>
   have H := HA.out
   clear HA
   simp only [family_scan_list.l0] at H
   have HC4 := Aside0.mk H
   clear H
   go_upto_region 3 with (fail)
   go_cut [15] (fun v15 wc => ∃ (kq : Nat) (x15_3 : Bool) (x1000_3 : ByteArray) (x1001_3 : Bool), v15 = .bool x15_3 ∧ Aside0 (family_scan_list.j1 kq x3_1 x15_3 x1000_3 x1001_3 = some (r1, r2, r3)) ∧ Aside0 (kq ≤ k1) ∧ Aside0 (Kd.R (Kd.int .i64) 3 wc w.heap.size (fun _ => True) u3 x3_1) ∧ Aside0 (IsS85 w0 wc g x1000_3 x1001_3) ∧ Aside0 (KeepBut w wc g none) ∧ Aside0 (Below w0.heap.size w0 wc))
   case first =>
    have H := HC4.out
    clear HC4
    by_cases c5 : x1001_1 = true
    ·subst c5
     have H1 : (family_scan_list.j1 k1 x3_1 false x1000_1 true) = some (r1, r2, r3) := by rw [if_pos rfl] at H; exact H
     clear H
     have H := H1
     clear H1
     have H' := Aside0.mk H
     clear H
     obtain ⟨HGz6, hgz6⟩ := HI0.out
     have hcz6_0 := cellS85_0 HGz6
     have hcz6_1 := cellS85_1 HGz6
     have hfz6_0 := blk_frozen HGz6 0
     have hfz6_1 := blk_frozen HGz6 1
     clear HGz6 hgz6
     go_wp2
     go_meet
     case rel => exact ⟨_, (false), (x1000_1), (true), (by first | rfl | (simp; done) | (simp [*]; done)), H', ⟨by have := HK1.out; first | omega | exact Nat.le_refl _⟩, ⟨by (with_reducible repeat (first | apply Kd.R_alloc | apply Kd.R_drewN | apply Kd.R_drew)); exact HO_3.out⟩, ⟨by repeat (first | (with_reducible first | exact HI0.out | apply IsS85.alloc | apply IsS85.drewN | apply IsS85.drew | apply IsS85.set_0 | apply IsS85.set_1) | exact HI0.out)⟩, ⟨by repeat (first | (with_reducible first | exact HK.out | apply KeepBut.set_ | apply keep_drewN | apply keep_drew | apply keep_alloc) | exact HK.out)⟩, ⟨by repeat (first | (with_reducible first | exact HB.out | apply below_alloc | apply pw_below_drewN | apply below_drew1 | refine below_set ?_ (IsS85.ge HI0.out)) | exact HB.out)⟩⟩
    ·replace c5 := Bool.eq_false_iff.mpr c5
     subst c5
     have H1 : ((family_scan_word.f x1000_1 false (⟨#[125]⟩ : ByteArray)).bind fun bt500 => (family_scan_list.j1 k1 x3_1 (!bt500.1) bt500.2.1 bt500.2.2)) = some (r1, r2, r3) := by rw [if_neg (show ¬ (false = true) by decide)] at H; exact H
     clear H
     have H := H1
     clear H1
     replace H := Option.bind_eq_some_iff.mp H
     obtain ⟨⟨t500, t501, t502⟩, A70, H⟩ := H
     replace H : (family_scan_list.j1 k1 x3_1 (!t500) t501 t502) = some (r1, r2, r3) := H
     have A7 := Aside0.mk A70
     clear A70
     have H' := Aside0.mk H
     clear H
     obtain ⟨HGz8, hgz8⟩ := HI0.out
     have hcz8_0 := cellS85_0 HGz8
     have hcz8_1 := cellS85_1 HGz8
     have hfz8_0 := blk_frozen HGz8 0
     have hfz8_1 := blk_frozen HGz8 1
     clear HGz8 hgz8
     go_wp2_with (first | (go_at_call 78; (with_reducible refine (family_scan_word.calls g x1000_1 false (⟨#[125]⟩ : ByteArray) t500 t501 t502 w0 _ ?side1 ?side2 A7.out).mono ?_); (case side1 => repeat (first | (with_reducible first | exact HI0.out | apply IsS85.alloc | apply IsS85.drewN | apply IsS85.drew | apply IsS85.set_0 | apply IsS85.set_1) | exact HI0.out)); (case side2 => repeat (first | (with_reducible first | exact HB.out | apply below_alloc | apply pw_below_drewN | apply below_drew1 | refine below_set ?_ (IsS85.ge HI0.out)) | exact HB.out)); rintro e w9 ⟨rfl, hi, hb, hk⟩; have n0_ := Aside0.mk (Kd.R_mono (Kd.R_keep (IsS85.apart (show IsS85 w0 _ g x1000_1 false from by repeat (first | (with_reducible first | exact HI0.out | apply IsS85.alloc | apply IsS85.drewN | apply IsS85.drew | apply IsS85.set_0 | apply IsS85.set_1) | exact HI0.out)) (by (with_reducible repeat (first | apply Kd.R_alloc | apply Kd.R_drewN | apply Kd.R_drew)); exact HO_3.out) (by decide)) hk (fun _ h => h.2)) (fun _ h => h.1)); have n1_ := Aside0.mk (KeepBut.trans (by repeat (first | (with_reducible first | exact HK.out | apply KeepBut.set_ | apply keep_drewN | apply keep_drew | apply keep_alloc) | exact HK.out)) hk (.inl rfl)); have n2_ := Aside0.mk (hb); have n3_ := Aside0.mk (hi); clear HO_3; clear HK; clear HB; clear HI0; have HO_3 := n0_; have HK := n1_; have HB := n2_; have HI0 := n3_; clear n0_ n1_ n2_ n3_; (try clear hb); (try clear hb2); (try clear hk); (try clear hi)))
     go_meet
     case rel => exact ⟨_, (!t500), (t501), (t502), (by first | rfl | (simp; done) | (simp [*]; done)), H', ⟨by have := HK1.out; first | omega | exact Nat.le_refl _⟩, ⟨by (with_reducible repeat (first | apply Kd.R_alloc | apply Kd.R_drewN | apply Kd.R_drew)); exact HO_3.out⟩, ⟨by repeat (first | (with_reducible first | exact HI0.out | apply IsS85.alloc | apply IsS85.drewN | apply IsS85.drew | apply IsS85.set_0 | apply IsS85.set_1) | exact HI0.out)⟩, ⟨by repeat (first | (with_reducible first | exact HK.out | apply KeepBut.set_ | apply keep_drewN | apply keep_drew | apply keep_alloc) | exact HK.out)⟩, ⟨by repeat (first | (with_reducible first | exact HB.out | apply below_alloc | apply pw_below_drewN | apply below_drew1 | refine below_set ?_ (IsS85.ge HI0.out)) | exact HB.out)⟩⟩
   case rest =>
    clear HC4
    try clear p2
    try clear c5
    try clear hcz6_0
    try clear hcz6_1
    try clear hcz8_0
    try clear hcz8_1
    try clear hfz6_0
    try clear hfz6_1
    try clear hfz8_0
    try clear hfz8_1
    try clear p2
    obtain ⟨kq, x15_3, x1000_3, x1001_3, rfl, HA, HJ3, HO_3, HI0, HK, HB⟩ := hcut
    cases kq with
    | zero => exact absurd HA.out (by simp [family_scan_list.j1])
    | succ kj3 =>
     have H := HA.out
     clear HA
     simp only [family_scan_list.j1] at H
     by_cases c10 : x15_3 = true
     ·subst c10
      have H1 : (if (x3_1.length : Int) > 0 then ((family_scan_must.f x1000_3 x1001_3 (⟨#[32]⟩ : ByteArray)).bind fun bt503 => ((family_scan_number.f kj3 bt503.1 bt503.2).bind fun bt505 => (if x3_1.length < 17592186044416 then (family_scan_list.l0 kj3 (x3_1 ++ [bt505.1]) bt505.2.1 bt505.2.2) else (none)))) else ((family_scan_number.f kj3 x1000_3 x1001_3).bind fun bt511 => (if x3_1.length < 17592186044416 then (family_scan_list.l0 kj3 (x3_1 ++ [bt511.1]) bt511.2.1 bt511.2.2) else (none)))) = some (r1, r2, r3) := by rw [if_pos rfl] at H; exact H
      clear H
      have H := H1
      clear H1
      by_cases c11 : (x3_1.length : Int) > 0
      ·rw [if_pos c11] at H
       have c11b0 : decide (0 < (x3_1.length : Int)) = true := decide_eq_true c11
       have c11b1 : decide (0 < x3_1.length) = true := decide_eq_true (by omega)
       clear c11
       replace H := Option.bind_eq_some_iff.mp H
       obtain ⟨⟨t503, t504⟩, A120, H⟩ := H
       replace H : ((family_scan_number.f kj3 t503 t504).bind fun bt505 => (if x3_1.length < 17592186044416 then (family_scan_list.l0 kj3 (x3_1 ++ [bt505.1]) bt505.2.1 bt505.2.2) else (none))) = some (r1, r2, r3) := H
       have A12 := Aside0.mk A120
       clear A120
       replace H := Option.bind_eq_some_iff.mp H
       obtain ⟨⟨t505, t506, t507⟩, A130, H⟩ := H
       replace H : (if x3_1.length < 17592186044416 then (family_scan_list.l0 kj3 (x3_1 ++ [t505]) t506 t507) else (none)) = some (r1, r2, r3) := H
       have A13 := Aside0.mk A130
       clear A130
       by_cases c14 : x3_1.length < 17592186044416
       ·rw [if_pos c14] at H
        have LMc14 := Aside0.mk c14
        clear c14
        obtain ⟨y508, hy508⟩ : ∃ y_ : List Int, y_ = (x3_1 ++ [t505]) := ⟨_, rfl⟩
        replace H : (family_scan_list.l0 kj3 y508 t506 t507) = some (r1, r2, r3) := by first | (rw [hy508]; with_reducible exact H) | (have H2_ := (Option.bind_some _ _).symm.trans H; rw [hy508]; with_reducible exact H2_) | (have H2_ := (Option.bind_some _ _).symm.trans H; with_reducible exact H2_) | with_reducible exact H | (rw [hy508]; exact H) | exact H
        have Ny508 := Aside0.mk hy508
        clear hy508
        have H' := Aside0.mk H
        clear H
        obtain ⟨Ao15, co15, eo15⟩ := Kd.R_slice HO_3.out
        subst eo15
        go_wp2_with (first | ((with_reducible refine gate_callee (f := 56) rfl ?_); refine goesL_ (some 20) rfl rfl Try.func56 (by kernel_rfl) rfl #[.pointer (some ⟨g, 0, none⟩), .string (⟨#[32]⟩ : ByteArray)] rfl (by (try simp only [List.map_toArray, List.map_cons, List.map_nil]); first | done | rfl | (simp only [List.length_drop, List.length_take]; rfl)) ?_; (with_reducible refine (family_scan_must.calls g x1000_3 x1001_3 (⟨#[32]⟩ : ByteArray) t503 t504 w0 _ ?side1 ?side2 A12.out).mono ?_); (case side1 => repeat (first | (with_reducible first | exact HI0.out | apply IsS85.alloc | apply IsS85.drewN | apply IsS85.drew | apply IsS85.set_0 | apply IsS85.set_1) | exact HI0.out)); (case side2 => repeat (first | (with_reducible first | exact HB.out | apply below_alloc | apply pw_below_drewN | apply below_drew1 | refine below_set ?_ (IsS85.ge HI0.out)) | exact HB.out)); rintro e w16 ⟨rfl, hi, hb, hk⟩; refine ⟨_, rfl, ?_⟩; have n0_ := Aside0.mk (Kd.R_mono (Kd.R_keep (IsS85.apart (show IsS85 w0 _ g x1000_3 x1001_3 from by repeat (first | (with_reducible first | exact HI0.out | apply IsS85.alloc | apply IsS85.drewN | apply IsS85.drew | apply IsS85.set_0 | apply IsS85.set_1) | exact HI0.out)) (by (with_reducible repeat (first | apply Kd.R_alloc | apply Kd.R_drewN | apply Kd.R_drew)); exact HO_3.out) (by decide)) hk (fun _ h => h.2)) (fun _ h => h.1)); have n1_ := Aside0.mk (KeepBut.trans (by repeat (first | (with_reducible first | exact HK.out | apply KeepBut.set_ | apply keep_drewN | apply keep_drew | apply keep_alloc) | exact HK.out)) hk (.inl rfl)); have n2_ := Aside0.mk (hb); have n3_ := Aside0.mk (hi); clear HO_3; clear HK; clear HB; clear HI0; have HO_3 := n0_; have HK := n1_; have HB := n2_; have HI0 := n3_; clear n0_ n1_ n2_ n3_; (try clear hb); (try clear hb2); (try clear hk); (try clear hi)) | ((with_reducible refine gate_callee (f := 57) rfl ?_); refine goesL_ (some 23) rfl rfl Try.func57 (by kernel_rfl) rfl #[.pointer (some ⟨g, 0, none⟩)] rfl (by (try simp only [List.map_toArray, List.map_cons, List.map_nil]); first | done | rfl | (simp only [List.length_drop, List.length_take]; rfl)) ?_; (with_reducible refine (family_scan_number.calls kj3 g t503 t504 t505 t506 t507 w0 _ ?side1 ?side2 A13.out).mono ?_); (case side1 => repeat (first | (with_reducible first | exact HI0.out | apply IsS85.alloc | apply IsS85.drewN | apply IsS85.drew | apply IsS85.set_0 | apply IsS85.set_1) | exact HI0.out)); (case side2 => repeat (first | (with_reducible first | exact HB.out | apply below_alloc | apply pw_below_drewN | apply below_drew1 | refine below_set ?_ (IsS85.ge HI0.out)) | exact HB.out)); rintro e w17 ⟨rfl, hi, hb, hk⟩; refine ⟨_, rfl, ?_⟩; have n0_ := Aside0.mk (Kd.R_mono (Kd.R_keep (IsS85.apart (show IsS85 w0 _ g t503 t504 from by repeat (first | (with_reducible first | exact HI0.out | apply IsS85.alloc | apply IsS85.drewN | apply IsS85.drew | apply IsS85.set_0 | apply IsS85.set_1) | exact HI0.out)) (by (with_reducible repeat (first | apply Kd.R_alloc | apply Kd.R_drewN | apply Kd.R_drew)); exact HO_3.out) (by decide)) hk (fun _ h => h.2)) (fun _ h => h.1)); have n1_ := Aside0.mk (KeepBut.trans (by repeat (first | (with_reducible first | exact HK.out | apply KeepBut.set_ | apply keep_drewN | apply keep_drew | apply keep_alloc) | exact HK.out)) hk (.inl rfl)); have n2_ := Aside0.mk (hb); have n3_ := Aside0.mk (hi); clear HO_3; clear HK; clear HB; clear HI0; have HO_3 := n0_; have HK := n1_; have HB := n2_; have HI0 := n3_; clear n0_ n1_ n2_ n3_; (try clear hb); (try clear hb2); (try clear hk); (try clear hi)) | ((with_reducible refine gate_builtin (b := .append) (xs := #[.tmp 21, .tmp 24]) rfl ?_); at_builtin; refine Kd.R_append (Kd.int .i64) w.heap.size rfl (.tmp 21) (.tmp 24) 31 3 (.int .i64 0) 8 rfl Try.underlying31 info3 rfl (by decide) (by omega) (.slice Ao15 x3_1.length co15) x3_1 t505 [.int .i64 t505] (fun _ => True) (fun _ => False) rfl rfl ?aP (fun _ hk => hk.elim) ?aF ?aO (Below.refl _ _) ?aS ?aL ?_; (case aP => exact rfl); (case aF => exact (fun _ _ => trivial)); (case aO => exact (by (with_reducible repeat (first | apply Kd.R_alloc | apply Kd.R_drewN | apply Kd.R_drew)); exact HO_3.out)); (case aS => exact (keep_size (w := w) (g := g) (row := none) (by repeat (first | (with_reducible first | exact HK.out | apply KeepBut.set_ | apply keep_drewN | apply keep_drew | apply keep_alloc) | exact HK.out)))); (case aL => have := LMc14.out; omega); intro v509 w18 ho hb hg hat; rw [← Ny508.out] at ho; have n0_ := Aside0.mk (IsS85.grown (by repeat (first | (with_reducible first | exact HI0.out | apply IsS85.alloc | apply IsS85.drewN | apply IsS85.drew | apply IsS85.set_0 | apply IsS85.set_1) | exact HI0.out)) hg (IsS85.own_ne HI0.out HO_3.out (by decide))); have n1_ := Aside0.mk (below_weaken (by repeat (first | (with_reducible first | exact HB.out | apply below_alloc | apply pw_below_drewN | apply below_drew1 | refine below_set ?_ (IsS85.ge HI0.out)) | exact HB.out)) HL.out hb); have n2_ := Aside0.mk (KeepBut.trans (by repeat (first | (with_reducible first | exact HK.out | apply KeepBut.set_ | apply keep_drewN | apply keep_drew | apply keep_alloc) | exact HK.out)) (KeepBut.of_grown hg g) (Kd.R_base2 HO_3.out)); have n3_ := Aside0.mk (ho); clear HI0; clear HB; clear HK; clear HO_3; have HI0 := n0_; have HB := n1_; have HK := n2_; have HO510 := n3_; clear n0_ n1_ n2_ n3_; clear ho hb hg hat))
        go_roundg kj3
        case measure => have := HK1.out; have := HJ3.out; omega
        case rel => exact ⟨(y508), (t506), (t507), H', ⟨by have := HK1.out; have := HJ3.out; omega⟩, ⟨by (with_reducible repeat (first | apply Kd.R_alloc | apply Kd.R_drewN | apply Kd.R_drew)); exact HO510.out⟩, ⟨by repeat (first | (with_reducible first | exact HI0.out | apply IsS85.alloc | apply IsS85.drewN | apply IsS85.drew | apply IsS85.set_0 | apply IsS85.set_1) | exact HI0.out)⟩, ⟨by repeat (first | (with_reducible first | exact HK.out | apply KeepBut.set_ | apply keep_drewN | apply keep_drew | apply keep_alloc) | exact HK.out)⟩, ⟨by repeat (first | (with_reducible first | exact HB.out | apply below_alloc | apply pw_below_drewN | apply below_drew1 | refine below_set ?_ (IsS85.ge HI0.out)) | exact HB.out)⟩⟩
       ·rw [if_neg c14] at H
        exact absurd H (by simp)
      ·rw [if_neg c11] at H
       have c11b0 : decide (0 < (x3_1.length : Int)) = false := decide_eq_false c11
       have c11b1 : decide (0 < x3_1.length) = false := decide_eq_false (by omega)
       clear c11
       replace H := Option.bind_eq_some_iff.mp H
       obtain ⟨⟨t511, t512, t513⟩, A190, H⟩ := H
       replace H : (if x3_1.length < 17592186044416 then (family_scan_list.l0 kj3 (x3_1 ++ [t511]) t512 t513) else (none)) = some (r1, r2, r3) := H
       have A19 := Aside0.mk A190
       clear A190
       by_cases c20 : x3_1.length < 17592186044416
       ·rw [if_pos c20] at H
        have LMc20 := Aside0.mk c20
        clear c20
        obtain ⟨y514, hy514⟩ : ∃ y_ : List Int, y_ = (x3_1 ++ [t511]) := ⟨_, rfl⟩
        replace H : (family_scan_list.l0 kj3 y514 t512 t513) = some (r1, r2, r3) := by first | (rw [hy514]; with_reducible exact H) | (have H2_ := (Option.bind_some _ _).symm.trans H; rw [hy514]; with_reducible exact H2_) | (have H2_ := (Option.bind_some _ _).symm.trans H; with_reducible exact H2_) | with_reducible exact H | (rw [hy514]; exact H) | exact H
        have Ny514 := Aside0.mk hy514
        clear hy514
        have H' := Aside0.mk H
        clear H
        obtain ⟨Ao21, co21, eo21⟩ := Kd.R_slice HO_3.out
        subst eo21
        go_wp2_with (first | ((with_reducible refine gate_callee (f := 57) rfl ?_); refine goesL_ (some 23) rfl rfl Try.func57 (by kernel_rfl) rfl #[.pointer (some ⟨g, 0, none⟩)] rfl (by (try simp only [List.map_toArray, List.map_cons, List.map_nil]); first | done | rfl | (simp only [List.length_drop, List.length_take]; rfl)) ?_; (with_reducible refine (family_scan_number.calls kj3 g x1000_3 x1001_3 t511 t512 t513 w0 _ ?side1 ?side2 A19.out).mono ?_); (case side1 => repeat (first | (with_reducible first | exact HI0.out | apply IsS85.alloc | apply IsS85.drewN | apply IsS85.drew | apply IsS85.set_0 | apply IsS85.set_1) | exact HI0.out)); (case side2 => repeat (first | (with_reducible first | exact HB.out | apply below_alloc | apply pw_below_drewN | apply below_drew1 | refine below_set ?_ (IsS85.ge HI0.out)) | exact HB.out)); rintro e w22 ⟨rfl, hi, hb, hk⟩; refine ⟨_, rfl, ?_⟩; have n0_ := Aside0.mk (Kd.R_mono (Kd.R_keep (IsS85.apart (show IsS85 w0 _ g x1000_3 x1001_3 from by repeat (first | (with_reducible first | exact HI0.out | apply IsS85.alloc | apply IsS85.drewN | apply IsS85.drew | apply IsS85.set_0 | apply IsS85.set_1) | exact HI0.out)) (by (with_reducible repeat (first | apply Kd.R_alloc | apply Kd.R_drewN | apply Kd.R_drew)); exact HO_3.out) (by decide)) hk (fun _ h => h.2)) (fun _ h => h.1)); have n1_ := Aside0.mk (KeepBut.trans (by repeat (first | (with_reducible first | exact HK.out | apply KeepBut.set_ | apply keep_drewN | apply keep_drew | apply keep_alloc) | exact HK.out)) hk (.inl rfl)); have n2_ := Aside0.mk (hb); have n3_ := Aside0.mk (hi); clear HO_3; clear HK; clear HB; clear HI0; have HO_3 := n0_; have HK := n1_; have HB := n2_; have HI0 := n3_; clear n0_ n1_ n2_ n3_; (try clear hb); (try clear hb2); (try clear hk); (try clear hi)) | ((with_reducible refine gate_builtin (b := .append) (xs := #[.tmp 21, .tmp 24]) rfl ?_); at_builtin; refine Kd.R_append (Kd.int .i64) w.heap.size rfl (.tmp 21) (.tmp 24) 31 3 (.int .i64 0) 8 rfl Try.underlying31 info3 rfl (by decide) (by omega) (.slice Ao21 x3_1.length co21) x3_1 t511 [.int .i64 t511] (fun _ => True) (fun _ => False) rfl rfl ?aP (fun _ hk => hk.elim) ?aF ?aO (Below.refl _ _) ?aS ?aL ?_; (case aP => exact rfl); (case aF => exact (fun _ _ => trivial)); (case aO => exact (by (with_reducible repeat (first | apply Kd.R_alloc | apply Kd.R_drewN | apply Kd.R_drew)); exact HO_3.out)); (case aS => exact (keep_size (w := w) (g := g) (row := none) (by repeat (first | (with_reducible first | exact HK.out | apply KeepBut.set_ | apply keep_drewN | apply keep_drew | apply keep_alloc) | exact HK.out)))); (case aL => have := LMc20.out; omega); intro v515 w23 ho hb hg hat; rw [← Ny514.out] at ho; have n0_ := Aside0.mk (IsS85.grown (by repeat (first | (with_reducible first | exact HI0.out | apply IsS85.alloc | apply IsS85.drewN | apply IsS85.drew | apply IsS85.set_0 | apply IsS85.set_1) | exact HI0.out)) hg (IsS85.own_ne HI0.out HO_3.out (by decide))); have n1_ := Aside0.mk (below_weaken (by repeat (first | (with_reducible first | exact HB.out | apply below_alloc | apply pw_below_drewN | apply below_drew1 | refine below_set ?_ (IsS85.ge HI0.out)) | exact HB.out)) HL.out hb); have n2_ := Aside0.mk (KeepBut.trans (by repeat (first | (with_reducible first | exact HK.out | apply KeepBut.set_ | apply keep_drewN | apply keep_drew | apply keep_alloc) | exact HK.out)) (KeepBut.of_grown hg g) (Kd.R_base2 HO_3.out)); have n3_ := Aside0.mk (ho); clear HI0; clear HB; clear HK; clear HO_3; have HI0 := n0_; have HB := n1_; have HK := n2_; have HO516 := n3_; clear n0_ n1_ n2_ n3_; clear ho hb hg hat))
        go_roundg kj3
        case measure => have := HK1.out; have := HJ3.out; omega
        case rel => exact ⟨(y514), (t512), (t513), H', ⟨by have := HK1.out; have := HJ3.out; omega⟩, ⟨by (with_reducible repeat (first | apply Kd.R_alloc | apply Kd.R_drewN | apply Kd.R_drew)); exact HO516.out⟩, ⟨by repeat (first | (with_reducible first | exact HI0.out | apply IsS85.alloc | apply IsS85.drewN | apply IsS85.drew | apply IsS85.set_0 | apply IsS85.set_1) | exact HI0.out)⟩, ⟨by repeat (first | (with_reducible first | exact HK.out | apply KeepBut.set_ | apply keep_drewN | apply keep_drew | apply keep_alloc) | exact HK.out)⟩, ⟨by repeat (first | (with_reducible first | exact HB.out | apply below_alloc | apply pw_below_drewN | apply below_drew1 | refine below_set ?_ (IsS85.ge HI0.out)) | exact HB.out)⟩⟩
       ·rw [if_neg c20] at H
        exact absurd H (by simp)
     ·replace c10 := Bool.eq_false_iff.mpr c10
      subst c10
      have H1 : (some (x3_1, x1000_3, x1001_3)) = some (r1, r2, r3) := by rw [if_neg (show ¬ (false = true) by decide)] at H; exact H
      clear H
      have H := H1
      clear H1
      simp only [Option.some.injEq, Prod.mk.injEq] at H
      obtain ⟨rfl, rfl, rfl⟩ := H
      go_wp2
      go_ret
      exact ⟨_, by first | rfl | (simp [errW_none, errW_some] <;> rfl) | (simp [*, errW_none, errW_some] <;> rfl) | (simp [errW_none, errW_some]; exact Go.Proofs.YtgfbgfbnmiainaaW.OwnWords.isEmpty_bne _), by (with_reducible repeat (first | apply Kd.R_alloc | apply Kd.R_drewN | apply Kd.R_drew)); exact HO_3.out, by repeat (first | (with_reducible first | exact HI0.out | apply IsS85.alloc | apply IsS85.drewN | apply IsS85.drew | apply IsS85.set_0 | apply IsS85.set_1) | exact HI0.out), by repeat (first | (with_reducible first | exact HB.out | apply below_alloc | apply pw_below_drewN | apply below_drew1 | refine below_set ?_ (IsS85.ge HI0.out)) | exact HB.out), by repeat (first | (with_reducible first | exact HK.out | apply KeepBut.set_ | apply keep_drewN | apply keep_drew | apply keep_alloc) | exact HK.out)⟩

end Go.Proofs.Ytgfbgfbnmiainaa.Q
end
section
namespace Go.Proofs.Ytgfbgfbnmiainaa.Q
open Go.RowKit Go.Proofs.YtgfbgfbnmiainaaW.PrintWords Go.Proofs.YtgfbgfbnmiainaaW.PrintLast Go.Proofs.YtgfbgfbnmiainaaW.PrintMore
attribute [local go_sem] Go.Proofs.YtgfbgfbnmiainaaW.OwnWords.isSome_setCell max2_int min2_int max_two min_two max_three min_three max_four min_four
set_option linter.unusedVariables false
set_option linter.unusedSimpArgs false

/-! ### manystrandref07_take: function 59 -/
def manystrandref07_take.f (a0 : ByteArray) (a1 : ByteArray) : Option (ByteArray × Bool) := if (a0.size : Int) < (a1.size : Int) then (some (a0, false)) else (if 0 ≤ (a1.size : Int) then (if (a1.size : Int) ≤ (a0.size : Int) then (if (a0.extract 0 ((a1.size : Int) : Int).toNat).toList = a1.toList then (some (a0.extract ((a1.size : Int) : Int).toNat a0.size, true)) else (some (a0, false))) else (none)) else (none))
set_option maxHeartbeats 8000000 in
set_option maxRecDepth 100000 in
theorem manystrandref07_take.calls (a0 : ByteArray) (a1 : ByteArray) (r1 : ByteArray) (r2 : Bool) (w : World) (h : manystrandref07_take.f a0 a1 = some (r1, r2)) :
  Calls Try.prog 59 #[.string a0, .string a1] w fun e w' => e = .returned (.tuple #[.string r1, .bool r2]) ∧ Drawn0 w w' := by
 have H : (if (a0.size : Int) < (a1.size : Int) then (some (a0, false)) else (if 0 ≤ (a1.size : Int) then (if (a1.size : Int) ≤ (a0.size : Int) then (if (a0.extract 0 ((a1.size : Int) : Int).toNat).toList = a1.toList then (some (a0.extract ((a1.size : Int) : Int).toNat a0.size, true)) else (some (a0, false))) else (none)) else (none))) = some (r1, r2) := h
 clear h
 by_cases c3 : (a0.size : Int) < (a1.size : Int)
 ·rw [if_pos c3] at H
  have c3b0 : decide ((a0.size : Int) < (a1.size : Int)) = true := decide_eq_true c3
  have c3b1 : decide (a0.size < a1.size) = true := decide_eq_true (Int.ofNat_lt.mp c3)
  clear c3
  simp only [Option.some.injEq, Prod.mk.injEq] at H
  obtain ⟨rfl, rfl⟩ := H
  go_enter Try.func59, Try.ntmps59
  go_wp2
  go_ret2
  exact ⟨by first | rfl | (simp; done) | (simp [*]; done), by repeat (first | exact Drawn0.refl _ | apply Drawn0.step)⟩
 ·rw [if_neg c3] at H
  have c3b0 : decide ((a0.size : Int) < (a1.size : Int)) = false := decide_eq_false c3
  have c3b1 : decide (a0.size < a1.size) = false := decide_eq_false (fun h => c3 (Int.ofNat_lt.mpr h))
  clear c3
  by_cases c4 : 0 ≤ (a1.size : Int)
  ·rw [if_pos c4] at H
   have c4b0 := eq_true c4
   have c4b1 : decide (0 ≤ (a1.size : Int)) = true := decide_eq_true c4
   clear c4
   by_cases c5 : (a1.size : Int) ≤ (a0.size : Int)
   ·rw [if_pos c5] at H
    have c5b0 := eq_true c5
    have c5b1 : decide ((a1.size : Int) ≤ (a0.size : Int)) = true := decide_eq_true c5
    clear c5
    by_cases c6 : (a0.extract 0 ((a1.size : Int) : Int).toNat).toList = a1.toList
    ·rw [if_pos c6] at H
     have c6b0 : ((a0.extract 0 ((a1.size : Int) : Int).toNat).toList == a1.toList) = true := beq_iff_eq.mpr c6
     have c6b1 : ((a0.extract 0 ((a1.size : Int) : Int).toNat).toList != a1.toList) = false := bne_eq_false_iff_eq.mpr c6
     try simp only [Int.toNat_natCast] at c6b0 c6b1
     clear c6
     have c7b0 := eq_true (of_decide_eq_true (by first | (with_reducible assumption) | assumption) : 0 ≤ (a1.size : Int))
     have c8b0 := eq_true (of_decide_eq_true (by first | (with_reducible assumption) | assumption) : (a1.size : Int) ≤ (a0.size : Int))
     simp only [Option.some.injEq, Prod.mk.injEq] at H
     obtain ⟨rfl, rfl⟩ := H
     go_enter Try.func59, Try.ntmps59
     go_wp2
     go_ret2
     exact ⟨by first | rfl | (simp; done) | (simp [*]; done), by repeat (first | exact Drawn0.refl _ | apply Drawn0.step)⟩
    ·rw [if_neg c6] at H
     have c6b0 : ((a0.extract 0 ((a1.size : Int) : Int).toNat).toList == a1.toList) = false := beq_eq_false_iff_ne.mpr c6
     have c6b1 : ((a0.extract 0 ((a1.size : Int) : Int).toNat).toList != a1.toList) = true := bne_iff_ne.mpr c6
     try simp only [Int.toNat_natCast] at c6b0 c6b1
     simp only [Option.some.injEq, Prod.mk.injEq] at H
     obtain ⟨rfl, rfl⟩ := H
     go_enter Try.func59, Try.ntmps59
     go_wp2
     go_ret2
     exact ⟨by first | rfl | (simp; done) | (simp [*]; done), by repeat (first | exact Drawn0.refl _ | apply Drawn0.step)⟩
   ·rw [if_neg c5] at H
    exact absurd H (by simp)
  ·rw [if_neg c4] at H
   exact absurd H (by simp)

end Go.Proofs.Ytgfbgfbnmiainaa.Q
end
section
namespace Go.Proofs.Ytgfbgfbnmiainaa.Q
open Go.RowKit Go.Proofs.YtgfbgfbnmiainaaW.PrintWords Go.Proofs.YtgfbgfbnmiainaaW.PrintLast Go.Proofs.YtgfbgfbnmiainaaW.PrintMore
attribute [local go_sem] Go.Proofs.YtgfbgfbnmiainaaW.OwnWords.isSome_setCell max2_int min2_int max_two min_two max_three min_three max_four min_four
set_option linter.unusedVariables false
set_option linter.unusedSimpArgs false

/-! ### manystrandref07_number: function 60 -/
def manystrandref07_number.l0 : Nat → ByteArray → Int → Int → Option (Int × ByteArray)
 | 0, _, _, _ => none
 | k + 1, x0, x4, x5 => if x5 < 3 then (if (x0.size : Int) > 0 then (if 0 < (x0.size : Int) then (if (bt x0 0) ≥ 48 then (if (bt x0 0) ≤ 57 then (if 1 ≤ (x0.size : Int) then (manystrandref07_number.l0 k (x0.extract 1 x0.size) (wrap64 ((wrap64 (10 * x4)) + (((bt x0 0) - 48) % 256))) (wrap64 (x5 + 1))) else (none)) else (some (x4, x0))) else (some (x4, x0))) else (none)) else (some (x4, x0))) else (some (x4, x0))
def manystrandref07_number.f (k : Nat) (a0 : ByteArray) : Option (Int × ByteArray) := manystrandref07_number.l0 k a0 0 0
theorem manystrandref07_number.mono_l : ∀ k, (∀ y0 y1 y2, LeO (manystrandref07_number.l0 k y0 y1 y2) (manystrandref07_number.l0 (k + 1) y0 y1 y2))
 | 0 => fun _ _ _ r h => by simp [manystrandref07_number.l0] at h
 | k + 1 => by
  have ih0 := manystrandref07_number.mono_l k
  ·intro y0 y1 y2
   unfold manystrandref07_number.l0
   repeat' first
   | (with_reducible exact ih0 _ _ _)
   | (with_reducible exact LeO.refl _)
   | (with_reducible exact LeO.none _)
   | (with_reducible refine LeO.ite ?_ ?_)
   | (with_reducible refine LeO.bind ?_ (fun _ => ?_))
   | exact ih0 _ _ _
   | exact LeO.none _
   | refine LeO.ite ?_ ?_
   | refine LeO.bind ?_ (fun _ => ?_)
theorem manystrandref07_number.mono : ∀ a0 k, LeO (manystrandref07_number.f k a0) (manystrandref07_number.f (k + 1) a0) := by
 intro a0 k
 have ih0 := manystrandref07_number.mono_l k
 unfold manystrandref07_number.f
 repeat' first
   | (with_reducible exact ih0 _ _ _)
   | (with_reducible exact LeO.refl _)
   | (with_reducible exact LeO.none _)
   | (with_reducible refine LeO.ite ?_ ?_)
   | (with_reducible refine LeO.bind ?_ (fun _ => ?_))
   | exact ih0 _ _ _
   | exact LeO.none _
   | refine LeO.ite ?_ ?_
   | refine LeO.bind ?_ (fun _ => ?_)
set_option maxHeartbeats 8000000 in
set_option maxRecDepth 100000 in
theorem manystrandref07_number.calls (k : Nat) (a0 : ByteArray) (r1 : Int) (r2 : ByteArray) (w : World) (h : manystrandref07_number.f k a0 = some (r1, r2)) :
  Calls Try.prog 60 #[.string a0] w fun e w' => e = .returned (.tuple #[.int .i64 r1, .string r2]) ∧ Drawn0 w w' := by
 have H : (manystrandref07_number.l0 k a0 0 0) = some (r1, r2) := h
 clear h
 have H' := Aside0.mk H
 clear H
 go_enter Try.func60, Try.ntmps60
 go_wp2
 repeat (go_quiet (fail); try go_wp2)
 go_loopg [0, 4, 5] k (fun kq v0 v4 v5 w' => ∃ (x0_1 : ByteArray) (x4_1 : Int) (x5_1 : Int), v0 = .string x0_1 ∧ v4 = .int .i64 x4_1 ∧ v5 = .int .i64 x5_1 ∧ Aside0 (manystrandref07_number.l0 kq x0_1 x4_1 x5_1 = some (r1, r2)) ∧ Aside0 (kq ≤ k) ∧ Drawn0 w w')
 case atStart => exact ⟨(a0), (0), (0), (by first | rfl | (simp; done) | (simp [*]; done)), (by first | rfl | (simp; done) | (simp [*]; done)), (by first | rfl | (simp; done) | (simp [*]; done)), H', ⟨Nat.le_refl _⟩, by repeat (first | exact Drawn0.refl _ | apply Drawn0.step)⟩
 case round =>
  clear H'
  obtain ⟨x0_1, x4_1, x5_1, rfl, rfl, rfl, HA, HK1, ⟨m1, rfl⟩⟩ := hrel
  cases gk with
  | zero => exact absurd HA.out (by simp [manystrandref07_number.l0])
  | succ k1 =>
   have H := HA.out
   clear HA
   simp only [manystrandref07_number.l0] at H
   by_cases c2 : x5_1 < 3
   ·rw [if_pos c2] at H
    have c2b0 : decide (x5_1 < 3) = true := decide_eq_true c2
    clear c2
    by_cases c3 : (x0_1.size : Int) > 0
    ·rw [if_pos c3] at H
     have c3b0 : decide (0 < (x0_1.size : Int)) = true := decide_eq_true c3
     have c3b1 : decide (0 < x0_1.size) = true := decide_eq_true (by omega)
     clear c3
     by_cases c4 : 0 < (x0_1.size : Int)
     ·rw [if_pos c4] at H
      have c4b0 : decide (0 < (x0_1.size : Int)) = true := decide_eq_true c4
      have c4b1 : decide (0 < x0_1.size) = true := decide_eq_true (by omega)
      clear c4
      by_cases c6 : (bt x0_1 0) ≥ 48
      ·rw [if_pos c6] at H
       have c6b0 : decide (48 ≤ (bt x0_1 0)) = true := decide_eq_true c6
       clear c6
       by_cases c8 : (bt x0_1 0) ≤ 57
       ·rw [if_pos c8] at H
        have c8b0 : decide ((bt x0_1 0) ≤ 57) = true := decide_eq_true c8
        clear c8
        by_cases c10 : 1 ≤ (x0_1.size : Int)
        ·rw [if_pos c10] at H
         have c10b0 := eq_true c10
         have c10b1 : decide (1 ≤ (x0_1.size : Int)) = true := decide_eq_true c10
         clear c10
         have H' := Aside0.mk H
         clear H
         have p5 : 0 ≤ (0 : Int) := (by omega)
         have q5 : 0 < x0_1.size := (by have : (0 : Int) < (x0_1.size : Int) := of_decide_eq_true (by first | (with_reducible assumption) | assumption); omega)
         have hx5 : ∀ h : 0 < x0_1.size, ((x0_1[0]'h).toNat : Int) = bt x0_1 0 := bt_at x0_1 0
         clear p5
         have qi5 : (0 < (x0_1.size : Int)) = True := eq_true (of_decide_eq_true (by first | (with_reducible assumption) | assumption))
         replace q5 := eq_true q5
         have p7 : 0 ≤ (0 : Int) := (by omega)
         have q7 : 0 < x0_1.size := (by have : (0 : Int) < (x0_1.size : Int) := of_decide_eq_true (by first | (with_reducible assumption) | assumption); omega)
         have hx7 : ∀ h : 0 < x0_1.size, ((x0_1[0]'h).toNat : Int) = bt x0_1 0 := bt_at x0_1 0
         clear p7
         have qi7 : (0 < (x0_1.size : Int)) = True := eq_true (of_decide_eq_true (by first | (with_reducible assumption) | assumption))
         replace q7 := eq_true q7
         have p9 : 0 ≤ (0 : Int) := (by omega)
         have q9 : 0 < x0_1.size := (by have : (0 : Int) < (x0_1.size : Int) := of_decide_eq_true (by first | (with_reducible assumption) | assumption); omega)
         have hx9 : ∀ h : 0 < x0_1.size, ((x0_1[0]'h).toNat : Int) = bt x0_1 0 := bt_at x0_1 0
         clear p9
         have qi9 : (0 < (x0_1.size : Int)) = True := eq_true (of_decide_eq_true (by first | (with_reducible assumption) | assumption))
         replace q9 := eq_true q9
         go_wp2
         repeat (go_quiet (fail); try go_wp2)
         go_roundg k1
         case measure => have := HK1.out; omega
         case rel => exact ⟨(x0_1.extract 1 x0_1.size), (wrap64 ((wrap64 (10 * x4_1)) + (((bt x0_1 0) - 48) % 256))), (wrap64 (x5_1 + 1)), (by first | rfl | (simp; done) | (simp [*]; done)), (by first | rfl | (simp; done) | (simp [*]; done)), (by first | rfl | (simp; done) | (simp [*]; done)), H', ⟨by have := HK1.out; omega⟩, by repeat (first | exact Drawn0.refl _ | apply Drawn0.step)⟩
        ·rw [if_neg c10] at H
         exact absurd H (by simp)
       ·rw [if_neg c8] at H
        have c8b0 : decide ((bt x0_1 0) ≤ 57) = false := decide_eq_false c8
        clear c8
        simp only [Option.some.injEq, Prod.mk.injEq] at H
        obtain ⟨rfl, rfl⟩ := H
        have p5 : 0 ≤ (0 : Int) := (by omega)
        have q5 : 0 < x0_1.size := (by have : (0 : Int) < (x0_1.size : Int) := of_decide_eq_true (by first | (with_reducible assumption) | assumption); omega)
        have hx5 : ∀ h : 0 < x0_1.size, ((x0_1[0]'h).toNat : Int) = bt x0_1 0 := bt_at x0_1 0
        clear p5
        have qi5 : (0 < (x0_1.size : Int)) = True := eq_true (of_decide_eq_true (by first | (with_reducible assumption) | assumption))
        replace q5 := eq_true q5
        have p7 : 0 ≤ (0 : Int) := (by omega)
        have q7 : 0 < x0_1.size := (by have : (0 : Int) < (x0_1.size : Int) := of_decide_eq_true (by first | (with_reducible assumption) | assumption); omega)
        have hx7 : ∀ h : 0 < x0_1.size, ((x0_1[0]'h).toNat : Int) = bt x0_1 0 := bt_at x0_1 0
        clear p7
        have qi7 : (0 < (x0_1.size : Int)) = True := eq_true (of_decide_eq_true (by first | (with_reducible assumption) | assumption))
        replace q7 := eq_true q7
        go_wp2
        repeat (go_quiet (fail); try go_wp2)
        go_ret2
        exact ⟨by first | rfl | (simp; done) | (simp [*]; done), by repeat (first | exact Drawn0.refl _ | apply Drawn0.step)⟩
      ·rw [if_neg c6] at H
       have c6b0 : decide (48 ≤ (bt x0_1 0)) = false := decide_eq_false c6
       clear c6
       simp only [Option.some.injEq, Prod.mk.injEq] at H
       obtain ⟨rfl, rfl⟩ := H
       have p5 : 0 ≤ (0 : Int) := (by omega)
       have q5 : 0 < x0_1.size := (by have : (0 : Int) < (x0_1.size : Int) := of_decide_eq_true (by first | (with_reducible assumption) | assumption); omega)
       have hx5 : ∀ h : 0 < x0_1.size, ((x0_1[0]'h).toNat : Int) = bt x0_1 0 := bt_at x0_1 0
       clear p5
       have qi5 : (0 < (x0_1.size : Int)) = True := eq_true (of_decide_eq_true (by first | (with_reducible assumption) | assumption))
       replace q5 := eq_true q5
       go_wp2
       repeat (go_quiet (fail); try go_wp2)
       go_ret2
       exact ⟨by first | rfl | (simp; done) | (simp [*]; done), by repeat (first | exact Drawn0.refl _ | apply Drawn0.step)⟩
     ·rw [if_neg c4] at H
      exact absurd H (by simp)
    ·rw [if_neg c3] at H
     have c3b0 : decide (0 < (x0_1.size : Int)) = false := decide_eq_false c3
     have c3b1 : decide (0 < x0_1.size) = false := decide_eq_false (by omega)
     clear c3
     simp only [Option.some.injEq, Prod.mk.injEq] at H
     obtain ⟨rfl, rfl⟩ := H
     go_wp2
     repeat (go_quiet (fail); try go_wp2)
     go_ret2
     exact ⟨by first | rfl | (simp; done) | (simp [*]; done), by repeat (first | exact Drawn0.refl _ | apply Drawn0.step)⟩
   ·rw [if_neg c2] at H
    have c2b0 : decide (x5_1 < 3) = false := decide_eq_false c2
    clear c2
    simp only [Option.some.injEq, Prod.mk.injEq] at H
    obtain ⟨rfl, rfl⟩ := H
    go_wp2
    repeat (go_quiet (fail); try go_wp2)
    go_ret2
    exact ⟨by first | rfl | (simp; done) | (simp [*]; done), by repeat (first | exact Drawn0.refl _ | apply Drawn0.step)⟩

end Go.Proofs.Ytgfbgfbnmiainaa.Q
end
section
namespace Go.Proofs.Ytgfbgfbnmiainaa.Q
open Go.RowKit Go.Proofs.YtgfbgfbnmiainaaW.PrintWords Go.Proofs.YtgfbgfbnmiainaaW.PrintLast Go.Proofs.YtgfbgfbnmiainaaW.PrintMore Go.Proofs.YtgfbgfbnmiainaaW.OwnWords
attribute [local go_sem] Go.Proofs.YtgfbgfbnmiainaaW.OwnWords.isSome_setCell max2_int min2_int max_two min_two max_three min_three max_four min_four
set_option linter.unusedVariables false
set_option linter.unusedSimpArgs false

/-! ### manystrandref07_parts: function 58 -/
mutual
def manystrandref07_parts.l0 : Nat → ByteArray → List Int → Option (List Int × ByteArray)
 | 0, _, _ => none
 | k + 1, x0, x4 => if (x0.size : Int) > 0 then (if 0 < (x0.size : Int) then (if (bt x0 0) = 125 then (manystrandref07_parts.j1 k x0 x4 false) else (manystrandref07_parts.j1 k x0 x4 (decide ((x4.length : Int) ≤ 64)))) else (none)) else (manystrandref07_parts.j1 k x0 x4 false)
def manystrandref07_parts.j1 : Nat → ByteArray → List Int → Bool → Option (List Int × ByteArray)
 | 0, _, _, _ => none
 | k + 1, x0, x4, x23 => if x23 = true then ((manystrandref07_number.f k x0).bind fun bt546 => (if x4.length < 17592186044416 then ((manystrandref07_take.f bt546.2 (⟨#[32]⟩ : ByteArray)).bind fun bt551 => (manystrandref07_parts.l0 k bt551.1 (x4 ++ [bt546.1]))) else (none))) else ((manystrandref07_take.f x0 (⟨#[125]⟩ : ByteArray)).bind fun bt553 => (some (x4, bt553.1)))
end
def manystrandref07_parts.f (k : Nat) (a0 : ByteArray) : Option (List Int × ByteArray) := (manystrandref07_take.f a0 (⟨#[123]⟩ : ByteArray)).bind fun bt544 => (manystrandref07_parts.l0 k bt544.1 ([] : List Int))
theorem manystrandref07_parts.mono_l : ∀ k, (∀ y0 y1, LeO (manystrandref07_parts.l0 k y0 y1) (manystrandref07_parts.l0 (k + 1) y0 y1)) ∧ (∀ y0 y1 y2, LeO (manystrandref07_parts.j1 k y0 y1 y2) (manystrandref07_parts.j1 (k + 1) y0 y1 y2))
 | 0 => ⟨fun _ _ r h => by simp [manystrandref07_parts.l0] at h, fun _ _ _ r h => by simp [manystrandref07_parts.j1] at h⟩
 | k + 1 => by
  obtain ⟨ih0, ih1⟩ := manystrandref07_parts.mono_l k
  refine ⟨?_, ?_⟩
  ·intro y0 y1
   unfold manystrandref07_parts.l0
   repeat' first
   | (with_reducible exact ih0 _ _)
   | (with_reducible exact ih1 _ _ _)
   | (with_reducible exact manystrandref07_number.mono _ _)
   | (with_reducible exact LeO.refl _)
   | (with_reducible exact LeO.none _)
   | (with_reducible refine LeO.ite ?_ ?_)
   | (with_reducible refine LeO.bind ?_ (fun _ => ?_))
   | exact ih0 _ _
   | exact ih1 _ _ _
   | exact manystrandref07_number.mono _ _
   | exact LeO.none _
   | refine LeO.ite ?_ ?_
   | refine LeO.bind ?_ (fun _ => ?_)
  ·intro y0 y1 y2
   unfold manystrandref07_parts.j1
   repeat' first
   | (with_reducible exact ih0 _ _)
   | (with_reducible exact ih1 _ _ _)
   | (with_reducible exact manystrandref07_number.mono _ _)
   | (with_reducible exact LeO.refl _)
   | (with_reducible exact LeO.none _)
   | (with_reducible refine LeO.ite ?_ ?_)
   | (with_reducible refine LeO.bind ?_ (fun _ => ?_))
   | exact ih0 _ _
   | exact ih1 _ _ _
   | exact manystrandref07_number.mono _ _
   | exact LeO.none _
   | refine LeO.ite ?_ ?_
   | refine LeO.bind ?_ (fun _ => ?_)
theorem manystrandref07_parts.mono : ∀ a0 k, LeO (manystrandref07_parts.f k a0) (manystrandref07_parts.f (k + 1) a0) := by
 intro a0 k
 obtain ⟨ih0, ih1⟩ := manystrandref07_parts.mono_l k
 unfold manystrandref07_parts.f
 repeat' first
   | (with_reducible exact ih0 _ _)
   | (with_reducible exact ih1 _ _ _)
   | (with_reducible exact manystrandref07_number.mono _ _)
   | (with_reducible exact LeO.refl _)
   | (with_reducible exact LeO.none _)
   | (with_reducible refine LeO.ite ?_ ?_)
   | (with_reducible refine LeO.bind ?_ (fun _ => ?_))
   | exact ih0 _ _
   | exact ih1 _ _ _
   | exact manystrandref07_number.mono _ _
   | exact LeO.none _
   | refine LeO.ite ?_ ?_
   | refine LeO.bind ?_ (fun _ => ?_)
set_option maxHeartbeats 8000000 in
set_option maxRecDepth 100000 in
theorem manystrandref07_parts.calls (k : Nat) (a0 : ByteArray) (r1 : List Int) (r2 : ByteArray) (w : World) (h : manystrandref07_parts.f k a0 = some (r1, r2)) :
  Calls Try.prog 58 #[.string a0] w fun e w' => ∃ v0_ : Value, e = .returned (.tuple #[v0_, .string r2]) ∧ Kd.R (Kd.int .i64) 3 w' w.heap.size (fun _ => True) v0_ r1 ∧ Below w.heap.size w w' := by
 have HB := Aside0.mk (Below.refl w.heap.size w)
 have H : ((manystrandref07_take.f a0 (⟨#[123]⟩ : ByteArray)).bind fun bt544 => (manystrandref07_parts.l0 k bt544.1 ([] : List Int))) = some (r1, r2) := h
 clear h
 replace H := Option.bind_eq_some_iff.mp H
 obtain ⟨⟨t544, t545⟩, A20, H⟩ := H
 replace H : (manystrandref07_parts.l0 k t544 ([] : List Int)) = some (r1, r2) := H
 have A2 := Aside0.mk A20
 clear A20
 have H' := Aside0.mk H
 clear H
 go_enter Try.func58, Try.ntmps58
 go_wp2_with (first | ((with_reducible refine gate_callee (f := 59) rfl ?_); refine goesL_ (some 8) rfl rfl Try.func59 (by kernel_rfl) rfl #[.string a0, .string (⟨#[123]⟩ : ByteArray)] rfl (by (try simp only [List.map_toArray, List.map_cons, List.map_nil]); first | done | rfl | (simp only [List.length_drop, List.length_take]; rfl)) ?_; (with_reducible refine (manystrandref07_take.calls a0 (⟨#[123]⟩ : ByteArray) t544 t545 _ A2.out).mono ?_); rintro e w' ⟨rfl, ⟨nd, rfl⟩⟩; refine ⟨_, rfl, ?_⟩))
 try simp only [Act.put, List.setIfInBounds_toArray, List.set_cons_zero, List.set_cons_succ]
 go_loopg [0, 4] k (fun kq v0 v4 w' => ∃ (x0_1 : ByteArray) (x4_1 : List Int), v0 = .string x0_1 ∧ Aside0 (manystrandref07_parts.l0 kq x0_1 x4_1 = some (r1, r2)) ∧ Aside0 (kq ≤ k) ∧ Aside0 (Kd.R (Kd.int .i64) 3 w' w.heap.size (fun _ => True) v4 x4_1) ∧ Aside0 (Below w.heap.size w w'))
 case atStart => exact ⟨(t544), (([] : List Int)), (by first | rfl | (simp; done) | (simp [*]; done)), H', ⟨Nat.le_refl _⟩, ⟨by first | exact Kd.R_nil _ _ _ _ _ | exact Kd.N_nil _ _ _ _ _ | exact Kd.V_nil _ _ _ _ _ | exact Kd.Q_nil _ _ _ _ _ | exact Kd.S_nil _ _ _ _ _⟩, ⟨bSt_⟩⟩
 case round =>
  clear H'
  try clear p2
  obtain ⟨x0_1, x4_1, rfl, HA, HK1, HO_4, HB⟩ := hrel
  cases gk with
  | zero => exact absurd HA.out (by simp [manystrandref07_parts.l0])
  | succ k1 =>
   have H := HA.out
   clear HA
   simp only [manystrandref07_parts.l0] at H
   have HC3 := Aside0.mk H
   clear H
   go_upto_region 3 with (fail)
   go_cut [23] (fun v23 wc => ∃ (kq : Nat) (x23_2 : Bool), v23 = .bool x23_2 ∧ Aside0 (manystrandref07_parts.j1 kq x0_1 x4_1 x23_2 = some (r1, r2)) ∧ Aside0 (kq ≤ k1) ∧ Aside0 (Kd.R (Kd.int .i64) 3 wc w.heap.size (fun _ => True) u4 x4_1) ∧ Aside0 (Below w.heap.size w wc))
   case first =>
    have H := HC3.out
    clear HC3
    by_cases c4 : (x0_1.size : Int) > 0
    ·rw [if_pos c4] at H
     have c4b0 : decide (0 < (x0_1.size : Int)) = true := decide_eq_true c4
     have c4b1 : decide (0 < x0_1.size) = true := decide_eq_true (by omega)
     clear c4
     (first | rw [c4b0] | (simp only [i64_w, i32_w]; rw [c4b0]) | skip)
     by_cases c5 : 0 < (x0_1.size : Int)
     ·rw [if_pos c5] at H
      have c5b0 : decide (0 < (x0_1.size : Int)) = true := decide_eq_true c5
      have c5b1 : decide (0 < x0_1.size) = true := decide_eq_true (by omega)
      clear c5
      by_cases c7 : (bt x0_1 0) = 125
      ·rw [if_pos c7] at H
       have c7b0 : ((bt x0_1 0) == 125) = true := beq_iff_eq.mpr c7
       have c7b1 : ((bt x0_1 0) != 125) = false := bne_eq_false_iff_eq.mpr c7
       clear c7
       have H' := Aside0.mk H
       clear H
       have p6 : 0 ≤ (0 : Int) := (by omega)
       have q6 : 0 < x0_1.size := (by have : (0 : Int) < (x0_1.size : Int) := of_decide_eq_true (by first | (with_reducible assumption) | assumption); omega)
       have hx6 : ∀ h : 0 < x0_1.size, ((x0_1[0]'h).toNat : Int) = bt x0_1 0 := bt_at x0_1 0
       clear p6
       have qi6 : (0 < (x0_1.size : Int)) = True := eq_true (of_decide_eq_true (by first | (with_reducible assumption) | assumption))
       replace q6 := eq_true q6
       go_wp2
       go_meet
       case rel => exact ⟨_, (false), (by first | rfl | (simp; done) | (simp [*]; done)), H', ⟨by have := HK1.out; first | omega | exact Nat.le_refl _⟩, ⟨by (with_reducible repeat (first | apply Kd.R_alloc | apply Kd.R_drewN | apply Kd.R_drew)); exact HO_4.out⟩, ⟨bSt_⟩⟩
      ·rw [if_neg c7] at H
       have c7b0 : ((bt x0_1 0) == 125) = false := beq_eq_false_iff_ne.mpr c7
       have c7b1 : ((bt x0_1 0) != 125) = true := bne_iff_ne.mpr c7
       have H' := Aside0.mk H
       clear H
       have p6 : 0 ≤ (0 : Int) := (by omega)
       have q6 : 0 < x0_1.size := (by have : (0 : Int) < (x0_1.size : Int) := of_decide_eq_true (by first | (with_reducible assumption) | assumption); omega)
       have hx6 : ∀ h : 0 < x0_1.size, ((x0_1[0]'h).toNat : Int) = bt x0_1 0 := bt_at x0_1 0
       clear p6
       have qi6 : (0 < (x0_1.size : Int)) = True := eq_true (of_decide_eq_true (by first | (with_reducible assumption) | assumption))
       replace q6 := eq_true q6
       obtain ⟨Ao8, co8, eo8⟩ := Kd.R_slice HO_4.out
       subst eo8
       go_wp2
       go_meet
       case rel => exact ⟨_, (decide ((x4_1.length : Int) ≤ 64)), (by first | rfl | (simp; done) | (simp [*]; done)), H', ⟨by have := HK1.out; first | omega | exact Nat.le_refl _⟩, ⟨by (with_reducible repeat (first | apply Kd.R_alloc | apply Kd.R_drewN | apply Kd.R_drew)); exact HO_4.out⟩, ⟨bSt_⟩⟩
     ·rw [if_neg c5] at H
      exact absurd H (by simp)
    ·rw [if_neg c4] at H
     have c4b0 : decide (0 < (x0_1.size : Int)) = false := decide_eq_false c4
     have c4b1 : decide (0 < x0_1.size) = false := decide_eq_false (by omega)
     clear c4
     (first | rw [c4b0] | (simp only [i64_w, i32_w]; rw [c4b0]) | skip)
     have H' := Aside0.mk H
     clear H
     go_wp2
     go_meet
     case rel => exact ⟨_, (false), (by first | rfl | (simp; done) | (simp [*]; done)), H', ⟨by have := HK1.out; first | omega | exact Nat.le_refl _⟩, ⟨by (with_reducible repeat (first | apply Kd.R_alloc | apply Kd.R_drewN | apply Kd.R_drew)); exact HO_4.out⟩, ⟨bSt_⟩⟩
   case rest =>
    clear HC3
    try clear p2
    try clear c4
    try clear c4b0
    try clear c4b1
    try clear c5
    try clear c5b0
    try clear c5b1
    try clear p6
    try clear q6
    try clear hx6
    try clear qi6
    try clear c7
    try clear c7b0
    try clear c7b1
    try clear p2
    try clear p6
    try clear q6
    obtain ⟨kq, x23_2, rfl, HA, HJ2, HO_4, HB⟩ := hcut
    cases kq with
    | zero => exact absurd HA.out (by simp [manystrandref07_parts.j1])
    | succ kj2 =>
     have H := HA.out
     clear HA
     simp only [manystrandref07_parts.j1] at H
     by_cases c9 : x23_2 = true
     ·subst c9
      have H1 : ((manystrandref07_number.f kj2 x0_1).bind fun bt546 => (if x4_1.length < 17592186044416 then ((manystrandref07_take.f bt546.2 (⟨#[32]⟩ : ByteArray)).bind fun bt551 => (manystrandref07_parts.l0 kj2 bt551.1 (x4_1 ++ [bt546.1]))) else (none))) = some (r1, r2) := by rw [if_pos rfl] at H; exact H
      clear H
      have H := H1
      clear H1
      replace H := Option.bind_eq_some_iff.mp H
      obtain ⟨⟨t546, t547⟩, A100, H⟩ := H
      replace H : (if x4_1.length < 17592186044416 then ((manystrandref07_take.f t547 (⟨#[32]⟩ : ByteArray)).bind fun bt551 => (manystrandref07_parts.l0 kj2 bt551.1 (x4_1 ++ [t546]))) else (none)) = some (r1, r2) := H
      have A10 := Aside0.mk A100
      clear A100
      by_cases c11 : x4_1.length < 17592186044416
      ·rw [if_pos c11] at H
       have LMc11 := Aside0.mk c11
       clear c11
       obtain ⟨y548, hy548⟩ : ∃ y_ : List Int, y_ = (x4_1 ++ [t546]) := ⟨_, rfl⟩
       replace H : ((manystrandref07_take.f t547 (⟨#[32]⟩ : ByteArray)).bind fun bt551 => (manystrandref07_parts.l0 kj2 bt551.1 y548)) = some (r1, r2) := by first | (rw [hy548]; with_reducible exact H) | (have H2_ := (Option.bind_some _ _).symm.trans H; rw [hy548]; with_reducible exact H2_) | (have H2_ := (Option.bind_some _ _).symm.trans H; with_reducible exact H2_) | with_reducible exact H | (rw [hy548]; exact H) | exact H
       have Ny548 := Aside0.mk hy548
       clear hy548
       replace H := Option.bind_eq_some_iff.mp H
       obtain ⟨⟨t551, t552⟩, A120, H⟩ := H
       replace H : (manystrandref07_parts.l0 kj2 t551 y548) = some (r1, r2) := H
       have A12 := Aside0.mk A120
       clear A120
       have H' := Aside0.mk H
       clear H
       go_wp2_with (first | ((with_reducible refine gate_callee (f := 60) rfl ?_); refine goesL_ (some 26) rfl rfl Try.func60 (by kernel_rfl) rfl #[.string x0_1] rfl (by (try simp only [List.map_toArray, List.map_cons, List.map_nil]); first | done | rfl | (simp only [List.length_drop, List.length_take]; rfl)) ?_; (with_reducible refine (manystrandref07_number.calls kj2 x0_1 t546 t547 _ A10.out).mono ?_); rintro e w' ⟨rfl, ⟨nd, rfl⟩⟩; refine ⟨_, rfl, ?_⟩) | ((with_reducible refine gate_builtin (b := .append) (xs := #[.tmp 29, .tmp 31]) rfl ?_); (try (refine gate_guard (by rfl) ?_; dsimp only)); at_builtin; refine Kd.R_append (Kd.int .i64) (w0 := w) w.heap.size rfl (.tmp 29) (.tmp 31) 31 3 (.int .i64 0) 8 rfl Try.underlying31 info3 rfl (by decide) (by omega) u4 x4_1 t546 [.int .i64 t546] (fun _ => True) (fun _ => False) rfl rfl ?aP (fun _ hk => hk.elim) ?aF ?aO ?aB ?aS ?aL ?_; (case aP => exact rfl); (case aB => exact bSt_); (case aF => exact (fun _ _ => trivial)); (case aO => exact (by (with_reducible repeat (first | apply Kd.R_alloc | apply Kd.R_drewN | apply Kd.R_drew)); exact HO_4.out)); (case aS => exact (below_size bSt_)); (case aL => have := LMc11.out; omega); intro v549 w13 ho hb hg hat; rw [← Ny548.out] at ho; have n0_ := Aside0.mk (hb); have n1_ := Aside0.mk (ho); clear HB; clear HO_4; have HB := n0_; have HO550 := n1_; clear n0_ n1_; clear ho hb hg hat) | ((with_reducible refine gate_callee (f := 59) rfl ?_); refine goesL_ (some 35) rfl rfl Try.func59 (by kernel_rfl) rfl #[.string t547, .string (⟨#[32]⟩ : ByteArray)] rfl (by (try simp only [List.map_toArray, List.map_cons, List.map_nil]); first | done | rfl | (simp only [List.length_drop, List.length_take]; rfl)) ?_; (with_reducible refine (manystrandref07_take.calls t547 (⟨#[32]⟩ : ByteArray) t551 t552 _ A12.out).mono ?_); rintro e w' ⟨rfl, ⟨nd, rfl⟩⟩; refine ⟨_, rfl, ?_⟩))
       go_roundg kj2
       case measure => have := HK1.out; have := HJ2.out; omega
       case rel => exact ⟨(t551), (y548), (by first | rfl | (simp; done) | (simp [*]; done)), H', ⟨by have := HK1.out; have := HJ2.out; omega⟩, ⟨by (with_reducible repeat (first | apply Kd.R_alloc | apply Kd.R_drewN | apply Kd.R_drew)); exact HO550.out⟩, ⟨bSt_⟩⟩
      ·rw [if_neg c11] at H
       exact absurd H (by simp)
     ·replace c9 := Bool.eq_false_iff.mpr c9
      subst c9
      have H1 : ((manystrandref07_take.f x0_1 (⟨#[125]⟩ : ByteArray)).bind fun bt553 => (some (x4_1, bt553.1))) = some (r1, r2) := by rw [if_neg (show ¬ (false = true) by decide)] at H; exact H
      clear H
      have H := H1
      clear H1
      replace H := Option.bind_eq_some_iff.mp H
      obtain ⟨⟨t553, t554⟩, A140, H⟩ := H
      replace H : (some (x4_1, t553)) = some (r1, r2) := H
      have A14 := Aside0.mk A140
      clear A140
      simp only [Option.some.injEq, Prod.mk.injEq] at H
      obtain ⟨rfl, rfl⟩ := H
      go_wp2_with (first | ((with_reducible refine gate_callee (f := 59) rfl ?_); refine goesL_ (some 40) rfl rfl Try.func59 (by kernel_rfl) rfl #[.string x0_1, .string (⟨#[125]⟩ : ByteArray)] rfl (by (try simp only [List.map_toArray, List.map_cons, List.map_nil]); first | done | rfl | (simp only [List.length_drop, List.length_take]; rfl)) ?_; (with_reducible refine (manystrandref07_take.calls x0_1 (⟨#[125]⟩ : ByteArray) t553 t554 _ A14.out).mono ?_); rintro e w' ⟨rfl, ⟨nd, rfl⟩⟩; refine ⟨_, rfl, ?_⟩))
      go_ret2
      exact ⟨_, by first | rfl | (simp [errW_none, errW_some] <;> rfl) | (simp [*, errW_none, errW_some] <;> rfl) | (simp [errW_none, errW_some]; exact Go.Proofs.YtgfbgfbnmiainaaW.OwnWords.isEmpty_bne _), by (with_reducible repeat (first | apply Kd.R_alloc | apply Kd.R_drewN | apply Kd.R_drew)); exact HO_4.out, bSt_⟩

end Go.Proofs.Ytgfbgfbnmiainaa.Q
end
section
namespace Go.Proofs.Ytgfbgfbnmiainaa.Q
open Go.RowKit Go.Proofs.YtgfbgfbnmiainaaW.PrintWords Go.Proofs.YtgfbgfbnmiainaaW.PrintLast Go.Proofs.YtgfbgfbnmiainaaW.PrintMore Go.Proofs.YtgfbgfbnmiainaaW.OwnWords
attribute [local go_sem] Go.Proofs.YtgfbgfbnmiainaaW.OwnWords.isSome_setCell max2_int min2_int max_two min_two max_three min_three max_four min_four
set_option linter.unusedVariables false
set_option linter.unusedSimpArgs false

/-! ### manystrandref07_Normal: function 17 -/
def manystrandref07_Normal.f (k : Nat) (l0_0 : List Int) (l0_1 : List Int) (a0_2 : Int) (a0_3 : Int) : Option (List Int × List Int × Int × Int × Int) := (manystrandref07_Valid.f k l0_0 l0_1 a0_2 a0_3).bind fun t291 => (if t291 = true then ((manystrandref07_in.f k l0_0 l0_1 a0_2 a0_3).bind fun bt292 => ((manystrandref07_normal.f k bt292.1 bt292.2.1 bt292.2.2.1 bt292.2.2.2.1 bt292.2.2.2.2).bind fun bt297 => (if bt297.2.2.2.2 = true then (some (([] : List Int), ([] : List Int), 0, 0, 60)) else ((manystrandref07_out.f k bt297.1 bt297.2.1 bt297.2.2.1 bt297.2.2.2.1 bt297.2.2.2.2).bind fun bt303 => (some (bt303.1, bt303.2.1, bt303.2.2.1, bt303.2.2.2, 0)))))) else (some (([] : List Int), ([] : List Int), 0, 0, 2)))
theorem manystrandref07_Normal.mono : ∀ a0 a1 a2 a3 k, LeO (manystrandref07_Normal.f k a0 a1 a2 a3) (manystrandref07_Normal.f (k + 1) a0 a1 a2 a3) := by
 intro a0 a1 a2 a3 k
 unfold manystrandref07_Normal.f
 repeat' first
   | (with_reducible exact manystrandref07_Valid.mono _ _ _ _ _)
   | (with_reducible exact manystrandref07_in.mono _ _ _ _ _)
   | (with_reducible exact manystrandref07_normal.mono _ _ _ _ _ _)
   | (with_reducible exact manystrandref07_out.mono _ _ _ _ _ _)
   | (with_reducible exact LeO.refl _)
   | (with_reducible exact LeO.none _)
   | (with_reducible refine LeO.ite ?_ ?_)
   | (with_reducible refine LeO.bind ?_ (fun _ => ?_))
   | exact manystrandref07_Valid.mono _ _ _ _ _
   | exact manystrandref07_in.mono _ _ _ _ _
   | exact manystrandref07_normal.mono _ _ _ _ _ _
   | exact manystrandref07_out.mono _ _ _ _ _ _
   | exact LeO.none _
   | refine LeO.ite ?_ ?_
   | refine LeO.bind ?_ (fun _ => ?_)
set_option maxHeartbeats 8000000 in
set_option maxRecDepth 100000 in
theorem manystrandref07_Normal.calls (k : Nat) (A0_0 : Option Addr) (c0_0 : Nat) (l0_0 : List Int) (A0_1 : Option Addr) (c0_1 : Nat) (l0_1 : List Int) (a0_2 : Int) (a0_3 : Int) (r1 : List Int) (r2 : List Int) (r3 : Int) (r4 : Int) (r5 : Int) (w : World) (hr0_0 : Kd.C (Kd.int .i64) w A0_0 l0_0.length l0_0) (hc0_0 : l0_0.length ≤ c0_0) (hr0_1 : Kd.C (Kd.int .i64) w A0_1 l0_1.length l0_1) (hc0_1 : l0_1.length ≤ c0_1) (h : manystrandref07_Normal.f k l0_0 l0_1 a0_2 a0_3 = some (r1, r2, r3, r4, r5)) :
  Calls Try.prog 17 #[.agg #[.slice A0_0 l0_0.length c0_0, .slice A0_1 l0_1.length c0_1, .int .i64 a0_2, .int .i64 a0_3]] w fun e w' => ∃ v0_ v1_ : Value, e = .returned (.tuple #[.agg #[v0_, v1_, .int .i64 r3, .int .i64 r4], .int .i64 r5]) ∧ Kd.R (Kd.int .i64) 3 w' w.heap.size (fun k_ => some k_ ≠ (v1_ : Value).ownBlock) v0_ r1 ∧ Kd.R (Kd.int .i64) 3 w' w.heap.size (fun k_ => some k_ ≠ (v0_ : Value).ownBlock) v1_ r2 ∧ Below w.heap.size w w' := by
 have hu37 := Try.underlying37
 have hu68 := Try.underlying68
 have HR0_0 := Aside0.mk hr0_0
 have HC0_0 := Aside0.mk hc0_0
 clear hr0_0 hc0_0
 have HR0_1 := Aside0.mk hr0_1
 have HC0_1 := Aside0.mk hc0_1
 clear hr0_1 hc0_1
 have HB := Aside0.mk (Below.refl w.heap.size w)
 have H : ((manystrandref07_Valid.f k l0_0 l0_1 a0_2 a0_3).bind fun t291 => (if t291 = true then ((manystrandref07_in.f k l0_0 l0_1 a0_2 a0_3).bind fun bt292 => ((manystrandref07_normal.f k bt292.1 bt292.2.1 bt292.2.2.1 bt292.2.2.2.1 bt292.2.2.2.2).bind fun bt297 => (if bt297.2.2.2.2 = true then (some (([] : List Int), ([] : List Int), 0, 0, 60)) else ((manystrandref07_out.f k bt297.1 bt297.2.1 bt297.2.2.1 bt297.2.2.2.1 bt297.2.2.2.2).bind fun bt303 => (some (bt303.1, bt303.2.1, bt303.2.2.1, bt303.2.2.2, 0)))))) else (some (([] : List Int), ([] : List Int), 0, 0, 2)))) = some (r1, r2, r3, r4, r5) := h
 clear h
 replace H := Option.bind_eq_some_iff.mp H
 obtain ⟨t291, A20, H⟩ := H
 replace H : (if t291 = true then ((manystrandref07_in.f k l0_0 l0_1 a0_2 a0_3).bind fun bt292 => ((manystrandref07_normal.f k bt292.1 bt292.2.1 bt292.2.2.1 bt292.2.2.2.1 bt292.2.2.2.2).bind fun bt297 => (if bt297.2.2.2.2 = true then (some (([] : List Int), ([] : List Int), 0, 0, 60)) else ((manystrandref07_out.f k bt297.1 bt297.2.1 bt297.2.2.1 bt297.2.2.2.1 bt297.2.2.2.2).bind fun bt303 => (some (bt303.1, bt303.2.1, bt303.2.2.1, bt303.2.2.2, 0)))))) else (some (([] : List Int), ([] : List Int), 0, 0, 2))) = some (r1, r2, r3, r4, r5) := H
 have A2 := Aside0.mk A20
 clear A20
 by_cases c3 : t291 = true
 ·subst c3
  have H1 : ((manystrandref07_in.f k l0_0 l0_1 a0_2 a0_3).bind fun bt292 => ((manystrandref07_normal.f k bt292.1 bt292.2.1 bt292.2.2.1 bt292.2.2.2.1 bt292.2.2.2.2).bind fun bt297 => (if bt297.2.2.2.2 = true then (some (([] : List Int), ([] : List Int), 0, 0, 60)) else ((manystrandref07_out.f k bt297.1 bt297.2.1 bt297.2.2.1 bt297.2.2.2.1 bt297.2.2.2.2).bind fun bt303 => (some (bt303.1, bt303.2.1, bt303.2.2.1, bt303.2.2.2, 0)))))) = some (r1, r2, r3, r4, r5) := by rw [if_pos rfl] at H; exact H
  clear H
  have H := H1
  clear H1
  replace H := Option.bind_eq_some_iff.mp H
  obtain ⟨⟨t292, t293, t294, t295, t296⟩, A40, H⟩ := H
  replace H : ((manystrandref07_normal.f k t292 t293 t294 t295 t296).bind fun bt297 => (if bt297.2.2.2.2 = true then (some (([] : List Int), ([] : List Int), 0, 0, 60)) else ((manystrandref07_out.f k bt297.1 bt297.2.1 bt297.2.2.1 bt297.2.2.2.1 bt297.2.2.2.2).bind fun bt303 => (some (bt303.1, bt303.2.1, bt303.2.2.1, bt303.2.2.2, 0))))) = some (r1, r2, r3, r4, r5) := H
  have A4 := Aside0.mk A40
  clear A40
  replace H := Option.bind_eq_some_iff.mp H
  obtain ⟨⟨t297, t298, t299, t300, t301⟩, A50, H⟩ := H
  replace H : (if t301 = true then (some (([] : List Int), ([] : List Int), 0, 0, 60)) else ((manystrandref07_out.f k t297 t298 t299 t300 t301).bind fun bt303 => (some (bt303.1, bt303.2.1, bt303.2.2.1, bt303.2.2.2, 0)))) = some (r1, r2, r3, r4, r5) := H
  have A5 := Aside0.mk A50
  clear A50
  by_cases c6 : t301 = true
  ·subst c6
   have H1 : (some (([] : List Int), ([] : List Int), 0, 0, 60)) = some (r1, r2, r3, r4, r5) := by rw [if_pos rfl] at H; exact H
   clear H
   have H := H1
   clear H1
   simp only [Option.some.injEq, Prod.mk.injEq] at H
   obtain ⟨rfl, rfl, rfl, rfl, rfl⟩ := H
   go_enter Try.func17, Try.ntmps17
   go_wp2_with (first | ((with_reducible refine gate_dst (N := 1) rfl ?_); refine box_event ?hg (N := 1) ?hd (cs := #[.slice A0_0 l0_0.length c0_0, .slice A0_1 l0_1.length c0_1, .int .i64 a0_2, .int .i64 a0_3]) (t := 37) ?hr ?_; (case hd => rfl); (case hg => rfl); (case hr => first | (go_simp; done) | (go_simp; rfl)); intro gb289 hg w7 hbox hb; have n0_ := Aside0.mk (below_step bSt_ hb); have n1_ := Aside0.mk (hbox); have n2_ := Aside0.mk ((by rw [hg]; exact (below_size bSt_) : w.heap.size ≤ gb289)); have n3_ := Aside0.mk ((by rw [hg]; exact (below_size bSt_) : w.heap.size ≤ gb289)); clear HB; have HB := n0_; have BK289 := n1_; have GW289 := n2_; have GE289 := n3_; clear n0_ n1_ n2_ n3_; clear hb hbox hg) | ((with_reducible refine gate_dst (N := 2) rfl ?_); refine box_event ?hg (N := 2) ?hd (cs := #[.slice none 0 0, .slice none 0 0, .int .i64 0, .int .i64 0]) (t := 37) ?hr ?_; (case hd => rfl); (case hg => rfl); (case hr => first | (go_simp; done) | (go_simp; rfl)); intro gb290 hg w8 hbox hb; have n0_ := Aside0.mk (blk_below (bKq_ BK289.out) hb); have n1_ := Aside0.mk (below_step bSt_ hb); have n2_ := Aside0.mk (hbox); have n3_ := Aside0.mk ((by rw [hg]; exact (below_size bSt_) : w.heap.size ≤ gb290)); have n4_ := Aside0.mk ((by rw [hg]; exact (below_size bSt_) : w.heap.size ≤ gb290)); have n5_ := Aside0.mk ((by rw [hg]; exact Nat.ne_of_lt (blk_lt (bKq_ BK289.out)) : gb289 ≠ gb290)); have n6_ := Aside0.mk ((by rw [hg]; exact Nat.ne_of_gt (blk_lt (bKq_ BK289.out)) : gb290 ≠ gb289)); clear BK289; clear HB; have BK289 := n0_; have HB := n1_; have BK290 := n2_; have GW290 := n3_; have GE290 := n4_; have NB289_290 := n5_; have NB290_289 := n6_; clear n0_ n1_ n2_ n3_ n4_ n5_ n6_; clear hb hbox hg; have hnb9 := NB289_290.out; have hnc9 := NB290_289.out; have hcz10_0 : w8.cell? ⟨gb289, 0, none⟩ = some (.slice A0_0 l0_0.length c0_0) := (blk_cell BK289.out 0).trans rfl; have hcz10_1 : w8.cell? ⟨gb289, 1, none⟩ = some (.slice A0_1 l0_1.length c0_1) := (blk_cell BK289.out 1).trans rfl; have hcz10_2 : w8.cell? ⟨gb289, 2, none⟩ = some (.int .i64 a0_2) := (blk_cell BK289.out 2).trans rfl; have hcz10_3 : w8.cell? ⟨gb289, 3, none⟩ = some (.int .i64 a0_3) := (blk_cell BK289.out 3).trans rfl; have hfz10_0 := blk_frozen BK289.out 0; have hfz10_1 := blk_frozen BK289.out 1; have hfz10_2 := blk_frozen BK289.out 2; have hfz10_3 := blk_frozen BK289.out 3) | ((with_reducible refine gate_callee (f := 23) rfl ?_); refine goesL_ (some 6) rfl rfl Try.func23 (by kernel_rfl) rfl #[.agg #[.slice A0_0 l0_0.length c0_0, .slice A0_1 l0_1.length c0_1, .int .i64 a0_2, .int .i64 a0_3]] rfl (by (try simp only [List.map_toArray, List.map_cons, List.map_nil]); first | done | rfl | (simp only [List.length_drop, List.length_take]; rfl)) ?_; (with_reducible refine (manystrandref07_Valid.calls k _ _ l0_0 _ _ l0_1 a0_2 a0_3 true _ ?side1 ?side2 ?side3 ?side4 A2.out).mono ?_); (case side1 => repeat (first | exact (Kd.C_below HR0_0.out HB.out) | (with_reducible refine Kd.C_alloc ?_ _) | (with_reducible refine Kd.C_drewN ?_ _) | (with_reducible refine Kd.C_drew ?_))); (case side2 => exact HC0_0.out); (case side3 => repeat (first | exact (Kd.C_below HR0_1.out HB.out) | (with_reducible refine Kd.C_alloc ?_ _) | (with_reducible refine Kd.C_drewN ?_ _) | (with_reducible refine Kd.C_drew ?_))); (case side4 => exact HC0_1.out); rintro e w11 ⟨rfl, hb⟩; refine ⟨_, rfl, ?_⟩; have n0_ := Aside0.mk (blk_below (bKq_ BK289.out) hb); have n1_ := Aside0.mk (blk_below (bKq_ BK290.out) hb); have n2_ := Aside0.mk (below_step bSt_ hb); clear BK289; clear BK290; clear HB; have BK289 := n0_; have BK290 := n1_; have HB := n2_; clear n0_ n1_ n2_; (try clear hb); (try clear hb2); (try clear hk); (try clear hi); have hcz12_0 : w11.cell? ⟨gb289, 0, none⟩ = some (.slice A0_0 l0_0.length c0_0) := (blk_cell BK289.out 0).trans rfl; have hcz12_1 : w11.cell? ⟨gb289, 1, none⟩ = some (.slice A0_1 l0_1.length c0_1) := (blk_cell BK289.out 1).trans rfl; have hcz12_2 : w11.cell? ⟨gb289, 2, none⟩ = some (.int .i64 a0_2) := (blk_cell BK289.out 2).trans rfl; have hcz12_3 : w11.cell? ⟨gb289, 3, none⟩ = some (.int .i64 a0_3) := (blk_cell BK289.out 3).trans rfl; have hfz12_0 := blk_frozen BK289.out 0; have hfz12_1 := blk_frozen BK289.out 1; have hfz12_2 := blk_frozen BK289.out 2; have hfz12_3 := blk_frozen BK289.out 3) | ((with_reducible refine gate_callee (f := 41) rfl ?_); refine goesL_ (some 10) rfl rfl Try.func41 (by kernel_rfl) rfl #[.agg #[.slice A0_0 l0_0.length c0_0, .slice A0_1 l0_1.length c0_1, .int .i64 a0_2, .int .i64 a0_3]] rfl (by (try simp only [List.map_toArray, List.map_cons, List.map_nil]); first | done | rfl | (simp only [List.length_drop, List.length_take]; rfl)) ?_; (with_reducible refine (manystrandref07_in.calls k _ _ l0_0 _ _ l0_1 a0_2 a0_3 t292 t293 t294 t295 t296 _ ?side1 ?side2 ?side3 ?side4 A4.out).mono ?_); (case side1 => repeat (first | exact (Kd.C_below HR0_0.out HB.out) | (with_reducible refine Kd.C_alloc ?_ _) | (with_reducible refine Kd.C_drewN ?_ _) | (with_reducible refine Kd.C_drew ?_))); (case side2 => exact HC0_0.out); (case side3 => repeat (first | exact (Kd.C_below HR0_1.out HB.out) | (with_reducible refine Kd.C_alloc ?_ _) | (with_reducible refine Kd.C_drewN ?_ _) | (with_reducible refine Kd.C_drew ?_))); (case side4 => exact HC0_1.out); rintro e w13 ⟨rfl, hb⟩; refine ⟨_, rfl, ?_⟩; have n0_ := Aside0.mk (blk_below (bKq_ BK289.out) hb); have n1_ := Aside0.mk (blk_below (bKq_ BK290.out) hb); have n2_ := Aside0.mk (below_step bSt_ hb); clear BK289; clear BK290; clear HB; have BK289 := n0_; have BK290 := n1_; have HB := n2_; clear n0_ n1_ n2_; (try clear hb); (try clear hb2); (try clear hk); (try clear hi)) | ((with_reducible refine gate_callee (f := 40) rfl ?_); refine goesL_ (some 11) rfl rfl Try.func40 (by kernel_rfl) rfl #[.agg #[.int .u64 t292, .int .u64 t293, .int .i64 t294, .int .i64 t295, .bool t296]] rfl (by (try simp only [List.map_toArray, List.map_cons, List.map_nil]); first | done | rfl | (simp only [List.length_drop, List.length_take]; rfl)) ?_; (with_reducible refine (manystrandref07_normal.calls k t292 t293 t294 t295 t296 t297 t298 t299 t300 true _ A5.out).mono ?_); rintro e w14 ⟨rfl, hb⟩; refine ⟨_, rfl, ?_⟩; have n0_ := Aside0.mk (blk_below (bKq_ BK289.out) hb); have n1_ := Aside0.mk (blk_below (bKq_ BK290.out) hb); have n2_ := Aside0.mk (below_step bSt_ hb); clear BK289; clear BK290; clear HB; have BK289 := n0_; have BK290 := n1_; have HB := n2_; clear n0_ n1_ n2_; (try clear hb); (try clear hb2); (try clear hk); (try clear hi)) | ((with_reducible refine gate_dst (N := 4) rfl ?_); refine box_event ?hg (N := 4) ?hd (cs := #[.int .u64 0, .int .u64 0, .int .i64 0, .int .i64 0, .bool false]) (t := 68) ?hr ?_; (case hd => rfl); (case hg => rfl); (case hr => first | (go_simp; done) | (go_simp; rfl)); intro gb302 hg w15 hbox hb; have n0_ := Aside0.mk (blk_below (bKq_ BK289.out) hb); have n1_ := Aside0.mk (blk_below (bKq_ BK290.out) hb); have n2_ := Aside0.mk (below_step bSt_ hb); have n3_ := Aside0.mk (hbox); have n4_ := Aside0.mk ((by rw [hg]; exact (below_size bSt_) : w.heap.size ≤ gb302)); have n5_ := Aside0.mk ((by rw [hg]; exact (below_size bSt_) : w.heap.size ≤ gb302)); have n6_ := Aside0.mk ((by rw [hg]; exact Nat.ne_of_lt (blk_lt (bKq_ BK289.out)) : gb289 ≠ gb302)); have n7_ := Aside0.mk ((by rw [hg]; exact Nat.ne_of_gt (blk_lt (bKq_ BK289.out)) : gb302 ≠ gb289)); have n8_ := Aside0.mk ((by rw [hg]; exact Nat.ne_of_lt (blk_lt (bKq_ BK290.out)) : gb290 ≠ gb302)); have n9_ := Aside0.mk ((by rw [hg]; exact Nat.ne_of_gt (blk_lt (bKq_ BK290.out)) : gb302 ≠ gb290)); clear BK289; clear BK290; clear HB; have BK289 := n0_; have BK290 := n1_; have HB := n2_; have BK302 := n3_; have GW302 := n4_; have GE302 := n5_; have NB289_302 := n6_; have NB302_289 := n7_; have NB290_302 := n8_; have NB302_290 := n9_; clear n0_ n1_ n2_ n3_ n4_ n5_ n6_ n7_ n8_ n9_; clear hb hbox hg; have hnb16 := NB302_289.out; have hnc16 := NB289_302.out; have hnb17 := NB302_290.out; have hnc17 := NB290_302.out; have hcz18_0 : w15.cell? ⟨gb302, 0, none⟩ = some (.int .u64 0) := (blk_cell BK302.out 0).trans rfl; have hcz18_1 : w15.cell? ⟨gb302, 1, none⟩ = some (.int .u64 0) := (blk_cell BK302.out 1).trans rfl; have hcz18_2 : w15.cell? ⟨gb302, 2, none⟩ = some (.int .i64 0) := (blk_cell BK302.out 2).trans rfl; have hcz18_3 : w15.cell? ⟨gb302, 3, none⟩ = some (.int .i64 0) := (blk_cell BK302.out 3).trans rfl; have hcz18_4 : w15.cell? ⟨gb302, 4, none⟩ = some (.bool false) := (blk_cell BK302.out 4).trans rfl; have hfz18_0 := blk_frozen BK302.out 0; have hfz18_1 := blk_frozen BK302.out 1; have hfz18_2 := blk_frozen BK302.out 2; have hfz18_3 := blk_frozen BK302.out 3; have hfz18_4 := blk_frozen BK302.out 4; have hcz19_0 : w15.cell? ⟨gb290, 0, none⟩ = some (.slice none 0 0) := (blk_cell BK290.out 0).trans rfl; have hcz19_1 : w15.cell? ⟨gb290, 1, none⟩ = some (.slice none 0 0) := (blk_cell BK290.out 1).trans rfl; have hcz19_2 : w15.cell? ⟨gb290, 2, none⟩ = some (.int .i64 0) := (blk_cell BK290.out 2).trans rfl; have hcz19_3 : w15.cell? ⟨gb290, 3, none⟩ = some (.int .i64 0) := (blk_cell BK290.out 3).trans rfl; have hfz19_0 := blk_frozen BK290.out 0; have hfz19_1 := blk_frozen BK290.out 1; have hfz19_2 := blk_frozen BK290.out 2; have hfz19_3 := blk_frozen BK290.out 3))
   refine bodyPost_ret (results_ct rfl _ _ gb290 37 #[.slice none 0 0, .slice none 0 0, .int .i64 0, .int .i64 0] (0, 0) _ rfl (bKq_ BK290.out) Try.underlying37 rfl (by kernel_rfl)) rfl ?_
   exact ⟨_, _, by first | rfl | (simp [errW_none, errW_some] <;> rfl) | (simp [*, errW_none, errW_some] <;> rfl) | (simp [errW_none, errW_some]; exact Go.Proofs.YtgfbgfbnmiainaaW.OwnWords.isEmpty_bne _), by first | exact Kd.R_nil _ _ _ _ _ | exact Kd.N_nil _ _ _ _ _ | exact Kd.V_nil _ _ _ _ _ | exact Kd.Q_nil _ _ _ _ _ | exact Kd.S_nil _ _ _ _ _, by first | exact Kd.R_nil _ _ _ _ _ | exact Kd.N_nil _ _ _ _ _ | exact Kd.V_nil _ _ _ _ _ | exact Kd.Q_nil _ _ _ _ _ | exact Kd.S_nil _ _ _ _ _, bSt_⟩
  ·replace c6 := Bool.eq_false_iff.mpr c6
   subst c6
   have H1 : ((manystrandref07_out.f k t297 t298 t299 t300 false).bind fun bt303 => (some (bt303.1, bt303.2.1, bt303.2.2.1, bt303.2.2.2, 0))) = some (r1, r2, r3, r4, r5) := by rw [if_neg (show ¬ (false = true) by decide)] at H; exact H
   clear H
   have H := H1
   clear H1
   replace H := Option.bind_eq_some_iff.mp H
   obtain ⟨⟨t303, t306, t309, t310⟩, A200, H⟩ := H
   replace H : (some (t303, t306, t309, t310, 0)) = some (r1, r2, r3, r4, r5) := H
   have A20 := Aside0.mk A200
   clear A200
   simp only [Option.some.injEq, Prod.mk.injEq] at H
   obtain ⟨rfl, rfl, rfl, rfl, rfl⟩ := H
   go_enter Try.func17, Try.ntmps17
   go_wp2_with (first | ((with_reducible refine gate_dst (N := 1) rfl ?_); refine box_event ?hg (N := 1) ?hd (cs := #[.slice A0_0 l0_0.length c0_0, .slice A0_1 l0_1.length c0_1, .int .i64 a0_2, .int .i64 a0_3]) (t := 37) ?hr ?_; (case hd => rfl); (case hg => rfl); (case hr => first | (go_simp; done) | (go_simp; rfl)); intro gb289 hg w21 hbox hb; have n0_ := Aside0.mk (below_step bSt_ hb); have n1_ := Aside0.mk (hbox); have n2_ := Aside0.mk ((by rw [hg]; exact (below_size bSt_) : w.heap.size ≤ gb289)); have n3_ := Aside0.mk ((by rw [hg]; exact (below_size bSt_) : w.heap.size ≤ gb289)); clear HB; have HB := n0_; have BK289 := n1_; have GW289 := n2_; have GE289 := n3_; clear n0_ n1_ n2_ n3_; clear hb hbox hg) | ((with_reducible refine gate_dst (N := 2) rfl ?_); refine box_event ?hg (N := 2) ?hd (cs := #[.slice none 0 0, .slice none 0 0, .int .i64 0, .int .i64 0]) (t := 37) ?hr ?_; (case hd => rfl); (case hg => rfl); (case hr => first | (go_simp; done) | (go_simp; rfl)); intro gb290 hg w22 hbox hb; have n0_ := Aside0.mk (blk_below (bKq_ BK289.out) hb); have n1_ := Aside0.mk (below_step bSt_ hb); have n2_ := Aside0.mk (hbox); have n3_ := Aside0.mk ((by rw [hg]; exact (below_size bSt_) : w.heap.size ≤ gb290)); have n4_ := Aside0.mk ((by rw [hg]; exact (below_size bSt_) : w.heap.size ≤ gb290)); have n5_ := Aside0.mk ((by rw [hg]; exact Nat.ne_of_lt (blk_lt (bKq_ BK289.out)) : gb289 ≠ gb290)); have n6_ := Aside0.mk ((by rw [hg]; exact Nat.ne_of_gt (blk_lt (bKq_ BK289.out)) : gb290 ≠ gb289)); clear BK289; clear HB; have BK289 := n0_; have HB := n1_; have BK290 := n2_; have GW290 := n3_; have GE290 := n4_; have NB289_290 := n5_; have NB290_289 := n6_; clear n0_ n1_ n2_ n3_ n4_ n5_ n6_; clear hb hbox hg; have hnb23 := NB289_290.out; have hnc23 := NB290_289.out; have hcz24_0 : w22.cell? ⟨gb289, 0, none⟩ = some (.slice A0_0 l0_0.length c0_0) := (blk_cell BK289.out 0).trans rfl; have hcz24_1 : w22.cell? ⟨gb289, 1, none⟩ = some (.slice A0_1 l0_1.length c0_1) := (blk_cell BK289.out 1).trans rfl; have hcz24_2 : w22.cell? ⟨gb289, 2, none⟩ = some (.int .i64 a0_2) := (blk_cell BK289.out 2).trans rfl; have hcz24_3 : w22.cell? ⟨gb289, 3, none⟩ = some (.int .i64 a0_3) := (blk_cell BK289.out 3).trans rfl; have hfz24_0 := blk_frozen BK289.out 0; have hfz24_1 := blk_frozen BK289.out 1; have hfz24_2 := blk_frozen BK289.out 2; have hfz24_3 := blk_frozen BK289.out 3) | ((with_reducible refine gate_callee (f := 23) rfl ?_); refine goesL_ (some 6) rfl rfl Try.func23 (by kernel_rfl) rfl #[.agg #[.slice A0_0 l0_0.length c0_0, .slice A0_1 l0_1.length c0_1, .int .i64 a0_2, .int .i64 a0_3]] rfl (by (try simp only [List.map_toArray, List.map_cons, List.map_nil]); first | done | rfl | (simp only [List.length_drop, List.length_take]; rfl)) ?_; (with_reducible refine (manystrandref07_Valid.calls k _ _ l0_0 _ _ l0_1 a0_2 a0_3 true _ ?side1 ?side2 ?side3 ?side4 A2.out).mono ?_); (case side1 => repeat (first | exact (Kd.C_below HR0_0.out HB.out) | (with_reducible refine Kd.C_alloc ?_ _) | (with_reducible refine Kd.C_drewN ?_ _) | (with_reducible refine Kd.C_drew ?_))); (case side2 => exact HC0_0.out); (case side3 => repeat (first | exact (Kd.C_below HR0_1.out HB.out) | (with_reducible refine Kd.C_alloc ?_ _) | (with_reducible refine Kd.C_drewN ?_ _) | (with_reducible refine Kd.C_drew ?_))); (case side4 => exact HC0_1.out); rintro e w25 ⟨rfl, hb⟩; refine ⟨_, rfl, ?_⟩; have n0_ := Aside0.mk (blk_below (bKq_ BK289.out) hb); have n1_ := Aside0.mk (blk_below (bKq_ BK290.out) hb); have n2_ := Aside0.mk (below_step bSt_ hb); clear BK289; clear BK290; clear HB; have BK289 := n0_; have BK290 := n1_; have HB := n2_; clear n0_ n1_ n2_; (try clear hb); (try clear hb2); (try clear hk); (try clear hi); have hcz26_0 : w25.cell? ⟨gb289, 0, none⟩ = some (.slice A0_0 l0_0.length c0_0) := (blk_cell BK289.out 0).trans rfl; have hcz26_1 : w25.cell? ⟨gb289, 1, none⟩ = some (.slice A0_1 l0_1.length c0_1) := (blk_cell BK289.out 1).trans rfl; have hcz26_2 : w25.cell? ⟨gb289, 2, none⟩ = some (.int .i64 a0_2) := (blk_cell BK289.out 2).trans rfl; have hcz26_3 : w25.cell? ⟨gb289, 3, none⟩ = some (.int .i64 a0_3) := (blk_cell BK289.out 3).trans rfl; have hfz26_0 := blk_frozen BK289.out 0; have hfz26_1 := blk_frozen BK289.out 1; have hfz26_2 := blk_frozen BK289.out 2; have hfz26_3 := blk_frozen BK289.out 3) | ((with_reducible refine gate_callee (f := 41) rfl ?_); refine goesL_ (some 10) rfl rfl Try.func41 (by kernel_rfl) rfl #[.agg #[.slice A0_0 l0_0.length c0_0, .slice A0_1 l0_1.length c0_1, .int .i64 a0_2, .int .i64 a0_3]] rfl (by (try simp only [List.map_toArray, List.map_cons, List.map_nil]); first | done | rfl | (simp only [List.length_drop, List.length_take]; rfl)) ?_; (with_reducible refine (manystrandref07_in.calls k _ _ l0_0 _ _ l0_1 a0_2 a0_3 t292 t293 t294 t295 t296 _ ?side1 ?side2 ?side3 ?side4 A4.out).mono ?_); (case side1 => repeat (first | exact (Kd.C_below HR0_0.out HB.out) | (with_reducible refine Kd.C_alloc ?_ _) | (with_reducible refine Kd.C_drewN ?_ _) | (with_reducible refine Kd.C_drew ?_))); (case side2 => exact HC0_0.out); (case side3 => repeat (first | exact (Kd.C_below HR0_1.out HB.out) | (with_reducible refine Kd.C_alloc ?_ _) | (with_reducible refine Kd.C_drewN ?_ _) | (with_reducible refine Kd.C_drew ?_))); (case side4 => exact HC0_1.out); rintro e w27 ⟨rfl, hb⟩; refine ⟨_, rfl, ?_⟩; have n0_ := Aside0.mk (blk_below (bKq_ BK289.out) hb); have n1_ := Aside0.mk (blk_below (bKq_ BK290.out) hb); have n2_ := Aside0.mk (below_step bSt_ hb); clear BK289; clear BK290; clear HB; have BK289 := n0_; have BK290 := n1_; have HB := n2_; clear n0_ n1_ n2_; (try clear hb); (try clear hb2); (try clear hk); (try clear hi)) | ((with_reducible refine gate_callee (f := 40) rfl ?_); refine goesL_ (some 11) rfl rfl Try.func40 (by kernel_rfl) rfl #[.agg #[.int .u64 t292, .int .u64 t293, .int .i64 t294, .int .i64 t295, .bool t296]] rfl (by (try simp only [List.map_toArray, List.map_cons, List.map_nil]); first | done | rfl | (simp only [List.length_drop, List.length_take]; rfl)) ?_; (with_reducible refine (manystrandref07_normal.calls k t292 t293 t294 t295 t296 t297 t298 t299 t300 false _ A5.out).mono ?_); rintro e w28 ⟨rfl, hb⟩; refine ⟨_, rfl, ?_⟩; have n0_ := Aside0.mk (blk_below (bKq_ BK289.out) hb); have n1_ := Aside0.mk (blk_below (bKq_ BK290.out) hb); have n2_ := Aside0.mk (below_step bSt_ hb); clear BK289; clear BK290; clear HB; have BK289 := n0_; have BK290 := n1_; have HB := n2_; clear n0_ n1_ n2_; (try clear hb); (try clear hb2); (try clear hk); (try clear hi)) | ((with_reducible refine gate_dst (N := 4) rfl ?_); refine box_event ?hg (N := 4) ?hd (cs := #[.int .u64 0, .int .u64 0, .int .i64 0, .int .i64 0, .bool false]) (t := 68) ?hr ?_; (case hd => rfl); (case hg => rfl); (case hr => first | (go_simp; done) | (go_simp; rfl)); intro gb302 hg w29 hbox hb; have n0_ := Aside0.mk (blk_below (bKq_ BK289.out) hb); have n1_ := Aside0.mk (blk_below (bKq_ BK290.out) hb); have n2_ := Aside0.mk (below_step bSt_ hb); have n3_ := Aside0.mk (hbox); have n4_ := Aside0.mk ((by rw [hg]; exact (below_size bSt_) : w.heap.size ≤ gb302)); have n5_ := Aside0.mk ((by rw [hg]; exact (below_size bSt_) : w.heap.size ≤ gb302)); have n6_ := Aside0.mk ((by rw [hg]; exact Nat.ne_of_lt (blk_lt (bKq_ BK289.out)) : gb289 ≠ gb302)); have n7_ := Aside0.mk ((by rw [hg]; exact Nat.ne_of_gt (blk_lt (bKq_ BK289.out)) : gb302 ≠ gb289)); have n8_ := Aside0.mk ((by rw [hg]; exact Nat.ne_of_lt (blk_lt (bKq_ BK290.out)) : gb290 ≠ gb302)); have n9_ := Aside0.mk ((by rw [hg]; exact Nat.ne_of_gt (blk_lt (bKq_ BK290.out)) : gb302 ≠ gb290)); clear BK289; clear BK290; clear HB; have BK289 := n0_; have BK290 := n1_; have HB := n2_; have BK302 := n3_; have GW302 := n4_; have GE302 := n5_; have NB289_302 := n6_; have NB302_289 := n7_; have NB290_302 := n8_; have NB302_290 := n9_; clear n0_ n1_ n2_ n3_ n4_ n5_ n6_ n7_ n8_ n9_; clear hb hbox hg; have hnb30 := NB302_289.out; have hnc30 := NB289_302.out; have hnb31 := NB302_290.out; have hnc31 := NB290_302.out; have hcz32_0 : w29.cell? ⟨gb302, 0, none⟩ = some (.int .u64 0) := (blk_cell BK302.out 0).trans rfl; have hcz32_1 : w29.cell? ⟨gb302, 1, none⟩ = some (.int .u64 0) := (blk_cell BK302.out 1).trans rfl; have hcz32_2 : w29.cell? ⟨gb302, 2, none⟩ = some (.int .i64 0) := (blk_cell BK302.out 2).trans rfl; have hcz32_3 : w29.cell? ⟨gb302, 3, none⟩ = some (.int .i64 0) := (blk_cell BK302.out 3).trans rfl; have hcz32_4 : w29.cell? ⟨gb302, 4, none⟩ = some (.bool false) := (blk_cell BK302.out 4).trans rfl; have hfz32_0 := blk_frozen BK302.out 0; have hfz32_1 := blk_frozen BK302.out 1; have hfz32_2 := blk_frozen BK302.out 2; have hfz32_3 := blk_frozen BK302.out 3; have hfz32_4 := blk_frozen BK302.out 4) | ((with_reducible refine gate_callee (f := 43) rfl ?_); refine goesL_ (some 16) rfl rfl Try.func43 (by kernel_rfl) rfl #[.agg #[.int .u64 t297, .int .u64 t298, .int .i64 t299, .int .i64 t300, .bool false]] rfl (by (try simp only [List.map_toArray, List.map_cons, List.map_nil]); first | done | rfl | (simp only [List.length_drop, List.length_take]; rfl)) ?_; (with_reducible refine (manystrandref07_out.calls k t297 t298 t299 t300 false t303 t306 t309 t310 _ A20.out).mono ?_); rintro e w33 ⟨v304, v307, rfl, ho0, ho1, hb⟩; refine ⟨_, rfl, ?_⟩; have n0_ := Aside0.mk (Kd.R_lower ho0 (below_size bSt_)); have n1_ := Aside0.mk (Kd.R_lower ho1 (below_size bSt_)); have n2_ := Aside0.mk (blk_below (bKq_ BK289.out) hb); have n3_ := Aside0.mk (blk_below (bKq_ BK290.out) hb); have n4_ := Aside0.mk (blk_below (g := gb302) (o := .cells #[.int .u64 t297, .int .u64 t298, .int .i64 t299, .int .i64 t300, .bool false] 68 (0, 0)) (bKq_ BK302.out) hb); have n5_ := Aside0.mk (below_step bSt_ hb); clear BK289; clear BK290; clear BK302; clear HB; have HO305 := n0_; have HO308 := n1_; have BK289 := n2_; have BK290 := n3_; have BK302 := n4_; have HB := n5_; clear n0_ n1_ n2_ n3_ n4_ n5_; (try clear hb); (try clear hb2); (try clear hk); (try clear hi); (try clear ho0); (try clear ho1); obtain ⟨Ao34, co34, eo34⟩ := Kd.R_slice HO305.out; subst eo34; have hcz35_0 : w33.cell? ⟨gb290, 0, none⟩ = some (.slice none 0 0) := (blk_cell BK290.out 0).trans rfl; have hcz35_1 : w33.cell? ⟨gb290, 1, none⟩ = some (.slice none 0 0) := (blk_cell BK290.out 1).trans rfl; have hcz35_2 : w33.cell? ⟨gb290, 2, none⟩ = some (.int .i64 0) := (blk_cell BK290.out 2).trans rfl; have hcz35_3 : w33.cell? ⟨gb290, 3, none⟩ = some (.int .i64 0) := (blk_cell BK290.out 3).trans rfl; have hfz35_0 := blk_frozen BK290.out 0; have hfz35_1 := blk_frozen BK290.out 1; have hfz35_2 := blk_frozen BK290.out 2; have hfz35_3 := blk_frozen BK290.out 3; obtain ⟨Ao36, co36, eo36⟩ := Kd.R_slice HO308.out; subst eo36))
   refine bodyPost_ret (results_ct rfl _ _ gb290 37 #[.slice Ao34 t303.length co34, .slice Ao36 t306.length co36, .int .i64 t309, .int .i64 t310] (0, 0) _ rfl (bKq_ BK290.out) Try.underlying37 rfl (by kernel_rfl)) rfl ?_
   exact ⟨_, _, by first | rfl | (simp [errW_none, errW_some] <;> rfl) | (simp [*, errW_none, errW_some] <;> rfl) | (simp [errW_none, errW_some]; exact Go.Proofs.YtgfbgfbnmiainaaW.OwnWords.isEmpty_bne _), by (with_reducible repeat (first | apply Kd.R_alloc | apply Kd.R_drewN | apply Kd.R_drew)); exact Kd.R_mono (Kd.R_far (p := ⟨gb290, 3, none⟩) (Kd.R_far (p := ⟨gb290, 2, none⟩) (Kd.R_far (p := ⟨gb290, 1, none⟩) (Kd.R_far (p := ⟨gb290, 0, none⟩) (Kd.R_types HO305.out BK290.out (by decide)) (fun _ hk => hk.2) (.slice Ao34 t303.length co34)) (fun _ hk => hk.2) (.slice Ao36 t306.length co36)) (fun _ hk => hk.2) (.int .i64 t309)) (fun _ hk => hk.2) (.int .i64 t310)) (fun _ hk => hk.1), by (with_reducible repeat (first | apply Kd.R_alloc | apply Kd.R_drewN | apply Kd.R_drew)); exact Kd.R_mono (Kd.R_far (p := ⟨gb290, 3, none⟩) (Kd.R_far (p := ⟨gb290, 2, none⟩) (Kd.R_far (p := ⟨gb290, 1, none⟩) (Kd.R_far (p := ⟨gb290, 0, none⟩) (Kd.R_types HO308.out BK290.out (by decide)) (fun _ hk => hk.2) (.slice Ao34 t303.length co34)) (fun _ hk => hk.2) (.slice Ao36 t306.length co36)) (fun _ hk => hk.2) (.int .i64 t309)) (fun _ hk => hk.2) (.int .i64 t310)) (fun _ hk => hk.1), bSt_⟩
 ·replace c3 := Bool.eq_false_iff.mpr c3
  subst c3
  have H1 : (some (([] : List Int), ([] : List Int), 0, 0, 2)) = some (r1, r2, r3, r4, r5) := by rw [if_neg (show ¬ (false = true) by decide)] at H; exact H
  clear H
  have H := H1
  clear H1
  simp only [Option.some.injEq, Prod.mk.injEq] at H
  obtain ⟨rfl, rfl, rfl, rfl, rfl⟩ := H
  go_enter Try.func17, Try.ntmps17
  go_wp2_with (first | ((with_reducible refine gate_dst (N := 1) rfl ?_); refine box_event ?hg (N := 1) ?hd (cs := #[.slice A0_0 l0_0.length c0_0, .slice A0_1 l0_1.length c0_1, .int .i64 a0_2, .int .i64 a0_3]) (t := 37) ?hr ?_; (case hd => rfl); (case hg => rfl); (case hr => first | (go_simp; done) | (go_simp; rfl)); intro gb289 hg w37 hbox hb; have n0_ := Aside0.mk (below_step bSt_ hb); have n1_ := Aside0.mk (hbox); have n2_ := Aside0.mk ((by rw [hg]; exact (below_size bSt_) : w.heap.size ≤ gb289)); have n3_ := Aside0.mk ((by rw [hg]; exact (below_size bSt_) : w.heap.size ≤ gb289)); clear HB; have HB := n0_; have BK289 := n1_; have GW289 := n2_; have GE289 := n3_; clear n0_ n1_ n2_ n3_; clear hb hbox hg) | ((with_reducible refine gate_dst (N := 2) rfl ?_); refine box_event ?hg (N := 2) ?hd (cs := #[.slice none 0 0, .slice none 0 0, .int .i64 0, .int .i64 0]) (t := 37) ?hr ?_; (case hd => rfl); (case hg => rfl); (case hr => first | (go_simp; done) | (go_simp; rfl)); intro gb290 hg w38 hbox hb; have n0_ := Aside0.mk (blk_below (bKq_ BK289.out) hb); have n1_ := Aside0.mk (below_step bSt_ hb); have n2_ := Aside0.mk (hbox); have n3_ := Aside0.mk ((by rw [hg]; exact (below_size bSt_) : w.heap.size ≤ gb290)); have n4_ := Aside0.mk ((by rw [hg]; exact (below_size bSt_) : w.heap.size ≤ gb290)); have n5_ := Aside0.mk ((by rw [hg]; exact Nat.ne_of_lt (blk_lt (bKq_ BK289.out)) : gb289 ≠ gb290)); have n6_ := Aside0.mk ((by rw [hg]; exact Nat.ne_of_gt (blk_lt (bKq_ BK289.out)) : gb290 ≠ gb289)); clear BK289; clear HB; have BK289 := n0_; have HB := n1_; have BK290 := n2_; have GW290 := n3_; have GE290 := n4_; have NB289_290 := n5_; have NB290_289 := n6_; clear n0_ n1_ n2_ n3_ n4_ n5_ n6_; clear hb hbox hg; have hnb39 := NB289_290.out; have hnc39 := NB290_289.out; have hcz40_0 : w38.cell? ⟨gb289, 0, none⟩ = some (.slice A0_0 l0_0.length c0_0) := (blk_cell BK289.out 0).trans rfl; have hcz40_1 : w38.cell? ⟨gb289, 1, none⟩ = some (.slice A0_1 l0_1.length c0_1) := (blk_cell BK289.out 1).trans rfl; have hcz40_2 : w38.cell? ⟨gb289, 2, none⟩ = some (.int .i64 a0_2) := (blk_cell BK289.out 2).trans rfl; have hcz40_3 : w38.cell? ⟨gb289, 3, none⟩ = some (.int .i64 a0_3) := (blk_cell BK289.out 3).trans rfl; have hfz40_0 := blk_frozen BK289.out 0; have hfz40_1 := blk_frozen BK289.out 1; have hfz40_2 := blk_frozen BK289.out 2; have hfz40_3 := blk_frozen BK289.out 3) | ((with_reducible refine gate_callee (f := 23) rfl ?_); refine goesL_ (some 6) rfl rfl Try.func23 (by kernel_rfl) rfl #[.agg #[.slice A0_0 l0_0.length c0_0, .slice A0_1 l0_1.length c0_1, .int .i64 a0_2, .int .i64 a0_3]] rfl (by (try simp only [List.map_toArray, List.map_cons, List.map_nil]); first | done | rfl | (simp only [List.length_drop, List.length_take]; rfl)) ?_; (with_reducible refine (manystrandref07_Valid.calls k _ _ l0_0 _ _ l0_1 a0_2 a0_3 false _ ?side1 ?side2 ?side3 ?side4 A2.out).mono ?_); (case side1 => repeat (first | exact (Kd.C_below HR0_0.out HB.out) | (with_reducible refine Kd.C_alloc ?_ _) | (with_reducible refine Kd.C_drewN ?_ _) | (with_reducible refine Kd.C_drew ?_))); (case side2 => exact HC0_0.out); (case side3 => repeat (first | exact (Kd.C_below HR0_1.out HB.out) | (with_reducible refine Kd.C_alloc ?_ _) | (with_reducible refine Kd.C_drewN ?_ _) | (with_reducible refine Kd.C_drew ?_))); (case side4 => exact HC0_1.out); rintro e w41 ⟨rfl, hb⟩; refine ⟨_, rfl, ?_⟩; have n0_ := Aside0.mk (blk_below (bKq_ BK289.out) hb); have n1_ := Aside0.mk (blk_below (bKq_ BK290.out) hb); have n2_ := Aside0.mk (below_step bSt_ hb); clear BK289; clear BK290; clear HB; have BK289 := n0_; have BK290 := n1_; have HB := n2_; clear n0_ n1_ n2_; (try clear hb); (try clear hb2); (try clear hk); (try clear hi); have hcz42_0 : w41.cell? ⟨gb290, 0, none⟩ = some (.slice none 0 0) := (blk_cell BK290.out 0).trans rfl; have hcz42_1 : w41.cell? ⟨gb290, 1, none⟩ = some (.slice none 0 0) := (blk_cell BK290.out 1).trans rfl; have hcz42_2 : w41.cell? ⟨gb290, 2, none⟩ = some (.int .i64 0) := (blk_cell BK290.out 2).trans rfl; have hcz42_3 : w41.cell? ⟨gb290, 3, none⟩ = some (.int .i64 0) := (blk_cell BK290.out 3).trans rfl; have hfz42_0 := blk_frozen BK290.out 0; have hfz42_1 := blk_frozen BK290.out 1; have hfz42_2 := blk_frozen BK290.out 2; have hfz42_3 := blk_frozen BK290.out 3))
  refine bodyPost_ret (results_ct rfl _ _ gb290 37 #[.slice none 0 0, .slice none 0 0, .int .i64 0, .int .i64 0] (0, 0) _ rfl (bKq_ BK290.out) Try.underlying37 rfl (by kernel_rfl)) rfl ?_
  exact ⟨_, _, by first | rfl | (simp [errW_none, errW_some] <;> rfl) | (simp [*, errW_none, errW_some] <;> rfl) | (simp [errW_none, errW_some]; exact Go.Proofs.YtgfbgfbnmiainaaW.OwnWords.isEmpty_bne _), by first | exact Kd.R_nil _ _ _ _ _ | exact Kd.N_nil _ _ _ _ _ | exact Kd.V_nil _ _ _ _ _ | exact Kd.Q_nil _ _ _ _ _ | exact Kd.S_nil _ _ _ _ _, by first | exact Kd.R_nil _ _ _ _ _ | exact Kd.N_nil _ _ _ _ _ | exact Kd.V_nil _ _ _ _ _ | exact Kd.Q_nil _ _ _ _ _ | exact Kd.S_nil _ _ _ _ _, bSt_⟩

end Go.Proofs.Ytgfbgfbnmiainaa.Q
end
section
namespace Go.Proofs.Ytgfbgfbnmiainaa.Q
open Go.RowKit Go.Proofs.YtgfbgfbnmiainaaW.PrintWords Go.Proofs.YtgfbgfbnmiainaaW.PrintLast Go.Proofs.YtgfbgfbnmiainaaW.PrintMore Go.Proofs.YtgfbgfbnmiainaaW.OwnWords
attribute [local go_sem] Go.Proofs.YtgfbgfbnmiainaaW.OwnWords.isSome_setCell max2_int min2_int max_two min_two max_three min_three max_four min_four
set_option linter.unusedVariables false
set_option linter.unusedSimpArgs false

attribute [local go_sem high] eqA59
/-! ### family_Text: function 30 -/
def family_Text.j0 : Nat → Bool → List Int → List Int → Int → Int → Option (ByteArray × Int)
 | 0, _, _, _, _, _ => none
 | k + 1, x26, x453000, x453001, x453002, x453003 => if x26 = true then (some ((⟨#[]⟩ : ByteArray), 2)) else ((family_braces.f k x453000).bind fun t465 => (if t465.size + 4 ≤ 9223372036854775807 then ((family_braces.f k x453001).bind fun t466 => (if (t465 ++ (⟨#[32, 46, 46, 32]⟩ : ByteArray)).size + t466.size ≤ 9223372036854775807 then (if ((t465 ++ (⟨#[32, 46, 46, 32]⟩ : ByteArray)) ++ t466).size + 3 ≤ 9223372036854775807 then ((family_digits.f k x453002).bind fun t467 => (if (((t465 ++ (⟨#[32, 46, 46, 32]⟩ : ByteArray)) ++ t466) ++ (⟨#[32, 35, 32]⟩ : ByteArray)).size + t467.size ≤ 9223372036854775807 then (if ((((t465 ++ (⟨#[32, 46, 46, 32]⟩ : ByteArray)) ++ t466) ++ (⟨#[32, 35, 32]⟩ : ByteArray)) ++ t467).size + 4 ≤ 9223372036854775807 then ((family_digits.f k x453003).bind fun t468 => (if (((((t465 ++ (⟨#[32, 46, 46, 32]⟩ : ByteArray)) ++ t466) ++ (⟨#[32, 35, 32]⟩ : ByteArray)) ++ t467) ++ (⟨#[32, 46, 46, 32]⟩ : ByteArray)).size + t468.size ≤ 9223372036854775807 then (some ((((((t465 ++ (⟨#[32, 46, 46, 32]⟩ : ByteArray)) ++ t466) ++ (⟨#[32, 35, 32]⟩ : ByteArray)) ++ t467) ++ (⟨#[32, 46, 46, 32]⟩ : ByteArray)) ++ t468, 0)) else (none))) else (none)) else (none))) else (none)) else (none))) else (none)))
def family_Text.f (k : Nat) (l0_0 : List Int) (l0_1 : List Int) (a0_2 : Int) (a0_3 : Int) : Option (ByteArray × Int) := (family_open.f k l0_0 l0_1 a0_2 a0_3).bind fun bt453 => (if bt453.2.2.2.2 = true then ((family_span_normal.f k bt453.1 bt453.2.1 bt453.2.2.1 bt453.2.2.2.1).bind fun bt459 => (if bt459.2.2.2.2 = true then (family_Text.j0 k (!(bt459.1 == bt453.1) || (!(bt459.2.1 == bt453.2.1) || (!(bt459.2.2.1 == bt453.2.2.1) || (!(bt459.2.2.2.1 == bt453.2.2.2.1))))) l0_0 l0_1 a0_2 a0_3) else (family_Text.j0 k true l0_0 l0_1 a0_2 a0_3))) else (some ((⟨#[]⟩ : ByteArray), 2)))
theorem family_Text.mono_l : ∀ k, (∀ y0 y1 y2 y3 y4, LeO (family_Text.j0 k y0 y1 y2 y3 y4) (family_Text.j0 (k + 1) y0 y1 y2 y3 y4))
 | 0 => fun _ _ _ _ _ r h => by simp [family_Text.j0] at h
 | k + 1 => by
  have ih0 := family_Text.mono_l k
  ·intro y0 y1 y2 y3 y4
   unfold family_Text.j0
   repeat' first
   | (with_reducible exact ih0 _ _ _ _ _)
   | (with_reducible exact family_braces.mono _ _)
   | (with_reducible exact family_digits.mono _ _)
   | (with_reducible exact family_open.mono _ _ _ _ _)
   | (with_reducible exact family_span_normal.mono _ _ _ _ _)
   | (with_reducible exact LeO.refl _)
   | (with_reducible exact LeO.none _)
   | (with_reducible refine LeO.ite ?_ ?_)
   | (with_reducible refine LeO.bind ?_ (fun _ => ?_))
   | exact ih0 _ _ _ _ _
   | exact family_braces.mono _ _
   | exact family_digits.mono _ _
   | exact family_open.mono _ _ _ _ _
   | exact family_span_normal.mono _ _ _ _ _
   | exact LeO.none _
   | refine LeO.ite ?_ ?_
   | refine LeO.bind ?_ (fun _ => ?_)
theorem family_Text.mono : ∀ a0 a1 a2 a3 k, LeO (family_Text.f k a0 a1 a2 a3) (family_Text.f (k + 1) a0 a1 a2 a3) := by
 intro a0 a1 a2 a3 k
 have ih0 := family_Text.mono_l k
 unfold family_Text.f
 repeat' first
   | (with_reducible exact ih0 _ _ _ _ _)
   | (with_reducible exact family_braces.mono _ _)
   | (with_reducible exact family_digits.mono _ _)
   | (with_reducible exact family_open.mono _ _ _ _ _)
   | (with_reducible exact family_span_normal.mono _ _ _ _ _)
   | (with_reducible exact LeO.refl _)
   | (with_reducible exact LeO.none _)
   | (with_reducible refine LeO.ite ?_ ?_)
   | (with_reducible refine LeO.bind ?_ (fun _ => ?_))
   | exact ih0 _ _ _ _ _
   | exact family_braces.mono _ _
   | exact family_digits.mono _ _
   | exact family_open.mono _ _ _ _ _
   | exact family_span_normal.mono _ _ _ _ _
   | exact LeO.none _
   | refine LeO.ite ?_ ?_
   | refine LeO.bind ?_ (fun _ => ?_)
set_option maxHeartbeats 8000000 in
set_option maxRecDepth 100000 in
theorem family_Text.calls (k : Nat) (A0_0 : Option Addr) (c0_0 : Nat) (l0_0 : List Int) (A0_1 : Option Addr) (c0_1 : Nat) (l0_1 : List Int) (a0_2 : Int) (a0_3 : Int) (r1 : ByteArray) (r2 : Int) (w : World) (hr0_0 : Kd.C (Kd.int .i64) w A0_0 l0_0.length l0_0) (hc0_0 : l0_0.length ≤ c0_0) (hr0_1 : Kd.C (Kd.int .i64) w A0_1 l0_1.length l0_1) (hc0_1 : l0_1.length ≤ c0_1) (h : family_Text.f k l0_0 l0_1 a0_2 a0_3 = some (r1, r2)) :
  Calls Try.prog 30 #[.agg #[.slice A0_0 l0_0.length c0_0, .slice A0_1 l0_1.length c0_1, .int .i64 a0_2, .int .i64 a0_3]] w fun e w' => e = .returned (.tuple #[.string r1, .int .i64 r2]) ∧ Below w.heap.size w w' := by
 have hu37 := Try.underlying37
 have hu59 := Try.underlying59
 have HR0_0 := Aside0.mk hr0_0
 have HC0_0 := Aside0.mk hc0_0
 clear hr0_0 hc0_0
 have HR0_1 := Aside0.mk hr0_1
 have HC0_1 := Aside0.mk hc0_1
 clear hr0_1 hc0_1
 have HB := Aside0.mk (Below.refl w.heap.size w)
 have H : ((family_open.f k l0_0 l0_1 a0_2 a0_3).bind fun bt453 => (if bt453.2.2.2.2 = true then ((family_span_normal.f k bt453.1 bt453.2.1 bt453.2.2.1 bt453.2.2.2.1).bind fun bt459 => (if bt459.2.2.2.2 = true then (family_Text.j0 k (!(bt459.1 == bt453.1) || (!(bt459.2.1 == bt453.2.1) || (!(bt459.2.2.1 == bt453.2.2.1) || (!(bt459.2.2.2.1 == bt453.2.2.2.1))))) l0_0 l0_1 a0_2 a0_3) else (family_Text.j0 k true l0_0 l0_1 a0_2 a0_3))) else (some ((⟨#[]⟩ : ByteArray), 2)))) = some (r1, r2) := h
 clear h
 replace H := Option.bind_eq_some_iff.mp H
 obtain ⟨⟨t453, t454, t455, t456, t457⟩, A20, H⟩ := H
 replace H : (if t457 = true then ((family_span_normal.f k t453 t454 t455 t456).bind fun bt459 => (if bt459.2.2.2.2 = true then (family_Text.j0 k (!(bt459.1 == t453) || (!(bt459.2.1 == t454) || (!(bt459.2.2.1 == t455) || (!(bt459.2.2.2.1 == t456))))) l0_0 l0_1 a0_2 a0_3) else (family_Text.j0 k true l0_0 l0_1 a0_2 a0_3))) else (some ((⟨#[]⟩ : ByteArray), 2))) = some (r1, r2) := H
 have A2 := Aside0.mk A20
 clear A20
 by_cases c3 : t457 = true
 ·subst c3
  have H1 : ((family_span_normal.f k t453 t454 t455 t456).bind fun bt459 => (if bt459.2.2.2.2 = true then (family_Text.j0 k (!(bt459.1 == t453) || (!(bt459.2.1 == t454) || (!(bt459.2.2.1 == t455) || (!(bt459.2.2.2.1 == t456))))) l0_0 l0_1 a0_2 a0_3) else (family_Text.j0 k true l0_0 l0_1 a0_2 a0_3))) = some (r1, r2) := by rw [if_pos rfl] at H; exact H
  clear H
  have H := H1
  clear H1
  replace H := Option.bind_eq_some_iff.mp H
  obtain ⟨⟨t459, t460, t461, t462, t463⟩, A40, H⟩ := H
  replace H : (if t463 = true then (family_Text.j0 k (!(t459 == t453) || (!(t460 == t454) || (!(t461 == t455) || (!(t462 == t456))))) l0_0 l0_1 a0_2 a0_3) else (family_Text.j0 k true l0_0 l0_1 a0_2 a0_3)) = some (r1, r2) := H
  have A4 := Aside0.mk A40
  clear A40
  have HC5 := Aside0.mk H
  clear H
  go_enter Try.func30, Try.ntmps30
  go_upto_region 5 with (first | ((with_reducible refine gate_dst (N := 1) rfl ?_); refine box_event ?hg (N := 1) ?hd (cs := #[.slice A0_0 l0_0.length c0_0, .slice A0_1 l0_1.length c0_1, .int .i64 a0_2, .int .i64 a0_3]) (t := 37) ?hr ?_; (case hd => rfl); (case hg => rfl); (case hr => first | (go_simp; done) | (go_simp; rfl)); intro gb452 hg w6 hbox hb; have n0_ := Aside0.mk (below_step bSt_ hb); have n1_ := Aside0.mk (hbox); have n2_ := Aside0.mk ((by rw [hg]; exact (below_size bSt_) : w.heap.size ≤ gb452)); have n3_ := Aside0.mk ((by rw [hg]; exact (below_size bSt_) : w.heap.size ≤ gb452)); clear HB; have HB := n0_; have BK452 := n1_; have GW452 := n2_; have GE452 := n3_; clear n0_ n1_ n2_ n3_; clear hb hbox hg; have hcz7_0 : w6.cell? ⟨gb452, 0, none⟩ = some (.slice A0_0 l0_0.length c0_0) := (blk_cell BK452.out 0).trans rfl; have hcz7_1 : w6.cell? ⟨gb452, 1, none⟩ = some (.slice A0_1 l0_1.length c0_1) := (blk_cell BK452.out 1).trans rfl; have hcz7_2 : w6.cell? ⟨gb452, 2, none⟩ = some (.int .i64 a0_2) := (blk_cell BK452.out 2).trans rfl; have hcz7_3 : w6.cell? ⟨gb452, 3, none⟩ = some (.int .i64 a0_3) := (blk_cell BK452.out 3).trans rfl; have hfz7_0 := blk_frozen BK452.out 0; have hfz7_1 := blk_frozen BK452.out 1; have hfz7_2 := blk_frozen BK452.out 2; have hfz7_3 := blk_frozen BK452.out 3) | (go_at_call 36; (with_reducible refine (family_open.calls k _ _ l0_0 _ _ l0_1 a0_2 a0_3 t453 t454 t455 t456 true _ ?side1 ?side2 ?side3 ?side4 A2.out).mono ?_); (case side1 => repeat (first | exact (Kd.C_below HR0_0.out HB.out) | (with_reducible refine Kd.C_alloc ?_ _) | (with_reducible refine Kd.C_drewN ?_ _) | (with_reducible refine Kd.C_drew ?_))); (case side2 => exact HC0_0.out); (case side3 => repeat (first | exact (Kd.C_below HR0_1.out HB.out) | (with_reducible refine Kd.C_alloc ?_ _) | (with_reducible refine Kd.C_drewN ?_ _) | (with_reducible refine Kd.C_drew ?_))); (case side4 => exact HC0_1.out); rintro e w8 ⟨rfl, hb⟩; have n0_ := Aside0.mk (blk_below (bKq_ BK452.out) hb); have n1_ := Aside0.mk (below_step bSt_ hb); clear BK452; clear HB; have BK452 := n0_; have HB := n1_; clear n0_ n1_; (try clear hb); (try clear hb2); (try clear hk); (try clear hi)) | ((with_reducible refine gate_dst (N := 4) rfl ?_); refine box_event ?hg (N := 4) ?hd (cs := #[.int .u64 0, .int .u64 0, .int .i64 0, .int .i64 0]) (t := 59) ?hr ?_; (case hd => rfl); (case hg => rfl); (case hr => first | (go_simp; done) | (go_simp; rfl)); intro gb458 hg w9 hbox hb; have n0_ := Aside0.mk (blk_below (bKq_ BK452.out) hb); have n1_ := Aside0.mk (below_step bSt_ hb); have n2_ := Aside0.mk (hbox); have n3_ := Aside0.mk ((by rw [hg]; exact (below_size bSt_) : w.heap.size ≤ gb458)); have n4_ := Aside0.mk ((by rw [hg]; exact (below_size bSt_) : w.heap.size ≤ gb458)); have n5_ := Aside0.mk ((by rw [hg]; exact Nat.ne_of_lt (blk_lt (bKq_ BK452.out)) : gb452 ≠ gb458)); have n6_ := Aside0.mk ((by rw [hg]; exact Nat.ne_of_gt (blk_lt (bKq_ BK452.out)) : gb458 ≠ gb452)); clear BK452; clear HB; have BK452 := n0_; have HB := n1_; have BK458 := n2_; have GW458 := n3_; have GE458 := n4_; have NB452_458 := n5_; have NB458_452 := n6_; clear n0_ n1_ n2_ n3_ n4_ n5_ n6_; clear hb hbox hg; have hnb10 := NB458_452.out; have hnc10 := NB452_458.out; have hcz11_0 : w9.cell? ⟨gb458, 0, none⟩ = some (.int .u64 0) := (blk_cell BK458.out 0).trans rfl; have hcz11_1 : w9.cell? ⟨gb458, 1, none⟩ = some (.int .u64 0) := (blk_cell BK458.out 1).trans rfl; have hcz11_2 : w9.cell? ⟨gb458, 2, none⟩ = some (.int .i64 0) := (blk_cell BK458.out 2).trans rfl; have hcz11_3 : w9.cell? ⟨gb458, 3, none⟩ = some (.int .i64 0) := (blk_cell BK458.out 3).trans rfl; have hfz11_0 := blk_frozen BK458.out 0; have hfz11_1 := blk_frozen BK458.out 1; have hfz11_2 := blk_frozen BK458.out 2; have hfz11_3 := blk_frozen BK458.out 3) | (go_at_call 45; (with_reducible refine (family_span_normal.calls k t453 t454 t455 t456 t459 t460 t461 t462 t463 _ A4.out).mono ?_); rintro e w12 ⟨rfl, hb⟩; have n0_ := Aside0.mk (blk_below (bKq_ BK452.out) hb); have n1_ := Aside0.mk (blk_below (g := gb458) (o := .cells #[.int .u64 t453, .int .u64 t454, .int .i64 t455, .int .i64 t456] 59 (0, 0)) (bKq_ BK458.out) hb); have n2_ := Aside0.mk (below_step bSt_ hb); clear BK452; clear BK458; clear HB; have BK452 := n0_; have BK458 := n1_; have HB := n2_; clear n0_ n1_ n2_; (try clear hb); (try clear hb2); (try clear hk); (try clear hi)) | ((with_reducible refine gate_dst (N := 6) rfl ?_); refine box_event ?hg (N := 6) ?hd (cs := #[.int .u64 0, .int .u64 0, .int .i64 0, .int .i64 0]) (t := 59) ?hr ?_; (case hd => rfl); (case hg => rfl); (case hr => first | (go_simp; done) | (go_simp; rfl)); intro gb464 hg w13 hbox hb; have n0_ := Aside0.mk (blk_below (bKq_ BK452.out) hb); have n1_ := Aside0.mk (blk_below (bKq_ BK458.out) hb); have n2_ := Aside0.mk (below_step bSt_ hb); have n3_ := Aside0.mk (hbox); have n4_ := Aside0.mk ((by rw [hg]; exact (below_size bSt_) : w.heap.size ≤ gb464)); have n5_ := Aside0.mk ((by rw [hg]; exact (below_size bSt_) : w.heap.size ≤ gb464)); have n6_ := Aside0.mk ((by rw [hg]; exact Nat.ne_of_lt (blk_lt (bKq_ BK452.out)) : gb452 ≠ gb464)); have n7_ := Aside0.mk ((by rw [hg]; exact Nat.ne_of_gt (blk_lt (bKq_ BK452.out)) : gb464 ≠ gb452)); have n8_ := Aside0.mk ((by rw [hg]; exact Nat.ne_of_lt (blk_lt (bKq_ BK458.out)) : gb458 ≠ gb464)); have n9_ := Aside0.mk ((by rw [hg]; exact Nat.ne_of_gt (blk_lt (bKq_ BK458.out)) : gb464 ≠ gb458)); clear BK452; clear BK458; clear HB; have BK452 := n0_; have BK458 := n1_; have HB := n2_; have BK464 := n3_; have GW464 := n4_; have GE464 := n5_; have NB452_464 := n6_; have NB464_452 := n7_; have NB458_464 := n8_; have NB464_458 := n9_; clear n0_ n1_ n2_ n3_ n4_ n5_ n6_ n7_ n8_ n9_; clear hb hbox hg; have hnb14 := NB464_452.out; have hnc14 := NB452_464.out; have hnb15 := NB464_458.out; have hnc15 := NB458_464.out; have hcz16_0 : w13.cell? ⟨gb464, 0, none⟩ = some (.int .u64 0) := (blk_cell BK464.out 0).trans rfl; have hcz16_1 : w13.cell? ⟨gb464, 1, none⟩ = some (.int .u64 0) := (blk_cell BK464.out 1).trans rfl; have hcz16_2 : w13.cell? ⟨gb464, 2, none⟩ = some (.int .i64 0) := (blk_cell BK464.out 2).trans rfl; have hcz16_3 : w13.cell? ⟨gb464, 3, none⟩ = some (.int .i64 0) := (blk_cell BK464.out 3).trans rfl; have hfz16_0 := blk_frozen BK464.out 0; have hfz16_1 := blk_frozen BK464.out 1; have hfz16_2 := blk_frozen BK464.out 2; have hfz16_3 := blk_frozen BK464.out 3))
  repeat (go_quiet (first | ((with_reducible refine gate_dst (N := 1) rfl ?_); refine box_event ?hg (N := 1) ?hd (cs := #[.slice A0_0 l0_0.length c0_0, .slice A0_1 l0_1.length c0_1, .int .i64 a0_2, .int .i64 a0_3]) (t := 37) ?hr ?_; (case hd => rfl); (case hg => rfl); (case hr => first | (go_simp; done) | (go_simp; rfl)); intro gb452 hg w6 hbox hb; have n0_ := Aside0.mk (below_step bSt_ hb); have n1_ := Aside0.mk (hbox); have n2_ := Aside0.mk ((by rw [hg]; exact (below_size bSt_) : w.heap.size ≤ gb452)); have n3_ := Aside0.mk ((by rw [hg]; exact (below_size bSt_) : w.heap.size ≤ gb452)); clear HB; have HB := n0_; have BK452 := n1_; have GW452 := n2_; have GE452 := n3_; clear n0_ n1_ n2_ n3_; clear hb hbox hg; have hcz7_0 : w6.cell? ⟨gb452, 0, none⟩ = some (.slice A0_0 l0_0.length c0_0) := (blk_cell BK452.out 0).trans rfl; have hcz7_1 : w6.cell? ⟨gb452, 1, none⟩ = some (.slice A0_1 l0_1.length c0_1) := (blk_cell BK452.out 1).trans rfl; have hcz7_2 : w6.cell? ⟨gb452, 2, none⟩ = some (.int .i64 a0_2) := (blk_cell BK452.out 2).trans rfl; have hcz7_3 : w6.cell? ⟨gb452, 3, none⟩ = some (.int .i64 a0_3) := (blk_cell BK452.out 3).trans rfl; have hfz7_0 := blk_frozen BK452.out 0; have hfz7_1 := blk_frozen BK452.out 1; have hfz7_2 := blk_frozen BK452.out 2; have hfz7_3 := blk_frozen BK452.out 3) | (go_at_call 36; (with_reducible refine (family_open.calls k _ _ l0_0 _ _ l0_1 a0_2 a0_3 t453 t454 t455 t456 true _ ?side1 ?side2 ?side3 ?side4 A2.out).mono ?_); (case side1 => repeat (first | exact (Kd.C_below HR0_0.out HB.out) | (with_reducible refine Kd.C_alloc ?_ _) | (with_reducible refine Kd.C_drewN ?_ _) | (with_reducible refine Kd.C_drew ?_))); (case side2 => exact HC0_0.out); (case side3 => repeat (first | exact (Kd.C_below HR0_1.out HB.out) | (with_reducible refine Kd.C_alloc ?_ _) | (with_reducible refine Kd.C_drewN ?_ _) | (with_reducible refine Kd.C_drew ?_))); (case side4 => exact HC0_1.out); rintro e w8 ⟨rfl, hb⟩; have n0_ := Aside0.mk (blk_below (bKq_ BK452.out) hb); have n1_ := Aside0.mk (below_step bSt_ hb); clear BK452; clear HB; have BK452 := n0_; have HB := n1_; clear n0_ n1_; (try clear hb); (try clear hb2); (try clear hk); (try clear hi)) | ((with_reducible refine gate_dst (N := 4) rfl ?_); refine box_event ?hg (N := 4) ?hd (cs := #[.int .u64 0, .int .u64 0, .int .i64 0, .int .i64 0]) (t := 59) ?hr ?_; (case hd => rfl); (case hg => rfl); (case hr => first | (go_simp; done) | (go_simp; rfl)); intro gb458 hg w9 hbox hb; have n0_ := Aside0.mk (blk_below (bKq_ BK452.out) hb); have n1_ := Aside0.mk (below_step bSt_ hb); have n2_ := Aside0.mk (hbox); have n3_ := Aside0.mk ((by rw [hg]; exact (below_size bSt_) : w.heap.size ≤ gb458)); have n4_ := Aside0.mk ((by rw [hg]; exact (below_size bSt_) : w.heap.size ≤ gb458)); have n5_ := Aside0.mk ((by rw [hg]; exact Nat.ne_of_lt (blk_lt (bKq_ BK452.out)) : gb452 ≠ gb458)); have n6_ := Aside0.mk ((by rw [hg]; exact Nat.ne_of_gt (blk_lt (bKq_ BK452.out)) : gb458 ≠ gb452)); clear BK452; clear HB; have BK452 := n0_; have HB := n1_; have BK458 := n2_; have GW458 := n3_; have GE458 := n4_; have NB452_458 := n5_; have NB458_452 := n6_; clear n0_ n1_ n2_ n3_ n4_ n5_ n6_; clear hb hbox hg; have hnb10 := NB458_452.out; have hnc10 := NB452_458.out; have hcz11_0 : w9.cell? ⟨gb458, 0, none⟩ = some (.int .u64 0) := (blk_cell BK458.out 0).trans rfl; have hcz11_1 : w9.cell? ⟨gb458, 1, none⟩ = some (.int .u64 0) := (blk_cell BK458.out 1).trans rfl; have hcz11_2 : w9.cell? ⟨gb458, 2, none⟩ = some (.int .i64 0) := (blk_cell BK458.out 2).trans rfl; have hcz11_3 : w9.cell? ⟨gb458, 3, none⟩ = some (.int .i64 0) := (blk_cell BK458.out 3).trans rfl; have hfz11_0 := blk_frozen BK458.out 0; have hfz11_1 := blk_frozen BK458.out 1; have hfz11_2 := blk_frozen BK458.out 2; have hfz11_3 := blk_frozen BK458.out 3) | (go_at_call 45; (with_reducible refine (family_span_normal.calls k t453 t454 t455 t456 t459 t460 t461 t462 t463 _ A4.out).mono ?_); rintro e w12 ⟨rfl, hb⟩; have n0_ := Aside0.mk (blk_below (bKq_ BK452.out) hb); have n1_ := Aside0.mk (blk_below (g := gb458) (o := .cells #[.int .u64 t453, .int .u64 t454, .int .i64 t455, .int .i64 t456] 59 (0, 0)) (bKq_ BK458.out) hb); have n2_ := Aside0.mk (below_step bSt_ hb); clear BK452; clear BK458; clear HB; have BK452 := n0_; have BK458 := n1_; have HB := n2_; clear n0_ n1_ n2_; (try clear hb); (try clear hb2); (try clear hk); (try clear hi)) | ((with_reducible refine gate_dst (N := 6) rfl ?_); refine box_event ?hg (N := 6) ?hd (cs := #[.int .u64 0, .int .u64 0, .int .i64 0, .int .i64 0]) (t := 59) ?hr ?_; (case hd => rfl); (case hg => rfl); (case hr => first | (go_simp; done) | (go_simp; rfl)); intro gb464 hg w13 hbox hb; have n0_ := Aside0.mk (blk_below (bKq_ BK452.out) hb); have n1_ := Aside0.mk (blk_below (bKq_ BK458.out) hb); have n2_ := Aside0.mk (below_step bSt_ hb); have n3_ := Aside0.mk (hbox); have n4_ := Aside0.mk ((by rw [hg]; exact (below_size bSt_) : w.heap.size ≤ gb464)); have n5_ := Aside0.mk ((by rw [hg]; exact (below_size bSt_) : w.heap.size ≤ gb464)); have n6_ := Aside0.mk ((by rw [hg]; exact Nat.ne_of_lt (blk_lt (bKq_ BK452.out)) : gb452 ≠ gb464)); have n7_ := Aside0.mk ((by rw [hg]; exact Nat.ne_of_gt (blk_lt (bKq_ BK452.out)) : gb464 ≠ gb452)); have n8_ := Aside0.mk ((by rw [hg]; exact Nat.ne_of_lt (blk_lt (bKq_ BK458.out)) : gb458 ≠ gb464)); have n9_ := Aside0.mk ((by rw [hg]; exact Nat.ne_of_gt (blk_lt (bKq_ BK458.out)) : gb464 ≠ gb458)); clear BK452; clear BK458; clear HB; have BK452 := n0_; have BK458 := n1_; have HB := n2_; have BK464 := n3_; have GW464 := n4_; have GE464 := n5_; have NB452_464 := n6_; have NB464_452 := n7_; have NB458_464 := n8_; have NB464_458 := n9_; clear n0_ n1_ n2_ n3_ n4_ n5_ n6_ n7_ n8_ n9_; clear hb hbox hg; have hnb14 := NB464_452.out; have hnc14 := NB452_464.out; have hnb15 := NB464_458.out; have hnc15 := NB458_464.out; have hcz16_0 : w13.cell? ⟨gb464, 0, none⟩ = some (.int .u64 0) := (blk_cell BK464.out 0).trans rfl; have hcz16_1 : w13.cell? ⟨gb464, 1, none⟩ = some (.int .u64 0) := (blk_cell BK464.out 1).trans rfl; have hcz16_2 : w13.cell? ⟨gb464, 2, none⟩ = some (.int .i64 0) := (blk_cell BK464.out 2).trans rfl; have hcz16_3 : w13.cell? ⟨gb464, 3, none⟩ = some (.int .i64 0) := (blk_cell BK464.out 3).trans rfl; have hfz16_0 := blk_frozen BK464.out 0; have hfz16_1 := blk_frozen BK464.out 1; have hfz16_2 := blk_frozen BK464.out 2; have hfz16_3 := blk_frozen BK464.out 3)); go_upto_region 5 with (first | ((with_reducible refine gate_dst (N := 1) rfl ?_); refine box_event ?hg (N := 1) ?hd (cs := #[.slice A0_0 l0_0.length c0_0, .slice A0_1 l0_1.length c0_1, .int .i64 a0_2, .int .i64 a0_3]) (t := 37) ?hr ?_; (case hd => rfl); (case hg => rfl); (case hr => first | (go_simp; done) | (go_simp; rfl)); intro gb452 hg w6 hbox hb; have n0_ := Aside0.mk (below_step bSt_ hb); have n1_ := Aside0.mk (hbox); have n2_ := Aside0.mk ((by rw [hg]; exact (below_size bSt_) : w.heap.size ≤ gb452)); have n3_ := Aside0.mk ((by rw [hg]; exact (below_size bSt_) : w.heap.size ≤ gb452)); clear HB; have HB := n0_; have BK452 := n1_; have GW452 := n2_; have GE452 := n3_; clear n0_ n1_ n2_ n3_; clear hb hbox hg; have hcz7_0 : w6.cell? ⟨gb452, 0, none⟩ = some (.slice A0_0 l0_0.length c0_0) := (blk_cell BK452.out 0).trans rfl; have hcz7_1 : w6.cell? ⟨gb452, 1, none⟩ = some (.slice A0_1 l0_1.length c0_1) := (blk_cell BK452.out 1).trans rfl; have hcz7_2 : w6.cell? ⟨gb452, 2, none⟩ = some (.int .i64 a0_2) := (blk_cell BK452.out 2).trans rfl; have hcz7_3 : w6.cell? ⟨gb452, 3, none⟩ = some (.int .i64 a0_3) := (blk_cell BK452.out 3).trans rfl; have hfz7_0 := blk_frozen BK452.out 0; have hfz7_1 := blk_frozen BK452.out 1; have hfz7_2 := blk_frozen BK452.out 2; have hfz7_3 := blk_frozen BK452.out 3) | (go_at_call 36; (with_reducible refine (family_open.calls k _ _ l0_0 _ _ l0_1 a0_2 a0_3 t453 t454 t455 t456 true _ ?side1 ?side2 ?side3 ?side4 A2.out).mono ?_); (case side1 => repeat (first | exact (Kd.C_below HR0_0.out HB.out) | (with_reducible refine Kd.C_alloc ?_ _) | (with_reducible refine Kd.C_drewN ?_ _) | (with_reducible refine Kd.C_drew ?_))); (case side2 => exact HC0_0.out); (case side3 => repeat (first | exact (Kd.C_below HR0_1.out HB.out) | (with_reducible refine Kd.C_alloc ?_ _) | (with_reducible refine Kd.C_drewN ?_ _) | (with_reducible refine Kd.C_drew ?_))); (case side4 => exact HC0_1.out); rintro e w8 ⟨rfl, hb⟩; have n0_ := Aside0.mk (blk_below (bKq_ BK452.out) hb); have n1_ := Aside0.mk (below_step bSt_ hb); clear BK452; clear HB; have BK452 := n0_; have HB := n1_; clear n0_ n1_; (try clear hb); (try clear hb2); (try clear hk); (try clear hi)) | ((with_reducible refine gate_dst (N := 4) rfl ?_); refine box_event ?hg (N := 4) ?hd (cs := #[.int .u64 0, .int .u64 0, .int .i64 0, .int .i64 0]) (t := 59) ?hr ?_; (case hd => rfl); (case hg => rfl); (case hr => first | (go_simp; done) | (go_simp; rfl)); intro gb458 hg w9 hbox hb; have n0_ := Aside0.mk (blk_below (bKq_ BK452.out) hb); have n1_ := Aside0.mk (below_step bSt_ hb); have n2_ := Aside0.mk (hbox); have n3_ := Aside0.mk ((by rw [hg]; exact (below_size bSt_) : w.heap.size ≤ gb458)); have n4_ := Aside0.mk ((by rw [hg]; exact (below_size bSt_) : w.heap.size ≤ gb458)); have n5_ := Aside0.mk ((by rw [hg]; exact Nat.ne_of_lt (blk_lt (bKq_ BK452.out)) : gb452 ≠ gb458)); have n6_ := Aside0.mk ((by rw [hg]; exact Nat.ne_of_gt (blk_lt (bKq_ BK452.out)) : gb458 ≠ gb452)); clear BK452; clear HB; have BK452 := n0_; have HB := n1_; have BK458 := n2_; have GW458 := n3_; have GE458 := n4_; have NB452_458 := n5_; have NB458_452 := n6_; clear n0_ n1_ n2_ n3_ n4_ n5_ n6_; clear hb hbox hg; have hnb10 := NB458_452.out; have hnc10 := NB452_458.out; have hcz11_0 : w9.cell? ⟨gb458, 0, none⟩ = some (.int .u64 0) := (blk_cell BK458.out 0).trans rfl; have hcz11_1 : w9.cell? ⟨gb458, 1, none⟩ = some (.int .u64 0) := (blk_cell BK458.out 1).trans rfl; have hcz11_2 : w9.cell? ⟨gb458, 2, none⟩ = some (.int .i64 0) := (blk_cell BK458.out 2).trans rfl; have hcz11_3 : w9.cell? ⟨gb458, 3, none⟩ = some (.int .i64 0) := (blk_cell BK458.out 3).trans rfl; have hfz11_0 := blk_frozen BK458.out 0; have hfz11_1 := blk_frozen BK458.out 1; have hfz11_2 := blk_frozen BK458.out 2; have hfz11_3 := blk_frozen BK458.out 3) | (go_at_call 45; (with_reducible refine (family_span_normal.calls k t453 t454 t455 t456 t459 t460 t461 t462 t463 _ A4.out).mono ?_); rintro e w12 ⟨rfl, hb⟩; have n0_ := Aside0.mk (blk_below (bKq_ BK452.out) hb); have n1_ := Aside0.mk (blk_below (g := gb458) (o := .cells #[.int .u64 t453, .int .u64 t454, .int .i64 t455, .int .i64 t456] 59 (0, 0)) (bKq_ BK458.out) hb); have n2_ := Aside0.mk (below_step bSt_ hb); clear BK452; clear BK458; clear HB; have BK452 := n0_; have BK458 := n1_; have HB := n2_; clear n0_ n1_ n2_; (try clear hb); (try clear hb2); (try clear hk); (try clear hi)) | ((with_reducible refine gate_dst (N := 6) rfl ?_); refine box_event ?hg (N := 6) ?hd (cs := #[.int .u64 0, .int .u64 0, .int .i64 0, .int .i64 0]) (t := 59) ?hr ?_; (case hd => rfl); (case hg => rfl); (case hr => first | (go_simp; done) | (go_simp; rfl)); intro gb464 hg w13 hbox hb; have n0_ := Aside0.mk (blk_below (bKq_ BK452.out) hb); have n1_ := Aside0.mk (blk_below (bKq_ BK458.out) hb); have n2_ := Aside0.mk (below_step bSt_ hb); have n3_ := Aside0.mk (hbox); have n4_ := Aside0.mk ((by rw [hg]; exact (below_size bSt_) : w.heap.size ≤ gb464)); have n5_ := Aside0.mk ((by rw [hg]; exact (below_size bSt_) : w.heap.size ≤ gb464)); have n6_ := Aside0.mk ((by rw [hg]; exact Nat.ne_of_lt (blk_lt (bKq_ BK452.out)) : gb452 ≠ gb464)); have n7_ := Aside0.mk ((by rw [hg]; exact Nat.ne_of_gt (blk_lt (bKq_ BK452.out)) : gb464 ≠ gb452)); have n8_ := Aside0.mk ((by rw [hg]; exact Nat.ne_of_lt (blk_lt (bKq_ BK458.out)) : gb458 ≠ gb464)); have n9_ := Aside0.mk ((by rw [hg]; exact Nat.ne_of_gt (blk_lt (bKq_ BK458.out)) : gb464 ≠ gb458)); clear BK452; clear BK458; clear HB; have BK452 := n0_; have BK458 := n1_; have HB := n2_; have BK464 := n3_; have GW464 := n4_; have GE464 := n5_; have NB452_464 := n6_; have NB464_452 := n7_; have NB458_464 := n8_; have NB464_458 := n9_; clear n0_ n1_ n2_ n3_ n4_ n5_ n6_ n7_ n8_ n9_; clear hb hbox hg; have hnb14 := NB464_452.out; have hnc14 := NB452_464.out; have hnb15 := NB464_458.out; have hnc15 := NB458_464.out; have hcz16_0 : w13.cell? ⟨gb464, 0, none⟩ = some (.int .u64 0) := (blk_cell BK464.out 0).trans rfl; have hcz16_1 : w13.cell? ⟨gb464, 1, none⟩ = some (.int .u64 0) := (blk_cell BK464.out 1).trans rfl; have hcz16_2 : w13.cell? ⟨gb464, 2, none⟩ = some (.int .i64 0) := (blk_cell BK464.out 2).trans rfl; have hcz16_3 : w13.cell? ⟨gb464, 3, none⟩ = some (.int .i64 0) := (blk_cell BK464.out 3).trans rfl; have hfz16_0 := blk_frozen BK464.out 0; have hfz16_1 := blk_frozen BK464.out 1; have hfz16_2 := blk_frozen BK464.out 2; have hfz16_3 := blk_frozen BK464.out 3)))
  (try simp only [Act.put, List.setIfInBounds_toArray, List.set_cons_zero, List.set_cons_succ])
  go_cut [26] (fun v26 wc => ∃ (kq : Nat) (x26_4 : Bool), v26 = .bool x26_4 ∧ Aside0 (family_Text.j0 kq x26_4 l0_0 l0_1 a0_2 a0_3 = some (r1, r2)) ∧ Aside0 (kq ≤ k) ∧ Aside0 (wc.heap[gb452]? = some (.cells #[(.slice A0_0 l0_0.length c0_0), (.slice A0_1 l0_1.length c0_1), .int .i64 a0_2, .int .i64 a0_3] 37 (0, 0))) ∧ Aside0 (wc.heap[gb458]? = some (.cells #[.int .u64 t453, .int .u64 t454, .int .i64 t455, .int .i64 t456] 59 (0, 0))) ∧ Aside0 (wc.heap[gb464]? = some (.cells #[.int .u64 t459, .int .u64 t460, .int .i64 t461, .int .i64 t462] 59 (0, 0))) ∧ Aside0 (Below w.heap.size w wc))
  case first =>
   have H := HC5.out
   clear HC5
   by_cases c17 : t463 = true
   ·subst c17
    have H1 : (family_Text.j0 k (!(t459 == t453) || (!(t460 == t454) || (!(t461 == t455) || (!(t462 == t456))))) l0_0 l0_1 a0_2 a0_3) = some (r1, r2) := by rw [if_pos rfl] at H; exact H
    clear H
    have H := H1
    clear H1
    have H' := Aside0.mk H
    clear H
    have hnb18 := NB464_452.out
    have hnc18 := NB452_464.out
    have hnb19 := NB464_458.out
    have hnc19 := NB458_464.out
    have hcz20_0 : w13.cell? ⟨gb464, 0, none⟩ = some (.int .u64 0) := (blk_cell BK464.out 0).trans rfl
    have hcz20_1 : w13.cell? ⟨gb464, 1, none⟩ = some (.int .u64 0) := (blk_cell BK464.out 1).trans rfl
    have hcz20_2 : w13.cell? ⟨gb464, 2, none⟩ = some (.int .i64 0) := (blk_cell BK464.out 2).trans rfl
    have hcz20_3 : w13.cell? ⟨gb464, 3, none⟩ = some (.int .i64 0) := (blk_cell BK464.out 3).trans rfl
    have hfz20_0 := blk_frozen BK464.out 0
    have hfz20_1 := blk_frozen BK464.out 1
    have hfz20_2 := blk_frozen BK464.out 2
    have hfz20_3 := blk_frozen BK464.out 3
    have hnb21 := NB458_452.out
    have hnc21 := NB452_458.out
    have hcz22_0 : w13.cell? ⟨gb458, 0, none⟩ = some (.int .u64 t453) := (blk_cell BK458.out 0).trans rfl
    have hcz22_1 : w13.cell? ⟨gb458, 1, none⟩ = some (.int .u64 t454) := (blk_cell BK458.out 1).trans rfl
    have hcz22_2 : w13.cell? ⟨gb458, 2, none⟩ = some (.int .i64 t455) := (blk_cell BK458.out 2).trans rfl
    have hcz22_3 : w13.cell? ⟨gb458, 3, none⟩ = some (.int .i64 t456) := (blk_cell BK458.out 3).trans rfl
    have hfz22_0 := blk_frozen BK458.out 0
    have hfz22_1 := blk_frozen BK458.out 1
    have hfz22_2 := blk_frozen BK458.out 2
    have hfz22_3 := blk_frozen BK458.out 3
    go_wp2
    repeat (go_quiet (fail); try go_wp2)
    go_meet
    case rel => exact ⟨_, ((!(t459 == t453) || (!(t460 == t454) || (!(t461 == t455) || (!(t462 == t456)))))), (by first | rfl | (simp; done) | (simp [*]; done)), H', ⟨by first | omega | exact Nat.le_refl _⟩, ⟨bKq_ BK452.out⟩, ⟨bKq_ BK458.out⟩, ⟨bKq_ BK464.out⟩, ⟨bSt_⟩⟩
   ·replace c17 := Bool.eq_false_iff.mpr c17
    subst c17
    have H1 : (family_Text.j0 k true l0_0 l0_1 a0_2 a0_3) = some (r1, r2) := by rw [if_neg (show ¬ (false = true) by decide)] at H; exact H
    clear H
    have H := H1
    clear H1
    have H' := Aside0.mk H
    clear H
    go_wp2
    repeat (go_quiet (fail); try go_wp2)
    go_meet
    case rel => exact ⟨_, (true), (by first | rfl | (simp; done) | (simp [*]; done)), H', ⟨by first | omega | exact Nat.le_refl _⟩, ⟨bKq_ BK452.out⟩, ⟨bKq_ BK458.out⟩, ⟨bKq_ BK464.out⟩, ⟨bSt_⟩⟩
  case rest =>
   clear HC5
   try clear c1
   try clear c2
   try clear p2
   try clear c3
   try clear c10
   try clear c14
   try clear c15
   try clear c17
   try clear c18
   try clear c19
   try clear c21
   try clear hcz11_0
   try clear hcz11_1
   try clear hcz11_2
   try clear hcz11_3
   try clear hcz16_0
   try clear hcz16_1
   try clear hcz16_2
   try clear hcz16_3
   try clear hcz20_0
   try clear hcz20_1
   try clear hcz20_2
   try clear hcz20_3
   try clear hcz22_0
   try clear hcz22_1
   try clear hcz22_2
   try clear hcz22_3
   try clear hcz7_0
   try clear hcz7_1
   try clear hcz7_2
   try clear hcz7_3
   try clear hfz11_0
   try clear hfz11_1
   try clear hfz11_2
   try clear hfz11_3
   try clear hfz16_0
   try clear hfz16_1
   try clear hfz16_2
   try clear hfz16_3
   try clear hfz20_0
   try clear hfz20_1
   try clear hfz20_2
   try clear hfz20_3
   try clear hfz22_0
   try clear hfz22_1
   try clear hfz22_2
   try clear hfz22_3
   try clear hfz7_0
   try clear hfz7_1
   try clear hfz7_2
   try clear hfz7_3
   obtain ⟨kq, x26_4, rfl, HA, HJ4, BK452, BK458, BK464, HB⟩ := hcut
   cases kq with
   | zero => exact absurd HA.out (by simp [family_Text.j0])
   | succ kj4 =>
    have H := HA.out
    clear HA
    simp only [family_Text.j0] at H
    by_cases c23 : x26_4 = true
    ·subst c23
     have H1 : (some ((⟨#[]⟩ : ByteArray), 2)) = some (r1, r2) := by rw [if_pos rfl] at H; exact H
     clear H
     have H := H1
     clear H1
     simp only [Option.some.injEq, Prod.mk.injEq] at H
     obtain ⟨rfl, rfl⟩ := H
     go_wp2
     repeat (go_quiet (fail); try go_wp2)
     go_ret2
     exact ⟨by first | rfl | (simp [errW_none, errW_some] <;> rfl) | (simp [*, errW_none, errW_some] <;> rfl) | (simp [errW_none, errW_some]; exact Go.Proofs.YtgfbgfbnmiainaaW.OwnWords.isEmpty_bne _), bSt_⟩
    ·replace c23 := Bool.eq_false_iff.mpr c23
     subst c23
     have H1 : ((family_braces.f kj4 l0_0).bind fun t465 => (if t465.size + 4 ≤ 9223372036854775807 then ((family_braces.f kj4 l0_1).bind fun t466 => (if (t465 ++ (⟨#[32, 46, 46, 32]⟩ : ByteArray)).size + t466.size ≤ 9223372036854775807 then (if ((t465 ++ (⟨#[32, 46, 46, 32]⟩ : ByteArray)) ++ t466).size + 3 ≤ 9223372036854775807 then ((family_digits.f kj4 a0_2).bind fun t467 => (if (((t465 ++ (⟨#[32, 46, 46, 32]⟩ : ByteArray)) ++ t466) ++ (⟨#[32, 35, 32]⟩ : ByteArray)).size + t467.size ≤ 9223372036854775807 then (if ((((t465 ++ (⟨#[32, 46, 46, 32]⟩ : ByteArray)) ++ t466) ++ (⟨#[32, 35, 32]⟩ : ByteArray)) ++ t467).size + 4 ≤ 9223372036854775807 then ((family_digits.f kj4 a0_3).bind fun t468 => (if (((((t465 ++ (⟨#[32, 46, 46, 32]⟩ : ByteArray)) ++ t466) ++ (⟨#[32, 35, 32]⟩ : ByteArray)) ++ t467) ++ (⟨#[32, 46, 46, 32]⟩ : ByteArray)).size + t468.size ≤ 9223372036854775807 then (some ((((((t465 ++ (⟨#[32, 46, 46, 32]⟩ : ByteArray)) ++ t466) ++ (⟨#[32, 35, 32]⟩ : ByteArray)) ++ t467) ++ (⟨#[32, 46, 46, 32]⟩ : ByteArray)) ++ t468, 0)) else (none))) else (none)) else (none))) else (none)) else (none))) else (none))) = some (r1, r2) := by rw [if_neg (show ¬ (false = true) by decide)] at H; exact H
     clear H
     have H := H1
     clear H1
     replace H := Option.bind_eq_some_iff.mp H
     obtain ⟨t465, A240, H⟩ := H
     replace H : (if t465.size + 4 ≤ 9223372036854775807 then ((family_braces.f kj4 l0_1).bind fun t466 => (if (t465 ++ (⟨#[32, 46, 46, 32]⟩ : ByteArray)).size + t466.size ≤ 9223372036854775807 then (if ((t465 ++ (⟨#[32, 46, 46, 32]⟩ : ByteArray)) ++ t466).size + 3 ≤ 9223372036854775807 then ((family_digits.f kj4 a0_2).bind fun t467 => (if (((t465 ++ (⟨#[32, 46, 46, 32]⟩ : ByteArray)) ++ t466) ++ (⟨#[32, 35, 32]⟩ : ByteArray)).size + t467.size ≤ 9223372036854775807 then (if ((((t465 ++ (⟨#[32, 46, 46, 32]⟩ : ByteArray)) ++ t466) ++ (⟨#[32, 35, 32]⟩ : ByteArray)) ++ t467).size + 4 ≤ 9223372036854775807 then ((family_digits.f kj4 a0_3).bind fun t468 => (if (((((t465 ++ (⟨#[32, 46, 46, 32]⟩ : ByteArray)) ++ t466) ++ (⟨#[32, 35, 32]⟩ : ByteArray)) ++ t467) ++ (⟨#[32, 46, 46, 32]⟩ : ByteArray)).size + t468.size ≤ 9223372036854775807 then (some ((((((t465 ++ (⟨#[32, 46, 46, 32]⟩ : ByteArray)) ++ t466) ++ (⟨#[32, 35, 32]⟩ : ByteArray)) ++ t467) ++ (⟨#[32, 46, 46, 32]⟩ : ByteArray)) ++ t468, 0)) else (none))) else (none)) else (none))) else (none)) else (none))) else (none)) = some (r1, r2) := H
     have A24 := Aside0.mk A240
     clear A240
     by_cases c25 : t465.size + 4 ≤ 9223372036854775807
     ·rw [if_pos c25] at H
      have c25b0 := eq_true c25
      have c25b1 : decide (t465.size + 4 ≤ 9223372036854775807) = true := decide_eq_true c25
      try have c25b2 : (9223372036854775807 < t465.size + 4) = False := eq_false (Nat.not_lt.2 c25)
      try have c25z0 : (9223372036854775807 < t465.size + (⟨#[32, 46, 46, 32]⟩ : ByteArray).size) = False := c25b2
      replace H := Option.bind_eq_some_iff.mp H
      obtain ⟨t466, A260, H⟩ := H
      replace H : (if (t465 ++ (⟨#[32, 46, 46, 32]⟩ : ByteArray)).size + t466.size ≤ 9223372036854775807 then (if ((t465 ++ (⟨#[32, 46, 46, 32]⟩ : ByteArray)) ++ t466).size + 3 ≤ 9223372036854775807 then ((family_digits.f kj4 a0_2).bind fun t467 => (if (((t465 ++ (⟨#[32, 46, 46, 32]⟩ : ByteArray)) ++ t466) ++ (⟨#[32, 35, 32]⟩ : ByteArray)).size + t467.size ≤ 9223372036854775807 then (if ((((t465 ++ (⟨#[32, 46, 46, 32]⟩ : ByteArray)) ++ t466) ++ (⟨#[32, 35, 32]⟩ : ByteArray)) ++ t467).size + 4 ≤ 9223372036854775807 then ((family_digits.f kj4 a0_3).bind fun t468 => (if (((((t465 ++ (⟨#[32, 46, 46, 32]⟩ : ByteArray)) ++ t466) ++ (⟨#[32, 35, 32]⟩ : ByteArray)) ++ t467) ++ (⟨#[32, 46, 46, 32]⟩ : ByteArray)).size + t468.size ≤ 9223372036854775807 then (some ((((((t465 ++ (⟨#[32, 46, 46, 32]⟩ : ByteArray)) ++ t466) ++ (⟨#[32, 35, 32]⟩ : ByteArray)) ++ t467) ++ (⟨#[32, 46, 46, 32]⟩ : ByteArray)) ++ t468, 0)) else (none))) else (none)) else (none))) else (none)) else (none)) = some (r1, r2) := H
      have A26 := Aside0.mk A260
      clear A260
      by_cases c27 : (t465 ++ (⟨#[32, 46, 46, 32]⟩ : ByteArray)).size + t466.size ≤ 9223372036854775807
      ·rw [if_pos c27] at H
       have c27b0 := eq_true c27
       have c27b1 : decide ((t465 ++ (⟨#[32, 46, 46, 32]⟩ : ByteArray)).size + t466.size ≤ 9223372036854775807) = true := decide_eq_true c27
       try have c27b2 : (9223372036854775807 < (t465 ++ (⟨#[32, 46, 46, 32]⟩ : ByteArray)).size + t466.size) = False := eq_false (Nat.not_lt.2 c27)
       try have c27y : (9223372036854775807 < t465.size + 4 + t466.size) = False := eq_false (by have h_ := c27; (try simp only [ByteArray.size_append, ByteArray.size_extract, show (⟨#[32, 46, 46, 32]⟩ : ByteArray).size = 4 from rfl] at h_); omega)
       by_cases c28 : ((t465 ++ (⟨#[32, 46, 46, 32]⟩ : ByteArray)) ++ t466).size + 3 ≤ 9223372036854775807
       ·rw [if_pos c28] at H
        have c28b0 := eq_true c28
        have c28b1 : decide (((t465 ++ (⟨#[32, 46, 46, 32]⟩ : ByteArray)) ++ t466).size + 3 ≤ 9223372036854775807) = true := decide_eq_true c28
        try have c28b2 : (9223372036854775807 < ((t465 ++ (⟨#[32, 46, 46, 32]⟩ : ByteArray)) ++ t466).size + 3) = False := eq_false (Nat.not_lt.2 c28)
        try have c28z0 : (9223372036854775807 < ((t465 ++ (⟨#[32, 46, 46, 32]⟩ : ByteArray)) ++ t466).size + (⟨#[32, 35, 32]⟩ : ByteArray).size) = False := c28b2
        try have c28y : (9223372036854775807 < t465.size + 4 + t466.size + 3) = False := eq_false (by have h_ := c28; (try simp only [ByteArray.size_append, ByteArray.size_extract, show (⟨#[32, 46, 46, 32]⟩ : ByteArray).size = 4 from rfl] at h_); omega)
        replace H := Option.bind_eq_some_iff.mp H
        obtain ⟨t467, A290, H⟩ := H
        replace H : (if (((t465 ++ (⟨#[32, 46, 46, 32]⟩ : ByteArray)) ++ t466) ++ (⟨#[32, 35, 32]⟩ : ByteArray)).size + t467.size ≤ 9223372036854775807 then (if ((((t465 ++ (⟨#[32, 46, 46, 32]⟩ : ByteArray)) ++ t466) ++ (⟨#[32, 35, 32]⟩ : ByteArray)) ++ t467).size + 4 ≤ 9223372036854775807 then ((family_digits.f kj4 a0_3).bind fun t468 => (if (((((t465 ++ (⟨#[32, 46, 46, 32]⟩ : ByteArray)) ++ t466) ++ (⟨#[32, 35, 32]⟩ : ByteArray)) ++ t467) ++ (⟨#[32, 46, 46, 32]⟩ : ByteArray)).size + t468.size ≤ 9223372036854775807 then (some ((((((t465 ++ (⟨#[32, 46, 46, 32]⟩ : ByteArray)) ++ t466) ++ (⟨#[32, 35, 32]⟩ : ByteArray)) ++ t467) ++ (⟨#[32, 46, 46, 32]⟩ : ByteArray)) ++ t468, 0)) else (none))) else (none)) else (none)) = some (r1, r2) := H
        have A29 := Aside0.mk A290
        clear A290
        by_cases c30 : (((t465 ++ (⟨#[32, 46, 46, 32]⟩ : ByteArray)) ++ t466) ++ (⟨#[32, 35, 32]⟩ : ByteArray)).size + t467.size ≤ 9223372036854775807
        ·rw [if_pos c30] at H
         have c30b0 := eq_true c30
         have c30b1 : decide ((((t465 ++ (⟨#[32, 46, 46, 32]⟩ : ByteArray)) ++ t466) ++ (⟨#[32, 35, 32]⟩ : ByteArray)).size + t467.size ≤ 9223372036854775807) = true := decide_eq_true c30
         try have c30b2 : (9223372036854775807 < (((t465 ++ (⟨#[32, 46, 46, 32]⟩ : ByteArray)) ++ t466) ++ (⟨#[32, 35, 32]⟩ : ByteArray)).size + t467.size) = False := eq_false (Nat.not_lt.2 c30)
         try have c30y : (9223372036854775807 < t465.size + 4 + t466.size + 3 + t467.size) = False := eq_false (by have h_ := c30; (try simp only [ByteArray.size_append, ByteArray.size_extract, show (⟨#[32, 35, 32]⟩ : ByteArray).size = 3 from rfl, show (⟨#[32, 46, 46, 32]⟩ : ByteArray).size = 4 from rfl] at h_); omega)
         by_cases c31 : ((((t465 ++ (⟨#[32, 46, 46, 32]⟩ : ByteArray)) ++ t466) ++ (⟨#[32, 35, 32]⟩ : ByteArray)) ++ t467).size + 4 ≤ 9223372036854775807
         ·rw [if_pos c31] at H
          have c31b0 := eq_true c31
          have c31b1 : decide (((((t465 ++ (⟨#[32, 46, 46, 32]⟩ : ByteArray)) ++ t466) ++ (⟨#[32, 35, 32]⟩ : ByteArray)) ++ t467).size + 4 ≤ 9223372036854775807) = true := decide_eq_true c31
          try have c31b2 : (9223372036854775807 < ((((t465 ++ (⟨#[32, 46, 46, 32]⟩ : ByteArray)) ++ t466) ++ (⟨#[32, 35, 32]⟩ : ByteArray)) ++ t467).size + 4) = False := eq_false (Nat.not_lt.2 c31)
          try have c31z0 : (9223372036854775807 < ((((t465 ++ (⟨#[32, 46, 46, 32]⟩ : ByteArray)) ++ t466) ++ (⟨#[32, 35, 32]⟩ : ByteArray)) ++ t467).size + (⟨#[32, 46, 46, 32]⟩ : ByteArray).size) = False := c31b2
          try have c31y : (9223372036854775807 < t465.size + 4 + t466.size + 3 + t467.size + 4) = False := eq_false (by have h_ := c31; (try simp only [ByteArray.size_append, ByteArray.size_extract, show (⟨#[32, 35, 32]⟩ : ByteArray).size = 3 from rfl, show (⟨#[32, 46, 46, 32]⟩ : ByteArray).size = 4 from rfl] at h_); omega)
          replace H := Option.bind_eq_some_iff.mp H
          obtain ⟨t468, A320, H⟩ := H
          replace H : (if (((((t465 ++ (⟨#[32, 46, 46, 32]⟩ : ByteArray)) ++ t466) ++ (⟨#[32, 35, 32]⟩ : ByteArray)) ++ t467) ++ (⟨#[32, 46, 46, 32]⟩ : ByteArray)).size + t468.size ≤ 9223372036854775807 then (some ((((((t465 ++ (⟨#[32, 46, 46, 32]⟩ : ByteArray)) ++ t466) ++ (⟨#[32, 35, 32]⟩ : ByteArray)) ++ t467) ++ (⟨#[32, 46, 46, 32]⟩ : ByteArray)) ++ t468, 0)) else (none)) = some (r1, r2) := H
          have A32 := Aside0.mk A320
          clear A320
          by_cases c33 : (((((t465 ++ (⟨#[32, 46, 46, 32]⟩ : ByteArray)) ++ t466) ++ (⟨#[32, 35, 32]⟩ : ByteArray)) ++ t467) ++ (⟨#[32, 46, 46, 32]⟩ : ByteArray)).size + t468.size ≤ 9223372036854775807
          ·rw [if_pos c33] at H
           have c33b0 := eq_true c33
           have c33b1 : decide ((((((t465 ++ (⟨#[32, 46, 46, 32]⟩ : ByteArray)) ++ t466) ++ (⟨#[32, 35, 32]⟩ : ByteArray)) ++ t467) ++ (⟨#[32, 46, 46, 32]⟩ : ByteArray)).size + t468.size ≤ 9223372036854775807) = true := decide_eq_true c33
           try have c33b2 : (9223372036854775807 < (((((t465 ++ (⟨#[32, 46, 46, 32]⟩ : ByteArray)) ++ t466) ++ (⟨#[32, 35, 32]⟩ : ByteArray)) ++ t467) ++ (⟨#[32, 46, 46, 32]⟩ : ByteArray)).size + t468.size) = False := eq_false (Nat.not_lt.2 c33)
           try have c33y : (9223372036854775807 < t465.size + 4 + t466.size + 3 + t467.size + 4 + t468.size) = False := eq_false (by have h_ := c33; (try simp only [ByteArray.size_append, ByteArray.size_extract, show (⟨#[32, 35, 32]⟩ : ByteArray).size = 3 from rfl, show (⟨#[32, 46, 46, 32]⟩ : ByteArray).size = 4 from rfl] at h_); omega)
           simp only [Option.some.injEq, Prod.mk.injEq] at H
           obtain ⟨rfl, rfl⟩ := H
           have hnb34 := NB452_458.out
           have hnc34 := NB458_452.out
           have hnb35 := NB452_464.out
           have hnc35 := NB464_452.out
           have hcz36_0 : wc.cell? ⟨gb452, 0, none⟩ = some (.slice A0_0 l0_0.length c0_0) := (blk_cell BK452.out 0).trans rfl
           have hcz36_1 : wc.cell? ⟨gb452, 1, none⟩ = some (.slice A0_1 l0_1.length c0_1) := (blk_cell BK452.out 1).trans rfl
           have hcz36_2 : wc.cell? ⟨gb452, 2, none⟩ = some (.int .i64 a0_2) := (blk_cell BK452.out 2).trans rfl
           have hcz36_3 : wc.cell? ⟨gb452, 3, none⟩ = some (.int .i64 a0_3) := (blk_cell BK452.out 3).trans rfl
           have hfz36_0 := blk_frozen BK452.out 0
           have hfz36_1 := blk_frozen BK452.out 1
           have hfz36_2 := blk_frozen BK452.out 2
           have hfz36_3 := blk_frozen BK452.out 3
           go_wp2_with (first | (go_at_call 51; (with_reducible refine (family_braces.calls kj4 _ _ l0_0 t465 _ ?side1 ?side2 A24.out).mono ?_); (case side1 => repeat (first | exact (Kd.C_below HR0_0.out HB.out) | (with_reducible refine Kd.C_alloc ?_ _) | (with_reducible refine Kd.C_drewN ?_ _) | (with_reducible refine Kd.C_drew ?_))); (case side2 => exact HC0_0.out); rintro e w' ⟨rfl, ⟨nd, rfl⟩⟩; (try first | exact ⟨rfl, _, World.drewN_drewN _ _ _⟩ | exact ⟨rfl, _, Eq.trans (World.drewN_drewN _ _ _) (congrArg (World.drewN _) (Nat.add_assoc _ _ _))⟩)) | (go_at_call 51; (with_reducible refine (family_braces.calls kj4 _ _ l0_1 t466 _ ?side1 ?side2 A26.out).mono ?_); (case side1 => repeat (first | exact (Kd.C_below HR0_1.out bSt_) | (with_reducible refine Kd.C_alloc ?_ _) | (with_reducible refine Kd.C_drewN ?_ _) | (with_reducible refine Kd.C_drew ?_))); (case side2 => exact HC0_1.out); rintro e w' ⟨rfl, ⟨nd, rfl⟩⟩; (try first | exact ⟨rfl, _, World.drewN_drewN _ _ _⟩ | exact ⟨rfl, _, Eq.trans (World.drewN_drewN _ _ _) (congrArg (World.drewN _) (Nat.add_assoc _ _ _))⟩)) | (go_at_call 52; (with_reducible refine (family_digits.calls kj4 a0_2 t467 _ A29.out).mono ?_); rintro e w' ⟨rfl, ⟨nd, rfl⟩⟩; (try first | exact ⟨rfl, _, World.drewN_drewN _ _ _⟩ | exact ⟨rfl, _, Eq.trans (World.drewN_drewN _ _ _) (congrArg (World.drewN _) (Nat.add_assoc _ _ _))⟩)) | (go_at_call 52; (with_reducible refine (family_digits.calls kj4 a0_3 t468 _ A32.out).mono ?_); rintro e w' ⟨rfl, ⟨nd, rfl⟩⟩; (try first | exact ⟨rfl, _, World.drewN_drewN _ _ _⟩ | exact ⟨rfl, _, Eq.trans (World.drewN_drewN _ _ _) (congrArg (World.drewN _) (Nat.add_assoc _ _ _))⟩)))
           repeat (go_quiet (first | (go_at_call 51; (with_reducible refine (family_braces.calls kj4 _ _ l0_0 t465 _ ?side1 ?side2 A24.out).mono ?_); (case side1 => repeat (first | exact (Kd.C_below HR0_0.out HB.out) | (with_reducible refine Kd.C_alloc ?_ _) | (with_reducible refine Kd.C_drewN ?_ _) | (with_reducible refine Kd.C_drew ?_))); (case side2 => exact HC0_0.out); rintro e w' ⟨rfl, ⟨nd, rfl⟩⟩; (try first | exact ⟨rfl, _, World.drewN_drewN _ _ _⟩ | exact ⟨rfl, _, Eq.trans (World.drewN_drewN _ _ _) (congrArg (World.drewN _) (Nat.add_assoc _ _ _))⟩)) | (go_at_call 51; (with_reducible refine (family_braces.calls kj4 _ _ l0_1 t466 _ ?side1 ?side2 A26.out).mono ?_); (case side1 => repeat (first | exact (Kd.C_below HR0_1.out bSt_) | (with_reducible refine Kd.C_alloc ?_ _) | (with_reducible refine Kd.C_drewN ?_ _) | (with_reducible refine Kd.C_drew ?_))); (case side2 => exact HC0_1.out); rintro e w' ⟨rfl, ⟨nd, rfl⟩⟩; (try first | exact ⟨rfl, _, World.drewN_drewN _ _ _⟩ | exact ⟨rfl, _, Eq.trans (World.drewN_drewN _ _ _) (congrArg (World.drewN _) (Nat.add_assoc _ _ _))⟩)) | (go_at_call 52; (with_reducible refine (family_digits.calls kj4 a0_2 t467 _ A29.out).mono ?_); rintro e w' ⟨rfl, ⟨nd, rfl⟩⟩; (try first | exact ⟨rfl, _, World.drewN_drewN _ _ _⟩ | exact ⟨rfl, _, Eq.trans (World.drewN_drewN _ _ _) (congrArg (World.drewN _) (Nat.add_assoc _ _ _))⟩)) | (go_at_call 52; (with_reducible refine (family_digits.calls kj4 a0_3 t468 _ A32.out).mono ?_); rintro e w' ⟨rfl, ⟨nd, rfl⟩⟩; (try first | exact ⟨rfl, _, World.drewN_drewN _ _ _⟩ | exact ⟨rfl, _, Eq.trans (World.drewN_drewN _ _ _) (congrArg (World.drewN _) (Nat.add_assoc _ _ _))⟩))); try go_wp2_with (first | (go_at_call 51; (with_reducible refine (family_braces.calls kj4 _ _ l0_0 t465 _ ?side1 ?side2 A24.out).mono ?_); (case side1 => repeat (first | exact (Kd.C_below HR0_0.out HB.out) | (with_reducible refine Kd.C_alloc ?_ _) | (with_reducible refine Kd.C_drewN ?_ _) | (with_reducible refine Kd.C_drew ?_))); (case side2 => exact HC0_0.out); rintro e w' ⟨rfl, ⟨nd, rfl⟩⟩; (try first | exact ⟨rfl, _, World.drewN_drewN _ _ _⟩ | exact ⟨rfl, _, Eq.trans (World.drewN_drewN _ _ _) (congrArg (World.drewN _) (Nat.add_assoc _ _ _))⟩)) | (go_at_call 51; (with_reducible refine (family_braces.calls kj4 _ _ l0_1 t466 _ ?side1 ?side2 A26.out).mono ?_); (case side1 => repeat (first | exact (Kd.C_below HR0_1.out bSt_) | (with_reducible refine Kd.C_alloc ?_ _) | (with_reducible refine Kd.C_drewN ?_ _) | (with_reducible refine Kd.C_drew ?_))); (case side2 => exact HC0_1.out); rintro e w' ⟨rfl, ⟨nd, rfl⟩⟩; (try first | exact ⟨rfl, _, World.drewN_drewN _ _ _⟩ | exact ⟨rfl, _, Eq.trans (World.drewN_drewN _ _ _) (congrArg (World.drewN _) (Nat.add_assoc _ _ _))⟩)) | (go_at_call 52; (with_reducible refine (family_digits.calls kj4 a0_2 t467 _ A29.out).mono ?_); rintro e w' ⟨rfl, ⟨nd, rfl⟩⟩; (try first | exact ⟨rfl, _, World.drewN_drewN _ _ _⟩ | exact ⟨rfl, _, Eq.trans (World.drewN_drewN _ _ _) (congrArg (World.drewN _) (Nat.add_assoc _ _ _))⟩)) | (go_at_call 52; (with_reducible refine (family_digits.calls kj4 a0_3 t468 _ A32.out).mono ?_); rintro e w' ⟨rfl, ⟨nd, rfl⟩⟩; (try first | exact ⟨rfl, _, World.drewN_drewN _ _ _⟩ | exact ⟨rfl, _, Eq.trans (World.drewN_drewN _ _ _) (congrArg (World.drewN _) (Nat.add_assoc _ _ _))⟩))))
           go_ret2
           exact ⟨by first | rfl | (simp [errW_none, errW_some] <;> rfl) | (simp [*, errW_none, errW_some] <;> rfl) | (simp [errW_none, errW_some]; exact Go.Proofs.YtgfbgfbnmiainaaW.OwnWords.isEmpty_bne _), bSt_⟩
          ·rw [if_neg c33] at H
           exact absurd H (by simp)
         ·rw [if_neg c31] at H
          exact absurd H (by simp)
        ·rw [if_neg c30] at H
         exact absurd H (by simp)
       ·rw [if_neg c28] at H
        exact absurd H (by simp)
      ·rw [if_neg c27] at H
       exact absurd H (by simp)
     ·rw [if_neg c25] at H
      exact absurd H (by simp)
 ·replace c3 := Bool.eq_false_iff.mpr c3
  subst c3
  have H1 : (some ((⟨#[]⟩ : ByteArray), 2)) = some (r1, r2) := by rw [if_neg (show ¬ (false = true) by decide)] at H; exact H
  clear H
  have H := H1
  clear H1
  simp only [Option.some.injEq, Prod.mk.injEq] at H
  obtain ⟨rfl, rfl⟩ := H
  go_enter Try.func30, Try.ntmps30
  go_wp2_with (first | ((with_reducible refine gate_dst (N := 1) rfl ?_); refine box_event ?hg (N := 1) ?hd (cs := #[.slice A0_0 l0_0.length c0_0, .slice A0_1 l0_1.length c0_1, .int .i64 a0_2, .int .i64 a0_3]) (t := 37) ?hr ?_; (case hd => rfl); (case hg => rfl); (case hr => first | (go_simp; done) | (go_simp; rfl)); intro gb452 hg w37 hbox hb; have n0_ := Aside0.mk (below_step bSt_ hb); have n1_ := Aside0.mk (hbox); have n2_ := Aside0.mk ((by rw [hg]; exact (below_size bSt_) : w.heap.size ≤ gb452)); have n3_ := Aside0.mk ((by rw [hg]; exact (below_size bSt_) : w.heap.size ≤ gb452)); clear HB; have HB := n0_; have BK452 := n1_; have GW452 := n2_; have GE452 := n3_; clear n0_ n1_ n2_ n3_; clear hb hbox hg; have hcz38_0 : w37.cell? ⟨gb452, 0, none⟩ = some (.slice A0_0 l0_0.length c0_0) := (blk_cell BK452.out 0).trans rfl; have hcz38_1 : w37.cell? ⟨gb452, 1, none⟩ = some (.slice A0_1 l0_1.length c0_1) := (blk_cell BK452.out 1).trans rfl; have hcz38_2 : w37.cell? ⟨gb452, 2, none⟩ = some (.int .i64 a0_2) := (blk_cell BK452.out 2).trans rfl; have hcz38_3 : w37.cell? ⟨gb452, 3, none⟩ = some (.int .i64 a0_3) := (blk_cell BK452.out 3).trans rfl; have hfz38_0 := blk_frozen BK452.out 0; have hfz38_1 := blk_frozen BK452.out 1; have hfz38_2 := blk_frozen BK452.out 2; have hfz38_3 := blk_frozen BK452.out 3) | (go_at_call 36; (with_reducible refine (family_open.calls k _ _ l0_0 _ _ l0_1 a0_2 a0_3 t453 t454 t455 t456 false _ ?side1 ?side2 ?side3 ?side4 A2.out).mono ?_); (case side1 => repeat (first | exact (Kd.C_below HR0_0.out HB.out) | (with_reducible refine Kd.C_alloc ?_ _) | (with_reducible refine Kd.C_drewN ?_ _) | (with_reducible refine Kd.C_drew ?_))); (case side2 => exact HC0_0.out); (case side3 => repeat (first | exact (Kd.C_below HR0_1.out HB.out) | (with_reducible refine Kd.C_alloc ?_ _) | (with_reducible refine Kd.C_drewN ?_ _) | (with_reducible refine Kd.C_drew ?_))); (case side4 => exact HC0_1.out); rintro e w39 ⟨rfl, hb⟩; have n0_ := Aside0.mk (blk_below (bKq_ BK452.out) hb); have n1_ := Aside0.mk (below_step bSt_ hb); clear BK452; clear HB; have BK452 := n0_; have HB := n1_; clear n0_ n1_; (try clear hb); (try clear hb2); (try clear hk); (try clear hi)) | ((with_reducible refine gate_dst (N := 4) rfl ?_); refine box_event ?hg (N := 4) ?hd (cs := #[.int .u64 0, .int .u64 0, .int .i64 0, .int .i64 0]) (t := 59) ?hr ?_; (case hd => rfl); (case hg => rfl); (case hr => first | (go_simp; done) | (go_simp; rfl)); intro gb458 hg w40 hbox hb; have n0_ := Aside0.mk (blk_below (bKq_ BK452.out) hb); have n1_ := Aside0.mk (below_step bSt_ hb); have n2_ := Aside0.mk (hbox); have n3_ := Aside0.mk ((by rw [hg]; exact (below_size bSt_) : w.heap.size ≤ gb458)); have n4_ := Aside0.mk ((by rw [hg]; exact (below_size bSt_) : w.heap.size ≤ gb458)); have n5_ := Aside0.mk ((by rw [hg]; exact Nat.ne_of_lt (blk_lt (bKq_ BK452.out)) : gb452 ≠ gb458)); have n6_ := Aside0.mk ((by rw [hg]; exact Nat.ne_of_gt (blk_lt (bKq_ BK452.out)) : gb458 ≠ gb452)); clear BK452; clear HB; have BK452 := n0_; have HB := n1_; have BK458 := n2_; have GW458 := n3_; have GE458 := n4_; have NB452_458 := n5_; have NB458_452 := n6_; clear n0_ n1_ n2_ n3_ n4_ n5_ n6_; clear hb hbox hg; have hnb41 := NB458_452.out; have hnc41 := NB452_458.out; have hcz42_0 : w40.cell? ⟨gb458, 0, none⟩ = some (.int .u64 0) := (blk_cell BK458.out 0).trans rfl; have hcz42_1 : w40.cell? ⟨gb458, 1, none⟩ = some (.int .u64 0) := (blk_cell BK458.out 1).trans rfl; have hcz42_2 : w40.cell? ⟨gb458, 2, none⟩ = some (.int .i64 0) := (blk_cell BK458.out 2).trans rfl; have hcz42_3 : w40.cell? ⟨gb458, 3, none⟩ = some (.int .i64 0) := (blk_cell BK458.out 3).trans rfl; have hfz42_0 := blk_frozen BK458.out 0; have hfz42_1 := blk_frozen BK458.out 1; have hfz42_2 := blk_frozen BK458.out 2; have hfz42_3 := blk_frozen BK458.out 3))
  repeat (go_quiet (first | ((with_reducible refine gate_dst (N := 1) rfl ?_); refine box_event ?hg (N := 1) ?hd (cs := #[.slice A0_0 l0_0.length c0_0, .slice A0_1 l0_1.length c0_1, .int .i64 a0_2, .int .i64 a0_3]) (t := 37) ?hr ?_; (case hd => rfl); (case hg => rfl); (case hr => first | (go_simp; done) | (go_simp; rfl)); intro gb452 hg w37 hbox hb; have n0_ := Aside0.mk (below_step bSt_ hb); have n1_ := Aside0.mk (hbox); have n2_ := Aside0.mk ((by rw [hg]; exact (below_size bSt_) : w.heap.size ≤ gb452)); have n3_ := Aside0.mk ((by rw [hg]; exact (below_size bSt_) : w.heap.size ≤ gb452)); clear HB; have HB := n0_; have BK452 := n1_; have GW452 := n2_; have GE452 := n3_; clear n0_ n1_ n2_ n3_; clear hb hbox hg; have hcz38_0 : w37.cell? ⟨gb452, 0, none⟩ = some (.slice A0_0 l0_0.length c0_0) := (blk_cell BK452.out 0).trans rfl; have hcz38_1 : w37.cell? ⟨gb452, 1, none⟩ = some (.slice A0_1 l0_1.length c0_1) := (blk_cell BK452.out 1).trans rfl; have hcz38_2 : w37.cell? ⟨gb452, 2, none⟩ = some (.int .i64 a0_2) := (blk_cell BK452.out 2).trans rfl; have hcz38_3 : w37.cell? ⟨gb452, 3, none⟩ = some (.int .i64 a0_3) := (blk_cell BK452.out 3).trans rfl; have hfz38_0 := blk_frozen BK452.out 0; have hfz38_1 := blk_frozen BK452.out 1; have hfz38_2 := blk_frozen BK452.out 2; have hfz38_3 := blk_frozen BK452.out 3) | (go_at_call 36; (with_reducible refine (family_open.calls k _ _ l0_0 _ _ l0_1 a0_2 a0_3 t453 t454 t455 t456 false _ ?side1 ?side2 ?side3 ?side4 A2.out).mono ?_); (case side1 => repeat (first | exact (Kd.C_below HR0_0.out HB.out) | (with_reducible refine Kd.C_alloc ?_ _) | (with_reducible refine Kd.C_drewN ?_ _) | (with_reducible refine Kd.C_drew ?_))); (case side2 => exact HC0_0.out); (case side3 => repeat (first | exact (Kd.C_below HR0_1.out HB.out) | (with_reducible refine Kd.C_alloc ?_ _) | (with_reducible refine Kd.C_drewN ?_ _) | (with_reducible refine Kd.C_drew ?_))); (case side4 => exact HC0_1.out); rintro e w39 ⟨rfl, hb⟩; have n0_ := Aside0.mk (blk_below (bKq_ BK452.out) hb); have n1_ := Aside0.mk (below_step bSt_ hb); clear BK452; clear HB; have BK452 := n0_; have HB := n1_; clear n0_ n1_; (try clear hb); (try clear hb2); (try clear hk); (try clear hi)) | ((with_reducible refine gate_dst (N := 4) rfl ?_); refine box_event ?hg (N := 4) ?hd (cs := #[.int .u64 0, .int .u64 0, .int .i64 0, .int .i64 0]) (t := 59) ?hr ?_; (case hd => rfl); (case hg => rfl); (case hr => first | (go_simp; done) | (go_simp; rfl)); intro gb458 hg w40 hbox hb; have n0_ := Aside0.mk (blk_below (bKq_ BK452.out) hb); have n1_ := Aside0.mk (below_step bSt_ hb); have n2_ := Aside0.mk (hbox); have n3_ := Aside0.mk ((by rw [hg]; exact (below_size bSt_) : w.heap.size ≤ gb458)); have n4_ := Aside0.mk ((by rw [hg]; exact (below_size bSt_) : w.heap.size ≤ gb458)); have n5_ := Aside0.mk ((by rw [hg]; exact Nat.ne_of_lt (blk_lt (bKq_ BK452.out)) : gb452 ≠ gb458)); have n6_ := Aside0.mk ((by rw [hg]; exact Nat.ne_of_gt (blk_lt (bKq_ BK452.out)) : gb458 ≠ gb452)); clear BK452; clear HB; have BK452 := n0_; have HB := n1_; have BK458 := n2_; have GW458 := n3_; have GE458 := n4_; have NB452_458 := n5_; have NB458_452 := n6_; clear n0_ n1_ n2_ n3_ n4_ n5_ n6_; clear hb hbox hg; have hnb41 := NB458_452.out; have hnc41 := NB452_458.out; have hcz42_0 : w40.cell? ⟨gb458, 0, none⟩ = some (.int .u64 0) := (blk_cell BK458.out 0).trans rfl; have hcz42_1 : w40.cell? ⟨gb458, 1, none⟩ = some (.int .u64 0) := (blk_cell BK458.out 1).trans rfl; have hcz42_2 : w40.cell? ⟨gb458, 2, none⟩ = some (.int .i64 0) := (blk_cell BK458.out 2).trans rfl; have hcz42_3 : w40.cell? ⟨gb458, 3, none⟩ = some (.int .i64 0) := (blk_cell BK458.out 3).trans rfl; have hfz42_0 := blk_frozen BK458.out 0; have hfz42_1 := blk_frozen BK458.out 1; have hfz42_2 := blk_frozen BK458.out 2; have hfz42_3 := blk_frozen BK458.out 3)); try go_wp2_with (first | ((with_reducible refine gate_dst (N := 1) rfl ?_); refine box_event ?hg (N := 1) ?hd (cs := #[.slice A0_0 l0_0.length c0_0, .slice A0_1 l0_1.length c0_1, .int .i64 a0_2, .int .i64 a0_3]) (t := 37) ?hr ?_; (case hd => rfl); (case hg => rfl); (case hr => first | (go_simp; done) | (go_simp; rfl)); intro gb452 hg w37 hbox hb; have n0_ := Aside0.mk (below_step bSt_ hb); have n1_ := Aside0.mk (hbox); have n2_ := Aside0.mk ((by rw [hg]; exact (below_size bSt_) : w.heap.size ≤ gb452)); have n3_ := Aside0.mk ((by rw [hg]; exact (below_size bSt_) : w.heap.size ≤ gb452)); clear HB; have HB := n0_; have BK452 := n1_; have GW452 := n2_; have GE452 := n3_; clear n0_ n1_ n2_ n3_; clear hb hbox hg; have hcz38_0 : w37.cell? ⟨gb452, 0, none⟩ = some (.slice A0_0 l0_0.length c0_0) := (blk_cell BK452.out 0).trans rfl; have hcz38_1 : w37.cell? ⟨gb452, 1, none⟩ = some (.slice A0_1 l0_1.length c0_1) := (blk_cell BK452.out 1).trans rfl; have hcz38_2 : w37.cell? ⟨gb452, 2, none⟩ = some (.int .i64 a0_2) := (blk_cell BK452.out 2).trans rfl; have hcz38_3 : w37.cell? ⟨gb452, 3, none⟩ = some (.int .i64 a0_3) := (blk_cell BK452.out 3).trans rfl; have hfz38_0 := blk_frozen BK452.out 0; have hfz38_1 := blk_frozen BK452.out 1; have hfz38_2 := blk_frozen BK452.out 2; have hfz38_3 := blk_frozen BK452.out 3) | (go_at_call 36; (with_reducible refine (family_open.calls k _ _ l0_0 _ _ l0_1 a0_2 a0_3 t453 t454 t455 t456 false _ ?side1 ?side2 ?side3 ?side4 A2.out).mono ?_); (case side1 => repeat (first | exact (Kd.C_below HR0_0.out HB.out) | (with_reducible refine Kd.C_alloc ?_ _) | (with_reducible refine Kd.C_drewN ?_ _) | (with_reducible refine Kd.C_drew ?_))); (case side2 => exact HC0_0.out); (case side3 => repeat (first | exact (Kd.C_below HR0_1.out HB.out) | (with_reducible refine Kd.C_alloc ?_ _) | (with_reducible refine Kd.C_drewN ?_ _) | (with_reducible refine Kd.C_drew ?_))); (case side4 => exact HC0_1.out); rintro e w39 ⟨rfl, hb⟩; have n0_ := Aside0.mk (blk_below (bKq_ BK452.out) hb); have n1_ := Aside0.mk (below_step bSt_ hb); clear BK452; clear HB; have BK452 := n0_; have HB := n1_; clear n0_ n1_; (try clear hb); (try clear hb2); (try clear hk); (try clear hi)) | ((with_reducible refine gate_dst (N := 4) rfl ?_); refine box_event ?hg (N := 4) ?hd (cs := #[.int .u64 0, .int .u64 0, .int .i64 0, .int .i64 0]) (t := 59) ?hr ?_; (case hd => rfl); (case hg => rfl); (case hr => first | (go_simp; done) | (go_simp; rfl)); intro gb458 hg w40 hbox hb; have n0_ := Aside0.mk (blk_below (bKq_ BK452.out) hb); have n1_ := Aside0.mk (below_step bSt_ hb); have n2_ := Aside0.mk (hbox); have n3_ := Aside0.mk ((by rw [hg]; exact (below_size bSt_) : w.heap.size ≤ gb458)); have n4_ := Aside0.mk ((by rw [hg]; exact (below_size bSt_) : w.heap.size ≤ gb458)); have n5_ := Aside0.mk ((by rw [hg]; exact Nat.ne_of_lt (blk_lt (bKq_ BK452.out)) : gb452 ≠ gb458)); have n6_ := Aside0.mk ((by rw [hg]; exact Nat.ne_of_gt (blk_lt (bKq_ BK452.out)) : gb458 ≠ gb452)); clear BK452; clear HB; have BK452 := n0_; have HB := n1_; have BK458 := n2_; have GW458 := n3_; have GE458 := n4_; have NB452_458 := n5_; have NB458_452 := n6_; clear n0_ n1_ n2_ n3_ n4_ n5_ n6_; clear hb hbox hg; have hnb41 := NB458_452.out; have hnc41 := NB452_458.out; have hcz42_0 : w40.cell? ⟨gb458, 0, none⟩ = some (.int .u64 0) := (blk_cell BK458.out 0).trans rfl; have hcz42_1 : w40.cell? ⟨gb458, 1, none⟩ = some (.int .u64 0) := (blk_cell BK458.out 1).trans rfl; have hcz42_2 : w40.cell? ⟨gb458, 2, none⟩ = some (.int .i64 0) := (blk_cell BK458.out 2).trans rfl; have hcz42_3 : w40.cell? ⟨gb458, 3, none⟩ = some (.int .i64 0) := (blk_cell BK458.out 3).trans rfl; have hfz42_0 := blk_frozen BK458.out 0; have hfz42_1 := blk_frozen BK458.out 1; have hfz42_2 := blk_frozen BK458.out 2; have hfz42_3 := blk_frozen BK458.out 3)))
  go_ret2
  exact ⟨by first | rfl | (simp [errW_none, errW_some] <;> rfl) | (simp [*, errW_none, errW_some] <;> rfl) | (simp [errW_none, errW_some]; exact Go.Proofs.YtgfbgfbnmiainaaW.OwnWords.isEmpty_bne _), bSt_⟩

end Go.Proofs.Ytgfbgfbnmiainaa.Q
end
section
namespace Go.Proofs.Ytgfbgfbnmiainaa.Q
open Go.RowKit Go.Proofs.YtgfbgfbnmiainaaW.PrintWords Go.Proofs.YtgfbgfbnmiainaaW.PrintLast Go.Proofs.YtgfbgfbnmiainaaW.PrintMore Go.Proofs.YtgfbgfbnmiainaaW.OwnWords
attribute [local go_sem] Go.Proofs.YtgfbgfbnmiainaaW.OwnWords.isSome_setCell max2_int min2_int max_two min_two max_three min_three max_four min_four
set_option linter.unusedVariables false
set_option linter.unusedSimpArgs false

/-! ### manystrandref07_Text: function 31 -/
def manystrandref07_Text.j0 : Nat → Bool → List Int → List Int → Int → Int → Option (ByteArray × Int)
 | 0, _, _, _, _, _ => none
 | k + 1, x18, x480000, x480001, x480002, x480003 => if x18 = true then (some ((⟨#[]⟩ : ByteArray), 2)) else ((manystrandref07_braces.f k x480000).bind fun t491 => (if t491.size + 4 ≤ 9223372036854775807 then ((manystrandref07_braces.f k x480001).bind fun t492 => (if (t491 ++ (⟨#[32, 46, 46, 32]⟩ : ByteArray)).size + t492.size ≤ 9223372036854775807 then (if ((t491 ++ (⟨#[32, 46, 46, 32]⟩ : ByteArray)) ++ t492).size + 3 ≤ 9223372036854775807 then ((manystrandref02_Decimal.f k x480002).bind fun t493 => (if (((t491 ++ (⟨#[32, 46, 46, 32]⟩ : ByteArray)) ++ t492) ++ (⟨#[32, 35, 32]⟩ : ByteArray)).size + t493.size ≤ 9223372036854775807 then (if ((((t491 ++ (⟨#[32, 46, 46, 32]⟩ : ByteArray)) ++ t492) ++ (⟨#[32, 35, 32]⟩ : ByteArray)) ++ t493).size + 4 ≤ 9223372036854775807 then ((manystrandref02_Decimal.f k x480003).bind fun t494 => (if (((((t491 ++ (⟨#[32, 46, 46, 32]⟩ : ByteArray)) ++ t492) ++ (⟨#[32, 35, 32]⟩ : ByteArray)) ++ t493) ++ (⟨#[32, 46, 46, 32]⟩ : ByteArray)).size + t494.size ≤ 9223372036854775807 then (some ((((((t491 ++ (⟨#[32, 46, 46, 32]⟩ : ByteArray)) ++ t492) ++ (⟨#[32, 35, 32]⟩ : ByteArray)) ++ t493) ++ (⟨#[32, 46, 46, 32]⟩ : ByteArray)) ++ t494, 0)) else (none))) else (none)) else (none))) else (none)) else (none))) else (none)))
def manystrandref07_Text.f (k : Nat) (l0_0 : List Int) (l0_1 : List Int) (a0_2 : Int) (a0_3 : Int) : Option (ByteArray × Int) := (manystrandref07_Normal.f k l0_0 l0_1 a0_2 a0_3).bind fun bt480 => (if bt480.2.2.2.2 = 0 then ((manystrandref07_Same.f k bt480.1 bt480.2.1 bt480.2.2.1 bt480.2.2.2.1 l0_0 l0_1 a0_2 a0_3).bind fun t490 => (manystrandref07_Text.j0 k (!t490) l0_0 l0_1 a0_2 a0_3)) else (manystrandref07_Text.j0 k true l0_0 l0_1 a0_2 a0_3))
theorem manystrandref07_Text.mono_l : ∀ k, (∀ y0 y1 y2 y3 y4, LeO (manystrandref07_Text.j0 k y0 y1 y2 y3 y4) (manystrandref07_Text.j0 (k + 1) y0 y1 y2 y3 y4))
 | 0 => fun _ _ _ _ _ r h => by simp [manystrandref07_Text.j0] at h
 | k + 1 => by
  have ih0 := manystrandref07_Text.mono_l k
  ·intro y0 y1 y2 y3 y4
   unfold manystrandref07_Text.j0
   repeat' first
   | (with_reducible exact ih0 _ _ _ _ _)
   | (with_reducible exact manystrandref02_Decimal.mono _ _)
   | (with_reducible exact manystrandref07_Normal.mono _ _ _ _ _)
   | (with_reducible exact manystrandref07_Same.mono _ _ _ _ _ _ _ _ _)
   | (with_reducible exact manystrandref07_braces.mono _ _)
   | (with_reducible exact LeO.refl _)
   | (with_reducible exact LeO.none _)
   | (with_reducible refine LeO.ite ?_ ?_)
   | (with_reducible refine LeO.bind ?_ (fun _ => ?_))
   | exact ih0 _ _ _ _ _
   | exact manystrandref02_Decimal.mono _ _
   | exact manystrandref07_Normal.mono _ _ _ _ _
   | exact manystrandref07_Same.mono _ _ _ _ _ _ _ _ _
   | exact manystrandref07_braces.mono _ _
   | exact LeO.none _
   | refine LeO.ite ?_ ?_
   | refine LeO.bind ?_ (fun _ => ?_)
theorem manystrandref07_Text.mono : ∀ a0 a1 a2 a3 k, LeO (manystrandref07_Text.f k a0 a1 a2 a3) (manystrandref07_Text.f (k + 1) a0 a1 a2 a3) := by
 intro a0 a1 a2 a3 k
 have ih0 := manystrandref07_Text.mono_l k
 unfold manystrandref07_Text.f
 repeat' first
   | (with_reducible exact ih0 _ _ _ _ _)
   | (with_reducible exact manystrandref02_Decimal.mono _ _)
   | (with_reducible exact manystrandref07_Normal.mono _ _ _ _ _)
   | (with_reducible exact manystrandref07_Same.mono _ _ _ _ _ _ _ _ _)
   | (with_reducible exact manystrandref07_braces.mono _ _)
   | (with_reducible exact LeO.refl _)
   | (with_reducible exact LeO.none _)
   | (with_reducible refine LeO.ite ?_ ?_)
   | (with_reducible refine LeO.bind ?_ (fun _ => ?_))
   | exact ih0 _ _ _ _ _
   | exact manystrandref02_Decimal.mono _ _
   | exact manystrandref07_Normal.mono _ _ _ _ _
   | exact manystrandref07_Same.mono _ _ _ _ _ _ _ _ _
   | exact manystrandref07_braces.mono _ _
   | exact LeO.none _
   | refine LeO.ite ?_ ?_
   | refine LeO.bind ?_ (fun _ => ?_)
def manystrandref07_Text.T4 : Bool × List (List Nat × List Nat) := (true, [([], []), ([0], [0]), ([1], [1]), ([2], [2]), ([], []), ([4], [4]), ([5, 2], [5]), ([3, 6], [3, 6]), ([7], [7]), ([], []), ([9], [9]), ([10, 6], [10]), ([8, 11], [8, 11]), ([12], [12]), ([], []), ([14], [14]), ([15, 11], [15]), ([13, 16], [13, 16]), ([17, 16, 0, 1, 2, 3, 4, 5, 6, 7, 8, 9, 10, 11, 12, 13, 14, 15, 16, 17], [17]), ([18, 0, 1, 2, 3, 4, 5, 6, 7, 8, 9, 10, 11, 12, 13, 14, 15, 16, 17, 18], [])])
def manystrandref07_Text.B4 : List Nat := [0, 1, 3, 7, 0, 16, 55, 127, 255, 0, 512, 1655, 4095, 8191, 0, 16384, 52855, 131071, 262143, 524287]
theorem manystrandref07_Text.tab4 : rtab .any (opsOf Try.f31 4) = manystrandref07_Text.T4 := by kernel_rfl
theorem manystrandref07_Text.bits4 : waitsOk manystrandref07_Text.T4.2 manystrandref07_Text.B4 = true := by kernel_rfl
set_option maxHeartbeats 8000000 in
set_option maxRecDepth 100000 in
theorem manystrandref07_Text.calls (k : Nat) (A0_0 : Option Addr) (c0_0 : Nat) (l0_0 : List Int) (A0_1 : Option Addr) (c0_1 : Nat) (l0_1 : List Int) (a0_2 : Int) (a0_3 : Int) (r1 : ByteArray) (r2 : Int) (w : World) (hr0_0 : Kd.C (Kd.int .i64) w A0_0 l0_0.length l0_0) (hc0_0 : l0_0.length ≤ c0_0) (hr0_1 : Kd.C (Kd.int .i64) w A0_1 l0_1.length l0_1) (hc0_1 : l0_1.length ≤ c0_1) (h : manystrandref07_Text.f k l0_0 l0_1 a0_2 a0_3 = some (r1, r2)) :
  Calls Try.prog 31 #[.agg #[.slice A0_0 l0_0.length c0_0, .slice A0_1 l0_1.length c0_1, .int .i64 a0_2, .int .i64 a0_3]] w fun e w' => e = .returned (.tuple #[.string r1, .int .i64 r2]) ∧ Below w.heap.size w w' := by
 have hu37 := Try.underlying37
 have HR0_0 := Aside0.mk hr0_0
 have HC0_0 := Aside0.mk hc0_0
 clear hr0_0 hc0_0
 have HR0_1 := Aside0.mk hr0_1
 have HC0_1 := Aside0.mk hc0_1
 clear hr0_1 hc0_1
 have HB := Aside0.mk (Below.refl w.heap.size w)
 have H : ((manystrandref07_Normal.f k l0_0 l0_1 a0_2 a0_3).bind fun bt480 => (if bt480.2.2.2.2 = 0 then ((manystrandref07_Same.f k bt480.1 bt480.2.1 bt480.2.2.1 bt480.2.2.2.1 l0_0 l0_1 a0_2 a0_3).bind fun t490 => (manystrandref07_Text.j0 k (!t490) l0_0 l0_1 a0_2 a0_3)) else (manystrandref07_Text.j0 k true l0_0 l0_1 a0_2 a0_3))) = some (r1, r2) := h
 clear h
 replace H := Option.bind_eq_some_iff.mp H
 obtain ⟨⟨t480, t483, t486, t487, t488⟩, A20, H⟩ := H
 replace H : (if t488 = 0 then ((manystrandref07_Same.f k t480 t483 t486 t487 l0_0 l0_1 a0_2 a0_3).bind fun t490 => (manystrandref07_Text.j0 k (!t490) l0_0 l0_1 a0_2 a0_3)) else (manystrandref07_Text.j0 k true l0_0 l0_1 a0_2 a0_3)) = some (r1, r2) := H
 have A2 := Aside0.mk A20
 clear A20
 have HC3 := Aside0.mk H
 clear H
 go_enter Try.func31, Try.ntmps31
 go_upto_region 2 with (first | ((with_reducible refine gate_dst (N := 1) rfl ?_); refine box_event ?hg (N := 1) ?hd (cs := #[.slice A0_0 l0_0.length c0_0, .slice A0_1 l0_1.length c0_1, .int .i64 a0_2, .int .i64 a0_3]) (t := 37) ?hr ?_; (case hd => rfl); (case hg => rfl); (case hr => first | (go_simp; done) | (go_simp; rfl)); intro gb479 hg w4 hbox hb; have n0_ := Aside0.mk (below_step bSt_ hb); have n1_ := Aside0.mk (hbox); have n2_ := Aside0.mk ((by rw [hg]; exact (below_size bSt_) : w.heap.size ≤ gb479)); have n3_ := Aside0.mk ((by rw [hg]; exact (below_size bSt_) : w.heap.size ≤ gb479)); clear HB; have HB := n0_; have BK479 := n1_; have GW479 := n2_; have GE479 := n3_; clear n0_ n1_ n2_ n3_; clear hb hbox hg; have hcz5_0 : w4.cell? ⟨gb479, 0, none⟩ = some (.slice A0_0 l0_0.length c0_0) := (blk_cell BK479.out 0).trans rfl; have hcz5_1 : w4.cell? ⟨gb479, 1, none⟩ = some (.slice A0_1 l0_1.length c0_1) := (blk_cell BK479.out 1).trans rfl; have hcz5_2 : w4.cell? ⟨gb479, 2, none⟩ = some (.int .i64 a0_2) := (blk_cell BK479.out 2).trans rfl; have hcz5_3 : w4.cell? ⟨gb479, 3, none⟩ = some (.int .i64 a0_3) := (blk_cell BK479.out 3).trans rfl; have hfz5_0 := blk_frozen BK479.out 0; have hfz5_1 := blk_frozen BK479.out 1; have hfz5_2 := blk_frozen BK479.out 2; have hfz5_3 := blk_frozen BK479.out 3) | ((with_reducible refine gate_callee (f := 17) rfl ?_); refine goesL_ (some 8) rfl rfl Try.func17 (by kernel_rfl) rfl #[.agg #[.slice A0_0 l0_0.length c0_0, .slice A0_1 l0_1.length c0_1, .int .i64 a0_2, .int .i64 a0_3]] rfl (by (try simp only [List.map_toArray, List.map_cons, List.map_nil]); first | done | rfl | (simp only [List.length_drop, List.length_take]; rfl)) ?_; (with_reducible refine (manystrandref07_Normal.calls k _ _ l0_0 _ _ l0_1 a0_2 a0_3 t480 t483 t486 t487 t488 _ ?side1 ?side2 ?side3 ?side4 A2.out).mono ?_); (case side1 => repeat (first | exact (Kd.C_below HR0_0.out HB.out) | (with_reducible refine Kd.C_alloc ?_ _) | (with_reducible refine Kd.C_drewN ?_ _) | (with_reducible refine Kd.C_drew ?_))); (case side2 => exact HC0_0.out); (case side3 => repeat (first | exact (Kd.C_below HR0_1.out HB.out) | (with_reducible refine Kd.C_alloc ?_ _) | (with_reducible refine Kd.C_drewN ?_ _) | (with_reducible refine Kd.C_drew ?_))); (case side4 => exact HC0_1.out); rintro e w6 ⟨v481, v484, rfl, ho0, ho1, hb⟩; refine ⟨_, rfl, ?_⟩; have n0_ := Aside0.mk (Kd.R_lower ho0 (below_size bSt_)); have n1_ := Aside0.mk (Kd.R_lower ho1 (below_size bSt_)); have n2_ := Aside0.mk (blk_below (bKq_ BK479.out) hb); have n3_ := Aside0.mk (below_step bSt_ hb); clear BK479; clear HB; have HO482 := n0_; have HO485 := n1_; have BK479 := n2_; have HB := n3_; clear n0_ n1_ n2_ n3_; (try clear hb); (try clear hb2); (try clear hk); (try clear hi); (try clear ho0); (try clear ho1)) | ((with_reducible refine gate_dst (N := 4) rfl ?_); refine box_event ?hg (N := 4) ?hd (cs := #[.slice none 0 0, .slice none 0 0, .int .i64 0, .int .i64 0]) (t := 37) ?hr ?_; (case hd => rfl); (case hg => rfl); (case hr => first | (go_simp; done) | (go_simp; rfl)); intro gb489 hg w7 hbox hb; have n0_ := Aside0.mk (Kd.R_below (by (with_reducible repeat (first | apply Kd.R_alloc | apply Kd.R_drewN | apply Kd.R_drew)); exact HO482.out) hb); have n1_ := Aside0.mk (Kd.R_below (by (with_reducible repeat (first | apply Kd.R_alloc | apply Kd.R_drewN | apply Kd.R_drew)); exact HO485.out) hb); have n2_ := Aside0.mk (blk_below (bKq_ BK479.out) hb); have n3_ := Aside0.mk (below_step bSt_ hb); have n4_ := Aside0.mk (hbox); have n5_ := Aside0.mk ((by rw [hg]; exact (below_size bSt_) : w.heap.size ≤ gb489)); have n6_ := Aside0.mk ((by rw [hg]; exact (below_size bSt_) : w.heap.size ≤ gb489)); have n7_ := Aside0.mk ((by rw [hg]; exact Nat.ne_of_lt (blk_lt (bKq_ BK479.out)) : gb479 ≠ gb489)); have n8_ := Aside0.mk ((by rw [hg]; exact Nat.ne_of_gt (blk_lt (bKq_ BK479.out)) : gb489 ≠ gb479)); clear HO482; clear HO485; clear BK479; clear HB; have HO482 := n0_; have HO485 := n1_; have BK479 := n2_; have HB := n3_; have BK489 := n4_; have GW489 := n5_; have GE489 := n6_; have NB479_489 := n7_; have NB489_479 := n8_; clear n0_ n1_ n2_ n3_ n4_ n5_ n6_ n7_ n8_; clear hb hbox hg; obtain ⟨Ao8, co8, eo8⟩ := Kd.R_slice HO482.out; subst eo8; have hnb9 := NB489_479.out; have hnc9 := NB479_489.out; have hcz10_0 : w7.cell? ⟨gb489, 0, none⟩ = some (.slice none 0 0) := (blk_cell BK489.out 0).trans rfl; have hcz10_1 : w7.cell? ⟨gb489, 1, none⟩ = some (.slice none 0 0) := (blk_cell BK489.out 1).trans rfl; have hcz10_2 : w7.cell? ⟨gb489, 2, none⟩ = some (.int .i64 0) := (blk_cell BK489.out 2).trans rfl; have hcz10_3 : w7.cell? ⟨gb489, 3, none⟩ = some (.int .i64 0) := (blk_cell BK489.out 3).trans rfl; have hfz10_0 := blk_frozen BK489.out 0; have hfz10_1 := blk_frozen BK489.out 1; have hfz10_2 := blk_frozen BK489.out 2; have hfz10_3 := blk_frozen BK489.out 3; obtain ⟨Ao11, co11, eo11⟩ := Kd.R_slice HO485.out; subst eo11))
 (try simp only [Act.put, List.setIfInBounds_toArray, List.set_cons_zero, List.set_cons_succ])
 go_cut [18] (fun v18 wc => ∃ (kq : Nat) (x18_2 : Bool), v18 = .bool x18_2 ∧ Aside0 (manystrandref07_Text.j0 kq x18_2 l0_0 l0_1 a0_2 a0_3 = some (r1, r2)) ∧ Aside0 (kq ≤ k) ∧ Aside0 (Kd.R (Kd.int .i64) 3 wc w.heap.size (fun k_ => some k_ ≠ ((.slice Ao11 t483.length co11) : Value).ownBlock) (.slice Ao8 t480.length co8) t480) ∧ Aside0 (Kd.R (Kd.int .i64) 3 wc w.heap.size (fun k_ => some k_ ≠ ((.slice Ao8 t480.length co8) : Value).ownBlock) (.slice Ao11 t483.length co11) t483) ∧ Aside0 (wc.heap[gb479]? = some (.cells #[(.slice A0_0 l0_0.length c0_0), (.slice A0_1 l0_1.length c0_1), .int .i64 a0_2, .int .i64 a0_3] 37 (0, 0))) ∧ Aside0 (wc.heap[gb489]? = some (.cells #[(.slice Ao8 t480.length co8), (.slice Ao11 t483.length co11), .int .i64 t486, .int .i64 t487] 37 (0, 0))) ∧ Aside0 (Below w.heap.size w wc))
 case first =>
  have H := HC3.out
  clear HC3
  by_cases c12 : t488 = 0
  ·rw [if_pos c12] at H
   have c12b0 : (t488 == 0) = true := beq_iff_eq.mpr c12
   have c12b1 : (t488 != 0) = false := bne_eq_false_iff_eq.mpr c12
   clear c12
   (first | rw [c12b0] | (simp only [i64_w, i32_w]; rw [c12b0]) | skip)
   replace H := Option.bind_eq_some_iff.mp H
   obtain ⟨t490, A130, H⟩ := H
   replace H : (manystrandref07_Text.j0 k (!t490) l0_0 l0_1 a0_2 a0_3) = some (r1, r2) := H
   have A13 := Aside0.mk A130
   clear A130
   have H' := Aside0.mk H
   clear H
   have hnb14 := NB489_479.out
   have hnc14 := NB479_489.out
   have hcz15_0 : w7.cell? ⟨gb489, 0, none⟩ = some (.slice none 0 0) := (blk_cell BK489.out 0).trans rfl
   have hcz15_1 : w7.cell? ⟨gb489, 1, none⟩ = some (.slice none 0 0) := (blk_cell BK489.out 1).trans rfl
   have hcz15_2 : w7.cell? ⟨gb489, 2, none⟩ = some (.int .i64 0) := (blk_cell BK489.out 2).trans rfl
   have hcz15_3 : w7.cell? ⟨gb489, 3, none⟩ = some (.int .i64 0) := (blk_cell BK489.out 3).trans rfl
   have hfz15_0 := blk_frozen BK489.out 0
   have hfz15_1 := blk_frozen BK489.out 1
   have hfz15_2 := blk_frozen BK489.out 2
   have hfz15_3 := blk_frozen BK489.out 3
   have hcz16_0 : w7.cell? ⟨gb479, 0, none⟩ = some (.slice A0_0 l0_0.length c0_0) := (blk_cell BK479.out 0).trans rfl
   have hcz16_1 : w7.cell? ⟨gb479, 1, none⟩ = some (.slice A0_1 l0_1.length c0_1) := (blk_cell BK479.out 1).trans rfl
   have hcz16_2 : w7.cell? ⟨gb479, 2, none⟩ = some (.int .i64 a0_2) := (blk_cell BK479.out 2).trans rfl
   have hcz16_3 : w7.cell? ⟨gb479, 3, none⟩ = some (.int .i64 a0_3) := (blk_cell BK479.out 3).trans rfl
   have hfz16_0 := blk_frozen BK479.out 0
   have hfz16_1 := blk_frozen BK479.out 1
   have hfz16_2 := blk_frozen BK479.out 2
   have hfz16_3 := blk_frozen BK479.out 3
   go_wp2_with (first | (go_at_call 18; (with_reducible refine (manystrandref07_Same.calls k _ _ t480 _ _ t483 t486 t487 _ _ l0_0 _ _ l0_1 a0_2 a0_3 t490 _ ?side1 ?side2 ?side3 ?side4 ?side5 ?side6 ?side7 ?side8 A13.out).mono ?_); (case side1 => refine (Kd.R_reads' (e := 3) (base := w.heap.size) (ok := fun k_ => some k_ ≠ (.slice Ao11 t483.length co11 : Value).ownBlock) (n := t480.length) (c := co8) ?_).2.2; exact (by (with_reducible repeat (first | apply Kd.R_alloc | apply Kd.R_drewN | apply Kd.R_drew)); exact (Kd.R_mono (Kd.R_far (p := ⟨gb489, 3, none⟩) (Kd.R_far (p := ⟨gb489, 2, none⟩) (Kd.R_far (p := ⟨gb489, 1, none⟩) (Kd.R_far (p := ⟨gb489, 0, none⟩) (Kd.R_types HO482.out BK489.out (by decide)) (fun _ hk => hk.2) (.slice Ao8 t480.length co8)) (fun _ hk => hk.2) (.slice Ao11 t483.length co11)) (fun _ hk => hk.2) (.int .i64 t486)) (fun _ hk => hk.2) (.int .i64 t487)) (fun _ h_ => h_.1)))); (case side2 => exact (Kd.R_reads' HO482.out).2.1); (case side3 => refine (Kd.R_reads' (e := 3) (base := w.heap.size) (ok := fun k_ => some k_ ≠ (.slice Ao8 t480.length co8 : Value).ownBlock) (n := t483.length) (c := co11) ?_).2.2; exact (by (with_reducible repeat (first | apply Kd.R_alloc | apply Kd.R_drewN | apply Kd.R_drew)); exact (Kd.R_mono (Kd.R_far (p := ⟨gb489, 3, none⟩) (Kd.R_far (p := ⟨gb489, 2, none⟩) (Kd.R_far (p := ⟨gb489, 1, none⟩) (Kd.R_far (p := ⟨gb489, 0, none⟩) (Kd.R_types HO485.out BK489.out (by decide)) (fun _ hk => hk.2) (.slice Ao8 t480.length co8)) (fun _ hk => hk.2) (.slice Ao11 t483.length co11)) (fun _ hk => hk.2) (.int .i64 t486)) (fun _ hk => hk.2) (.int .i64 t487)) (fun _ h_ => h_.1)))); (case side4 => exact (Kd.R_reads' HO485.out).2.1); (case side5 => exact Kd.C_below HR0_0.out bSt_); (case side6 => exact HC0_0.out); (case side7 => exact Kd.C_below HR0_1.out bSt_); (case side8 => exact HC0_1.out); rintro e w17 ⟨rfl, hb⟩; have n0_ := Aside0.mk (Kd.R_below (by (with_reducible repeat (first | apply Kd.R_alloc | apply Kd.R_drewN | apply Kd.R_drew)); exact (Kd.R_mono (Kd.R_far (p := ⟨gb489, 3, none⟩) (Kd.R_far (p := ⟨gb489, 2, none⟩) (Kd.R_far (p := ⟨gb489, 1, none⟩) (Kd.R_far (p := ⟨gb489, 0, none⟩) (Kd.R_types HO482.out BK489.out (by decide)) (fun _ hk => hk.2) (.slice Ao8 t480.length co8)) (fun _ hk => hk.2) (.slice Ao11 t483.length co11)) (fun _ hk => hk.2) (.int .i64 t486)) (fun _ hk => hk.2) (.int .i64 t487)) (fun _ h_ => h_.1))) hb); have n1_ := Aside0.mk (Kd.R_below (by (with_reducible repeat (first | apply Kd.R_alloc | apply Kd.R_drewN | apply Kd.R_drew)); exact (Kd.R_mono (Kd.R_far (p := ⟨gb489, 3, none⟩) (Kd.R_far (p := ⟨gb489, 2, none⟩) (Kd.R_far (p := ⟨gb489, 1, none⟩) (Kd.R_far (p := ⟨gb489, 0, none⟩) (Kd.R_types HO485.out BK489.out (by decide)) (fun _ hk => hk.2) (.slice Ao8 t480.length co8)) (fun _ hk => hk.2) (.slice Ao11 t483.length co11)) (fun _ hk => hk.2) (.int .i64 t486)) (fun _ hk => hk.2) (.int .i64 t487)) (fun _ h_ => h_.1))) hb); have n2_ := Aside0.mk (blk_below (bKq_ BK479.out) hb); have n3_ := Aside0.mk (blk_below (g := gb489) (o := .cells #[.slice Ao8 t480.length co8, .slice Ao11 t483.length co11, .int .i64 t486, .int .i64 t487] 37 (0, 0)) (bKq_ BK489.out) hb); have n4_ := Aside0.mk (below_step bSt_ hb); clear HO482; clear HO485; clear BK479; clear BK489; clear HB; have HO482 := n0_; have HO485 := n1_; have BK479 := n2_; have BK489 := n3_; have HB := n4_; clear n0_ n1_ n2_ n3_ n4_; (try clear hb); (try clear hb2); (try clear hk); (try clear hi)))
   go_meet
   case rel => exact ⟨_, (!t490), (by first | rfl | (simp; done) | (simp [*]; done)), H', ⟨by first | omega | exact Nat.le_refl _⟩, ⟨by (with_reducible repeat (first | apply Kd.R_alloc | apply Kd.R_drewN | apply Kd.R_drew)); exact HO482.out⟩, ⟨by (with_reducible repeat (first | apply Kd.R_alloc | apply Kd.R_drewN | apply Kd.R_drew)); exact HO485.out⟩, ⟨bKq_ BK479.out⟩, ⟨bKq_ BK489.out⟩, ⟨bSt_⟩⟩
  ·rw [if_neg c12] at H
   have c12b0 : (t488 == 0) = false := beq_eq_false_iff_ne.mpr c12
   have c12b1 : (t488 != 0) = true := bne_iff_ne.mpr c12
   (first | rw [c12b0] | (simp only [i64_w, i32_w]; rw [c12b0]) | skip)
   have H' := Aside0.mk H
   clear H
   go_wp2
   go_meet
   case rel => exact ⟨_, (true), (by first | rfl | (simp; done) | (simp [*]; done)), H', ⟨by first | omega | exact Nat.le_refl _⟩, ⟨by (with_reducible repeat (first | apply Kd.R_alloc | apply Kd.R_drewN | apply Kd.R_drew)); exact Kd.R_mono (Kd.R_far (p := ⟨gb489, 3, none⟩) (Kd.R_far (p := ⟨gb489, 2, none⟩) (Kd.R_far (p := ⟨gb489, 1, none⟩) (Kd.R_far (p := ⟨gb489, 0, none⟩) (Kd.R_types HO482.out BK489.out (by decide)) (fun _ hk => hk.2) (.slice Ao8 t480.length co8)) (fun _ hk => hk.2) (.slice Ao11 t483.length co11)) (fun _ hk => hk.2) (.int .i64 t486)) (fun _ hk => hk.2) (.int .i64 t487)) (fun _ hk => hk.1)⟩, ⟨by (with_reducible repeat (first | apply Kd.R_alloc | apply Kd.R_drewN | apply Kd.R_drew)); exact Kd.R_mono (Kd.R_far (p := ⟨gb489, 3, none⟩) (Kd.R_far (p := ⟨gb489, 2, none⟩) (Kd.R_far (p := ⟨gb489, 1, none⟩) (Kd.R_far (p := ⟨gb489, 0, none⟩) (Kd.R_types HO485.out BK489.out (by decide)) (fun _ hk => hk.2) (.slice Ao8 t480.length co8)) (fun _ hk => hk.2) (.slice Ao11 t483.length co11)) (fun _ hk => hk.2) (.int .i64 t486)) (fun _ hk => hk.2) (.int .i64 t487)) (fun _ hk => hk.1)⟩, ⟨bKq_ BK479.out⟩, ⟨bKq_ BK489.out⟩, ⟨bSt_⟩⟩
 case rest =>
  clear HC3
  try clear c1
  try clear p2
  try clear c3
  try clear c9
  try clear c12
  try clear c12b0
  try clear c12b1
  try clear c14
  try clear c17
  try clear hcz10_0
  try clear hcz10_1
  try clear hcz10_2
  try clear hcz10_3
  try clear hcz15_0
  try clear hcz15_1
  try clear hcz15_2
  try clear hcz15_3
  try clear hcz16_0
  try clear hcz16_1
  try clear hcz16_2
  try clear hcz16_3
  try clear hcz5_0
  try clear hcz5_1
  try clear hcz5_2
  try clear hcz5_3
  try clear hfz10_0
  try clear hfz10_1
  try clear hfz10_2
  try clear hfz10_3
  try clear hfz15_0
  try clear hfz15_1
  try clear hfz15_2
  try clear hfz15_3
  try clear hfz16_0
  try clear hfz16_1
  try clear hfz16_2
  try clear hfz16_3
  try clear hfz5_0
  try clear hfz5_1
  try clear hfz5_2
  try clear hfz5_3
  obtain ⟨kq, x18_2, rfl, HA, HJ2, HO_490000, HO_490001, BK479, BK489, HB⟩ := hcut
  cases kq with
  | zero => exact absurd HA.out (by simp [manystrandref07_Text.j0])
  | succ kj2 =>
   have H := HA.out
   clear HA
   simp only [manystrandref07_Text.j0] at H
   by_cases c18 : x18_2 = true
   ·subst c18
    have H1 : (some ((⟨#[]⟩ : ByteArray), 2)) = some (r1, r2) := by rw [if_pos rfl] at H; exact H
    clear H
    have H := H1
    clear H1
    simp only [Option.some.injEq, Prod.mk.injEq] at H
    obtain ⟨rfl, rfl⟩ := H
    go_wp2
    go_ret2
    exact ⟨by first | rfl | (simp [errW_none, errW_some] <;> rfl) | (simp [*, errW_none, errW_some] <;> rfl) | (simp [errW_none, errW_some]; exact Go.Proofs.YtgfbgfbnmiainaaW.OwnWords.isEmpty_bne _), bSt_⟩
   ·replace c18 := Bool.eq_false_iff.mpr c18
    subst c18
    have H1 : ((manystrandref07_braces.f kj2 l0_0).bind fun t491 => (if t491.size + 4 ≤ 9223372036854775807 then ((manystrandref07_braces.f kj2 l0_1).bind fun t492 => (if (t491 ++ (⟨#[32, 46, 46, 32]⟩ : ByteArray)).size + t492.size ≤ 9223372036854775807 then (if ((t491 ++ (⟨#[32, 46, 46, 32]⟩ : ByteArray)) ++ t492).size + 3 ≤ 9223372036854775807 then ((manystrandref02_Decimal.f kj2 a0_2).bind fun t493 => (if (((t491 ++ (⟨#[32, 46, 46, 32]⟩ : ByteArray)) ++ t492) ++ (⟨#[32, 35, 32]⟩ : ByteArray)).size + t493.size ≤ 9223372036854775807 then (if ((((t491 ++ (⟨#[32, 46, 46, 32]⟩ : ByteArray)) ++ t492) ++ (⟨#[32, 35, 32]⟩ : ByteArray)) ++ t493).size + 4 ≤ 9223372036854775807 then ((manystrandref02_Decimal.f kj2 a0_3).bind fun t494 => (if (((((t491 ++ (⟨#[32, 46, 46, 32]⟩ : ByteArray)) ++ t492) ++ (⟨#[32, 35, 32]⟩ : ByteArray)) ++ t493) ++ (⟨#[32, 46, 46, 32]⟩ : ByteArray)).size + t494.size ≤ 9223372036854775807 then (some ((((((t491 ++ (⟨#[32, 46, 46, 32]⟩ : ByteArray)) ++ t492) ++ (⟨#[32, 35, 32]⟩ : ByteArray)) ++ t493) ++ (⟨#[32, 46, 46, 32]⟩ : ByteArray)) ++ t494, 0)) else (none))) else (none)) else (none))) else (none)) else (none))) else (none))) = some (r1, r2) := by rw [if_neg (show ¬ (false = true) by decide)] at H; exact H
    clear H
    have H := H1
    clear H1
    replace H := Option.bind_eq_some_iff.mp H
    obtain ⟨t491, A190, H⟩ := H
    replace H : (if t491.size + 4 ≤ 9223372036854775807 then ((manystrandref07_braces.f kj2 l0_1).bind fun t492 => (if (t491 ++ (⟨#[32, 46, 46, 32]⟩ : ByteArray)).size + t492.size ≤ 9223372036854775807 then (if ((t491 ++ (⟨#[32, 46, 46, 32]⟩ : ByteArray)) ++ t492).size + 3 ≤ 9223372036854775807 then ((manystrandref02_Decimal.f kj2 a0_2).bind fun t493 => (if (((t491 ++ (⟨#[32, 46, 46, 32]⟩ : ByteArray)) ++ t492) ++ (⟨#[32, 35, 32]⟩ : ByteArray)).size + t493.size ≤ 9223372036854775807 then (if ((((t491 ++ (⟨#[32, 46, 46, 32]⟩ : ByteArray)) ++ t492) ++ (⟨#[32, 35, 32]⟩ : ByteArray)) ++ t493).size + 4 ≤ 9223372036854775807 then ((manystrandref02_Decimal.f kj2 a0_3).bind fun t494 => (if (((((t491 ++ (⟨#[32, 46, 46, 32]⟩ : ByteArray)) ++ t492) ++ (⟨#[32, 35, 32]⟩ : ByteArray)) ++ t493) ++ (⟨#[32, 46, 46, 32]⟩ : ByteArray)).size + t494.size ≤ 9223372036854775807 then (some ((((((t491 ++ (⟨#[32, 46, 46, 32]⟩ : ByteArray)) ++ t492) ++ (⟨#[32, 35, 32]⟩ : ByteArray)) ++ t493) ++ (⟨#[32, 46, 46, 32]⟩ : ByteArray)) ++ t494, 0)) else (none))) else (none)) else (none))) else (none)) else (none))) else (none)) = some (r1, r2) := H
    have A19 := Aside0.mk A190
    clear A190
    by_cases c20 : t491.size + 4 ≤ 9223372036854775807
    ·rw [if_pos c20] at H
     have c20b0 := eq_true c20
     have c20b1 : decide (t491.size + 4 ≤ 9223372036854775807) = true := decide_eq_true c20
     try have c20b2 : (9223372036854775807 < t491.size + 4) = False := eq_false (Nat.not_lt.2 c20)
     try have c20z0 : (9223372036854775807 < t491.size + (⟨#[32, 46, 46, 32]⟩ : ByteArray).size) = False := c20b2
     replace H := Option.bind_eq_some_iff.mp H
     obtain ⟨t492, A210, H⟩ := H
     replace H : (if (t491 ++ (⟨#[32, 46, 46, 32]⟩ : ByteArray)).size + t492.size ≤ 9223372036854775807 then (if ((t491 ++ (⟨#[32, 46, 46, 32]⟩ : ByteArray)) ++ t492).size + 3 ≤ 9223372036854775807 then ((manystrandref02_Decimal.f kj2 a0_2).bind fun t493 => (if (((t491 ++ (⟨#[32, 46, 46, 32]⟩ : ByteArray)) ++ t492) ++ (⟨#[32, 35, 32]⟩ : ByteArray)).size + t493.size ≤ 9223372036854775807 then (if ((((t491 ++ (⟨#[32, 46, 46, 32]⟩ : ByteArray)) ++ t492) ++ (⟨#[32, 35, 32]⟩ : ByteArray)) ++ t493).size + 4 ≤ 9223372036854775807 then ((manystrandref02_Decimal.f kj2 a0_3).bind fun t494 => (if (((((t491 ++ (⟨#[32, 46, 46, 32]⟩ : ByteArray)) ++ t492) ++ (⟨#[32, 35, 32]⟩ : ByteArray)) ++ t493) ++ (⟨#[32, 46, 46, 32]⟩ : ByteArray)).size + t494.size ≤ 9223372036854775807 then (some ((((((t491 ++ (⟨#[32, 46, 46, 32]⟩ : ByteArray)) ++ t492) ++ (⟨#[32, 35, 32]⟩ : ByteArray)) ++ t493) ++ (⟨#[32, 46, 46, 32]⟩ : ByteArray)) ++ t494, 0)) else (none))) else (none)) else (none))) else (none)) else (none)) = some (r1, r2) := H
     have A21 := Aside0.mk A210
     clear A210
     by_cases c22 : (t491 ++ (⟨#[32, 46, 46, 32]⟩ : ByteArray)).size + t492.size ≤ 9223372036854775807
     ·rw [if_pos c22] at H
      have c22b0 := eq_true c22
      have c22b1 : decide ((t491 ++ (⟨#[32, 46, 46, 32]⟩ : ByteArray)).size + t492.size ≤ 9223372036854775807) = true := decide_eq_true c22
      try have c22b2 : (9223372036854775807 < (t491 ++ (⟨#[32, 46, 46, 32]⟩ : ByteArray)).size + t492.size) = False := eq_false (Nat.not_lt.2 c22)
      try have c22y : (9223372036854775807 < t491.size + 4 + t492.size) = False := eq_false (by have h_ := c22; (try simp only [ByteArray.size_append, ByteArray.size_extract, show (⟨#[32, 46, 46, 32]⟩ : ByteArray).size = 4 from rfl] at h_); omega)
      by_cases c23 : ((t491 ++ (⟨#[32, 46, 46, 32]⟩ : ByteArray)) ++ t492).size + 3 ≤ 9223372036854775807
      ·rw [if_pos c23] at H
       have c23b0 := eq_true c23
       have c23b1 : decide (((t491 ++ (⟨#[32, 46, 46, 32]⟩ : ByteArray)) ++ t492).size + 3 ≤ 9223372036854775807) = true := decide_eq_true c23
       try have c23b2 : (9223372036854775807 < ((t491 ++ (⟨#[32, 46, 46, 32]⟩ : ByteArray)) ++ t492).size + 3) = False := eq_false (Nat.not_lt.2 c23)
       try have c23z0 : (9223372036854775807 < ((t491 ++ (⟨#[32, 46, 46, 32]⟩ : ByteArray)) ++ t492).size + (⟨#[32, 35, 32]⟩ : ByteArray).size) = False := c23b2
       try have c23y : (9223372036854775807 < t491.size + 4 + t492.size + 3) = False := eq_false (by have h_ := c23; (try simp only [ByteArray.size_append, ByteArray.size_extract, show (⟨#[32, 46, 46, 32]⟩ : ByteArray).size = 4 from rfl] at h_); omega)
       replace H := Option.bind_eq_some_iff.mp H
       obtain ⟨t493, A240, H⟩ := H
       replace H : (if (((t491 ++ (⟨#[32, 46, 46, 32]⟩ : ByteArray)) ++ t492) ++ (⟨#[32, 35, 32]⟩ : ByteArray)).size + t493.size ≤ 9223372036854775807 then (if ((((t491 ++ (⟨#[32, 46, 46, 32]⟩ : ByteArray)) ++ t492) ++ (⟨#[32, 35, 32]⟩ : ByteArray)) ++ t493).size + 4 ≤ 9223372036854775807 then ((manystrandref02_Decimal.f kj2 a0_3).bind fun t494 => (if (((((t491 ++ (⟨#[32, 46, 46, 32]⟩ : ByteArray)) ++ t492) ++ (⟨#[32, 35, 32]⟩ : ByteArray)) ++ t493) ++ (⟨#[32, 46, 46, 32]⟩ : ByteArray)).size + t494.size ≤ 9223372036854775807 then (some ((((((t491 ++ (⟨#[32, 46, 46, 32]⟩ : ByteArray)) ++ t492) ++ (⟨#[32, 35, 32]⟩ : ByteArray)) ++ t493) ++ (⟨#[32, 46, 46, 32]⟩ : ByteArray)) ++ t494, 0)) else (none))) else (none)) else (none)) = some (r1, r2) := H
       have A24 := Aside0.mk A240
       clear A240
       by_cases c25 : (((t491 ++ (⟨#[32, 46, 46, 32]⟩ : ByteArray)) ++ t492) ++ (⟨#[32, 35, 32]⟩ : ByteArray)).size + t493.size ≤ 9223372036854775807
       ·rw [if_pos c25] at H
        have c25b0 := eq_true c25
        have c25b1 : decide ((((t491 ++ (⟨#[32, 46, 46, 32]⟩ : ByteArray)) ++ t492) ++ (⟨#[32, 35, 32]⟩ : ByteArray)).size + t493.size ≤ 9223372036854775807) = true := decide_eq_true c25
        try have c25b2 : (9223372036854775807 < (((t491 ++ (⟨#[32, 46, 46, 32]⟩ : ByteArray)) ++ t492) ++ (⟨#[32, 35, 32]⟩ : ByteArray)).size + t493.size) = False := eq_false (Nat.not_lt.2 c25)
        try have c25y : (9223372036854775807 < t491.size + 4 + t492.size + 3 + t493.size) = False := eq_false (by have h_ := c25; (try simp only [ByteArray.size_append, ByteArray.size_extract, show (⟨#[32, 35, 32]⟩ : ByteArray).size = 3 from rfl, show (⟨#[32, 46, 46, 32]⟩ : ByteArray).size = 4 from rfl] at h_); omega)
        by_cases c26 : ((((t491 ++ (⟨#[32, 46, 46, 32]⟩ : ByteArray)) ++ t492) ++ (⟨#[32, 35, 32]⟩ : ByteArray)) ++ t493).size + 4 ≤ 9223372036854775807
        ·rw [if_pos c26] at H
         have c26b0 := eq_true c26
         have c26b1 : decide (((((t491 ++ (⟨#[32, 46, 46, 32]⟩ : ByteArray)) ++ t492) ++ (⟨#[32, 35, 32]⟩ : ByteArray)) ++ t493).size + 4 ≤ 9223372036854775807) = true := decide_eq_true c26
         try have c26b2 : (9223372036854775807 < ((((t491 ++ (⟨#[32, 46, 46, 32]⟩ : ByteArray)) ++ t492) ++ (⟨#[32, 35, 32]⟩ : ByteArray)) ++ t493).size + 4) = False := eq_false (Nat.not_lt.2 c26)
         try have c26z0 : (9223372036854775807 < ((((t491 ++ (⟨#[32, 46, 46, 32]⟩ : ByteArray)) ++ t492) ++ (⟨#[32, 35, 32]⟩ : ByteArray)) ++ t493).size + (⟨#[32, 46, 46, 32]⟩ : ByteArray).size) = False := c26b2
         try have c26y : (9223372036854775807 < t491.size + 4 + t492.size + 3 + t493.size + 4) = False := eq_false (by have h_ := c26; (try simp only [ByteArray.size_append, ByteArray.size_extract, show (⟨#[32, 35, 32]⟩ : ByteArray).size = 3 from rfl, show (⟨#[32, 46, 46, 32]⟩ : ByteArray).size = 4 from rfl] at h_); omega)
         replace H := Option.bind_eq_some_iff.mp H
         obtain ⟨t494, A270, H⟩ := H
         replace H : (if (((((t491 ++ (⟨#[32, 46, 46, 32]⟩ : ByteArray)) ++ t492) ++ (⟨#[32, 35, 32]⟩ : ByteArray)) ++ t493) ++ (⟨#[32, 46, 46, 32]⟩ : ByteArray)).size + t494.size ≤ 9223372036854775807 then (some ((((((t491 ++ (⟨#[32, 46, 46, 32]⟩ : ByteArray)) ++ t492) ++ (⟨#[32, 35, 32]⟩ : ByteArray)) ++ t493) ++ (⟨#[32, 46, 46, 32]⟩ : ByteArray)) ++ t494, 0)) else (none)) = some (r1, r2) := H
         have A27 := Aside0.mk A270
         clear A270
         by_cases c28 : (((((t491 ++ (⟨#[32, 46, 46, 32]⟩ : ByteArray)) ++ t492) ++ (⟨#[32, 35, 32]⟩ : ByteArray)) ++ t493) ++ (⟨#[32, 46, 46, 32]⟩ : ByteArray)).size + t494.size ≤ 9223372036854775807
         ·rw [if_pos c28] at H
          have c28b0 := eq_true c28
          have c28b1 : decide ((((((t491 ++ (⟨#[32, 46, 46, 32]⟩ : ByteArray)) ++ t492) ++ (⟨#[32, 35, 32]⟩ : ByteArray)) ++ t493) ++ (⟨#[32, 46, 46, 32]⟩ : ByteArray)).size + t494.size ≤ 9223372036854775807) = true := decide_eq_true c28
          try have c28b2 : (9223372036854775807 < (((((t491 ++ (⟨#[32, 46, 46, 32]⟩ : ByteArray)) ++ t492) ++ (⟨#[32, 35, 32]⟩ : ByteArray)) ++ t493) ++ (⟨#[32, 46, 46, 32]⟩ : ByteArray)).size + t494.size) = False := eq_false (Nat.not_lt.2 c28)
          try have c28y : (9223372036854775807 < t491.size + 4 + t492.size + 3 + t493.size + 4 + t494.size) = False := eq_false (by have h_ := c28; (try simp only [ByteArray.size_append, ByteArray.size_extract, show (⟨#[32, 35, 32]⟩ : ByteArray).size = 3 from rfl, show (⟨#[32, 46, 46, 32]⟩ : ByteArray).size = 4 from rfl] at h_); omega)
          simp only [Option.some.injEq, Prod.mk.injEq] at H
          obtain ⟨rfl, rfl⟩ := H
          try go_wp2
          have n0_ := Aside0.mk (Kd.R_drew HO_490000.out)
          have n1_ := Aside0.mk (Kd.R_drew HO_490001.out)
          have n2_ := Aside0.mk (blk_drew BK479.out)
          have n3_ := Aside0.mk (blk_drew BK489.out)
          have n4_ := Aside0.mk (below_drew1 HB.out)
          clear HO_490000
          clear HO_490001
          clear BK479
          clear BK489
          clear HB
          have HO_490000 := n0_
          have HO_490001 := n1_
          have BK479 := n2_
          have BK489 := n3_
          have HB := n4_
          clear n0_ n1_ n2_ n3_ n4_
          refine start_ (n := 20) (S := fun w' => w'.cell? ⟨gb479, 0, none⟩ = some (.slice A0_0 l0_0.length c0_0) ∧ w'.cell? ⟨gb479, 1, none⟩ = some (.slice A0_1 l0_1.length c0_1) ∧ w'.cell? ⟨gb479, 2, none⟩ = some (.int .i64 a0_2) ∧ w'.cell? ⟨gb479, 3, none⟩ = some (.int .i64 a0_3)) (ds := []) #[false, false, false, false, false, false, false, false, false, false, false, false, false, false, false, false, false, false, false, false] (by kernel_rfl) rfl rfl ⟨(blk_cell BK479.out 0).trans rfl, (blk_cell BK479.out 1).trans rfl, (blk_cell BK479.out 2).trans rfl, (blk_cell BK479.out 3).trans rfl⟩ (fun hHeld => ?_); refine with_tabW manystrandref07_Text.tab4 manystrandref07_Text.bits4 (fun HT_ HW_ => ?_)
          generalize wc.drew = w29 at HO_490000 HO_490001 BK479 BK489 HB hHeld ⊢
          refine pure_ (i := 0) (N := some 19) (v := ?_) (a' := ?_) #[true, false, false, false, false, false, false, false, false, false, false, false, false, false, false, false, false, false, false, false] rfl rfl (any_of HT_.out (by kernel_rfl)) (fun _ _ _ h => h) (Or.inl ⟨by rfl, ?_⟩) ?_ ?_
          rotate_left
          ·intro w'
           go_simp
           with_reducible rfl
          rotate_left
          ·simp only [Act.put, List.setIfInBounds_toArray, List.set_cons_zero, List.set_cons_succ, i64_w, i32_w]
           rfl
          refine pure_ (i := 4) (N := some 23) (v := ?_) (a' := ?_) #[true, false, false, false, true, false, false, false, false, false, false, false, false, false, false, false, false, false, false, false] rfl rfl (any_of HT_.out (by kernel_rfl)) (fun _ _ _ h => h) (Or.inl ⟨by rfl, ?_⟩) ?_ ?_
          rotate_left
          ·intro w'
           go_simp
           with_reducible rfl
          rotate_left
          ·simp only [Act.put, List.setIfInBounds_toArray, List.set_cons_zero, List.set_cons_succ, i64_w, i32_w]
           rfl
          refine pure_ (i := 9) (N := some 28) (v := ?_) (a' := ?_) #[true, false, false, false, true, false, false, false, false, true, false, false, false, false, false, false, false, false, false, false] rfl rfl (any_of HT_.out (by kernel_rfl)) (fun _ _ _ h => h) (Or.inl ⟨by rfl, ?_⟩) ?_ ?_
          rotate_left
          ·intro w'
           go_simp
           with_reducible rfl
          rotate_left
          ·simp only [Act.put, List.setIfInBounds_toArray, List.set_cons_zero, List.set_cons_succ, i64_w, i32_w]
           rfl
          refine pure_ (i := 14) (N := some 33) (v := ?_) (a' := ?_) #[true, false, false, false, true, false, false, false, false, true, false, false, false, false, true, false, false, false, false, false] rfl rfl (any_of HT_.out (by kernel_rfl)) (fun _ _ _ h => h) (Or.inl ⟨by rfl, ?_⟩) ?_ ?_
          rotate_left
          ·intro w'
           go_simp
           with_reducible rfl
          rotate_left
          ·simp only [Act.put, List.setIfInBounds_toArray, List.set_cons_zero, List.set_cons_succ, i64_w, i32_w]
           rfl
          refine take_ (i := 1) (N := some 20) (v := ?_) (a' := ?_) #[true, true, false, false, true, false, false, false, false, true, false, false, false, false, true, false, false, false, false, false] rfl rfl (take_ofW HT_.out HW_.out (by kernel_rfl)) (fun _ _ _ h => h) (Or.inl ⟨by rfl, ?_⟩) hHeld ?_ ?_
          rotate_left
          ·rintro w' ⟨s0, s1, s2, s3⟩
           go_simp
           with_reducible rfl
          rotate_left
          ·simp only [Act.put, List.setIfInBounds_toArray, List.set_cons_zero, List.set_cons_succ, i64_w, i32_w]
           rfl
          refine take_ (i := 5) (N := some 24) (v := ?_) (a' := ?_) #[true, true, false, false, true, true, false, false, false, true, false, false, false, false, true, false, false, false, false, false] rfl rfl (take_ofW HT_.out HW_.out (by kernel_rfl)) (fun _ _ _ h => h) (Or.inl ⟨by rfl, ?_⟩) hHeld ?_ ?_
          rotate_left
          ·rintro w' ⟨s0, s1, s2, s3⟩
           go_simp
           with_reducible rfl
          rotate_left
          ·simp only [Act.put, List.setIfInBounds_toArray, List.set_cons_zero, List.set_cons_succ, i64_w, i32_w]
           rfl
          refine take_ (i := 10) (N := some 29) (v := ?_) (a' := ?_) #[true, true, false, false, true, true, false, false, false, true, true, false, false, false, true, false, false, false, false, false] rfl rfl (take_ofW HT_.out HW_.out (by kernel_rfl)) (fun _ _ _ h => h) (Or.inl ⟨by rfl, ?_⟩) hHeld ?_ ?_
          rotate_left
          ·rintro w' ⟨s0, s1, s2, s3⟩
           go_simp
           with_reducible rfl
          rotate_left
          ·simp only [Act.put, List.setIfInBounds_toArray, List.set_cons_zero, List.set_cons_succ, i64_w, i32_w]
           rfl
          refine take_ (i := 15) (N := some 34) (v := ?_) (a' := ?_) #[true, true, false, false, true, true, false, false, false, true, true, false, false, false, true, true, false, false, false, false] rfl rfl (take_ofW HT_.out HW_.out (by kernel_rfl)) (fun _ _ _ h => h) (Or.inl ⟨by rfl, ?_⟩) hHeld ?_ ?_
          rotate_left
          ·rintro w' ⟨s0, s1, s2, s3⟩
           go_simp
           with_reducible rfl
          rotate_left
          ·simp only [Act.put, List.setIfInBounds_toArray, List.set_cons_zero, List.set_cons_succ, i64_w, i32_w]
           rfl
          refine one_ (i := 2) (N := some 21) #[true, true, true, false, true, true, false, false, false, true, true, false, false, false, true, true, false, false, false, false] rfl rfl (one_of HT_.out (by kernel_rfl)) (by decide) (fun K hK => ?_)
          refine goes_ Try.func53 (by kernel_rfl) rfl #[.slice A0_0 l0_0.length c0_0] (by rfl) rfl rfl (by (try simp only [List.map_toArray, List.map_cons, List.map_nil]); first | done | rfl | (simp only [List.length_drop, List.length_take]; rfl)) ?_
          with_reducible refine (manystrandref07_braces.calls kj2 _ _ l0_0 t491 _ ?side1 ?side2 A19.out).mono ?_
          (case side1 => repeat (first | exact (Kd.C_below HR0_0.out HB.out) | (with_reducible refine Kd.C_alloc ?_ _) | (with_reducible refine Kd.C_drewN ?_ _) | (with_reducible refine Kd.C_drew ?_)))
          (case side2 => exact HC0_0.out)
          rintro e w30 ⟨rfl, hb⟩
          refine ⟨_, rfl, ?_⟩
          have n0_ := Aside0.mk (Kd.R_below (by (with_reducible repeat (first | apply Kd.R_alloc | apply Kd.R_drewN | apply Kd.R_drew)); exact HO_490000.out) hb)
          have n1_ := Aside0.mk (Kd.R_below (by (with_reducible repeat (first | apply Kd.R_alloc | apply Kd.R_drewN | apply Kd.R_drew)); exact HO_490001.out) hb)
          have n2_ := Aside0.mk (blk_below (bKq_ BK479.out) hb)
          have n3_ := Aside0.mk (blk_below (bKq_ BK489.out) hb)
          have n4_ := Aside0.mk (below_step bSt_ hb)
          clear HO_490000
          clear HO_490001
          clear BK479
          clear BK489
          clear HB
          have HO_490000 := n0_
          have HO_490001 := n1_
          have BK479 := n2_
          have BK489 := n3_
          have HB := n4_
          clear n0_ n1_ n2_ n3_ n4_
          (try clear hb)
          (try clear hb2)
          (try clear hk)
          (try clear hi)
          refine hK.out _ _ ⟨(blk_cell BK479.out 0).trans rfl, (blk_cell BK479.out 1).trans rfl, (blk_cell BK479.out 2).trans rfl, (blk_cell BK479.out 3).trans rfl⟩ (fun hHeld => ?_)
          clear hK K
          refine norm_ (a' := ?_) ?_ ?_
          rotate_left
          ·show Act.put _ (some 21) _ = _
           simp only [Act.put, List.setIfInBounds_toArray, List.set_cons_zero, List.set_cons_succ, i64_w, i32_w]
           rfl
          refine pure_ (i := 3) (N := some 22) (v := ?_) (a' := ?_) #[true, true, true, true, true, true, false, false, false, true, true, false, false, false, true, true, false, false, false, false] rfl rfl (any_of HT_.out (by kernel_rfl)) (fun _ _ _ h => h) (Or.inl ⟨by rfl, ?_⟩) ?_ ?_
          rotate_left
          ·intro w'
           go_simp
           with_reducible rfl
          rotate_left
          ·simp only [Act.put, List.setIfInBounds_toArray, List.set_cons_zero, List.set_cons_succ, i64_w, i32_w]
           rfl
          refine one_ (i := 6) (N := some 25) #[true, true, true, true, true, true, true, false, false, true, true, false, false, false, true, true, false, false, false, false] rfl rfl (one_of HT_.out (by kernel_rfl)) (by decide) (fun K hK => ?_)
          refine goes_ Try.func53 (by kernel_rfl) rfl #[.slice A0_1 l0_1.length c0_1] (by rfl) rfl rfl (by (try simp only [List.map_toArray, List.map_cons, List.map_nil]); first | done | rfl | (simp only [List.length_drop, List.length_take]; rfl)) ?_
          with_reducible refine (manystrandref07_braces.calls kj2 _ _ l0_1 t492 _ ?side1 ?side2 A21.out).mono ?_
          (case side1 => repeat (first | exact (Kd.C_below HR0_1.out HB.out) | (with_reducible refine Kd.C_alloc ?_ _) | (with_reducible refine Kd.C_drewN ?_ _) | (with_reducible refine Kd.C_drew ?_)))
          (case side2 => exact HC0_1.out)
          rintro e w31 ⟨rfl, hb⟩
          refine ⟨_, rfl, ?_⟩
          have n0_ := Aside0.mk (Kd.R_below (by (with_reducible repeat (first | apply Kd.R_alloc | apply Kd.R_drewN | apply Kd.R_drew)); exact HO_490000.out) hb)
          have n1_ := Aside0.mk (Kd.R_below (by (with_reducible repeat (first | apply Kd.R_alloc | apply Kd.R_drewN | apply Kd.R_drew)); exact HO_490001.out) hb)
          have n2_ := Aside0.mk (blk_below (bKq_ BK479.out) hb)
          have n3_ := Aside0.mk (blk_below (bKq_ BK489.out) hb)
          have n4_ := Aside0.mk (below_step bSt_ hb)
          clear HO_490000
          clear HO_490001
          clear BK479
          clear BK489
          clear HB
          have HO_490000 := n0_
          have HO_490001 := n1_
          have BK479 := n2_
          have BK489 := n3_
          have HB := n4_
          clear n0_ n1_ n2_ n3_ n4_
          (try clear hb)
          (try clear hb2)
          (try clear hk)
          (try clear hi)
          refine hK.out _ _ ⟨(blk_cell BK479.out 0).trans rfl, (blk_cell BK479.out 1).trans rfl, (blk_cell BK479.out 2).trans rfl, (blk_cell BK479.out 3).trans rfl⟩ (fun hHeld => ?_)
          clear hK K
          refine norm_ (a' := ?_) ?_ ?_
          rotate_left
          ·show Act.put _ (some 25) _ = _
           simp only [Act.put, List.setIfInBounds_toArray, List.set_cons_zero, List.set_cons_succ, i64_w, i32_w]
           rfl
          refine pure_ (i := 7) (N := some 26) (v := ?_) (a' := ?_) #[true, true, true, true, true, true, true, true, false, true, true, false, false, false, true, true, false, false, false, false] rfl rfl (any_of HT_.out (by kernel_rfl)) (fun _ _ _ h => h) (Or.inl ⟨by rfl, ?_⟩) ?_ ?_
          rotate_left
          ·intro w'
           go_simp
           with_reducible rfl
          rotate_left
          ·simp only [Act.put, List.setIfInBounds_toArray, List.set_cons_zero, List.set_cons_succ, i64_w, i32_w]
           rfl
          refine pure_ (i := 8) (N := some 27) (v := ?_) (a' := ?_) #[true, true, true, true, true, true, true, true, true, true, true, false, false, false, true, true, false, false, false, false] rfl rfl (any_of HT_.out (by kernel_rfl)) (fun _ _ _ h => h) (Or.inl ⟨by rfl, ?_⟩) ?_ ?_
          rotate_left
          ·intro w'
           go_simp
           with_reducible rfl
          rotate_left
          ·simp only [Act.put, List.setIfInBounds_toArray, List.set_cons_zero, List.set_cons_succ, i64_w, i32_w]
           rfl
          refine one_ (i := 11) (N := some 30) #[true, true, true, true, true, true, true, true, true, true, true, true, false, false, true, true, false, false, false, false] rfl rfl (one_of HT_.out (by kernel_rfl)) (by decide) (fun K hK => ?_)
          refine goes_ Try.func54 (by kernel_rfl) rfl #[.int .i64 a0_2] (by rfl) rfl rfl (by (try simp only [List.map_toArray, List.map_cons, List.map_nil]); first | done | rfl | (simp only [List.length_drop, List.length_take]; rfl)) ?_
          with_reducible refine (manystrandref02_Decimal.calls kj2 a0_2 t493 _ A24.out).mono ?_
          rintro e w32 ⟨rfl, hb⟩
          refine ⟨_, rfl, ?_⟩
          have n0_ := Aside0.mk (Kd.R_below (by (with_reducible repeat (first | apply Kd.R_alloc | apply Kd.R_drewN | apply Kd.R_drew)); exact HO_490000.out) hb)
          have n1_ := Aside0.mk (Kd.R_below (by (with_reducible repeat (first | apply Kd.R_alloc | apply Kd.R_drewN | apply Kd.R_drew)); exact HO_490001.out) hb)
          have n2_ := Aside0.mk (blk_below (bKq_ BK479.out) hb)
          have n3_ := Aside0.mk (blk_below (bKq_ BK489.out) hb)
          have n4_ := Aside0.mk (below_step bSt_ hb)
          clear HO_490000
          clear HO_490001
          clear BK479
          clear BK489
          clear HB
          have HO_490000 := n0_
          have HO_490001 := n1_
          have BK479 := n2_
          have BK489 := n3_
          have HB := n4_
          clear n0_ n1_ n2_ n3_ n4_
          (try clear hb)
          (try clear hb2)
          (try clear hk)
          (try clear hi)
          refine hK.out _ _ ⟨(blk_cell BK479.out 0).trans rfl, (blk_cell BK479.out 1).trans rfl, (blk_cell BK479.out 2).trans rfl, (blk_cell BK479.out 3).trans rfl⟩ (fun hHeld => ?_)
          clear hK K
          refine norm_ (a' := ?_) ?_ ?_
          rotate_left
          ·show Act.put _ (some 30) _ = _
           simp only [Act.put, List.setIfInBounds_toArray, List.set_cons_zero, List.set_cons_succ, i64_w, i32_w]
           rfl
          refine pure_ (i := 12) (N := some 31) (v := ?_) (a' := ?_) #[true, true, true, true, true, true, true, true, true, true, true, true, true, false, true, true, false, false, false, false] rfl rfl (any_of HT_.out (by kernel_rfl)) (fun _ _ _ h => h) (Or.inl ⟨by rfl, ?_⟩) ?_ ?_
          rotate_left
          ·intro w'
           go_simp
           with_reducible rfl
          rotate_left
          ·simp only [Act.put, List.setIfInBounds_toArray, List.set_cons_zero, List.set_cons_succ, i64_w, i32_w]
           rfl
          refine pure_ (i := 13) (N := some 32) (v := ?_) (a' := ?_) #[true, true, true, true, true, true, true, true, true, true, true, true, true, true, true, true, false, false, false, false] rfl rfl (any_of HT_.out (by kernel_rfl)) (fun _ _ _ h => h) (Or.inl ⟨by rfl, ?_⟩) ?_ ?_
          rotate_left
          ·intro w'
           go_simp
           with_reducible rfl
          rotate_left
          ·simp only [Act.put, List.setIfInBounds_toArray, List.set_cons_zero, List.set_cons_succ, i64_w, i32_w]
           rfl
          refine one_ (i := 16) (N := some 35) #[true, true, true, true, true, true, true, true, true, true, true, true, true, true, true, true, true, false, false, false] rfl rfl (one_of HT_.out (by kernel_rfl)) (by decide) (fun K hK => ?_)
          refine goes_ Try.func54 (by kernel_rfl) rfl #[.int .i64 a0_3] (by rfl) rfl rfl (by (try simp only [List.map_toArray, List.map_cons, List.map_nil]); first | done | rfl | (simp only [List.length_drop, List.length_take]; rfl)) ?_
          with_reducible refine (manystrandref02_Decimal.calls kj2 a0_3 t494 _ A27.out).mono ?_
          rintro e w33 ⟨rfl, hb⟩
          refine ⟨_, rfl, ?_⟩
          have n0_ := Aside0.mk (Kd.R_below (by (with_reducible repeat (first | apply Kd.R_alloc | apply Kd.R_drewN | apply Kd.R_drew)); exact HO_490000.out) hb)
          have n1_ := Aside0.mk (Kd.R_below (by (with_reducible repeat (first | apply Kd.R_alloc | apply Kd.R_drewN | apply Kd.R_drew)); exact HO_490001.out) hb)
          have n2_ := Aside0.mk (blk_below (bKq_ BK479.out) hb)
          have n3_ := Aside0.mk (blk_below (bKq_ BK489.out) hb)
          have n4_ := Aside0.mk (below_step bSt_ hb)
          clear HO_490000
          clear HO_490001
          clear BK479
          clear BK489
          clear HB
          have HO_490000 := n0_
          have HO_490001 := n1_
          have BK479 := n2_
          have BK489 := n3_
          have HB := n4_
          clear n0_ n1_ n2_ n3_ n4_
          (try clear hb)
          (try clear hb2)
          (try clear hk)
          (try clear hi)
          refine hK.out _ _ ⟨(blk_cell BK479.out 0).trans rfl, (blk_cell BK479.out 1).trans rfl, (blk_cell BK479.out 2).trans rfl, (blk_cell BK479.out 3).trans rfl⟩ (fun hHeld => ?_)
          clear hK K
          refine norm_ (a' := ?_) ?_ ?_
          rotate_left
          ·show Act.put _ (some 35) _ = _
           simp only [Act.put, List.setIfInBounds_toArray, List.set_cons_zero, List.set_cons_succ, i64_w, i32_w]
           rfl
          refine pure_ (i := 17) (N := some 36) (v := ?_) (a' := ?_) #[true, true, true, true, true, true, true, true, true, true, true, true, true, true, true, true, true, true, false, false] rfl rfl (any_of HT_.out (by kernel_rfl)) (fun _ _ _ h => h) (Or.inl ⟨by rfl, ?_⟩) ?_ ?_
          rotate_left
          ·intro w'
           go_simp
           with_reducible rfl
          rotate_left
          ·simp only [Act.put, List.setIfInBounds_toArray, List.set_cons_zero, List.set_cons_succ, i64_w, i32_w]
           rfl
          refine pure_ (i := 18) (N := some 2) (v := ?_) (a' := ?_) #[true, true, true, true, true, true, true, true, true, true, true, true, true, true, true, true, true, true, true, false] rfl rfl (any_of HT_.out (by kernel_rfl)) (fun _ _ _ h => h) (Or.inl ⟨by rfl, ?_⟩) ?_ ?_
          rotate_left
          ·intro w'
           go_simp
           with_reducible rfl
          rotate_left
          ·simp only [Act.put, List.setIfInBounds_toArray, List.set_cons_zero, List.set_cons_succ, i64_w, i32_w]
           rfl
          refine pure_ (i := 19) (N := some 3) (v := ?_) (a' := ?_) #[true, true, true, true, true, true, true, true, true, true, true, true, true, true, true, true, true, true, true, true] rfl rfl (any_of HT_.out (by kernel_rfl)) (fun _ _ _ h => h) (Or.inl ⟨by rfl, ?_⟩) ?_ ?_
          rotate_left
          ·intro w'
           go_simp
           with_reducible rfl
          rotate_left
          ·simp only [Act.put, List.setIfInBounds_toArray, List.set_cons_zero, List.set_cons_succ, i64_w, i32_w]
           rfl
          refine done_ (done_of HT_.out (by kernel_rfl)) ?_
          try go_wp2
          go_ret2
          exact ⟨by first | rfl | (simp [errW_none, errW_some] <;> rfl) | (simp [*, errW_none, errW_some] <;> rfl) | (simp [errW_none, errW_some]; exact Go.Proofs.YtgfbgfbnmiainaaW.OwnWords.isEmpty_bne _), bSt_⟩
         ·rw [if_neg c28] at H
          exact absurd H (by simp)
        ·rw [if_neg c26] at H
         exact absurd H (by simp)
       ·rw [if_neg c25] at H
        exact absurd H (by simp)
      ·rw [if_neg c23] at H
       exact absurd H (by simp)
     ·rw [if_neg c22] at H
      exact absurd H (by simp)
    ·rw [if_neg c20] at H
     exact absurd H (by simp)

end Go.Proofs.Ytgfbgfbnmiainaa.Q
end
section
namespace Go.Proofs.Ytgfbgfbnmiainaa.Q
open Go.RowKit Go.Proofs.YtgfbgfbnmiainaaW.PrintWords Go.Proofs.YtgfbgfbnmiainaaW.PrintLast Go.Proofs.YtgfbgfbnmiainaaW.PrintMore Go.Proofs.YtgfbgfbnmiainaaW.OwnWords
attribute [local go_sem] Go.Proofs.YtgfbgfbnmiainaaW.OwnWords.isSome_setCell max2_int min2_int max_two min_two max_three min_three max_four min_four
set_option linter.unusedVariables false
set_option linter.unusedSimpArgs false

/-! ### manystrandref07_Parse: function 33 -/
def manystrandref07_Parse.f (k : Nat) (a0 : ByteArray) : Option (List Int × List Int × Int × Int × Int) := (manystrandref07_parts.f k a0).bind fun bt557 => ((manystrandref07_take.f bt557.2 (⟨#[32, 46, 46, 32]⟩ : ByteArray)).bind fun bt561 => ((manystrandref07_parts.f k bt561.1).bind fun bt563 => ((manystrandref07_take.f bt563.2 (⟨#[32, 35, 32]⟩ : ByteArray)).bind fun bt567 => ((manystrandref07_number.f k bt567.1).bind fun bt569 => ((manystrandref07_take.f bt569.2 (⟨#[32, 46, 46, 32]⟩ : ByteArray)).bind fun bt571 => ((manystrandref07_number.f k bt571.1).bind fun bt573 => ((manystrandref07_Text.f k bt557.1 bt563.1 bt569.1 bt573.1).bind fun bt575 => (if bt575.2 = 0 then (if bt575.1.toList = a0.toList then (some (bt557.1, bt563.1, bt569.1, bt573.1, 0)) else (some (([] : List Int), ([] : List Int), 0, 0, 3))) else (some (([] : List Int), ([] : List Int), 0, 0, 3))))))))))
theorem manystrandref07_Parse.mono : ∀ a0 k, LeO (manystrandref07_Parse.f k a0) (manystrandref07_Parse.f (k + 1) a0) := by
 intro a0 k
 unfold manystrandref07_Parse.f
 repeat' first
   | (with_reducible exact manystrandref07_Text.mono _ _ _ _ _)
   | (with_reducible exact manystrandref07_number.mono _ _)
   | (with_reducible exact manystrandref07_parts.mono _ _)
   | (with_reducible exact LeO.refl _)
   | (with_reducible exact LeO.none _)
   | (with_reducible refine LeO.ite ?_ ?_)
   | (with_reducible refine LeO.bind ?_ (fun _ => ?_))
   | exact manystrandref07_Text.mono _ _ _ _ _
   | exact manystrandref07_number.mono _ _
   | exact manystrandref07_parts.mono _ _
   | exact LeO.none _
   | refine LeO.ite ?_ ?_
   | refine LeO.bind ?_ (fun _ => ?_)
set_option maxHeartbeats 8000000 in
set_option maxRecDepth 100000 in
theorem manystrandref07_Parse.calls (k : Nat) (a0 : ByteArray) (r1 : List Int) (r2 : List Int) (r3 : Int) (r4 : Int) (r5 : Int) (w : World) (h : manystrandref07_Parse.f k a0 = some (r1, r2, r3, r4, r5)) :
  Calls Try.prog 33 #[.string a0] w fun e w' => ∃ v0_ v1_ : Value, e = .returned (.tuple #[.agg #[v0_, v1_, .int .i64 r3, .int .i64 r4], .int .i64 r5]) ∧ Kd.R (Kd.int .i64) 3 w' w.heap.size (fun k_ => some k_ ≠ (v1_ : Value).ownBlock) v0_ r1 ∧ Kd.R (Kd.int .i64) 3 w' w.heap.size (fun k_ => some k_ ≠ (v0_ : Value).ownBlock) v1_ r2 ∧ Below w.heap.size w w' := by
 have hu37 := Try.underlying37
 have HB := Aside0.mk (Below.refl w.heap.size w)
 have H : ((manystrandref07_parts.f k a0).bind fun bt557 => ((manystrandref07_take.f bt557.2 (⟨#[32, 46, 46, 32]⟩ : ByteArray)).bind fun bt561 => ((manystrandref07_parts.f k bt561.1).bind fun bt563 => ((manystrandref07_take.f bt563.2 (⟨#[32, 35, 32]⟩ : ByteArray)).bind fun bt567 => ((manystrandref07_number.f k bt567.1).bind fun bt569 => ((manystrandref07_take.f bt569.2 (⟨#[32, 46, 46, 32]⟩ : ByteArray)).bind fun bt571 => ((manystrandref07_number.f k bt571.1).bind fun bt573 => ((manystrandref07_Text.f k bt557.1 bt563.1 bt569.1 bt573.1).bind fun bt575 => (if bt575.2 = 0 then (if bt575.1.toList = a0.toList then (some (bt557.1, bt563.1, bt569.1, bt573.1, 0)) else (some (([] : List Int), ([] : List Int), 0, 0, 3))) else (some (([] : List Int), ([] : List Int), 0, 0, 3))))))))))) = some (r1, r2, r3, r4, r5) := h
 clear h
 replace H := Option.bind_eq_some_iff.mp H
 obtain ⟨⟨t557, t558⟩, A20, H⟩ := H
 replace H : ((manystrandref07_take.f t558 (⟨#[32, 46, 46, 32]⟩ : ByteArray)).bind fun bt561 => ((manystrandref07_parts.f k bt561.1).bind fun bt563 => ((manystrandref07_take.f bt563.2 (⟨#[32, 35, 32]⟩ : ByteArray)).bind fun bt567 => ((manystrandref07_number.f k bt567.1).bind fun bt569 => ((manystrandref07_take.f bt569.2 (⟨#[32, 46, 46, 32]⟩ : ByteArray)).bind fun bt571 => ((manystrandref07_number.f k bt571.1).bind fun bt573 => ((manystrandref07_Text.f k t557 bt563.1 bt569.1 bt573.1).bind fun bt575 => (if bt575.2 = 0 then (if bt575.1.toList = a0.toList then (some (t557, bt563.1, bt569.1, bt573.1, 0)) else (some (([] : List Int), ([] : List Int), 0, 0, 3))) else (some (([] : List Int), ([] : List Int), 0, 0, 3)))))))))) = some (r1, r2, r3, r4, r5) := H
 have A2 := Aside0.mk A20
 clear A20
 replace H := Option.bind_eq_some_iff.mp H
 obtain ⟨⟨t561, t562⟩, A30, H⟩ := H
 replace H : ((manystrandref07_parts.f k t561).bind fun bt563 => ((manystrandref07_take.f bt563.2 (⟨#[32, 35, 32]⟩ : ByteArray)).bind fun bt567 => ((manystrandref07_number.f k bt567.1).bind fun bt569 => ((manystrandref07_take.f bt569.2 (⟨#[32, 46, 46, 32]⟩ : ByteArray)).bind fun bt571 => ((manystrandref07_number.f k bt571.1).bind fun bt573 => ((manystrandref07_Text.f k t557 bt563.1 bt569.1 bt573.1).bind fun bt575 => (if bt575.2 = 0 then (if bt575.1.toList = a0.toList then (some (t557, bt563.1, bt569.1, bt573.1, 0)) else (some (([] : List Int), ([] : List Int), 0, 0, 3))) else (some (([] : List Int), ([] : List Int), 0, 0, 3))))))))) = some (r1, r2, r3, r4, r5) := H
 have A3 := Aside0.mk A30
 clear A30
 replace H := Option.bind_eq_some_iff.mp H
 obtain ⟨⟨t563, t564⟩, A40, H⟩ := H
 replace H : ((manystrandref07_take.f t564 (⟨#[32, 35, 32]⟩ : ByteArray)).bind fun bt567 => ((manystrandref07_number.f k bt567.1).bind fun bt569 => ((manystrandref07_take.f bt569.2 (⟨#[32, 46, 46, 32]⟩ : ByteArray)).bind fun bt571 => ((manystrandref07_number.f k bt571.1).bind fun bt573 => ((manystrandref07_Text.f k t557 t563 bt569.1 bt573.1).bind fun bt575 => (if bt575.2 = 0 then (if bt575.1.toList = a0.toList then (some (t557, t563, bt569.1, bt573.1, 0)) else (some (([] : List Int), ([] : List Int), 0, 0, 3))) else (some (([] : List Int), ([] : List Int), 0, 0, 3)))))))) = some (r1, r2, r3, r4, r5) := H
 have A4 := Aside0.mk A40
 clear A40
 replace H := Option.bind_eq_some_iff.mp H
 obtain ⟨⟨t567, t568⟩, A50, H⟩ := H
 replace H : ((manystrandref07_number.f k t567).bind fun bt569 => ((manystrandref07_take.f bt569.2 (⟨#[32, 46, 46, 32]⟩ : ByteArray)).bind fun bt571 => ((manystrandref07_number.f k bt571.1).bind fun bt573 => ((manystrandref07_Text.f k t557 t563 bt569.1 bt573.1).bind fun bt575 => (if bt575.2 = 0 then (if bt575.1.toList = a0.toList then (some (t557, t563, bt569.1, bt573.1, 0)) else (some (([] : List Int), ([] : List Int), 0, 0, 3))) else (some (([] : List Int), ([] : List Int), 0, 0, 3))))))) = some (r1, r2, r3, r4, r5) := H
 have A5 := Aside0.mk A50
 clear A50
 replace H := Option.bind_eq_some_iff.mp H
 obtain ⟨⟨t569, t570⟩, A60, H⟩ := H
 replace H : ((manystrandref07_take.f t570 (⟨#[32, 46, 46, 32]⟩ : ByteArray)).bind fun bt571 => ((manystrandref07_number.f k bt571.1).bind fun bt573 => ((manystrandref07_Text.f k t557 t563 t569 bt573.1).bind fun bt575 => (if bt575.2 = 0 then (if bt575.1.toList = a0.toList then (some (t557, t563, t569, bt573.1, 0)) else (some (([] : List Int), ([] : List Int), 0, 0, 3))) else (some (([] : List Int), ([] : List Int), 0, 0, 3)))))) = some (r1, r2, r3, r4, r5) := H
 have A6 := Aside0.mk A60
 clear A60
 replace H := Option.bind_eq_some_iff.mp H
 obtain ⟨⟨t571, t572⟩, A70, H⟩ := H
 replace H : ((manystrandref07_number.f k t571).bind fun bt573 => ((manystrandref07_Text.f k t557 t563 t569 bt573.1).bind fun bt575 => (if bt575.2 = 0 then (if bt575.1.toList = a0.toList then (some (t557, t563, t569, bt573.1, 0)) else (some (([] : List Int), ([] : List Int), 0, 0, 3))) else (some (([] : List Int), ([] : List Int), 0, 0, 3))))) = some (r1, r2, r3, r4, r5) := H
 have A7 := Aside0.mk A70
 clear A70
 replace H := Option.bind_eq_some_iff.mp H
 obtain ⟨⟨t573, t574⟩, A80, H⟩ := H
 replace H : ((manystrandref07_Text.f k t557 t563 t569 t573).bind fun bt575 => (if bt575.2 = 0 then (if bt575.1.toList = a0.toList then (some (t557, t563, t569, t573, 0)) else (some (([] : List Int), ([] : List Int), 0, 0, 3))) else (some (([] : List Int), ([] : List Int), 0, 0, 3)))) = some (r1, r2, r3, r4, r5) := H
 have A8 := Aside0.mk A80
 clear A80
 replace H := Option.bind_eq_some_iff.mp H
 obtain ⟨⟨t575, t576⟩, A90, H⟩ := H
 replace H : (if t576 = 0 then (if t575.toList = a0.toList then (some (t557, t563, t569, t573, 0)) else (some (([] : List Int), ([] : List Int), 0, 0, 3))) else (some (([] : List Int), ([] : List Int), 0, 0, 3))) = some (r1, r2, r3, r4, r5) := H
 have A9 := Aside0.mk A90
 clear A90
 by_cases c10 : t576 = 0
 ·rw [if_pos c10] at H
  have c10b0 : (t576 == 0) = true := beq_iff_eq.mpr c10
  have c10b1 : (t576 != 0) = false := bne_eq_false_iff_eq.mpr c10
  clear c10
  by_cases c11 : t575.toList = a0.toList
  ·rw [if_pos c11] at H
   have c11b0 : (t575.toList == a0.toList) = true := beq_iff_eq.mpr c11
   have c11b1 : (t575.toList != a0.toList) = false := bne_eq_false_iff_eq.mpr c11
   clear c11
   simp only [Option.some.injEq, Prod.mk.injEq] at H
   obtain ⟨rfl, rfl, rfl, rfl, rfl⟩ := H
   go_enter Try.func33, Try.ntmps33
   go_wp2_with (first | ((with_reducible refine gate_dst (N := 2) rfl ?_); refine box_event ?hg (N := 2) ?hd (cs := #[.slice none 0 0, .slice none 0 0, .int .i64 0, .int .i64 0]) (t := 37) ?hr ?_; (case hd => rfl); (case hg => rfl); (case hr => first | (go_simp; done) | (go_simp; rfl)); intro gb555 hg w12 hbox hb; have n0_ := Aside0.mk (below_step bSt_ hb); have n1_ := Aside0.mk (hbox); have n2_ := Aside0.mk ((by rw [hg]; exact (below_size bSt_) : w.heap.size ≤ gb555)); have n3_ := Aside0.mk ((by rw [hg]; exact (below_size bSt_) : w.heap.size ≤ gb555)); clear HB; have HB := n0_; have BK555 := n1_; have GW555 := n2_; have GE555 := n3_; clear n0_ n1_ n2_ n3_; clear hb hbox hg) | ((with_reducible refine gate_dst (N := 4) rfl ?_); refine box_event ?hg (N := 4) ?hd (cs := #[.slice none 0 0, .slice none 0 0, .int .i64 0, .int .i64 0]) (t := 37) ?hr ?_; (case hd => rfl); (case hg => rfl); (case hr => first | (go_simp; done) | (go_simp; rfl)); intro gb556 hg w13 hbox hb; have n0_ := Aside0.mk (blk_below (bKq_ BK555.out) hb); have n1_ := Aside0.mk (below_step bSt_ hb); have n2_ := Aside0.mk (hbox); have n3_ := Aside0.mk ((by rw [hg]; exact (below_size bSt_) : w.heap.size ≤ gb556)); have n4_ := Aside0.mk ((by rw [hg]; exact (below_size bSt_) : w.heap.size ≤ gb556)); have n5_ := Aside0.mk ((by rw [hg]; exact Nat.ne_of_lt (blk_lt (bKq_ BK555.out)) : gb555 ≠ gb556)); have n6_ := Aside0.mk ((by rw [hg]; exact Nat.ne_of_gt (blk_lt (bKq_ BK555.out)) : gb556 ≠ gb555)); clear BK555; clear HB; have BK555 := n0_; have HB := n1_; have BK556 := n2_; have GW556 := n3_; have GE556 := n4_; have NB555_556 := n5_; have NB556_555 := n6_; clear n0_ n1_ n2_ n3_ n4_ n5_ n6_; clear hb hbox hg) | ((with_reducible refine gate_callee (f := 58) rfl ?_); refine goesL_ (some 11) rfl rfl Try.func58 (by kernel_rfl) rfl #[.string a0] rfl (by (try simp only [List.map_toArray, List.map_cons, List.map_nil]); first | done | rfl | (simp only [List.length_drop, List.length_take]; rfl)) ?_; (with_reducible refine (manystrandref07_parts.calls k a0 t557 t558 _ A2.out).mono ?_); rintro e w14 ⟨v559, rfl, ho0, hb⟩; refine ⟨_, rfl, ?_⟩; have n0_ := Aside0.mk (Kd.R_lower ho0 (below_size bSt_)); have n1_ := Aside0.mk (blk_below (bKq_ BK555.out) hb); have n2_ := Aside0.mk (blk_below (bKq_ BK556.out) hb); have n3_ := Aside0.mk (below_step bSt_ hb); clear BK555; clear BK556; clear HB; have HO560 := n0_; have BK555 := n1_; have BK556 := n2_; have HB := n3_; clear n0_ n1_ n2_ n3_; (try clear hb); (try clear hb2); (try clear hk); (try clear hi); (try clear ho0); obtain ⟨Ao15, co15, eo15⟩ := Kd.R_slice HO560.out; subst eo15; have hnb16 := NB556_555.out; have hnc16 := NB555_556.out; have hcz17_0 : w14.cell? ⟨gb556, 0, none⟩ = some (.slice none 0 0) := (blk_cell BK556.out 0).trans rfl; have hcz17_1 : w14.cell? ⟨gb556, 1, none⟩ = some (.slice none 0 0) := (blk_cell BK556.out 1).trans rfl; have hcz17_2 : w14.cell? ⟨gb556, 2, none⟩ = some (.int .i64 0) := (blk_cell BK556.out 2).trans rfl; have hcz17_3 : w14.cell? ⟨gb556, 3, none⟩ = some (.int .i64 0) := (blk_cell BK556.out 3).trans rfl; have hfz17_0 := blk_frozen BK556.out 0; have hfz17_1 := blk_frozen BK556.out 1; have hfz17_2 := blk_frozen BK556.out 2; have hfz17_3 := blk_frozen BK556.out 3) | ((with_reducible refine gate_callee (f := 59) rfl ?_); refine goesL_ (some 17) rfl rfl Try.func59 (by kernel_rfl) rfl #[.string t558, .string (⟨#[32, 46, 46, 32]⟩ : ByteArray)] rfl (by (try simp only [List.map_toArray, List.map_cons, List.map_nil]); first | done | rfl | (simp only [List.length_drop, List.length_take]; rfl)) ?_; (with_reducible refine (manystrandref07_take.calls t558 (⟨#[32, 46, 46, 32]⟩ : ByteArray) t561 t562 _ A3.out).mono ?_); rintro e w' ⟨rfl, ⟨nd, rfl⟩⟩; refine ⟨_, rfl, ?_⟩) | ((with_reducible refine gate_callee (f := 58) rfl ?_); refine goesL_ (some 22) rfl rfl Try.func58 (by kernel_rfl) rfl #[.string t561] rfl (by (try simp only [List.map_toArray, List.map_cons, List.map_nil]); first | done | rfl | (simp only [List.length_drop, List.length_take]; rfl)) ?_; (with_reducible refine (manystrandref07_parts.calls k t561 t563 t564 _ A4.out).mono ?_); rintro e w18 ⟨v565, rfl, ho0, hb⟩; refine ⟨_, rfl, ?_⟩; have n0_ := Aside0.mk (Kd.R_elder' (by (with_reducible repeat (first | apply Kd.R_alloc | apply Kd.R_drewN | apply Kd.R_drew)); exact (Kd.R_mono (Kd.R_far (p := ⟨gb556, 0, none⟩) (Kd.R_types HO560.out BK556.out (by decide)) (fun _ hk => hk.2) (.slice Ao15 t557.length co15)) (fun _ h_ => h_.1))) (Kd.R_base ho0) hb); have n1_ := Aside0.mk (Kd.R_lower (Kd.R_new' ho0 (Kd.R_lt (by (with_reducible repeat (first | apply Kd.R_alloc | apply Kd.R_drewN | apply Kd.R_drew)); exact (Kd.R_mono (Kd.R_far (p := ⟨gb556, 0, none⟩) (Kd.R_types HO560.out BK556.out (by decide)) (fun _ hk => hk.2) (.slice Ao15 t557.length co15)) (fun _ h_ => h_.1))))) (below_size bSt_)); have n2_ := Aside0.mk (blk_below (bKq_ BK555.out) hb); have n3_ := Aside0.mk (blk_below (g := gb556) (o := .cells #[.slice Ao15 t557.length co15, .slice none 0 0, .int .i64 0, .int .i64 0] 37 (0, 0)) (bKq_ BK556.out) hb); have n4_ := Aside0.mk (below_step bSt_ hb); clear HO560; clear BK555; clear BK556; clear HB; have HO560 := n0_; have HO566 := n1_; have BK555 := n2_; have BK556 := n3_; have HB := n4_; clear n0_ n1_ n2_ n3_ n4_; (try clear hb); (try clear hb2); (try clear hk); (try clear hi); (try clear ho0); obtain ⟨Ao19, co19, eo19⟩ := Kd.R_slice HO566.out; subst eo19; have hcz20_0 : w18.cell? ⟨gb556, 0, none⟩ = some (.slice Ao15 t557.length co15) := (blk_cell BK556.out 0).trans rfl; have hcz20_1 : w18.cell? ⟨gb556, 1, none⟩ = some (.slice none 0 0) := (blk_cell BK556.out 1).trans rfl; have hcz20_2 : w18.cell? ⟨gb556, 2, none⟩ = some (.int .i64 0) := (blk_cell BK556.out 2).trans rfl; have hcz20_3 : w18.cell? ⟨gb556, 3, none⟩ = some (.int .i64 0) := (blk_cell BK556.out 3).trans rfl; have hfz20_0 := blk_frozen BK556.out 0; have hfz20_1 := blk_frozen BK556.out 1; have hfz20_2 := blk_frozen BK556.out 2; have hfz20_3 := blk_frozen BK556.out 3) | ((with_reducible refine gate_callee (f := 59) rfl ?_); refine goesL_ (some 28) rfl rfl Try.func59 (by kernel_rfl) rfl #[.string t564, .string (⟨#[32, 35, 32]⟩ : ByteArray)] rfl (by (try simp only [List.map_toArray, List.map_cons, List.map_nil]); first | done | rfl | (simp only [List.length_drop, List.length_take]; rfl)) ?_; (with_reducible refine (manystrandref07_take.calls t564 (⟨#[32, 35, 32]⟩ : ByteArray) t567 t568 _ A5.out).mono ?_); rintro e w' ⟨rfl, ⟨nd, rfl⟩⟩; refine ⟨_, rfl, ?_⟩) | ((with_reducible refine gate_callee (f := 60) rfl ?_); refine goesL_ (some 33) rfl rfl Try.func60 (by kernel_rfl) rfl #[.string t567] rfl (by (try simp only [List.map_toArray, List.map_cons, List.map_nil]); first | done | rfl | (simp only [List.length_drop, List.length_take]; rfl)) ?_; (with_reducible refine (manystrandref07_number.calls k t567 t569 t570 _ A6.out).mono ?_); rintro e w' ⟨rfl, ⟨nd, rfl⟩⟩; refine ⟨_, rfl, ?_⟩) | ((with_reducible refine gate_callee (f := 59) rfl ?_); refine goesL_ (some 39) rfl rfl Try.func59 (by kernel_rfl) rfl #[.string t570, .string (⟨#[32, 46, 46, 32]⟩ : ByteArray)] rfl (by (try simp only [List.map_toArray, List.map_cons, List.map_nil]); first | done | rfl | (simp only [List.length_drop, List.length_take]; rfl)) ?_; (with_reducible refine (manystrandref07_take.calls t570 (⟨#[32, 46, 46, 32]⟩ : ByteArray) t571 t572 _ A7.out).mono ?_); rintro e w' ⟨rfl, ⟨nd, rfl⟩⟩; refine ⟨_, rfl, ?_⟩) | ((with_reducible refine gate_callee (f := 60) rfl ?_); refine goesL_ (some 44) rfl rfl Try.func60 (by kernel_rfl) rfl #[.string t571] rfl (by (try simp only [List.map_toArray, List.map_cons, List.map_nil]); first | done | rfl | (simp only [List.length_drop, List.length_take]; rfl)) ?_; (with_reducible refine (manystrandref07_number.calls k t571 t573 t574 _ A8.out).mono ?_); rintro e w' ⟨rfl, ⟨nd, rfl⟩⟩; refine ⟨_, rfl, ?_⟩) | ((with_reducible refine gate_callee (f := 31) rfl ?_); refine goesL_ (some 50) rfl rfl Try.func31 (by kernel_rfl) rfl #[.agg #[.slice Ao15 t557.length co15, .slice Ao19 t563.length co19, .int .i64 t569, .int .i64 t573]] rfl (by (try simp only [List.map_toArray, List.map_cons, List.map_nil]); first | done | rfl | (simp only [List.length_drop, List.length_take]; rfl)) ?_; (with_reducible refine (manystrandref07_Text.calls k _ _ t557 _ _ t563 t569 t573 t575 t576 _ ?side1 ?side2 ?side3 ?side4 A9.out).mono ?_); (case side1 => refine (Kd.R_reads' (e := 3) (base := w.heap.size) (ok := fun k_ => (True ∧ some k_ ≠ (.slice Ao19 t563.length co19 : Value).ownBlock)) (n := t557.length) (c := co15) ?_).2.2; exact (by (with_reducible repeat (first | apply Kd.R_alloc | apply Kd.R_drewN | apply Kd.R_drew)); exact (Kd.R_mono (Kd.R_far (p := ⟨gb556, 3, none⟩) (Kd.R_far (p := ⟨gb556, 2, none⟩) (Kd.R_far (p := ⟨gb556, 1, none⟩) (Kd.R_types HO560.out BK556.out (by decide)) (fun _ hk => hk.2) (.slice Ao19 t563.length co19)) (fun _ hk => hk.2) (.int .i64 t569)) (fun _ hk => hk.2) (.int .i64 t573)) (fun _ h_ => h_.1)))); (case side2 => exact (Kd.R_reads' HO560.out).2.1); (case side3 => refine (Kd.R_reads' (e := 3) (base := w.heap.size) (ok := fun k_ => (True ∧ some k_ ≠ (.slice Ao15 t557.length co15 : Value).ownBlock)) (n := t563.length) (c := co19) ?_).2.2; exact (by (with_reducible repeat (first | apply Kd.R_alloc | apply Kd.R_drewN | apply Kd.R_drew)); exact (Kd.R_mono (Kd.R_far (p := ⟨gb556, 3, none⟩) (Kd.R_far (p := ⟨gb556, 2, none⟩) (Kd.R_far (p := ⟨gb556, 1, none⟩) (Kd.R_types HO566.out BK556.out (by decide)) (fun _ hk => hk.2) (.slice Ao19 t563.length co19)) (fun _ hk => hk.2) (.int .i64 t569)) (fun _ hk => hk.2) (.int .i64 t573)) (fun _ h_ => h_.1)))); (case side4 => exact (Kd.R_reads' HO566.out).2.1); rintro e w21 ⟨rfl, hb⟩; refine ⟨_, rfl, ?_⟩; have n0_ := Aside0.mk (Kd.R_below (by (with_reducible repeat (first | apply Kd.R_alloc | apply Kd.R_drewN | apply Kd.R_drew)); exact (Kd.R_mono (Kd.R_far (p := ⟨gb556, 3, none⟩) (Kd.R_far (p := ⟨gb556, 2, none⟩) (Kd.R_far (p := ⟨gb556, 1, none⟩) (Kd.R_types HO560.out BK556.out (by decide)) (fun _ hk => hk.2) (.slice Ao19 t563.length co19)) (fun _ hk => hk.2) (.int .i64 t569)) (fun _ hk => hk.2) (.int .i64 t573)) (fun _ h_ => h_.1))) hb); have n1_ := Aside0.mk (Kd.R_below (by (with_reducible repeat (first | apply Kd.R_alloc | apply Kd.R_drewN | apply Kd.R_drew)); exact (Kd.R_mono (Kd.R_far (p := ⟨gb556, 3, none⟩) (Kd.R_far (p := ⟨gb556, 2, none⟩) (Kd.R_far (p := ⟨gb556, 1, none⟩) (Kd.R_types HO566.out BK556.out (by decide)) (fun _ hk => hk.2) (.slice Ao19 t563.length co19)) (fun _ hk => hk.2) (.int .i64 t569)) (fun _ hk => hk.2) (.int .i64 t573)) (fun _ h_ => h_.1))) hb); have n2_ := Aside0.mk (blk_below (bKq_ BK555.out) hb); have n3_ := Aside0.mk (blk_below (g := gb556) (o := .cells #[.slice Ao15 t557.length co15, .slice Ao19 t563.length co19, .int .i64 t569, .int .i64 t573] 37 (0, 0)) (bKq_ BK556.out) hb); have n4_ := Aside0.mk (below_step bSt_ hb); clear HO560; clear HO566; clear BK555; clear BK556; clear HB; have HO560 := n0_; have HO566 := n1_; have BK555 := n2_; have BK556 := n3_; have HB := n4_; clear n0_ n1_ n2_ n3_ n4_; (try clear hb); (try clear hb2); (try clear hk); (try clear hi); have hcz22_0 : w21.cell? ⟨gb556, 0, none⟩ = some (.slice Ao15 t557.length co15) := (blk_cell BK556.out 0).trans rfl; have hcz22_1 : w21.cell? ⟨gb556, 1, none⟩ = some (.slice Ao19 t563.length co19) := (blk_cell BK556.out 1).trans rfl; have hcz22_2 : w21.cell? ⟨gb556, 2, none⟩ = some (.int .i64 t569) := (blk_cell BK556.out 2).trans rfl; have hcz22_3 : w21.cell? ⟨gb556, 3, none⟩ = some (.int .i64 t573) := (blk_cell BK556.out 3).trans rfl; have hfz22_0 := blk_frozen BK556.out 0; have hfz22_1 := blk_frozen BK556.out 1; have hfz22_2 := blk_frozen BK556.out 2; have hfz22_3 := blk_frozen BK556.out 3; have hcz23_0 : w21.cell? ⟨gb555, 0, none⟩ = some (.slice none 0 0) := (blk_cell BK555.out 0).trans rfl; have hcz23_1 : w21.cell? ⟨gb555, 1, none⟩ = some (.slice none 0 0) := (blk_cell BK555.out 1).trans rfl; have hcz23_2 : w21.cell? ⟨gb555, 2, none⟩ = some (.int .i64 0) := (blk_cell BK555.out 2).trans rfl; have hcz23_3 : w21.cell? ⟨gb555, 3, none⟩ = some (.int .i64 0) := (blk_cell BK555.out 3).trans rfl; have hfz23_0 := blk_frozen BK555.out 0; have hfz23_1 := blk_frozen BK555.out 1; have hfz23_2 := blk_frozen BK555.out 2; have hfz23_3 := blk_frozen BK555.out 3))
   refine bodyPost_ret (results_ct rfl _ _ gb555 37 #[.slice Ao15 t557.length co15, .slice Ao19 t563.length co19, .int .i64 t569, .int .i64 t573] (0, 0) _ rfl (bKq_ BK555.out) Try.underlying37 rfl (by kernel_rfl)) rfl ?_
   exact ⟨_, _, by first | rfl | (simp [errW_none, errW_some] <;> rfl) | (simp [*, errW_none, errW_some] <;> rfl) | (simp [errW_none, errW_some]; exact Go.Proofs.YtgfbgfbnmiainaaW.OwnWords.isEmpty_bne _), by (with_reducible repeat (first | apply Kd.R_alloc | apply Kd.R_drewN | apply Kd.R_drew)); exact Kd.R_mono (Kd.R_far (p := ⟨gb555, 3, none⟩) (Kd.R_far (p := ⟨gb555, 2, none⟩) (Kd.R_far (p := ⟨gb555, 1, none⟩) (Kd.R_far (p := ⟨gb555, 0, none⟩) (Kd.R_types HO560.out BK555.out (by decide)) (fun _ hk => hk.2) (.slice Ao15 t557.length co15)) (fun _ hk => hk.2) (.slice Ao19 t563.length co19)) (fun _ hk => hk.2) (.int .i64 t569)) (fun _ hk => hk.2) (.int .i64 t573)) (fun _ hk => hk.1.2), by (with_reducible repeat (first | apply Kd.R_alloc | apply Kd.R_drewN | apply Kd.R_drew)); exact Kd.R_mono (Kd.R_far (p := ⟨gb555, 3, none⟩) (Kd.R_far (p := ⟨gb555, 2, none⟩) (Kd.R_far (p := ⟨gb555, 1, none⟩) (Kd.R_far (p := ⟨gb555, 0, none⟩) (Kd.R_types HO566.out BK555.out (by decide)) (fun _ hk => hk.2) (.slice Ao15 t557.length co15)) (fun _ hk => hk.2) (.slice Ao19 t563.length co19)) (fun _ hk => hk.2) (.int .i64 t569)) (fun _ hk => hk.2) (.int .i64 t573)) (fun _ hk => hk.1.2), bSt_⟩
  ·rw [if_neg c11] at H
   have c11b0 : (t575.toList == a0.toList) = false := beq_eq_false_iff_ne.mpr c11
   have c11b1 : (t575.toList != a0.toList) = true := bne_iff_ne.mpr c11
   simp only [Option.some.injEq, Prod.mk.injEq] at H
   obtain ⟨rfl, rfl, rfl, rfl, rfl⟩ := H
   go_enter Try.func33, Try.ntmps33
   go_wp2_with (first | ((with_reducible refine gate_dst (N := 2) rfl ?_); refine box_event ?hg (N := 2) ?hd (cs := #[.slice none 0 0, .slice none 0 0, .int .i64 0, .int .i64 0]) (t := 37) ?hr ?_; (case hd => rfl); (case hg => rfl); (case hr => first | (go_simp; done) | (go_simp; rfl)); intro gb555 hg w24 hbox hb; have n0_ := Aside0.mk (below_step bSt_ hb); have n1_ := Aside0.mk (hbox); have n2_ := Aside0.mk ((by rw [hg]; exact (below_size bSt_) : w.heap.size ≤ gb555)); have n3_ := Aside0.mk ((by rw [hg]; exact (below_size bSt_) : w.heap.size ≤ gb555)); clear HB; have HB := n0_; have BK555 := n1_; have GW555 := n2_; have GE555 := n3_; clear n0_ n1_ n2_ n3_; clear hb hbox hg) | ((with_reducible refine gate_dst (N := 4) rfl ?_); refine box_event ?hg (N := 4) ?hd (cs := #[.slice none 0 0, .slice none 0 0, .int .i64 0, .int .i64 0]) (t := 37) ?hr ?_; (case hd => rfl); (case hg => rfl); (case hr => first | (go_simp; done) | (go_simp; rfl)); intro gb556 hg w25 hbox hb; have n0_ := Aside0.mk (blk_below (bKq_ BK555.out) hb); have n1_ := Aside0.mk (below_step bSt_ hb); have n2_ := Aside0.mk (hbox); have n3_ := Aside0.mk ((by rw [hg]; exact (below_size bSt_) : w.heap.size ≤ gb556)); have n4_ := Aside0.mk ((by rw [hg]; exact (below_size bSt_) : w.heap.size ≤ gb556)); have n5_ := Aside0.mk ((by rw [hg]; exact Nat.ne_of_lt (blk_lt (bKq_ BK555.out)) : gb555 ≠ gb556)); have n6_ := Aside0.mk ((by rw [hg]; exact Nat.ne_of_gt (blk_lt (bKq_ BK555.out)) : gb556 ≠ gb555)); clear BK555; clear HB; have BK555 := n0_; have HB := n1_; have BK556 := n2_; have GW556 := n3_; have GE556 := n4_; have NB555_556 := n5_; have NB556_555 := n6_; clear n0_ n1_ n2_ n3_ n4_ n5_ n6_; clear hb hbox hg) | ((with_reducible refine gate_callee (f := 58) rfl ?_); refine goesL_ (some 11) rfl rfl Try.func58 (by kernel_rfl) rfl #[.string a0] rfl (by (try simp only [List.map_toArray, List.map_cons, List.map_nil]); first | done | rfl | (simp only [List.length_drop, List.length_take]; rfl)) ?_; (with_reducible refine (manystrandref07_parts.calls k a0 t557 t558 _ A2.out).mono ?_); rintro e w26 ⟨v559, rfl, ho0, hb⟩; refine ⟨_, rfl, ?_⟩; have n0_ := Aside0.mk (Kd.R_lower ho0 (below_size bSt_)); have n1_ := Aside0.mk (blk_below (bKq_ BK555.out) hb); have n2_ := Aside0.mk (blk_below (bKq_ BK556.out) hb); have n3_ := Aside0.mk (below_step bSt_ hb); clear BK555; clear BK556; clear HB; have HO560 := n0_; have BK555 := n1_; have BK556 := n2_; have HB := n3_; clear n0_ n1_ n2_ n3_; (try clear hb); (try clear hb2); (try clear hk); (try clear hi); (try clear ho0); obtain ⟨Ao27, co27, eo27⟩ := Kd.R_slice HO560.out; subst eo27; have hnb28 := NB556_555.out; have hnc28 := NB555_556.out; have hcz29_0 : w26.cell? ⟨gb556, 0, none⟩ = some (.slice none 0 0) := (blk_cell BK556.out 0).trans rfl; have hcz29_1 : w26.cell? ⟨gb556, 1, none⟩ = some (.slice none 0 0) := (blk_cell BK556.out 1).trans rfl; have hcz29_2 : w26.cell? ⟨gb556, 2, none⟩ = some (.int .i64 0) := (blk_cell BK556.out 2).trans rfl; have hcz29_3 : w26.cell? ⟨gb556, 3, none⟩ = some (.int .i64 0) := (blk_cell BK556.out 3).trans rfl; have hfz29_0 := blk_frozen BK556.out 0; have hfz29_1 := blk_frozen BK556.out 1; have hfz29_2 := blk_frozen BK556.out 2; have hfz29_3 := blk_frozen BK556.out 3) | ((with_reducible refine gate_callee (f := 59) rfl ?_); refine goesL_ (some 17) rfl rfl Try.func59 (by kernel_rfl) rfl #[.string t558, .string (⟨#[32, 46, 46, 32]⟩ : ByteArray)] rfl (by (try simp only [List.map_toArray, List.map_cons, List.map_nil]); first | done | rfl | (simp only [List.length_drop, List.length_take]; rfl)) ?_; (with_reducible refine (manystrandref07_take.calls t558 (⟨#[32, 46, 46, 32]⟩ : ByteArray) t561 t562 _ A3.out).mono ?_); rintro e w' ⟨rfl, ⟨nd, rfl⟩⟩; refine ⟨_, rfl, ?_⟩) | ((with_reducible refine gate_callee (f := 58) rfl ?_); refine goesL_ (some 22) rfl rfl Try.func58 (by kernel_rfl) rfl #[.string t561] rfl (by (try simp only [List.map_toArray, List.map_cons, List.map_nil]); first | done | rfl | (simp only [List.length_drop, List.length_take]; rfl)) ?_; (with_reducible refine (manystrandref07_parts.calls k t561 t563 t564 _ A4.out).mono ?_); rintro e w30 ⟨v565, rfl, ho0, hb⟩; refine ⟨_, rfl, ?_⟩; have n0_ := Aside0.mk (Kd.R_elder' (by (with_reducible repeat (first | apply Kd.R_alloc | apply Kd.R_drewN | apply Kd.R_drew)); exact (Kd.R_mono (Kd.R_far (p := ⟨gb556, 0, none⟩) (Kd.R_types HO560.out BK556.out (by decide)) (fun _ hk => hk.2) (.slice Ao27 t557.length co27)) (fun _ h_ => h_.1))) (Kd.R_base ho0) hb); have n1_ := Aside0.mk (Kd.R_lower (Kd.R_new' ho0 (Kd.R_lt (by (with_reducible repeat (first | apply Kd.R_alloc | apply Kd.R_drewN | apply Kd.R_drew)); exact (Kd.R_mono (Kd.R_far (p := ⟨gb556, 0, none⟩) (Kd.R_types HO560.out BK556.out (by decide)) (fun _ hk => hk.2) (.slice Ao27 t557.length co27)) (fun _ h_ => h_.1))))) (below_size bSt_)); have n2_ := Aside0.mk (blk_below (bKq_ BK555.out) hb); have n3_ := Aside0.mk (blk_below (g := gb556) (o := .cells #[.slice Ao27 t557.length co27, .slice none 0 0, .int .i64 0, .int .i64 0] 37 (0, 0)) (bKq_ BK556.out) hb); have n4_ := Aside0.mk (below_step bSt_ hb); clear HO560; clear BK555; clear BK556; clear HB; have HO560 := n0_; have HO566 := n1_; have BK555 := n2_; have BK556 := n3_; have HB := n4_; clear n0_ n1_ n2_ n3_ n4_; (try clear hb); (try clear hb2); (try clear hk); (try clear hi); (try clear ho0); obtain ⟨Ao31, co31, eo31⟩ := Kd.R_slice HO566.out; subst eo31; have hcz32_0 : w30.cell? ⟨gb556, 0, none⟩ = some (.slice Ao27 t557.length co27) := (blk_cell BK556.out 0).trans rfl; have hcz32_1 : w30.cell? ⟨gb556, 1, none⟩ = some (.slice none 0 0) := (blk_cell BK556.out 1).trans rfl; have hcz32_2 : w30.cell? ⟨gb556, 2, none⟩ = some (.int .i64 0) := (blk_cell BK556.out 2).trans rfl; have hcz32_3 : w30.cell? ⟨gb556, 3, none⟩ = some (.int .i64 0) := (blk_cell BK556.out 3).trans rfl; have hfz32_0 := blk_frozen BK556.out 0; have hfz32_1 := blk_frozen BK556.out 1; have hfz32_2 := blk_frozen BK556.out 2; have hfz32_3 := blk_frozen BK556.out 3) | ((with_reducible refine gate_callee (f := 59) rfl ?_); refine goesL_ (some 28) rfl rfl Try.func59 (by kernel_rfl) rfl #[.string t564, .string (⟨#[32, 35, 32]⟩ : ByteArray)] rfl (by (try simp only [List.map_toArray, List.map_cons, List.map_nil]); first | done | rfl | (simp only [List.length_drop, List.length_take]; rfl)) ?_; (with_reducible refine (manystrandref07_take.calls t564 (⟨#[32, 35, 32]⟩ : ByteArray) t567 t568 _ A5.out).mono ?_); rintro e w' ⟨rfl, ⟨nd, rfl⟩⟩; refine ⟨_, rfl, ?_⟩) | ((with_reducible refine gate_callee (f := 60) rfl ?_); refine goesL_ (some 33) rfl rfl Try.func60 (by kernel_rfl) rfl #[.string t567] rfl (by (try simp only [List.map_toArray, List.map_cons, List.map_nil]); first | done | rfl | (simp only [List.length_drop, List.length_take]; rfl)) ?_; (with_reducible refine (manystrandref07_number.calls k t567 t569 t570 _ A6.out).mono ?_); rintro e w' ⟨rfl, ⟨nd, rfl⟩⟩; refine ⟨_, rfl, ?_⟩) | ((with_reducible refine gate_callee (f := 59) rfl ?_); refine goesL_ (some 39) rfl rfl Try.func59 (by kernel_rfl) rfl #[.string t570, .string (⟨#[32, 46, 46, 32]⟩ : ByteArray)] rfl (by (try simp only [List.map_toArray, List.map_cons, List.map_nil]); first | done | rfl | (simp only [List.length_drop, List.length_take]; rfl)) ?_; (with_reducible refine (manystrandref07_take.calls t570 (⟨#[32, 46, 46, 32]⟩ : ByteArray) t571 t572 _ A7.out).mono ?_); rintro e w' ⟨rfl, ⟨nd, rfl⟩⟩; refine ⟨_, rfl, ?_⟩) | ((with_reducible refine gate_callee (f := 60) rfl ?_); refine goesL_ (some 44) rfl rfl Try.func60 (by kernel_rfl) rfl #[.string t571] rfl (by (try simp only [List.map_toArray, List.map_cons, List.map_nil]); first | done | rfl | (simp only [List.length_drop, List.length_take]; rfl)) ?_; (with_reducible refine (manystrandref07_number.calls k t571 t573 t574 _ A8.out).mono ?_); rintro e w' ⟨rfl, ⟨nd, rfl⟩⟩; refine ⟨_, rfl, ?_⟩) | ((with_reducible refine gate_callee (f := 31) rfl ?_); refine goesL_ (some 50) rfl rfl Try.func31 (by kernel_rfl) rfl #[.agg #[.slice Ao27 t557.length co27, .slice Ao31 t563.length co31, .int .i64 t569, .int .i64 t573]] rfl (by (try simp only [List.map_toArray, List.map_cons, List.map_nil]); first | done | rfl | (simp only [List.length_drop, List.length_take]; rfl)) ?_; (with_reducible refine (manystrandref07_Text.calls k _ _ t557 _ _ t563 t569 t573 t575 t576 _ ?side1 ?side2 ?side3 ?side4 A9.out).mono ?_); (case side1 => refine (Kd.R_reads' (e := 3) (base := w.heap.size) (ok := fun k_ => (True ∧ some k_ ≠ (.slice Ao31 t563.length co31 : Value).ownBlock)) (n := t557.length) (c := co27) ?_).2.2; exact (by (with_reducible repeat (first | apply Kd.R_alloc | apply Kd.R_drewN | apply Kd.R_drew)); exact (Kd.R_mono (Kd.R_far (p := ⟨gb556, 3, none⟩) (Kd.R_far (p := ⟨gb556, 2, none⟩) (Kd.R_far (p := ⟨gb556, 1, none⟩) (Kd.R_types HO560.out BK556.out (by decide)) (fun _ hk => hk.2) (.slice Ao31 t563.length co31)) (fun _ hk => hk.2) (.int .i64 t569)) (fun _ hk => hk.2) (.int .i64 t573)) (fun _ h_ => h_.1)))); (case side2 => exact (Kd.R_reads' HO560.out).2.1); (case side3 => refine (Kd.R_reads' (e := 3) (base := w.heap.size) (ok := fun k_ => (True ∧ some k_ ≠ (.slice Ao27 t557.length co27 : Value).ownBlock)) (n := t563.length) (c := co31) ?_).2.2; exact (by (with_reducible repeat (first | apply Kd.R_alloc | apply Kd.R_drewN | apply Kd.R_drew)); exact (Kd.R_mono (Kd.R_far (p := ⟨gb556, 3, none⟩) (Kd.R_far (p := ⟨gb556, 2, none⟩) (Kd.R_far (p := ⟨gb556, 1, none⟩) (Kd.R_types HO566.out BK556.out (by decide)) (fun _ hk => hk.2) (.slice Ao31 t563.length co31)) (fun _ hk => hk.2) (.int .i64 t569)) (fun _ hk => hk.2) (.int .i64 t573)) (fun _ h_ => h_.1)))); (case side4 => exact (Kd.R_reads' HO566.out).2.1); rintro e w33 ⟨rfl, hb⟩; refine ⟨_, rfl, ?_⟩; have n0_ := Aside0.mk (Kd.R_below (by (with_reducible repeat (first | apply Kd.R_alloc | apply Kd.R_drewN | apply Kd.R_drew)); exact (Kd.R_mono (Kd.R_far (p := ⟨gb556, 3, none⟩) (Kd.R_far (p := ⟨gb556, 2, none⟩) (Kd.R_far (p := ⟨gb556, 1, none⟩) (Kd.R_types HO560.out BK556.out (by decide)) (fun _ hk => hk.2) (.slice Ao31 t563.length co31)) (fun _ hk => hk.2) (.int .i64 t569)) (fun _ hk => hk.2) (.int .i64 t573)) (fun _ h_ => h_.1))) hb); have n1_ := Aside0.mk (Kd.R_below (by (with_reducible repeat (first | apply Kd.R_alloc | apply Kd.R_drewN | apply Kd.R_drew)); exact (Kd.R_mono (Kd.R_far (p := ⟨gb556, 3, none⟩) (Kd.R_far (p := ⟨gb556, 2, none⟩) (Kd.R_far (p := ⟨gb556, 1, none⟩) (Kd.R_types HO566.out BK556.out (by decide)) (fun _ hk => hk.2) (.slice Ao31 t563.length co31)) (fun _ hk => hk.2) (.int .i64 t569)) (fun _ hk => hk.2) (.int .i64 t573)) (fun _ h_ => h_.1))) hb); have n2_ := Aside0.mk (blk_below (bKq_ BK555.out) hb); have n3_ := Aside0.mk (blk_below (g := gb556) (o := .cells #[.slice Ao27 t557.length co27, .slice Ao31 t563.length co31, .int .i64 t569, .int .i64 t573] 37 (0, 0)) (bKq_ BK556.out) hb); have n4_ := Aside0.mk (below_step bSt_ hb); clear HO560; clear HO566; clear BK555; clear BK556; clear HB; have HO560 := n0_; have HO566 := n1_; have BK555 := n2_; have BK556 := n3_; have HB := n4_; clear n0_ n1_ n2_ n3_ n4_; (try clear hb); (try clear hb2); (try clear hk); (try clear hi); have hcz34_0 : w33.cell? ⟨gb555, 0, none⟩ = some (.slice none 0 0) := (blk_cell BK555.out 0).trans rfl; have hcz34_1 : w33.cell? ⟨gb555, 1, none⟩ = some (.slice none 0 0) := (blk_cell BK555.out 1).trans rfl; have hcz34_2 : w33.cell? ⟨gb555, 2, none⟩ = some (.int .i64 0) := (blk_cell BK555.out 2).trans rfl; have hcz34_3 : w33.cell? ⟨gb555, 3, none⟩ = some (.int .i64 0) := (blk_cell BK555.out 3).trans rfl; have hfz34_0 := blk_frozen BK555.out 0; have hfz34_1 := blk_frozen BK555.out 1; have hfz34_2 := blk_frozen BK555.out 2; have hfz34_3 := blk_frozen BK555.out 3))
   refine bodyPost_ret (results_ct rfl _ _ gb555 37 #[.slice none 0 0, .slice none 0 0, .int .i64 0, .int .i64 0] (0, 0) _ rfl (bKq_ BK555.out) Try.underlying37 rfl (by kernel_rfl)) rfl ?_
   exact ⟨_, _, by first | rfl | (simp [errW_none, errW_some] <;> rfl) | (simp [*, errW_none, errW_some] <;> rfl) | (simp [errW_none, errW_some]; exact Go.Proofs.YtgfbgfbnmiainaaW.OwnWords.isEmpty_bne _), by first | exact Kd.R_nil _ _ _ _ _ | exact Kd.N_nil _ _ _ _ _ | exact Kd.V_nil _ _ _ _ _ | exact Kd.Q_nil _ _ _ _ _ | exact Kd.S_nil _ _ _ _ _, by first | exact Kd.R_nil _ _ _ _ _ | exact Kd.N_nil _ _ _ _ _ | exact Kd.V_nil _ _ _ _ _ | exact Kd.Q_nil _ _ _ _ _ | exact Kd.S_nil _ _ _ _ _, bSt_⟩
 ·rw [if_neg c10] at H
  have c10b0 : (t576 == 0) = false := beq_eq_false_iff_ne.mpr c10
  have c10b1 : (t576 != 0) = true := bne_iff_ne.mpr c10
  simp only [Option.some.injEq, Prod.mk.injEq] at H
  obtain ⟨rfl, rfl, rfl, rfl, rfl⟩ := H
  go_enter Try.func33, Try.ntmps33
  go_wp2_with (first | ((with_reducible refine gate_dst (N := 2) rfl ?_); refine box_event ?hg (N := 2) ?hd (cs := #[.slice none 0 0, .slice none 0 0, .int .i64 0, .int .i64 0]) (t := 37) ?hr ?_; (case hd => rfl); (case hg => rfl); (case hr => first | (go_simp; done) | (go_simp; rfl)); intro gb555 hg w35 hbox hb; have n0_ := Aside0.mk (below_step bSt_ hb); have n1_ := Aside0.mk (hbox); have n2_ := Aside0.mk ((by rw [hg]; exact (below_size bSt_) : w.heap.size ≤ gb555)); have n3_ := Aside0.mk ((by rw [hg]; exact (below_size bSt_) : w.heap.size ≤ gb555)); clear HB; have HB := n0_; have BK555 := n1_; have GW555 := n2_; have GE555 := n3_; clear n0_ n1_ n2_ n3_; clear hb hbox hg) | ((with_reducible refine gate_dst (N := 4) rfl ?_); refine box_event ?hg (N := 4) ?hd (cs := #[.slice none 0 0, .slice none 0 0, .int .i64 0, .int .i64 0]) (t := 37) ?hr ?_; (case hd => rfl); (case hg => rfl); (case hr => first | (go_simp; done) | (go_simp; rfl)); intro gb556 hg w36 hbox hb; have n0_ := Aside0.mk (blk_below (bKq_ BK555.out) hb); have n1_ := Aside0.mk (below_step bSt_ hb); have n2_ := Aside0.mk (hbox); have n3_ := Aside0.mk ((by rw [hg]; exact (below_size bSt_) : w.heap.size ≤ gb556)); have n4_ := Aside0.mk ((by rw [hg]; exact (below_size bSt_) : w.heap.size ≤ gb556)); have n5_ := Aside0.mk ((by rw [hg]; exact Nat.ne_of_lt (blk_lt (bKq_ BK555.out)) : gb555 ≠ gb556)); have n6_ := Aside0.mk ((by rw [hg]; exact Nat.ne_of_gt (blk_lt (bKq_ BK555.out)) : gb556 ≠ gb555)); clear BK555; clear HB; have BK555 := n0_; have HB := n1_; have BK556 := n2_; have GW556 := n3_; have GE556 := n4_; have NB555_556 := n5_; have NB556_555 := n6_; clear n0_ n1_ n2_ n3_ n4_ n5_ n6_; clear hb hbox hg) | ((with_reducible refine gate_callee (f := 58) rfl ?_); refine goesL_ (some 11) rfl rfl Try.func58 (by kernel_rfl) rfl #[.string a0] rfl (by (try simp only [List.map_toArray, List.map_cons, List.map_nil]); first | done | rfl | (simp only [List.length_drop, List.length_take]; rfl)) ?_; (with_reducible refine (manystrandref07_parts.calls k a0 t557 t558 _ A2.out).mono ?_); rintro e w37 ⟨v559, rfl, ho0, hb⟩; refine ⟨_, rfl, ?_⟩; have n0_ := Aside0.mk (Kd.R_lower ho0 (below_size bSt_)); have n1_ := Aside0.mk (blk_below (bKq_ BK555.out) hb); have n2_ := Aside0.mk (blk_below (bKq_ BK556.out) hb); have n3_ := Aside0.mk (below_step bSt_ hb); clear BK555; clear BK556; clear HB; have HO560 := n0_; have BK555 := n1_; have BK556 := n2_; have HB := n3_; clear n0_ n1_ n2_ n3_; (try clear hb); (try clear hb2); (try clear hk); (try clear hi); (try clear ho0); obtain ⟨Ao38, co38, eo38⟩ := Kd.R_slice HO560.out; subst eo38; have hnb39 := NB556_555.out; have hnc39 := NB555_556.out; have hcz40_0 : w37.cell? ⟨gb556, 0, none⟩ = some (.slice none 0 0) := (blk_cell BK556.out 0).trans rfl; have hcz40_1 : w37.cell? ⟨gb556, 1, none⟩ = some (.slice none 0 0) := (blk_cell BK556.out 1).trans rfl; have hcz40_2 : w37.cell? ⟨gb556, 2, none⟩ = some (.int .i64 0) := (blk_cell BK556.out 2).trans rfl; have hcz40_3 : w37.cell? ⟨gb556, 3, none⟩ = some (.int .i64 0) := (blk_cell BK556.out 3).trans rfl; have hfz40_0 := blk_frozen BK556.out 0; have hfz40_1 := blk_frozen BK556.out 1; have hfz40_2 := blk_frozen BK556.out 2; have hfz40_3 := blk_frozen BK556.out 3) | ((with_reducible refine gate_callee (f := 59) rfl ?_); refine goesL_ (some 17) rfl rfl Try.func59 (by kernel_rfl) rfl #[.string t558, .string (⟨#[32, 46, 46, 32]⟩ : ByteArray)] rfl (by (try simp only [List.map_toArray, List.map_cons, List.map_nil]); first | done | rfl | (simp only [List.length_drop, List.length_take]; rfl)) ?_; (with_reducible refine (manystrandref07_take.calls t558 (⟨#[32, 46, 46, 32]⟩ : ByteArray) t561 t562 _ A3.out).mono ?_); rintro e w' ⟨rfl, ⟨nd, rfl⟩⟩; refine ⟨_, rfl, ?_⟩) | ((with_reducible refine gate_callee (f := 58) rfl ?_); refine goesL_ (some 22) rfl rfl Try.func58 (by kernel_rfl) rfl #[.string t561] rfl (by (try simp only [List.map_toArray, List.map_cons, List.map_nil]); first | done | rfl | (simp only [List.length_drop, List.length_take]; rfl)) ?_; (with_reducible refine (manystrandref07_parts.calls k t561 t563 t564 _ A4.out).mono ?_); rintro e w41 ⟨v565, rfl, ho0, hb⟩; refine ⟨_, rfl, ?_⟩; have n0_ := Aside0.mk (Kd.R_elder' (by (with_reducible repeat (first | apply Kd.R_alloc | apply Kd.R_drewN | apply Kd.R_drew)); exact (Kd.R_mono (Kd.R_far (p := ⟨gb556, 0, none⟩) (Kd.R_types HO560.out BK556.out (by decide)) (fun _ hk => hk.2) (.slice Ao38 t557.length co38)) (fun _ h_ => h_.1))) (Kd.R_base ho0) hb); have n1_ := Aside0.mk (Kd.R_lower (Kd.R_new' ho0 (Kd.R_lt (by (with_reducible repeat (first | apply Kd.R_alloc | apply Kd.R_drewN | apply Kd.R_drew)); exact (Kd.R_mono (Kd.R_far (p := ⟨gb556, 0, none⟩) (Kd.R_types HO560.out BK556.out (by decide)) (fun _ hk => hk.2) (.slice Ao38 t557.length co38)) (fun _ h_ => h_.1))))) (below_size bSt_)); have n2_ := Aside0.mk (blk_below (bKq_ BK555.out) hb); have n3_ := Aside0.mk (blk_below (g := gb556) (o := .cells #[.slice Ao38 t557.length co38, .slice none 0 0, .int .i64 0, .int .i64 0] 37 (0, 0)) (bKq_ BK556.out) hb); have n4_ := Aside0.mk (below_step bSt_ hb); clear HO560; clear BK555; clear BK556; clear HB; have HO560 := n0_; have HO566 := n1_; have BK555 := n2_; have BK556 := n3_; have HB := n4_; clear n0_ n1_ n2_ n3_ n4_; (try clear hb); (try clear hb2); (try clear hk); (try clear hi); (try clear ho0); obtain ⟨Ao42, co42, eo42⟩ := Kd.R_slice HO566.out; subst eo42; have hcz43_0 : w41.cell? ⟨gb556, 0, none⟩ = some (.slice Ao38 t557.length co38) := (blk_cell BK556.out 0).trans rfl; have hcz43_1 : w41.cell? ⟨gb556, 1, none⟩ = some (.slice none 0 0) := (blk_cell BK556.out 1).trans rfl; have hcz43_2 : w41.cell? ⟨gb556, 2, none⟩ = some (.int .i64 0) := (blk_cell BK556.out 2).trans rfl; have hcz43_3 : w41.cell? ⟨gb556, 3, none⟩ = some (.int .i64 0) := (blk_cell BK556.out 3).trans rfl; have hfz43_0 := blk_frozen BK556.out 0; have hfz43_1 := blk_frozen BK556.out 1; have hfz43_2 := blk_frozen BK556.out 2; have hfz43_3 := blk_frozen BK556.out 3) | ((with_reducible refine gate_callee (f := 59) rfl ?_); refine goesL_ (some 28) rfl rfl Try.func59 (by kernel_rfl) rfl #[.string t564, .string (⟨#[32, 35, 32]⟩ : ByteArray)] rfl (by (try simp only [List.map_toArray, List.map_cons, List.map_nil]); first | done | rfl | (simp only [List.length_drop, List.length_take]; rfl)) ?_; (with_reducible refine (manystrandref07_take.calls t564 (⟨#[32, 35, 32]⟩ : ByteArray) t567 t568 _ A5.out).mono ?_); rintro e w' ⟨rfl, ⟨nd, rfl⟩⟩; refine ⟨_, rfl, ?_⟩) | ((with_reducible refine gate_callee (f := 60) rfl ?_); refine goesL_ (some 33) rfl rfl Try.func60 (by kernel_rfl) rfl #[.string t567] rfl (by (try simp only [List.map_toArray, List.map_cons, List.map_nil]); first | done | rfl | (simp only [List.length_drop, List.length_take]; rfl)) ?_; (with_reducible refine (manystrandref07_number.calls k t567 t569 t570 _ A6.out).mono ?_); rintro e w' ⟨rfl, ⟨nd, rfl⟩⟩; refine ⟨_, rfl, ?_⟩) | ((with_reducible refine gate_callee (f := 59) rfl ?_); refine goesL_ (some 39) rfl rfl Try.func59 (by kernel_rfl) rfl #[.string t570, .string (⟨#[32, 46, 46, 32]⟩ : ByteArray)] rfl (by (try simp only [List.map_toArray, List.map_cons, List.map_nil]); first | done | rfl | (simp only [List.length_drop, List.length_take]; rfl)) ?_; (with_reducible refine (manystrandref07_take.calls t570 (⟨#[32, 46, 46, 32]⟩ : ByteArray) t571 t572 _ A7.out).mono ?_); rintro e w' ⟨rfl, ⟨nd, rfl⟩⟩; refine ⟨_, rfl, ?_⟩) | ((with_reducible refine gate_callee (f := 60) rfl ?_); refine goesL_ (some 44) rfl rfl Try.func60 (by kernel_rfl) rfl #[.string t571] rfl (by (try simp only [List.map_toArray, List.map_cons, List.map_nil]); first | done | rfl | (simp only [List.length_drop, List.length_take]; rfl)) ?_; (with_reducible refine (manystrandref07_number.calls k t571 t573 t574 _ A8.out).mono ?_); rintro e w' ⟨rfl, ⟨nd, rfl⟩⟩; refine ⟨_, rfl, ?_⟩) | ((with_reducible refine gate_callee (f := 31) rfl ?_); refine goesL_ (some 50) rfl rfl Try.func31 (by kernel_rfl) rfl #[.agg #[.slice Ao38 t557.length co38, .slice Ao42 t563.length co42, .int .i64 t569, .int .i64 t573]] rfl (by (try simp only [List.map_toArray, List.map_cons, List.map_nil]); first | done | rfl | (simp only [List.length_drop, List.length_take]; rfl)) ?_; (with_reducible refine (manystrandref07_Text.calls k _ _ t557 _ _ t563 t569 t573 t575 t576 _ ?side1 ?side2 ?side3 ?side4 A9.out).mono ?_); (case side1 => refine (Kd.R_reads' (e := 3) (base := w.heap.size) (ok := fun k_ => (True ∧ some k_ ≠ (.slice Ao42 t563.length co42 : Value).ownBlock)) (n := t557.length) (c := co38) ?_).2.2; exact (by (with_reducible repeat (first | apply Kd.R_alloc | apply Kd.R_drewN | apply Kd.R_drew)); exact (Kd.R_mono (Kd.R_far (p := ⟨gb556, 3, none⟩) (Kd.R_far (p := ⟨gb556, 2, none⟩) (Kd.R_far (p := ⟨gb556, 1, none⟩) (Kd.R_types HO560.out BK556.out (by decide)) (fun _ hk => hk.2) (.slice Ao42 t563.length co42)) (fun _ hk => hk.2) (.int .i64 t569)) (fun _ hk => hk.2) (.int .i64 t573)) (fun _ h_ => h_.1)))); (case side2 => exact (Kd.R_reads' HO560.out).2.1); (case side3 => refine (Kd.R_reads' (e := 3) (base := w.heap.size) (ok := fun k_ => (True ∧ some k_ ≠ (.slice Ao38 t557.length co38 : Value).ownBlock)) (n := t563.length) (c := co42) ?_).2.2; exact (by (with_reducible repeat (first | apply Kd.R_alloc | apply Kd.R_drewN | apply Kd.R_drew)); exact (Kd.R_mono (Kd.R_far (p := ⟨gb556, 3, none⟩) (Kd.R_far (p := ⟨gb556, 2, none⟩) (Kd.R_far (p := ⟨gb556, 1, none⟩) (Kd.R_types HO566.out BK556.out (by decide)) (fun _ hk => hk.2) (.slice Ao42 t563.length co42)) (fun _ hk => hk.2) (.int .i64 t569)) (fun _ hk => hk.2) (.int .i64 t573)) (fun _ h_ => h_.1)))); (case side4 => exact (Kd.R_reads' HO566.out).2.1); rintro e w44 ⟨rfl, hb⟩; refine ⟨_, rfl, ?_⟩; have n0_ := Aside0.mk (Kd.R_below (by (with_reducible repeat (first | apply Kd.R_alloc | apply Kd.R_drewN | apply Kd.R_drew)); exact (Kd.R_mono (Kd.R_far (p := ⟨gb556, 3, none⟩) (Kd.R_far (p := ⟨gb556, 2, none⟩) (Kd.R_far (p := ⟨gb556, 1, none⟩) (Kd.R_types HO560.out BK556.out (by decide)) (fun _ hk => hk.2) (.slice Ao42 t563.length co42)) (fun _ hk => hk.2) (.int .i64 t569)) (fun _ hk => hk.2) (.int .i64 t573)) (fun _ h_ => h_.1))) hb); have n1_ := Aside0.mk (Kd.R_below (by (with_reducible repeat (first | apply Kd.R_alloc | apply Kd.R_drewN | apply Kd.R_drew)); exact (Kd.R_mono (Kd.R_far (p := ⟨gb556, 3, none⟩) (Kd.R_far (p := ⟨gb556, 2, none⟩) (Kd.R_far (p := ⟨gb556, 1, none⟩) (Kd.R_types HO566.out BK556.out (by decide)) (fun _ hk => hk.2) (.slice Ao42 t563.length co42)) (fun _ hk => hk.2) (.int .i64 t569)) (fun _ hk => hk.2) (.int .i64 t573)) (fun _ h_ => h_.1))) hb); have n2_ := Aside0.mk (blk_below (bKq_ BK555.out) hb); have n3_ := Aside0.mk (blk_below (g := gb556) (o := .cells #[.slice Ao38 t557.length co38, .slice Ao42 t563.length co42, .int .i64 t569, .int .i64 t573] 37 (0, 0)) (bKq_ BK556.out) hb); have n4_ := Aside0.mk (below_step bSt_ hb); clear HO560; clear HO566; clear BK555; clear BK556; clear HB; have HO560 := n0_; have HO566 := n1_; have BK555 := n2_; have BK556 := n3_; have HB := n4_; clear n0_ n1_ n2_ n3_ n4_; (try clear hb); (try clear hb2); (try clear hk); (try clear hi); have hcz45_0 : w44.cell? ⟨gb555, 0, none⟩ = some (.slice none 0 0) := (blk_cell BK555.out 0).trans rfl; have hcz45_1 : w44.cell? ⟨gb555, 1, none⟩ = some (.slice none 0 0) := (blk_cell BK555.out 1).trans rfl; have hcz45_2 : w44.cell? ⟨gb555, 2, none⟩ = some (.int .i64 0) := (blk_cell BK555.out 2).trans rfl; have hcz45_3 : w44.cell? ⟨gb555, 3, none⟩ = some (.int .i64 0) := (blk_cell BK555.out 3).trans rfl; have hfz45_0 := blk_frozen BK555.out 0; have hfz45_1 := blk_frozen BK555.out 1; have hfz45_2 := blk_frozen BK555.out 2; have hfz45_3 := blk_frozen BK555.out 3))
  refine bodyPost_ret (results_ct rfl _ _ gb555 37 #[.slice none 0 0, .slice none 0 0, .int .i64 0, .int .i64 0] (0, 0) _ rfl (bKq_ BK555.out) Try.underlying37 rfl (by kernel_rfl)) rfl ?_
  exact ⟨_, _, by first | rfl | (simp [errW_none, errW_some] <;> rfl) | (simp [*, errW_none, errW_some] <;> rfl) | (simp [errW_none, errW_some]; exact Go.Proofs.YtgfbgfbnmiainaaW.OwnWords.isEmpty_bne _), by first | exact Kd.R_nil _ _ _ _ _ | exact Kd.N_nil _ _ _ _ _ | exact Kd.V_nil _ _ _ _ _ | exact Kd.Q_nil _ _ _ _ _ | exact Kd.S_nil _ _ _ _ _, by first | exact Kd.R_nil _ _ _ _ _ | exact Kd.N_nil _ _ _ _ _ | exact Kd.V_nil _ _ _ _ _ | exact Kd.Q_nil _ _ _ _ _ | exact Kd.S_nil _ _ _ _ _, bSt_⟩

end Go.Proofs.Ytgfbgfbnmiainaa.Q
end
section
namespace Go.Proofs.Ytgfbgfbnmiainaa.Q
open Go.RowKit Go.Proofs.YtgfbgfbnmiainaaW.PrintWords Go.Proofs.YtgfbgfbnmiainaaW.PrintLast Go.Proofs.YtgfbgfbnmiainaaW.PrintMore Go.Proofs.YtgfbgfbnmiainaaW.OwnWords
attribute [local go_sem] Go.Proofs.YtgfbgfbnmiainaaW.OwnWords.isSome_setCell max2_int min2_int max_two min_two max_three min_three max_four min_four
set_option linter.unusedVariables false
set_option linter.unusedSimpArgs false

/-! ### manystrandlaw07_light: function 8 -/
def manystrandlaw07_light.l0 : Nat → List (S37) → List (S37) → Int → Int → Option (Bool)
 | 0, _, _, _, _ => none
 | k + 1, x0, x5, x6, x7 => if x7 < x6 then (if 0 ≤ x7 then (if x7 < (x5.length : Int) then (if (((rd_T37 x5 x7).f0).length : Int) > 100 then (some false) else (if (((rd_T37 x5 x7).f1).length : Int) > 100 then (some false) else (manystrandlaw07_light.l0 k x0 x5 x6 (wrap64 (x7 + 1))))) else (none)) else (none)) else (some (decide ((x0.length : Int) ≤ 50)))
def manystrandlaw07_light.f (k : Nat) (l0 : List (S37)) : Option (Bool) := manystrandlaw07_light.l0 k l0 l0 (l0.length : Int) 0
theorem manystrandlaw07_light.mono_l : ∀ k, (∀ y0 y1 y2 y3, LeO (manystrandlaw07_light.l0 k y0 y1 y2 y3) (manystrandlaw07_light.l0 (k + 1) y0 y1 y2 y3))
 | 0 => fun _ _ _ _ r h => by simp [manystrandlaw07_light.l0] at h
 | k + 1 => by
  have ih0 := manystrandlaw07_light.mono_l k
  ·intro y0 y1 y2 y3
   unfold manystrandlaw07_light.l0
   repeat' first
   | (with_reducible exact ih0 _ _ _ _)
   | (with_reducible exact LeO.refl _)
   | (with_reducible exact LeO.none _)
   | (with_reducible refine LeO.ite ?_ ?_)
   | (with_reducible refine LeO.bind ?_ (fun _ => ?_))
   | exact ih0 _ _ _ _
   | exact LeO.none _
   | refine LeO.ite ?_ ?_
   | refine LeO.bind ?_ (fun _ => ?_)
theorem manystrandlaw07_light.mono : ∀ a0 k, LeO (manystrandlaw07_light.f k a0) (manystrandlaw07_light.f (k + 1) a0) := by
 intro a0 k
 have ih0 := manystrandlaw07_light.mono_l k
 unfold manystrandlaw07_light.f
 repeat' first
   | (with_reducible exact ih0 _ _ _ _)
   | (with_reducible exact LeO.refl _)
   | (with_reducible exact LeO.none _)
   | (with_reducible refine LeO.ite ?_ ?_)
   | (with_reducible refine LeO.bind ?_ (fun _ => ?_))
   | exact ih0 _ _ _ _
   | exact LeO.none _
   | refine LeO.ite ?_ ?_
   | refine LeO.bind ?_ (fun _ => ?_)
set_option maxHeartbeats 8000000 in
set_option maxRecDepth 100000 in
theorem manystrandlaw07_light.calls (k : Nat) (A0 : Option Addr) (c0 : Nat) (l0 : List (S37)) (r : Bool) (w : World) (hr0 : Kd.C k37 w A0 l0.length l0) (hc0 : l0.length ≤ c0) (h : manystrandlaw07_light.f k l0 = some r) :
  Calls Try.prog 8 #[.slice A0 l0.length c0] w fun e w' => e = .returned (.bool r) ∧ Below w.heap.size w w' := by
 have hu37 := Try.underlying37
 have HR0 := Aside0.mk hr0
 have HC0 := Aside0.mk hc0
 clear hr0 hc0
 have HB := Aside0.mk (Below.refl w.heap.size w)
 have H : (manystrandlaw07_light.l0 k l0 l0 (l0.length : Int) 0) = some r := h
 clear h
 have H' := Aside0.mk H
 clear H
 go_enter Try.func8, Try.ntmps8
 go_wp2
 go_loopg [7] k (fun kq v7 w' => ∃ (x7_1 : Int), v7 = .int .i64 x7_1 ∧ Aside0 (manystrandlaw07_light.l0 kq l0 l0 (l0.length : Int) x7_1 = some r) ∧ Aside0 (kq ≤ k) ∧ Aside0 (Below w.heap.size w w'))
 case atStart => exact ⟨(0), (by first | rfl | (simp; done) | (simp [*]; done)), H', ⟨Nat.le_refl _⟩, ⟨bSt_⟩⟩
 case round =>
  clear H'
  obtain ⟨x7_1, rfl, HA, HK1, HB⟩ := hrel
  cases gk with
  | zero => exact absurd HA.out (by simp [manystrandlaw07_light.l0])
  | succ k1 =>
   have H := HA.out
   clear HA
   simp only [manystrandlaw07_light.l0] at H
   by_cases c2 : x7_1 < (l0.length : Int)
   ·rw [if_pos c2] at H
    have c2b0 : decide (x7_1 < (l0.length : Int)) = true := decide_eq_true c2
    clear c2
    by_cases c3 : 0 ≤ x7_1
    ·rw [if_pos c3] at H
     have c3b0 : decide (0 ≤ x7_1) = true := decide_eq_true c3
     clear c3
     by_cases c4 : x7_1 < (l0.length : Int)
     ·rw [if_pos c4] at H
      have c4b0 : decide (x7_1 < (l0.length : Int)) = true := decide_eq_true c4
      clear c4
      by_cases c5 : (((rd_T37 l0 x7_1).f0).length : Int) > 100
      ·rw [if_pos c5] at H
       have c5b0 : decide (100 < (((rd_T37 l0 x7_1).f0).length : Int)) = true := decide_eq_true c5
       have c5b1 : decide (100 < ((rd_T37 l0 x7_1).f0).length) = true := decide_eq_true (by omega)
       clear c5
       obtain rfl := Option.some.inj H
       have p101 : 0 ≤ (x7_1 : Int) := of_decide_eq_true (by first | (with_reducible assumption) | assumption)
       have q101 : x7_1 < (l0.length : Int) := of_decide_eq_true (by first | (with_reducible assumption) | assumption)
       obtain ⟨ad101, A101_0, c101_0, A101_1, c101_1, e101, hx101_0, hx101_1, hx101_2, hx101_3, hl101_0, hi101_0, hl101_1, hi101_1⟩ := at_T37 HR0.out x7_1 p101 q101
       cases e101
       replace hx101_0 := (HB.out.cell (World.block_lt_of_cell? w _ hx101_0)).trans hx101_0
       replace hx101_1 := (HB.out.cell (World.block_lt_of_cell? w _ hx101_1)).trans hx101_1
       replace hx101_2 := (HB.out.cell (World.block_lt_of_cell? w _ hx101_2)).trans hx101_2
       replace hx101_3 := (HB.out.cell (World.block_lt_of_cell? w _ hx101_3)).trans hx101_3
       have HR101_0 := Aside0.mk hi101_0
       have HC101_0 := Aside0.mk hl101_0
       clear hi101_0 hl101_0
       have HR101_1 := Aside0.mk hi101_1
       have HC101_1 := Aside0.mk hl101_1
       clear hi101_1 hl101_1
       replace p101 := eq_true p101
       replace q101 := eq_true q101
       go_wp2_with (first | ((with_reducible refine gate_dst (N := 4) rfl ?_); (try (refine gate_guard (by rfl) ?_; dsimp only)); refine box_event ?hg (N := 4) ?hd (cs := #[.slice none 0 0, .slice none 0 0, .int .i64 0, .int .i64 0]) (t := 37) ?hr ?_; (case hd => rfl); (case hg => rfl); (case hr => first | (go_simp; done) | (go_simp; rfl)); intro gb102 hg w6 hbox hb; have n0_ := Aside0.mk (below_step bSt_ hb); have n1_ := Aside0.mk (hbox); have n2_ := Aside0.mk ((by rw [hg]; exact (below_size bSt_) : w.heap.size ≤ gb102)); have n3_ := Aside0.mk ((by rw [hg]; exact (below_size bSt_) : w.heap.size ≤ gb102)); clear HB; have HB := n0_; have BK102 := n1_; have GW102 := n2_; have GE102 := n3_; clear n0_ n1_ n2_ n3_; clear hb hbox hg; have hcz7_0 : w6.cell? ⟨gb102, 0, none⟩ = some (.slice none 0 0) := (blk_cell BK102.out 0).trans rfl; have hcz7_1 : w6.cell? ⟨gb102, 1, none⟩ = some (.slice none 0 0) := (blk_cell BK102.out 1).trans rfl; have hcz7_2 : w6.cell? ⟨gb102, 2, none⟩ = some (.int .i64 0) := (blk_cell BK102.out 2).trans rfl; have hcz7_3 : w6.cell? ⟨gb102, 3, none⟩ = some (.int .i64 0) := (blk_cell BK102.out 3).trans rfl; have hfz7_0 := blk_frozen BK102.out 0; have hfz7_1 := blk_frozen BK102.out 1; have hfz7_2 := blk_frozen BK102.out 2; have hfz7_3 := blk_frozen BK102.out 3))
       go_ret
       exact ⟨by first | rfl | (simp [errW_none, errW_some] <;> rfl) | (simp [*, errW_none, errW_some] <;> rfl) | (simp [errW_none, errW_some]; exact Go.Proofs.YtgfbgfbnmiainaaW.OwnWords.isEmpty_bne _), bSt_⟩
      ·rw [if_neg c5] at H
       have c5b0 : decide (100 < (((rd_T37 l0 x7_1).f0).length : Int)) = false := decide_eq_false c5
       have c5b1 : decide (100 < ((rd_T37 l0 x7_1).f0).length) = false := decide_eq_false (by omega)
       clear c5
       by_cases c8 : (((rd_T37 l0 x7_1).f1).length : Int) > 100
       ·rw [if_pos c8] at H
        have c8b0 : decide (100 < (((rd_T37 l0 x7_1).f1).length : Int)) = true := decide_eq_true c8
        have c8b1 : decide (100 < ((rd_T37 l0 x7_1).f1).length) = true := decide_eq_true (by omega)
        clear c8
        obtain rfl := Option.some.inj H
        have p101 : 0 ≤ (x7_1 : Int) := of_decide_eq_true (by first | (with_reducible assumption) | assumption)
        have q101 : x7_1 < (l0.length : Int) := of_decide_eq_true (by first | (with_reducible assumption) | assumption)
        obtain ⟨ad101, A101_0, c101_0, A101_1, c101_1, e101, hx101_0, hx101_1, hx101_2, hx101_3, hl101_0, hi101_0, hl101_1, hi101_1⟩ := at_T37 HR0.out x7_1 p101 q101
        cases e101
        replace hx101_0 := (HB.out.cell (World.block_lt_of_cell? w _ hx101_0)).trans hx101_0
        replace hx101_1 := (HB.out.cell (World.block_lt_of_cell? w _ hx101_1)).trans hx101_1
        replace hx101_2 := (HB.out.cell (World.block_lt_of_cell? w _ hx101_2)).trans hx101_2
        replace hx101_3 := (HB.out.cell (World.block_lt_of_cell? w _ hx101_3)).trans hx101_3
        have HR101_0 := Aside0.mk hi101_0
        have HC101_0 := Aside0.mk hl101_0
        clear hi101_0 hl101_0
        have HR101_1 := Aside0.mk hi101_1
        have HC101_1 := Aside0.mk hl101_1
        clear hi101_1 hl101_1
        replace p101 := eq_true p101
        replace q101 := eq_true q101
        go_wp2_with (first | ((with_reducible refine gate_dst (N := 4) rfl ?_); (try (refine gate_guard (by rfl) ?_; dsimp only)); refine box_event ?hg (N := 4) ?hd (cs := #[.slice none 0 0, .slice none 0 0, .int .i64 0, .int .i64 0]) (t := 37) ?hr ?_; (case hd => rfl); (case hg => rfl); (case hr => first | (go_simp; done) | (go_simp; rfl)); intro gb102 hg w9 hbox hb; have n0_ := Aside0.mk (below_step bSt_ hb); have n1_ := Aside0.mk (hbox); have n2_ := Aside0.mk ((by rw [hg]; exact (below_size bSt_) : w.heap.size ≤ gb102)); have n3_ := Aside0.mk ((by rw [hg]; exact (below_size bSt_) : w.heap.size ≤ gb102)); clear HB; have HB := n0_; have BK102 := n1_; have GW102 := n2_; have GE102 := n3_; clear n0_ n1_ n2_ n3_; clear hb hbox hg; have hcz10_0 : w9.cell? ⟨gb102, 0, none⟩ = some (.slice none 0 0) := (blk_cell BK102.out 0).trans rfl; have hcz10_1 : w9.cell? ⟨gb102, 1, none⟩ = some (.slice none 0 0) := (blk_cell BK102.out 1).trans rfl; have hcz10_2 : w9.cell? ⟨gb102, 2, none⟩ = some (.int .i64 0) := (blk_cell BK102.out 2).trans rfl; have hcz10_3 : w9.cell? ⟨gb102, 3, none⟩ = some (.int .i64 0) := (blk_cell BK102.out 3).trans rfl; have hfz10_0 := blk_frozen BK102.out 0; have hfz10_1 := blk_frozen BK102.out 1; have hfz10_2 := blk_frozen BK102.out 2; have hfz10_3 := blk_frozen BK102.out 3))
        go_ret
        exact ⟨by first | rfl | (simp [errW_none, errW_some] <;> rfl) | (simp [*, errW_none, errW_some] <;> rfl) | (simp [errW_none, errW_some]; exact Go.Proofs.YtgfbgfbnmiainaaW.OwnWords.isEmpty_bne _), bSt_⟩
       ·rw [if_neg c8] at H
        have c8b0 : decide (100 < (((rd_T37 l0 x7_1).f1).length : Int)) = false := decide_eq_false c8
        have c8b1 : decide (100 < ((rd_T37 l0 x7_1).f1).length) = false := decide_eq_false (by omega)
        clear c8
        have H' := Aside0.mk H
        clear H
        have p101 : 0 ≤ (x7_1 : Int) := of_decide_eq_true (by first | (with_reducible assumption) | assumption)
        have q101 : x7_1 < (l0.length : Int) := of_decide_eq_true (by first | (with_reducible assumption) | assumption)
        obtain ⟨ad101, A101_0, c101_0, A101_1, c101_1, e101, hx101_0, hx101_1, hx101_2, hx101_3, hl101_0, hi101_0, hl101_1, hi101_1⟩ := at_T37 HR0.out x7_1 p101 q101
        cases e101
        replace hx101_0 := (HB.out.cell (World.block_lt_of_cell? w _ hx101_0)).trans hx101_0
        replace hx101_1 := (HB.out.cell (World.block_lt_of_cell? w _ hx101_1)).trans hx101_1
        replace hx101_2 := (HB.out.cell (World.block_lt_of_cell? w _ hx101_2)).trans hx101_2
        replace hx101_3 := (HB.out.cell (World.block_lt_of_cell? w _ hx101_3)).trans hx101_3
        have HR101_0 := Aside0.mk hi101_0
        have HC101_0 := Aside0.mk hl101_0
        clear hi101_0 hl101_0
        have HR101_1 := Aside0.mk hi101_1
        have HC101_1 := Aside0.mk hl101_1
        clear hi101_1 hl101_1
        replace p101 := eq_true p101
        replace q101 := eq_true q101
        go_wp2_with (first | ((with_reducible refine gate_dst (N := 4) rfl ?_); (try (refine gate_guard (by rfl) ?_; dsimp only)); refine box_event ?hg (N := 4) ?hd (cs := #[.slice none 0 0, .slice none 0 0, .int .i64 0, .int .i64 0]) (t := 37) ?hr ?_; (case hd => rfl); (case hg => rfl); (case hr => first | (go_simp; done) | (go_simp; rfl)); intro gb102 hg w11 hbox hb; have n0_ := Aside0.mk (below_step bSt_ hb); have n1_ := Aside0.mk (hbox); have n2_ := Aside0.mk ((by rw [hg]; exact (below_size bSt_) : w.heap.size ≤ gb102)); have n3_ := Aside0.mk ((by rw [hg]; exact (below_size bSt_) : w.heap.size ≤ gb102)); clear HB; have HB := n0_; have BK102 := n1_; have GW102 := n2_; have GE102 := n3_; clear n0_ n1_ n2_ n3_; clear hb hbox hg; have hcz12_0 : w11.cell? ⟨gb102, 0, none⟩ = some (.slice none 0 0) := (blk_cell BK102.out 0).trans rfl; have hcz12_1 : w11.cell? ⟨gb102, 1, none⟩ = some (.slice none 0 0) := (blk_cell BK102.out 1).trans rfl; have hcz12_2 : w11.cell? ⟨gb102, 2, none⟩ = some (.int .i64 0) := (blk_cell BK102.out 2).trans rfl; have hcz12_3 : w11.cell? ⟨gb102, 3, none⟩ = some (.int .i64 0) := (blk_cell BK102.out 3).trans rfl; have hfz12_0 := blk_frozen BK102.out 0; have hfz12_1 := blk_frozen BK102.out 1; have hfz12_2 := blk_frozen BK102.out 2; have hfz12_3 := blk_frozen BK102.out 3))
        go_roundg k1
        case measure => have := HK1.out; omega
        case rel => exact ⟨(wrap64 (x7_1 + 1)), (by first | rfl | (simp; done) | (simp [*]; done)), H', ⟨by have := HK1.out; omega⟩, ⟨bSt_⟩⟩
     ·rw [if_neg c4] at H
      exact absurd H (by simp)
    ·rw [if_neg c3] at H
     exact absurd H (by simp)
   ·rw [if_neg c2] at H
    have c2b0 : decide (x7_1 < (l0.length : Int)) = false := decide_eq_false c2
    clear c2
    obtain rfl := Option.some.inj H
    go_wp2
    go_ret
    exact ⟨by first | rfl | (simp [errW_none, errW_some] <;> rfl) | (simp [*, errW_none, errW_some] <;> rfl) | (simp [errW_none, errW_some]; exact Go.Proofs.YtgfbgfbnmiainaaW.OwnWords.isEmpty_bne _), bSt_⟩

end Go.Proofs.Ytgfbgfbnmiainaa.Q
end
