import Derived.Test.YtonfbhcafejblaaYRow
/-! LockOne, the walk. -/
namespace Go.Proofs.Ytonfbhcafejblaa.Yd
set_option linter.unusedVariables false
set_option linter.unusedSimpArgs false
open Go.RowKit Go.Proofs.YtonfbhcafejblaaW.PrintWords Go.Proofs.YtonfbhcafejblaaW.PrintLast Go.Proofs.YtonfbhcafejblaaW.PrintMore Go.Proofs.Ytonfbhcafejblaa.Q
attribute [local go_sem] Go.Proofs.YtonfbhcafejblaaW.OwnWords.isSome_setCell max2_int min2_int
/-- What is kept from round to round. -/
def Rd (i : Nat) (ow ti : Int) (xs : List Int) : Prop := 0 ≤ ow ∧ 0 ≤ ti ∧ ti ≤ i ∧ xs.length ≤ i ∧ (ow = 0 → ti = 0) ∧ (0 < ow → 1 ≤ ti) ∧ ∀ z ∈ xs, 1 ≤ z
theorem mem_snoc {xs : List Int} {t : Int} (h : ∀ z ∈ xs, 1 ≤ z) (ht : 1 ≤ t) : ∀ z ∈ xs ++ [t], 1 ≤ z := by
  intro z hz
  rcases List.mem_append.1 hz with hz | hz
  · exact h z hz
  · rw [List.mem_singleton] at hz
    rw [hz]
    exact ht
theorem lk_wait {B : Nat} {w0 w w' : World} {yb tb cap : Nat} {rest : List Value} {ow ti : Int} {v : Value} {xs ys : List Int} {A : Option Addr} {c : Nat} (h : Lk B w0 w yb tb cap rest ow ti v xs A c ys) (k : Yw B w w' yb tb cap rest v ow ti v xs) : ∃ v1, Lk B w0 w' yb tb cap rest ow ti v1 xs A c ys :=
  lk_call h ⟨v, k.1, k.2.1, k.2.2.1, .inl rfl⟩
theorem long_calls (A0 : Option Addr) (c0 : Nat) (l0 : List Int) (w : World) (hl : (l0.length : Int) > 100) :
    Calls Try.prog 3 #[.slice A0 l0.length c0] w (AwakeEnd w) := by
  have b1 : decide ((100 : Int) < (l0.length : Int)) = true := decide_eq_true hl
  clear hl
  go_enter Try.func3, Try.ntmps3
  go_wp2_with (go_at_call 5; (refine (awake_calls _).mono ?_); rintro e w1 ⟨rfl, hb⟩; have HG := Aside0.mk hb; clear hb)
  go_ret
  exact ⟨rfl, HG.out⟩
set_option maxHeartbeats 8000000 in
set_option maxRecDepth 100000 in
theorem short_calls (A0 : Option Addr) (c0 : Nat) (l0 : List Int) (w : World) (hr : Kd.C (Kd.int .u8) w A0 l0.length l0) (hw : ∀ j, 0 ≤ rd l0 j) (hl : ¬ (l0.length : Int) > 100) :
    Calls Try.prog 3 #[.slice A0 l0.length c0] w (AwakeEnd w) := by
  have HR := Aside0.mk hr
  have HL : Aside0 (l0.length ≤ 100) := ⟨by omega⟩
  have b1 : decide ((100 : Int) < (l0.length : Int)) = false := decide_eq_false hl
  clear hr hl
  go_enter Try.func3, Try.ntmps3
  go_upto_region 8 with (first
    | (go_at_call 6; (refine (new_calls _).mono ?_); rintro e w1 ⟨rfl, rfl⟩)
    | (go_at_call 7; (refine (make_calls w.heap.size w.heap.size w _ (below_alloc (Below.refl _ _) _) (Nat.le_refl _) (heap_alloc_new w _)).mono ?_); rintro e w2 ⟨rfl, tb, cap, rest, hy, hb⟩; have H1 := Aside0.mk (And.intro hy hb); clear hy hb))
  go_loopg [6, 7, 8, 33] l0.length (fun kq v6 v7 v8 v33 w' => ∃ (i : Nat) (x ow ti : Int) (A : Option Addr) (c : Nat) (xs : List Int) (v : Value), v33 = .int .i64 x ∧ Aside0 (x = (i : Int)) ∧ v6 = .slice A xs.length c ∧ v7 = .int .i64 ow ∧ v8 = .int .i64 ti ∧ i + kq = l0.length ∧ Aside0 (Lk w.heap.size w w' w.heap.size tb cap rest ow ti v xs A c xs) ∧ Aside0 (Rd i ow ti xs))
  case atStart => exact ⟨0, 0, 0, 0, none, 0, [], .slice none 0 0, rfl, ⟨rfl⟩, rfl, rfl, rfl, by simp, ⟨H1.out.1, .inl ⟨rfl, rfl, rfl⟩, fun a ha => (by cases ha), H1.out.2, H1.out.2.size⟩, ⟨by decide, by decide, by decide, by decide, fun _ => rfl, fun h => (by cases h), fun z hz => (by cases hz)⟩⟩
  case round =>
    clear H1
    obtain ⟨i, x, ow, ti, A, c, xs, v, rfl, HX, rfl, rfl, rfl, hi, HK, HI⟩ := hrel
    by_cases hlt : i < l0.length
    · have d0 : decide (0 ≤ x) = true := decide_eq_true (by have := HX.out; omega)
      have d1 : decide (x < (l0.length : Int)) = true := decide_eq_true (by have := HX.out; omega)
      have p0 := eq_true (show 0 ≤ x by have := HX.out; omega)
      have p1 := eq_true (show x < (l0.length : Int) by have := HX.out; omega)
      obtain ⟨ad, rfl, hx0⟩ := Kd.at_int HR.out x (by have := HX.out; omega) (by have := HX.out; omega)
      replace hx0 := (HK.out.2.2.2.1.cell (World.block_lt_of_cell? w _ hx0)).trans hx0
      go_upto_region 10 with fail
      go_cut [11] from 37 to 40 (fun s11 wx => ∃ t : Int, s11 = .int .i64 t ∧ 1 ≤ t ∧ wx = wr)
      case first =>
        go_wp2
        go_meet
        refine ⟨_, rfl, ?_, rfl⟩
        have q1 := Int.tmod_lt_of_pos (rd l0 x) (show (0 : Int) < 8 by decide)
        have q2 := Int.tmod_nonneg 8 (hw x)
        unfold wrap64
        omega
      case rest =>
      obtain ⟨t, rfl, ht, rfl⟩ := hcut
      by_cases hg : 128 ≤ rd l0 x ∧ 0 < ow
      · have g1 : decide (128 ≤ rd l0 x) = true := decide_eq_true hg.1
        have g2 : decide (0 < ow) = true := decide_eq_true hg.2
        have g3 : (128 ≤ rd l0 x) = True := eq_true hg.1
        have g4 : (0 < ow) = True := eq_true hg.2
        have hti : IntKind.i64.wrap (ti - 1) = ti - 1 := by have := HI.out.2.1; have := HI.out.2.2.1; have := HL.out; unfold IntKind.wrap; simp [IntKind.bits, IntKind.signed]; omega
        by_cases hm : 0 < ti - 1
        · have m1 : decide (0 < ti - 1) = true := decide_eq_true hm
          have m2 : (0 < ti - 1) = True := eq_true hm
          go_wp2_with (first
            | (go_at_call 8; (refine (give_more w.heap.size w.heap.size tb cap rest ow ti v xs (by omega) hti hm _ HK.out.1 HK.out.2.2.2.2).mono ?_); rintro e w3 ⟨rfl, h3⟩; have HG := Aside0.mk (lk_call HK.out h3); clear h3))
          obtain ⟨v3, HG⟩ := HG.out
          go_roundg (l0.length - (i + 1))
          case measure => omega
          case rel => exact ⟨i + 1, _, ow, ti - 1, A, c, xs, v3, rfl, ⟨by rw [HX.out]; unfold wrap64; have := HL.out; omega⟩, rfl, rfl, rfl, by omega, ⟨HG⟩, ⟨by obtain ⟨r1, r2, r3, r4, r5, r6, r7⟩ := HI.out; exact ⟨by omega, by omega, by omega, by omega, fun _ => by omega, fun _ => by omega, r7⟩⟩⟩
        · have m1 : decide (0 < ti - 1) = false := decide_eq_false hm
          have m2 : (0 < ti - 1) = False := eq_false hm
          have m3 : ti = 1 := by have := HI.out.2.2.2.2.2.1 hg.2; omega
          cases xs with
          | nil =>
            go_wp2_with (first
              | (go_at_call 8; (refine (give_none w.heap.size w.heap.size tb cap rest ow ti v (by omega) hti hm _ HK.out.1 HK.out.2.2.2.2).mono ?_); rintro e w3 ⟨rfl, h3⟩; have HG := Aside0.mk (lk_call HK.out h3); clear h3))
            obtain ⟨v3, HG⟩ := HG.out
            go_roundg (l0.length - (i + 1))
            case measure => omega
            case rel => exact ⟨i + 1, _, 0, 0, A, c, [], v3, rfl, ⟨by rw [HX.out]; unfold wrap64; have := HL.out; omega⟩, rfl, rfl, rfl, by omega, ⟨HG⟩, ⟨by obtain ⟨r1, r2, r3, r4, r5, r6, r7⟩ := HI.out; (try simp only [List.length_cons, List.length_append, List.length_nil] at r4 ⊢); exact ⟨by omega, by omega, by omega, by (try simp only [List.length_cons, List.length_append, List.length_nil]); omega, fun _ => by omega, fun _ => by omega, fun z hz => (by cases hz)⟩⟩⟩
          | cons y ys =>
            obtain ⟨rb, off, rfl, hc1, hy0, hcl⟩ := rw_form HK.out.2.1
            have HN := Aside0.mk (show ys.length ≤ 1000000 by have h_ := HI.out.2.2.2.1; have := HL.out; simp only [List.length_cons] at h_; omega)
            go_wp2_with (first
              | (go_at_call 8; (refine (give_next w.heap.size w.heap.size tb cap rest ow ti v y ys HN.out (by omega) hti hm _ HK.out.1 HK.out.2.2.2.2).mono ?_); rintro e w3 ⟨rfl, h3⟩; have HG := Aside0.mk (lk_call HK.out h3); clear h3))
            obtain ⟨v3, HG⟩ := HG.out
            have HG3 := Aside0.mk HG
            clear HG hy0
            obtain ⟨rb', off', e', hc1', hy0, hcl'⟩ := rw_form HG3.out.2.1
            cases e'
            by_cases hce : c = 1
            · subst hce
              obtain rfl : ys = [] := List.eq_nil_of_length_eq_zero (by omega)
              go_quiet (fail)
              try go_wp2
              go_roundg (l0.length - (i + 1))
              case measure => omega
              case rel => exact ⟨i + 1, _, y, 1, some ⟨rb, off, none⟩, 0, [], v3, rfl, ⟨by rw [HX.out]; unfold wrap64; have := HL.out; omega⟩, rfl, rfl, rfl, by omega, ⟨lk_row (lk_drewN HG3.out _) (rw_last (lk_drewN HG3.out _).2.1) (fun a ha => ⟨_, rfl, by cases ha; rfl⟩)⟩, ⟨by obtain ⟨r1, r2, r3, r4, r5, r6, r7⟩ := HI.out; have r8 := r7 y (List.mem_cons_self ..); (try simp only [List.length_cons, List.length_append, List.length_nil] at r4 ⊢); exact ⟨by omega, by omega, by omega, by (try simp only [List.length_cons, List.length_append, List.length_nil]); omega, fun _ => by omega, fun _ => by omega, fun z hz => (by cases hz)⟩⟩⟩
            · have hcf : (c = 1) = False := eq_false hce
              go_quiet (fail)
              try go_wp2
              go_roundg (l0.length - (i + 1))
              case measure => omega
              case rel => exact ⟨i + 1, _, y, 1, some ⟨rb, off + 1, none⟩, c - 1, ys, v3, rfl, ⟨by rw [HX.out]; unfold wrap64; have := HL.out; omega⟩, rfl, rfl, rfl, by omega, ⟨lk_row (lk_drewN HG3.out _) (rw_tail (lk_drewN HG3.out _).2.1) (fun a ha => ⟨_, rfl, by cases ha; rfl⟩)⟩, ⟨by obtain ⟨r1, r2, r3, r4, r5, r6, r7⟩ := HI.out; have r8 := r7 y (List.mem_cons_self ..); (try simp only [List.length_cons, List.length_append, List.length_nil] at r4 ⊢); exact ⟨by omega, by omega, by omega, by (try simp only [List.length_cons, List.length_append, List.length_nil]); omega, fun _ => by omega, fun _ => by omega, fun z hz => r7 z (List.mem_cons_of_mem _ hz)⟩⟩⟩
      · go_upto_region 11 with fail
        go_cut [46] from 41 to 45 (fun s46 wx => s46 = .bool false ∧ wx = wc)
        case first =>
          by_cases hb : 128 ≤ rd l0 x
          · have g1 : decide (128 ≤ rd l0 x) = true := decide_eq_true hb
            have g3 : (128 ≤ rd l0 x) = True := eq_true hb
            have g2 : decide (0 < ow) = false := decide_eq_false (fun h => hg ⟨hb, h⟩)
            have g4 : (0 < ow) = False := eq_false (fun h => hg ⟨hb, h⟩)
            go_wp2
            go_meet
            exact ⟨rfl, rfl⟩
          · have g1 : decide (128 ≤ rd l0 x) = false := decide_eq_false hb
            have g3 : (128 ≤ rd l0 x) = False := eq_false hb
            go_wp2
            go_meet
            exact ⟨rfl, rfl⟩
        case rest =>
        obtain ⟨rfl, rfl⟩ := hcut
        have hti : IntKind.i64.wrap (ti + 1) = ti + 1 := by have := HI.out.2.1; have := HI.out.2.2.1; have := HL.out; unfold IntKind.wrap; simp [IntKind.bits, IntKind.signed]; omega
        have HT := Aside0.mk (And.intro ht hti)
        clear ht
        by_cases h0 : ow = 0
        · have f1 : (ow == 0) = true := beq_iff_eq.2 h0
          have f2 : decide (ow = 0) = true := decide_eq_true h0
          have HO := Aside0.mk (show ow = 0 ∨ ow = t from .inl h0)
          have HOO := Aside0.mk h0
          clear h0
          go_wp2_with (first
            | (go_at_call 9; (refine (take_free w.heap.size w.heap.size tb cap rest ow ti v xs t HT.out.1 HT.out.2 HO.out _ HK.out.1 HK.out.2.2.2.2).mono ?_); rintro e w3 ⟨rfl, h3⟩; have HG := Aside0.mk (lk_call HK.out h3); clear h3))
          obtain ⟨v3, HG⟩ := HG.out
          go_roundg (l0.length - (i + 1))
          case measure => omega
          case rel => exact ⟨i + 1, _, t, ti + 1, A, c, xs, v3, rfl, ⟨by rw [HX.out]; unfold wrap64; have := HL.out; omega⟩, rfl, rfl, rfl, by omega, ⟨HG⟩, ⟨by obtain ⟨r1, r2, r3, r4, r5, r6, r7⟩ := HI.out; have r8 := HT.out.1; (try simp only [List.length_cons, List.length_append, List.length_nil] at r4 ⊢); exact ⟨by omega, by omega, by omega, by (try simp only [List.length_cons, List.length_append, List.length_nil]); omega, fun _ => by omega, fun _ => by omega, r7⟩⟩⟩
        · by_cases h1 : ow = t
          · have f1 : (ow == 0) = false := beq_false_of_ne h0
            have f2 : decide (ow = 0) = false := decide_eq_false h0
            have f3 : (ow == t) = true := beq_iff_eq.2 h1
            have f4 : decide (ow = t) = true := decide_eq_true h1
            have HO := Aside0.mk (show ow = 0 ∨ ow = t from .inr h1)
            clear h0 h1
            go_wp2_with (first
              | (go_at_call 9; (refine (take_free w.heap.size w.heap.size tb cap rest ow ti v xs t HT.out.1 HT.out.2 HO.out _ HK.out.1 HK.out.2.2.2.2).mono ?_); rintro e w3 ⟨rfl, h3⟩; have HG := Aside0.mk (lk_call HK.out h3); clear h3))
            obtain ⟨v3, HG⟩ := HG.out
            go_roundg (l0.length - (i + 1))
            case measure => omega
            case rel => exact ⟨i + 1, _, t, ti + 1, A, c, xs, v3, rfl, ⟨by rw [HX.out]; unfold wrap64; have := HL.out; omega⟩, rfl, rfl, rfl, by omega, ⟨HG⟩, ⟨by obtain ⟨r1, r2, r3, r4, r5, r6, r7⟩ := HI.out; have r8 := HT.out.1; (try simp only [List.length_cons, List.length_append, List.length_nil] at r4 ⊢); exact ⟨by omega, by omega, by omega, by (try simp only [List.length_cons, List.length_append, List.length_nil]); omega, fun _ => by omega, fun _ => by omega, r7⟩⟩⟩
          · have f1 : (ow == 0) = false := beq_false_of_ne h0
            have f2 : decide (ow = 0) = false := decide_eq_false h0
            have f3 : (ow == t) = false := beq_false_of_ne h1
            have f4 : decide (ow = t) = false := decide_eq_false h1
            have HN := Aside0.mk (show xs.length ≤ 1000000 by have h_ := HI.out.2.2.2.1; have := HL.out; omega)
            by_cases h2 : t ∈ xs
            · have hf := in_f xs t (by have := HN.out; omega)
              rw [decide_eq_true h2] at hf
              have HF := Aside0.mk hf
              clear hf
              go_wp2_with (first
                | (go_at_call 9; (refine (take_waits w.heap.size w.heap.size tb cap rest ow ti v xs (by have := HN.out; omega) t HT.out.1 h0 h1 h2 _ HK.out.1 HK.out.2.2.2.2).mono ?_); rintro e w3 ⟨rfl, h3⟩; obtain ⟨v3, hG⟩ := lk_call HK.out h3; have HG := Aside0.mk hG; clear h3 hG)
                | (go_at_call 10; (refine (manystrandlaw11_in.calls (xs.length + 1) A c xs t true _ (rw_C HG.out.2.1).1 (rw_C HG.out.2.1).2 HF.out).mono ?_); rintro e w4 ⟨rfl, ⟨nd, rfl⟩⟩))
              go_roundg (l0.length - (i + 1))
              case measure => omega
              case rel => exact ⟨i + 1, _, ow, ti, A, c, xs, v3, rfl, ⟨by rw [HX.out]; unfold wrap64; have := HL.out; omega⟩, rfl, rfl, rfl, by omega, ⟨lk_drewN HG.out _⟩, ⟨by obtain ⟨r1, r2, r3, r4, r5, r6, r7⟩ := HI.out; (try simp only [List.length_cons, List.length_append, List.length_nil] at r4 ⊢); exact ⟨by omega, by omega, by omega, by (try simp only [List.length_cons, List.length_append, List.length_nil]); omega, fun _ => by omega, fun _ => by omega, r7⟩⟩⟩
            · have hf := in_f xs t (by have := HN.out; omega)
              rw [decide_eq_false h2] at hf
              have HF := Aside0.mk hf
              clear hf
              go_wp2_with (first
                | (go_at_call 9; (refine (take_new w.heap.size w.heap.size tb cap rest ow ti v xs HN.out t HT.out.1 h0 h1 h2 _ HK.out.1 HK.out.2.2.2.2).mono ?_); rintro e w3 ⟨rfl, h3⟩; obtain ⟨v3, hG⟩ := lk_call HK.out h3; have HG := Aside0.mk hG; clear h3 hG)
                | (go_at_call 10; (refine (manystrandlaw11_in.calls (xs.length + 1) A c xs t false _ (rw_C HG.out.2.1).1 (rw_C HG.out.2.1).2 HF.out).mono ?_); rintro e w4 ⟨rfl, ⟨nd, rfl⟩⟩)
                | (at_builtin; (refine lk_append (lk_drewN HG.out nd) t HN.out rfl (.tmp 101) (.tmp 103) rfl rfl rfl ?_); intro A' c' w5 hk; have HH := Aside0.mk hk; clear hk))
              go_roundg (l0.length - (i + 1))
              case measure => omega
              case rel => exact ⟨i + 1, _, ow, ti, A', c', xs ++ [t], v3, rfl, ⟨by rw [HX.out]; unfold wrap64; have := HL.out; omega⟩, (by first | rfl | simp), rfl, rfl, by omega, ⟨HH.out⟩, ⟨by obtain ⟨r1, r2, r3, r4, r5, r6, r7⟩ := HI.out; (try simp only [List.length_cons, List.length_append, List.length_nil] at r4 ⊢); exact ⟨by omega, by omega, by omega, by (try simp only [List.length_cons, List.length_append, List.length_nil]); omega, fun _ => by omega, fun _ => by omega, mem_snoc r7 HT.out.1⟩⟩⟩
    · obtain rfl : i = l0.length := by omega
      have d1 : decide (x < (l0.length : Int)) = false := decide_eq_false (by have := HX.out; omega)
      have p1 := eq_false (show ¬ x < (l0.length : Int) by have := HX.out; omega)
      have HN := Aside0.mk (show xs.length ≤ 1000000 by have h_ := HI.out.2.2.2.1; have := HL.out; omega)
      have HF := Aside0.mk (same_f xs (by have := HN.out; omega))
      by_cases h0 : ow = 0
      · have f1 : (ow == 0) = true := beq_iff_eq.2 h0
        have f2 : decide (ow = 0) = true := decide_eq_true h0
        clear h0
        go_wp2_with (first
          | (go_at_call 11; (refine (owner_calls w.heap.size w.heap.size tb cap rest ow ti v xs _ HK.out.1 HK.out.2.2.2.2).mono ?_); rintro e w3 ⟨rfl, h3⟩; obtain ⟨v3, hG⟩ := lk_call HK.out h3; have HG := Aside0.mk hG; clear h3 hG)
          | (go_at_call 12; (refine (waiting_calls w.heap.size w.heap.size tb cap rest ow ti v3 xs HN.out _ HG.out.1 HG.out.2.2.2.2).mono ?_); rintro e w4 ⟨A4, c4, rfl, hC, hc, hy⟩; obtain ⟨v4, hG⟩ := lk_wait HG.out hy; have HG4 := Aside0.mk (And.intro hG (And.intro hC hc)); clear hG hC hc hy)
          | (go_at_call 13; (refine (manystrandref11_SameInts.calls (xs.length + 1) A4 c4 xs A c xs true _ HG4.out.2.1 HG4.out.2.2 (rw_C HG4.out.1.2.1).1 (rw_C HG4.out.1.2.1).2 HF.out).mono ?_); rintro e w5 ⟨rfl, ⟨nd, rfl⟩⟩)
          | (go_at_call 5; (refine (awake_calls _).mono ?_); rintro e w6 ⟨rfl, hb⟩; have HE := Aside0.mk ((lk_drewN HG4.out.1 nd).2.2.2.1.trans (hb.mono (lk_drewN HG4.out.1 nd).2.2.2.2)); clear hb))
        go_ret
        exact ⟨rfl, HE.out⟩
      · have f1 : (ow == 0) = false := beq_false_of_ne h0
        have f2 : decide (ow = 0) = false := decide_eq_false h0
        clear h0
        go_wp2_with (first
          | (go_at_call 11; (refine (owner_calls w.heap.size w.heap.size tb cap rest ow ti v xs _ HK.out.1 HK.out.2.2.2.2).mono ?_); rintro e w3 ⟨rfl, h3⟩; obtain ⟨v3, hG⟩ := lk_call HK.out h3; have HG := Aside0.mk hG; clear h3 hG)
          | (go_at_call 12; (refine (waiting_calls w.heap.size w.heap.size tb cap rest ow ti v3 xs HN.out _ HG.out.1 HG.out.2.2.2.2).mono ?_); rintro e w4 ⟨A4, c4, rfl, hC, hc, hy⟩; obtain ⟨v4, hG⟩ := lk_wait HG.out hy; have HG4 := Aside0.mk (And.intro hG (And.intro hC hc)); clear hG hC hc hy)
          | (go_at_call 13; (refine (manystrandref11_SameInts.calls (xs.length + 1) A4 c4 xs A c xs true _ HG4.out.2.1 HG4.out.2.2 (rw_C HG4.out.1.2.1).1 (rw_C HG4.out.1.2.1).2 HF.out).mono ?_); rintro e w5 ⟨rfl, ⟨nd, rfl⟩⟩)
          | (go_at_call 5; (refine (awake_calls _).mono ?_); rintro e w6 ⟨rfl, hb⟩; have HE := Aside0.mk ((lk_drewN HG4.out.1 nd).2.2.2.1.trans (hb.mono (lk_drewN HG4.out.1 nd).2.2.2.2)); clear hb))
        go_ret
        exact ⟨rfl, HE.out⟩
/-- LockOne, whatever the list. -/
theorem lock_calls (A0 : Option Addr) (c0 : Nat) (l0 : List Int) (w : World) (hr : Kd.C (Kd.int .u8) w A0 l0.length l0) (hw : ∀ j, 0 ≤ rd l0 j) :
    Calls Try.prog 3 #[.slice A0 l0.length c0] w (AwakeEnd w) := by
  by_cases hl : (l0.length : Int) > 100
  · exact long_calls A0 c0 l0 w hl
  · exact short_calls A0 c0 l0 w hr hw hl
end Go.Proofs.Ytonfbhcafejblaa.Yd
