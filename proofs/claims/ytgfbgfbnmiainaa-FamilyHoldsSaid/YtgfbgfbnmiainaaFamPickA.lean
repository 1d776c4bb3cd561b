import Derived.Test.YtgfbgfbnmiainaaFamPick
/-! picked, at one of its rules. (Written by fam_pick.py.) -/
namespace Go.Proofs.Ytgfbgfbnmiainaa.Fam
set_option linter.unusedVariables false
set_option linter.unusedSimpArgs false
open Go.RowKit Go.Proofs.YtgfbgfbnmiainaaW.PrintWords Go.Proofs.YtgfbgfbnmiainaaW.PrintLast Go.Proofs.YtgfbgfbnmiainaaW.PrintMore Go.Proofs.Ytgfbgfbnmiainaa.Q
attribute [local go_sem] Go.Proofs.YtgfbgfbnmiainaaW.OwnWords.isSome_setCell max2_int min2_int
def r_without (a b : Bool) : Bool := a && !b
theorem r_without_calls (a b : Bool) (w : World) : Calls Try.prog 62 #[.bool a, .bool b] w fun e w' => e = .returned (.bool (r_without a b)) ∧ w' = w := by
  cases a <;> cases b
  all_goals
    go_enter Try.func62, Try.ntmps62
    go_wp2
    go_ret
    exact ⟨rfl, rfl⟩
set_option maxHeartbeats 8000000 in
set_option maxRecDepth 100000 in
theorem pick_without (A : Option Addr) (c : Nat) (xs : List Int) (B : Option Addr) (d : Nat) (ys : List Int) (hl : xs.length + ys.length ≤ 1000000) (Z : List Int) (hZ : pick r_without (xs.length + ys.length) xs ys = Z) (w : World) (hx : Sl w A c xs) (hy : Sl w B d ys) :
    Calls Try.prog 64 #[.slice A xs.length c, .slice B ys.length d, .func (.func 62) #[] #[]] w (PickEnd w Z) := by
  have HX0 := Aside0.mk (And.intro hx hy)
  have HL0 := Aside0.mk hl
  have HZ0 := Aside0.mk hZ
  clear hx hy hl hZ
  go_enter Try.func64, Try.ntmps64
  go_upto_region 2 with fail
  go_loopg [0, 1, 7] (xs.length + ys.length) (fun kq v0 v1 v7 w' => ∃ (A : Option Addr) (c : Nat) (xs : List Int) (B : Option Addr) (d : Nat) (ys : List Int) (v : Value) (zs : List Int), v0 = .slice A xs.length c ∧ v1 = .slice B ys.length d ∧ v = v7 ∧ Aside0 (xs.length + ys.length ≤ kq) ∧ Aside0 (Sl w A c xs ∧ Sl w B d ys) ∧ Aside0 (zs ++ pick r_without kq xs ys = Z ∧ zs.length + (xs.length + ys.length) ≤ 1000000) ∧ Aside0 (Pk w w' v zs))
  case atStart => exact ⟨A, c, xs, B, d, ys, .slice none 0 0, [], rfl, rfl, rfl, ⟨Nat.le_refl _⟩, HX0, ⟨by rw [List.nil_append]; exact HZ0.out, by have := HL0.out; simpa using this⟩, ⟨⟨by simp, .inl ⟨rfl, rfl⟩⟩, Below.refl _ _⟩⟩
  case round =>
    clear HX0 HL0 HZ0
    obtain ⟨A, c, xs, B, d, ys, v, zs, rfl, rfl, rfl, HM, HS0, HZ, HP⟩ := hrel
    have HS := Aside0.mk (And.intro (sl_below HS0.out.1 HP.out.2) (sl_below HS0.out.2 HP.out.2))
    cases xs with
    | nil =>
      cases ys with
      | nil =>
        have hz := HZ.out.1
        rw [pick_nil, List.append_nil] at hz
        subst hz
        go_wp2
        go_ret
        exact ⟨_, rfl, HP.out⟩
      | cons y ys =>
        obtain ⟨kq, rfl⟩ : ∃ m, gk = m + 1 := ⟨gk - 1, by have h_ := HM.out; simp only [List.length_cons, List.length_nil] at h_; omega⟩
        obtain ⟨bd, rfl, hy0, hy1, hyc⟩ := sl_head HS.out.2
        have b1 : decide ((0 : Int) < (ys.length : Int) + 1) = true := decide_eq_true (by omega)
        have b2 : ((ys.length : Int) + 1 == 0) = false := beq_false_of_ne (by omega)
        by_cases hd1 : d = 1
        · subst hd1
          obtain rfl : ys = [] := List.eq_nil_of_length_eq_zero (by omega)
          have HZ1 : Aside0 ((zs) ++ pick r_without kq ([]) ([]) = Z) := ⟨by have h_ := HZ.out.1; simp only [pick, show r_without false true = false from rfl, if_true, if_false, Bool.false_eq_true, List.nil_append] at h_; simpa using h_⟩
          go_wp2
          go_quiet (fail)
          try go_wp2
          go_quiet (fail)
          try go_wp2
          go_quiet (fail)
          go_wp2_with (first | (go_at_call 62; (refine (r_without_calls false true _).mono ?_); rintro e w3 ⟨rfl, rfl⟩) | (at_builtin; (refine print_append_cells (w0 := w) w.heap.size rfl (.tmp 69) (.tmp 71) 31 3 (.int .i64 0) 1 8 rfl Try.underlying31 info3' rfl (by decide) (by decide) v zs.length (zs.map (Value.int .i64)) [.int .i64 (y)] rfl rfl rfl ?a1 ?aO ?aB ?aS ?aL ?_); (case a1 => intro u hu; rw [List.mem_singleton] at hu; subst hu; rfl); (case aO => repeat (first | exact HP.out.1 | (with_reducible refine own_drewN ?_ _))); (case aB => repeat (first | exact HP.out.2 | (with_reducible refine pw_below_drewN ?_ _))); (case aS => refine Below.size (B := w.heap.size) (w := w) ?_; repeat (first | exact HP.out.2 | (with_reducible refine pw_below_drewN ?_ _))); (case aL => have := HZ.out.2; omega); intro v1 w4 ho hb hg hat; obtain ⟨gb, cp, rfl⟩ := pk_form ho (by omega); have HQ := Aside0.mk (And.intro ho hb); clear ho hb hg hat))
          go_roundg kq
          case measure => omega
          case rel => exact ⟨A, c, [], some bd, 0, [], _, zs, (by first | rfl | simp), (by first | rfl | simp), rfl, ⟨by have := HM.out; simp only [List.length_cons, List.length_nil] at this ⊢; omega⟩, ⟨(HS0.out.1), (sl_nil _ _)⟩, ⟨HZ1.out, by have h_ := HZ.out.2; (try simp only [List.length_cons, List.length_append, List.length_nil] at h_ ⊢); omega⟩, ⟨by repeat (first | exact HP.out | (with_reducible refine pk_drewN ?_ _))⟩⟩
        · have hd2 : (d = 1) = False := eq_false hd1
          have HZ1 : Aside0 ((zs) ++ pick r_without kq ([]) (ys) = Z) := ⟨by have h_ := HZ.out.1; simp only [pick, show r_without false true = false from rfl, if_true, if_false, Bool.false_eq_true, List.nil_append] at h_; simpa using h_⟩
          go_wp2
          go_quiet (fail)
          try go_wp2
          go_quiet (fail)
          try go_wp2
          go_quiet (fail)
          go_wp2_with (first | (go_at_call 62; (refine (r_without_calls false true _).mono ?_); rintro e w3 ⟨rfl, rfl⟩) | (at_builtin; (refine print_append_cells (w0 := w) w.heap.size rfl (.tmp 69) (.tmp 71) 31 3 (.int .i64 0) 1 8 rfl Try.underlying31 info3' rfl (by decide) (by decide) v zs.length (zs.map (Value.int .i64)) [.int .i64 (y)] rfl rfl rfl ?a1 ?aO ?aB ?aS ?aL ?_); (case a1 => intro u hu; rw [List.mem_singleton] at hu; subst hu; rfl); (case aO => repeat (first | exact HP.out.1 | (with_reducible refine own_drewN ?_ _))); (case aB => repeat (first | exact HP.out.2 | (with_reducible refine pw_below_drewN ?_ _))); (case aS => refine Below.size (B := w.heap.size) (w := w) ?_; repeat (first | exact HP.out.2 | (with_reducible refine pw_below_drewN ?_ _))); (case aL => have := HZ.out.2; omega); intro v1 w4 ho hb hg hat; obtain ⟨gb, cp, rfl⟩ := pk_form ho (by omega); have HQ := Aside0.mk (And.intro ho hb); clear ho hb hg hat))
          go_roundg kq
          case measure => omega
          case rel => exact ⟨A, c, [], some (bd.add 1), d - 1, ys, _, zs, (by first | rfl | simp), (by first | rfl | simp), rfl, ⟨by have := HM.out; simp only [List.length_cons, List.length_nil] at this ⊢; omega⟩, ⟨(HS0.out.1), (sl_tail HS0.out.2)⟩, ⟨HZ1.out, by have h_ := HZ.out.2; (try simp only [List.length_cons, List.length_append, List.length_nil] at h_ ⊢); omega⟩, ⟨by repeat (first | exact HP.out | (with_reducible refine pk_drewN ?_ _))⟩⟩
    | cons x xs =>
      obtain ⟨kq, rfl⟩ : ∃ m, gk = m + 1 := ⟨gk - 1, by have h_ := HM.out; simp only [List.length_cons, List.length_nil] at h_; omega⟩
      cases ys with
      | nil =>
        obtain ⟨ad, rfl, hx0, hx1, hxc⟩ := sl_head HS.out.1
        have a1 : decide ((0 : Int) < (xs.length : Int) + 1) = true := decide_eq_true (by omega)
        have a2 : ((xs.length : Int) + 1 == 0) = false := beq_false_of_ne (by omega)
        by_cases hc1 : c = 1
        · subst hc1
          obtain rfl : xs = [] := List.eq_nil_of_length_eq_zero (by omega)
          have HZ1 : Aside0 ((zs ++ [x]) ++ pick r_without kq ([]) ([]) = Z) := ⟨by have h_ := HZ.out.1; simp only [pick, show r_without true false = true from rfl, if_true, if_false, Bool.false_eq_true, List.nil_append] at h_; simpa using h_⟩
          go_wp2
          go_quiet (fail)
          try go_wp2
          go_quiet (fail)
          try go_wp2
          go_quiet (fail)
          go_wp2_with (first | (go_at_call 62; (refine (r_without_calls true false _).mono ?_); rintro e w3 ⟨rfl, rfl⟩) | (at_builtin; (refine print_append_cells (w0 := w) w.heap.size rfl (.tmp 69) (.tmp 71) 31 3 (.int .i64 0) 1 8 rfl Try.underlying31 info3' rfl (by decide) (by decide) v zs.length (zs.map (Value.int .i64)) [.int .i64 (x)] rfl rfl rfl ?a1 ?aO ?aB ?aS ?aL ?_); (case a1 => intro u hu; rw [List.mem_singleton] at hu; subst hu; rfl); (case aO => repeat (first | exact HP.out.1 | (with_reducible refine own_drewN ?_ _))); (case aB => repeat (first | exact HP.out.2 | (with_reducible refine pw_below_drewN ?_ _))); (case aS => refine Below.size (B := w.heap.size) (w := w) ?_; repeat (first | exact HP.out.2 | (with_reducible refine pw_below_drewN ?_ _))); (case aL => have := HZ.out.2; omega); intro v1 w4 ho hb hg hat; obtain ⟨gb, cp, rfl⟩ := pk_form ho (by omega); have HQ := Aside0.mk (And.intro ho hb); clear ho hb hg hat))
          go_roundg kq
          case measure => omega
          case rel => exact ⟨some ad, 0, [], B, d, [], _, zs ++ [x], (by first | rfl | simp), (by first | rfl | simp), rfl, ⟨by have := HM.out; simp only [List.length_cons, List.length_nil] at this ⊢; omega⟩, ⟨(sl_nil _ _), (HS0.out.2)⟩, ⟨HZ1.out, by have h_ := HZ.out.2; (try simp only [List.length_cons, List.length_append, List.length_nil] at h_ ⊢); omega⟩, ⟨by simpa using HQ.out.1, HQ.out.2⟩⟩
        · have hc2 : (c = 1) = False := eq_false hc1
          have HZ1 : Aside0 ((zs ++ [x]) ++ pick r_without kq (xs) ([]) = Z) := ⟨by have h_ := HZ.out.1; simp only [pick, show r_without true false = true from rfl, if_true, if_false, Bool.false_eq_true, List.nil_append] at h_; simpa using h_⟩
          go_wp2
          go_quiet (fail)
          try go_wp2
          go_quiet (fail)
          try go_wp2
          go_quiet (fail)
          go_wp2_with (first | (go_at_call 62; (refine (r_without_calls true false _).mono ?_); rintro e w3 ⟨rfl, rfl⟩) | (at_builtin; (refine print_append_cells (w0 := w) w.heap.size rfl (.tmp 69) (.tmp 71) 31 3 (.int .i64 0) 1 8 rfl Try.underlying31 info3' rfl (by decide) (by decide) v zs.length (zs.map (Value.int .i64)) [.int .i64 (x)] rfl rfl rfl ?a1 ?aO ?aB ?aS ?aL ?_); (case a1 => intro u hu; rw [List.mem_singleton] at hu; subst hu; rfl); (case aO => repeat (first | exact HP.out.1 | (with_reducible refine own_drewN ?_ _))); (case aB => repeat (first | exact HP.out.2 | (with_reducible refine pw_below_drewN ?_ _))); (case aS => refine Below.size (B := w.heap.size) (w := w) ?_; repeat (first | exact HP.out.2 | (with_reducible refine pw_below_drewN ?_ _))); (case aL => have := HZ.out.2; omega); intro v1 w4 ho hb hg hat; obtain ⟨gb, cp, rfl⟩ := pk_form ho (by omega); have HQ := Aside0.mk (And.intro ho hb); clear ho hb hg hat))
          go_roundg kq
          case measure => omega
          case rel => exact ⟨some (ad.add 1), c - 1, xs, B, d, [], _, zs ++ [x], (by first | rfl | simp), (by first | rfl | simp), rfl, ⟨by have := HM.out; simp only [List.length_cons, List.length_nil] at this ⊢; omega⟩, ⟨(sl_tail HS0.out.1), (HS0.out.2)⟩, ⟨HZ1.out, by have h_ := HZ.out.2; (try simp only [List.length_cons, List.length_append, List.length_nil] at h_ ⊢); omega⟩, ⟨by simpa using HQ.out.1, HQ.out.2⟩⟩
      | cons y ys =>
        by_cases h0 : x < y
        · skip
          obtain ⟨ad, rfl, hx0, hx1, hxc⟩ := sl_head HS.out.1
          have a1 : decide ((0 : Int) < (xs.length : Int) + 1) = true := decide_eq_true (by omega)
          have a2 : ((xs.length : Int) + 1 == 0) = false := beq_false_of_ne (by omega)
          obtain ⟨bd, rfl, hy0, hy1, hyc⟩ := sl_head HS.out.2
          have b1 : decide ((0 : Int) < (ys.length : Int) + 1) = true := decide_eq_true (by omega)
          have b2 : ((ys.length : Int) + 1 == 0) = false := beq_false_of_ne (by omega)
          have d1 : decide (x ≤ y) = true := decide_eq_true (by omega)
          have d2 : decide (y ≤ x) = false := decide_eq_false (by omega)
          by_cases hc1 : c = 1
          · subst hc1
            obtain rfl : xs = [] := List.eq_nil_of_length_eq_zero (by omega)
            have HZ1 : Aside0 ((zs ++ [x]) ++ pick r_without kq ([]) (y :: ys) = Z) := ⟨by have h_ := HZ.out.1; simp only [pick, show r_without true false = true from rfl, if_pos h0, if_true, if_false, Bool.false_eq_true, List.nil_append] at h_; simpa using h_⟩
            go_wp2
            go_quiet (fail)
            try go_wp2
            go_quiet (fail)
            try go_wp2
            go_quiet (fail)
            go_wp2_with (first | (go_at_call 62; (refine (r_without_calls true false _).mono ?_); rintro e w3 ⟨rfl, rfl⟩) | (at_builtin; (refine print_append_cells (w0 := w) w.heap.size rfl (.tmp 69) (.tmp 71) 31 3 (.int .i64 0) 1 8 rfl Try.underlying31 info3' rfl (by decide) (by decide) v zs.length (zs.map (Value.int .i64)) [.int .i64 (x)] rfl rfl rfl ?a1 ?aO ?aB ?aS ?aL ?_); (case a1 => intro u hu; rw [List.mem_singleton] at hu; subst hu; rfl); (case aO => repeat (first | exact HP.out.1 | (with_reducible refine own_drewN ?_ _))); (case aB => repeat (first | exact HP.out.2 | (with_reducible refine pw_below_drewN ?_ _))); (case aS => refine Below.size (B := w.heap.size) (w := w) ?_; repeat (first | exact HP.out.2 | (with_reducible refine pw_below_drewN ?_ _))); (case aL => have := HZ.out.2; omega); intro v1 w4 ho hb hg hat; obtain ⟨gb, cp, rfl⟩ := pk_form ho (by omega); have HQ := Aside0.mk (And.intro ho hb); clear ho hb hg hat))
            go_roundg kq
            case measure => omega
            case rel => exact ⟨some ad, 0, [], some bd, d, y :: ys, _, zs ++ [x], (by first | rfl | simp), (by first | rfl | simp), rfl, ⟨by have := HM.out; simp only [List.length_cons, List.length_nil] at this ⊢; omega⟩, ⟨(sl_nil _ _), (HS0.out.2)⟩, ⟨HZ1.out, by have h_ := HZ.out.2; (try simp only [List.length_cons, List.length_append, List.length_nil] at h_ ⊢); omega⟩, ⟨by simpa using HQ.out.1, HQ.out.2⟩⟩
          · have hc2 : (c = 1) = False := eq_false hc1
            have HZ1 : Aside0 ((zs ++ [x]) ++ pick r_without kq (xs) (y :: ys) = Z) := ⟨by have h_ := HZ.out.1; simp only [pick, show r_without true false = true from rfl, if_pos h0, if_true, if_false, Bool.false_eq_true, List.nil_append] at h_; simpa using h_⟩
            go_wp2
            go_quiet (fail)
            try go_wp2
            go_quiet (fail)
            try go_wp2
            go_quiet (fail)
            go_wp2_with (first | (go_at_call 62; (refine (r_without_calls true false _).mono ?_); rintro e w3 ⟨rfl, rfl⟩) | (at_builtin; (refine print_append_cells (w0 := w) w.heap.size rfl (.tmp 69) (.tmp 71) 31 3 (.int .i64 0) 1 8 rfl Try.underlying31 info3' rfl (by decide) (by decide) v zs.length (zs.map (Value.int .i64)) [.int .i64 (x)] rfl rfl rfl ?a1 ?aO ?aB ?aS ?aL ?_); (case a1 => intro u hu; rw [List.mem_singleton] at hu; subst hu; rfl); (case aO => repeat (first | exact HP.out.1 | (with_reducible refine own_drewN ?_ _))); (case aB => repeat (first | exact HP.out.2 | (with_reducible refine pw_below_drewN ?_ _))); (case aS => refine Below.size (B := w.heap.size) (w := w) ?_; repeat (first | exact HP.out.2 | (with_reducible refine pw_below_drewN ?_ _))); (case aL => have := HZ.out.2; omega); intro v1 w4 ho hb hg hat; obtain ⟨gb, cp, rfl⟩ := pk_form ho (by omega); have HQ := Aside0.mk (And.intro ho hb); clear ho hb hg hat))
            go_roundg kq
            case measure => omega
            case rel => exact ⟨some (ad.add 1), c - 1, xs, some bd, d, y :: ys, _, zs ++ [x], (by first | rfl | simp), (by first | rfl | simp), rfl, ⟨by have := HM.out; simp only [List.length_cons, List.length_nil] at this ⊢; omega⟩, ⟨(sl_tail HS0.out.1), (HS0.out.2)⟩, ⟨HZ1.out, by have h_ := HZ.out.2; (try simp only [List.length_cons, List.length_append, List.length_nil] at h_ ⊢); omega⟩, ⟨by simpa using HQ.out.1, HQ.out.2⟩⟩
        · by_cases h1 : y < x
          · skip
            obtain ⟨ad, rfl, hx0, hx1, hxc⟩ := sl_head HS.out.1
            have a1 : decide ((0 : Int) < (xs.length : Int) + 1) = true := decide_eq_true (by omega)
            have a2 : ((xs.length : Int) + 1 == 0) = false := beq_false_of_ne (by omega)
            obtain ⟨bd, rfl, hy0, hy1, hyc⟩ := sl_head HS.out.2
            have b1 : decide ((0 : Int) < (ys.length : Int) + 1) = true := decide_eq_true (by omega)
            have b2 : ((ys.length : Int) + 1 == 0) = false := beq_false_of_ne (by omega)
            have d1 : decide (x ≤ y) = false := decide_eq_false (by omega)
            have d2 : decide (y ≤ x) = true := decide_eq_true (by omega)
            by_cases hd1 : d = 1
            · subst hd1
              obtain rfl : ys = [] := List.eq_nil_of_length_eq_zero (by omega)
              have HZ1 : Aside0 ((zs) ++ pick r_without kq (x :: xs) ([]) = Z) := ⟨by have h_ := HZ.out.1; simp only [pick, show r_without false true = false from rfl, if_neg h0, if_pos h1, if_true, if_false, Bool.false_eq_true, List.nil_append] at h_; simpa using h_⟩
              go_wp2
              go_quiet (fail)
              try go_wp2
              go_quiet (fail)
              try go_wp2
              go_quiet (fail)
              go_wp2_with (first | (go_at_call 62; (refine (r_without_calls false true _).mono ?_); rintro e w3 ⟨rfl, rfl⟩) | (at_builtin; (refine print_append_cells (w0 := w) w.heap.size rfl (.tmp 69) (.tmp 71) 31 3 (.int .i64 0) 1 8 rfl Try.underlying31 info3' rfl (by decide) (by decide) v zs.length (zs.map (Value.int .i64)) [.int .i64 (y)] rfl rfl rfl ?a1 ?aO ?aB ?aS ?aL ?_); (case a1 => intro u hu; rw [List.mem_singleton] at hu; subst hu; rfl); (case aO => repeat (first | exact HP.out.1 | (with_reducible refine own_drewN ?_ _))); (case aB => repeat (first | exact HP.out.2 | (with_reducible refine pw_below_drewN ?_ _))); (case aS => refine Below.size (B := w.heap.size) (w := w) ?_; repeat (first | exact HP.out.2 | (with_reducible refine pw_below_drewN ?_ _))); (case aL => have := HZ.out.2; omega); intro v1 w4 ho hb hg hat; obtain ⟨gb, cp, rfl⟩ := pk_form ho (by omega); have HQ := Aside0.mk (And.intro ho hb); clear ho hb hg hat))
              go_roundg kq
              case measure => omega
              case rel => exact ⟨some ad, c, x :: xs, some bd, 0, [], _, zs, (by first | rfl | simp), (by first | rfl | simp), rfl, ⟨by have := HM.out; simp only [List.length_cons, List.length_nil] at this ⊢; omega⟩, ⟨(HS0.out.1), (sl_nil _ _)⟩, ⟨HZ1.out, by have h_ := HZ.out.2; (try simp only [List.length_cons, List.length_append, List.length_nil] at h_ ⊢); omega⟩, ⟨by repeat (first | exact HP.out | (with_reducible refine pk_drewN ?_ _))⟩⟩
            · have hd2 : (d = 1) = False := eq_false hd1
              have HZ1 : Aside0 ((zs) ++ pick r_without kq (x :: xs) (ys) = Z) := ⟨by have h_ := HZ.out.1; simp only [pick, show r_without false true = false from rfl, if_neg h0, if_pos h1, if_true, if_false, Bool.false_eq_true, List.nil_append] at h_; simpa using h_⟩
              go_wp2
              go_quiet (fail)
              try go_wp2
              go_quiet (fail)
              try go_wp2
              go_quiet (fail)
              go_wp2_with (first | (go_at_call 62; (refine (r_without_calls false true _).mono ?_); rintro e w3 ⟨rfl, rfl⟩) | (at_builtin; (refine print_append_cells (w0 := w) w.heap.size rfl (.tmp 69) (.tmp 71) 31 3 (.int .i64 0) 1 8 rfl Try.underlying31 info3' rfl (by decide) (by decide) v zs.length (zs.map (Value.int .i64)) [.int .i64 (y)] rfl rfl rfl ?a1 ?aO ?aB ?aS ?aL ?_); (case a1 => intro u hu; rw [List.mem_singleton] at hu; subst hu; rfl); (case aO => repeat (first | exact HP.out.1 | (with_reducible refine own_drewN ?_ _))); (case aB => repeat (first | exact HP.out.2 | (with_reducible refine pw_below_drewN ?_ _))); (case aS => refine Below.size (B := w.heap.size) (w := w) ?_; repeat (first | exact HP.out.2 | (with_reducible refine pw_below_drewN ?_ _))); (case aL => have := HZ.out.2; omega); intro v1 w4 ho hb hg hat; obtain ⟨gb, cp, rfl⟩ := pk_form ho (by omega); have HQ := Aside0.mk (And.intro ho hb); clear ho hb hg hat))
              go_roundg kq
              case measure => omega
              case rel => exact ⟨some ad, c, x :: xs, some (bd.add 1), d - 1, ys, _, zs, (by first | rfl | simp), (by first | rfl | simp), rfl, ⟨by have := HM.out; simp only [List.length_cons, List.length_nil] at this ⊢; omega⟩, ⟨(HS0.out.1), (sl_tail HS0.out.2)⟩, ⟨HZ1.out, by have h_ := HZ.out.2; (try simp only [List.length_cons, List.length_append, List.length_nil] at h_ ⊢); omega⟩, ⟨by repeat (first | exact HP.out | (with_reducible refine pk_drewN ?_ _))⟩⟩
          · skip
            obtain ⟨ad, rfl, hx0, hx1, hxc⟩ := sl_head HS.out.1
            have a1 : decide ((0 : Int) < (xs.length : Int) + 1) = true := decide_eq_true (by omega)
            have a2 : ((xs.length : Int) + 1 == 0) = false := beq_false_of_ne (by omega)
            obtain ⟨bd, rfl, hy0, hy1, hyc⟩ := sl_head HS.out.2
            have b1 : decide ((0 : Int) < (ys.length : Int) + 1) = true := decide_eq_true (by omega)
            have b2 : ((ys.length : Int) + 1 == 0) = false := beq_false_of_ne (by omega)
            have d1 : decide (x ≤ y) = true := decide_eq_true (by omega)
            have d2 : decide (y ≤ x) = true := decide_eq_true (by omega)
            by_cases hc1 : c = 1
            · subst hc1
              obtain rfl : xs = [] := List.eq_nil_of_length_eq_zero (by omega)
              by_cases hd1 : d = 1
              · subst hd1
                obtain rfl : ys = [] := List.eq_nil_of_length_eq_zero (by omega)
                have HZ1 : Aside0 ((zs) ++ pick r_without kq ([]) ([]) = Z) := ⟨by have h_ := HZ.out.1; simp only [pick, show r_without true true = false from rfl, if_neg h0, if_neg h1, if_true, if_false, Bool.false_eq_true, List.nil_append] at h_; simpa using h_⟩
                go_wp2
                go_quiet (fail)
                try go_wp2
                go_quiet (fail)
                try go_wp2
                go_quiet (fail)
                go_wp2_with (first | (go_at_call 62; (refine (r_without_calls true true _).mono ?_); rintro e w3 ⟨rfl, rfl⟩) | (at_builtin; (refine print_append_cells (w0 := w) w.heap.size rfl (.tmp 69) (.tmp 71) 31 3 (.int .i64 0) 1 8 rfl Try.underlying31 info3' rfl (by decide) (by decide) v zs.length (zs.map (Value.int .i64)) [.int .i64 (y)] rfl rfl rfl ?a1 ?aO ?aB ?aS ?aL ?_); (case a1 => intro u hu; rw [List.mem_singleton] at hu; subst hu; rfl); (case aO => repeat (first | exact HP.out.1 | (with_reducible refine own_drewN ?_ _))); (case aB => repeat (first | exact HP.out.2 | (with_reducible refine pw_below_drewN ?_ _))); (case aS => refine Below.size (B := w.heap.size) (w := w) ?_; repeat (first | exact HP.out.2 | (with_reducible refine pw_below_drewN ?_ _))); (case aL => have := HZ.out.2; omega); intro v1 w4 ho hb hg hat; obtain ⟨gb, cp, rfl⟩ := pk_form ho (by omega); have HQ := Aside0.mk (And.intro ho hb); clear ho hb hg hat))
                go_quiet (fail)
                go_wp2_with (first | (go_at_call 62; (refine (r_without_calls true true _).mono ?_); rintro e w3 ⟨rfl, rfl⟩) | (at_builtin; (refine print_append_cells (w0 := w) w.heap.size rfl (.tmp 69) (.tmp 71) 31 3 (.int .i64 0) 1 8 rfl Try.underlying31 info3' rfl (by decide) (by decide) v zs.length (zs.map (Value.int .i64)) [.int .i64 (y)] rfl rfl rfl ?a1 ?aO ?aB ?aS ?aL ?_); (case a1 => intro u hu; rw [List.mem_singleton] at hu; subst hu; rfl); (case aO => repeat (first | exact HP.out.1 | (with_reducible refine own_drewN ?_ _))); (case aB => repeat (first | exact HP.out.2 | (with_reducible refine pw_below_drewN ?_ _))); (case aS => refine Below.size (B := w.heap.size) (w := w) ?_; repeat (first | exact HP.out.2 | (with_reducible refine pw_below_drewN ?_ _))); (case aL => have := HZ.out.2; omega); intro v1 w4 ho hb hg hat; obtain ⟨gb, cp, rfl⟩ := pk_form ho (by omega); have HQ := Aside0.mk (And.intro ho hb); clear ho hb hg hat))
                go_roundg kq
                case measure => omega
                case rel => exact ⟨some ad, 0, [], some bd, 0, [], _, zs, (by first | rfl | simp), (by first | rfl | simp), rfl, ⟨by have := HM.out; simp only [List.length_cons, List.length_nil] at this ⊢; omega⟩, ⟨(sl_nil _ _), (sl_nil _ _)⟩, ⟨HZ1.out, by have h_ := HZ.out.2; (try simp only [List.length_cons, List.length_append, List.length_nil] at h_ ⊢); omega⟩, ⟨by repeat (first | exact HP.out | (with_reducible refine pk_drewN ?_ _))⟩⟩
              · have hd2 : (d = 1) = False := eq_false hd1
                have HZ1 : Aside0 ((zs) ++ pick r_without kq ([]) (ys) = Z) := ⟨by have h_ := HZ.out.1; simp only [pick, show r_without true true = false from rfl, if_neg h0, if_neg h1, if_true, if_false, Bool.false_eq_true, List.nil_append] at h_; simpa using h_⟩
                go_wp2
                go_quiet (fail)
                try go_wp2
                go_quiet (fail)
                try go_wp2
                go_quiet (fail)
                go_wp2_with (first | (go_at_call 62; (refine (r_without_calls true true _).mono ?_); rintro e w3 ⟨rfl, rfl⟩) | (at_builtin; (refine print_append_cells (w0 := w) w.heap.size rfl (.tmp 69) (.tmp 71) 31 3 (.int .i64 0) 1 8 rfl Try.underlying31 info3' rfl (by decide) (by decide) v zs.length (zs.map (Value.int .i64)) [.int .i64 (y)] rfl rfl rfl ?a1 ?aO ?aB ?aS ?aL ?_); (case a1 => intro u hu; rw [List.mem_singleton] at hu; subst hu; rfl); (case aO => repeat (first | exact HP.out.1 | (with_reducible refine own_drewN ?_ _))); (case aB => repeat (first | exact HP.out.2 | (with_reducible refine pw_below_drewN ?_ _))); (case aS => refine Below.size (B := w.heap.size) (w := w) ?_; repeat (first | exact HP.out.2 | (with_reducible refine pw_below_drewN ?_ _))); (case aL => have := HZ.out.2; omega); intro v1 w4 ho hb hg hat; obtain ⟨gb, cp, rfl⟩ := pk_form ho (by omega); have HQ := Aside0.mk (And.intro ho hb); clear ho hb hg hat))
                go_quiet (fail)
                go_wp2_with (first | (go_at_call 62; (refine (r_without_calls true true _).mono ?_); rintro e w3 ⟨rfl, rfl⟩) | (at_builtin; (refine print_append_cells (w0 := w) w.heap.size rfl (.tmp 69) (.tmp 71) 31 3 (.int .i64 0) 1 8 rfl Try.underlying31 info3' rfl (by decide) (by decide) v zs.length (zs.map (Value.int .i64)) [.int .i64 (y)] rfl rfl rfl ?a1 ?aO ?aB ?aS ?aL ?_); (case a1 => intro u hu; rw [List.mem_singleton] at hu; subst hu; rfl); (case aO => repeat (first | exact HP.out.1 | (with_reducible refine own_drewN ?_ _))); (case aB => repeat (first | exact HP.out.2 | (with_reducible refine pw_below_drewN ?_ _))); (case aS => refine Below.size (B := w.heap.size) (w := w) ?_; repeat (first | exact HP.out.2 | (with_reducible refine pw_below_drewN ?_ _))); (case aL => have := HZ.out.2; omega); intro v1 w4 ho hb hg hat; obtain ⟨gb, cp, rfl⟩ := pk_form ho (by omega); have HQ := Aside0.mk (And.intro ho hb); clear ho hb hg hat))
                go_roundg kq
                case measure => omega
                case rel => exact ⟨some ad, 0, [], some (bd.add 1), d - 1, ys, _, zs, (by first | rfl | simp), (by first | rfl | simp), rfl, ⟨by have := HM.out; simp only [List.length_cons, List.length_nil] at this ⊢; omega⟩, ⟨(sl_nil _ _), (sl_tail HS0.out.2)⟩, ⟨HZ1.out, by have h_ := HZ.out.2; (try simp only [List.length_cons, List.length_append, List.length_nil] at h_ ⊢); omega⟩, ⟨by repeat (first | exact HP.out | (with_reducible refine pk_drewN ?_ _))⟩⟩
            · have hc2 : (c = 1) = False := eq_false hc1
              by_cases hd1 : d = 1
              · subst hd1
                obtain rfl : ys = [] := List.eq_nil_of_length_eq_zero (by omega)
                have HZ1 : Aside0 ((zs) ++ pick r_without kq (xs) ([]) = Z) := ⟨by have h_ := HZ.out.1; simp only [pick, show r_without true true = false from rfl, if_neg h0, if_neg h1, if_true, if_false, Bool.false_eq_true, List.nil_append] at h_; simpa using h_⟩
                go_wp2
                go_quiet (fail)
                try go_wp2
                go_quiet (fail)
                try go_wp2
                go_quiet (fail)
                go_wp2_with (first | (go_at_call 62; (refine (r_without_calls true true _).mono ?_); rintro e w3 ⟨rfl, rfl⟩) | (at_builtin; (refine print_append_cells (w0 := w) w.heap.size rfl (.tmp 69) (.tmp 71) 31 3 (.int .i64 0) 1 8 rfl Try.underlying31 info3' rfl (by decide) (by decide) v zs.length (zs.map (Value.int .i64)) [.int .i64 (y)] rfl rfl rfl ?a1 ?aO ?aB ?aS ?aL ?_); (case a1 => intro u hu; rw [List.mem_singleton] at hu; subst hu; rfl); (case aO => repeat (first | exact HP.out.1 | (with_reducible refine own_drewN ?_ _))); (case aB => repeat (first | exact HP.out.2 | (with_reducible refine pw_below_drewN ?_ _))); (case aS => refine Below.size (B := w.heap.size) (w := w) ?_; repeat (first | exact HP.out.2 | (with_reducible refine pw_below_drewN ?_ _))); (case aL => have := HZ.out.2; omega); intro v1 w4 ho hb hg hat; obtain ⟨gb, cp, rfl⟩ := pk_form ho (by omega); have HQ := Aside0.mk (And.intro ho hb); clear ho hb hg hat))
                go_quiet (fail)
                go_wp2_with (first | (go_at_call 62; (refine (r_without_calls true true _).mono ?_); rintro e w3 ⟨rfl, rfl⟩) | (at_builtin; (refine print_append_cells (w0 := w) w.heap.size rfl (.tmp 69) (.tmp 71) 31 3 (.int .i64 0) 1 8 rfl Try.underlying31 info3' rfl (by decide) (by decide) v zs.length (zs.map (Value.int .i64)) [.int .i64 (y)] rfl rfl rfl ?a1 ?aO ?aB ?aS ?aL ?_); (case a1 => intro u hu; rw [List.mem_singleton] at hu; subst hu; rfl); (case aO => repeat (first | exact HP.out.1 | (with_reducible refine own_drewN ?_ _))); (case aB => repeat (first | exact HP.out.2 | (with_reducible refine pw_below_drewN ?_ _))); (case aS => refine Below.size (B := w.heap.size) (w := w) ?_; repeat (first | exact HP.out.2 | (with_reducible refine pw_below_drewN ?_ _))); (case aL => have := HZ.out.2; omega); intro v1 w4 ho hb hg hat; obtain ⟨gb, cp, rfl⟩ := pk_form ho (by omega); have HQ := Aside0.mk (And.intro ho hb); clear ho hb hg hat))
                go_roundg kq
                case measure => omega
                case rel => exact ⟨some (ad.add 1), c - 1, xs, some bd, 0, [], _, zs, (by first | rfl | simp), (by first | rfl | simp), rfl, ⟨by have := HM.out; simp only [List.length_cons, List.length_nil] at this ⊢; omega⟩, ⟨(sl_tail HS0.out.1), (sl_nil _ _)⟩, ⟨HZ1.out, by have h_ := HZ.out.2; (try simp only [List.length_cons, List.length_append, List.length_nil] at h_ ⊢); omega⟩, ⟨by repeat (first | exact HP.out | (with_reducible refine pk_drewN ?_ _))⟩⟩
              · have hd2 : (d = 1) = False := eq_false hd1
                have HZ1 : Aside0 ((zs) ++ pick r_without kq (xs) (ys) = Z) := ⟨by have h_ := HZ.out.1; simp only [pick, show r_without true true = false from rfl, if_neg h0, if_neg h1, if_true, if_false, Bool.false_eq_true, List.nil_append] at h_; simpa using h_⟩
                go_wp2
                go_quiet (fail)
                try go_wp2
                go_quiet (fail)
                try go_wp2
                go_quiet (fail)
                go_wp2_with (first | (go_at_call 62; (refine (r_without_calls true true _).mono ?_); rintro e w3 ⟨rfl, rfl⟩) | (at_builtin; (refine print_append_cells (w0 := w) w.heap.size rfl (.tmp 69) (.tmp 71) 31 3 (.int .i64 0) 1 8 rfl Try.underlying31 info3' rfl (by decide) (by decide) v zs.length (zs.map (Value.int .i64)) [.int .i64 (y)] rfl rfl rfl ?a1 ?aO ?aB ?aS ?aL ?_); (case a1 => intro u hu; rw [List.mem_singleton] at hu; subst hu; rfl); (case aO => repeat (first | exact HP.out.1 | (with_reducible refine own_drewN ?_ _))); (case aB => repeat (first | exact HP.out.2 | (with_reducible refine pw_below_drewN ?_ _))); (case aS => refine Below.size (B := w.heap.size) (w := w) ?_; repeat (first | exact HP.out.2 | (with_reducible refine pw_below_drewN ?_ _))); (case aL => have := HZ.out.2; omega); intro v1 w4 ho hb hg hat; obtain ⟨gb, cp, rfl⟩ := pk_form ho (by omega); have HQ := Aside0.mk (And.intro ho hb); clear ho hb hg hat))
                go_quiet (fail)
                go_wp2_with (first | (go_at_call 62; (refine (r_without_calls true true _).mono ?_); rintro e w3 ⟨rfl, rfl⟩) | (at_builtin; (refine print_append_cells (w0 := w) w.heap.size rfl (.tmp 69) (.tmp 71) 31 3 (.int .i64 0) 1 8 rfl Try.underlying31 info3' rfl (by decide) (by decide) v zs.length (zs.map (Value.int .i64)) [.int .i64 (y)] rfl rfl rfl ?a1 ?aO ?aB ?aS ?aL ?_); (case a1 => intro u hu; rw [List.mem_singleton] at hu; subst hu; rfl); (case aO => repeat (first | exact HP.out.1 | (with_reducible refine own_drewN ?_ _))); (case aB => repeat (first | exact HP.out.2 | (with_reducible refine pw_below_drewN ?_ _))); (case aS => refine Below.size (B := w.heap.size) (w := w) ?_; repeat (first | exact HP.out.2 | (with_reducible refine pw_below_drewN ?_ _))); (case aL => have := HZ.out.2; omega); intro v1 w4 ho hb hg hat; obtain ⟨gb, cp, rfl⟩ := pk_form ho (by omega); have HQ := Aside0.mk (And.intro ho hb); clear ho hb hg hat))
                go_roundg kq
                case measure => omega
                case rel => exact ⟨some (ad.add 1), c - 1, xs, some (bd.add 1), d - 1, ys, _, zs, (by first | rfl | simp), (by first | rfl | simp), rfl, ⟨by have := HM.out; simp only [List.length_cons, List.length_nil] at this ⊢; omega⟩, ⟨(sl_tail HS0.out.1), (sl_tail HS0.out.2)⟩, ⟨HZ1.out, by have h_ := HZ.out.2; (try simp only [List.length_cons, List.length_append, List.length_nil] at h_ ⊢); omega⟩, ⟨by repeat (first | exact HP.out | (with_reducible refine pk_drewN ?_ _))⟩⟩
end Go.Proofs.Ytgfbgfbnmiainaa.Fam
