import Derived.Test.YtgfbgfbnmiainaaBFamilyKeepsp0
import Derived.Test.YtgfbgfbnmiainaaQ68
import Derived.Test.YtgfbgfbnmiainaaQ70
import Derived.Test.YtgfbgfbnmiainaaQ66
import Derived.Test.YtgfbgfbnmiainaaQ6
import Derived.Deep.RegionHeld3
import Derived.Deep.OwnRows
import Derived.Test.YtgfbgfbnmiainaaQ45
import Derived.Test.YtgfbgfbnmiainaaQ43
import Derived.Test.YtgfbgfbnmiainaaQ3
import Derived.Test.YtgfbgfbnmiainaaQ4
import Derived.Test.YtgfbgfbnmiainaaQ0
import Derived.Test.YtgfbgfbnmiainaaQ23
import Derived.Test.YtgfbgfbnmiainaaQ24
/-! picked, at one of its rules. (Written by fam_pick.py.) -/
namespace Go.Proofs.Ytgfbgfbnmiainaa.Fam
set_option linter.unusedVariables false
set_option linter.unusedSimpArgs false
open Go.RowKit Go.Proofs.YtgfbgfbnmiainaaW.PrintWords Go.Proofs.YtgfbgfbnmiainaaW.PrintLast Go.Proofs.YtgfbgfbnmiainaaW.PrintMore Go.Proofs.Ytgfbgfbnmiainaa.Q
attribute [local go_sem] Go.Proofs.YtgfbgfbnmiainaaW.OwnWords.isSome_setCell max2_int min2_int
def r_without (a b : Bool) : Bool := a && !b
theorem r_without_calls (a b : Bool) (w : World) : Calls Try.prog 62 #[.bool a, .bool b] w fun e w' => e = .returned (.bool (r_without a b)) ∧ w' = w := by
  cases a <;> cases b
  all_goals
    go_enter Try.func62, Try.ntmps62
    go_wp2
    go_ret
    exact ⟨rfl, rfl⟩
set_option maxHeartbeats 8000000 in
set_option maxRecDepth 100000 in
theorem pick_without (A : Option Addr) (c : Nat) (xs : List Int) (B : Option Addr) (d : Nat) (ys : List Int) (hl : xs.length + ys.length ≤ 1000000) (Z : List Int) (hZ : pick r_without (xs.length + ys.length) xs ys = Z) (w : World) (hx : Sl w A c xs) (hy : Sl w B d ys) :
    Calls Try.prog 64 #[.slice A xs.length c, .slice B ys.length d, .func (.func 62) #[] #[]] w (PickEnd w Z) := by
  have HX0 := Aside0.mk (And.intro hx hy)
  have HL0 := Aside0.mk hl
  have HZ0 := Aside0.mk hZ
  clear hx hy hl hZ
  go_enter Try.func64, Try.ntmps64
  go_upto_region 2 with fail
  go_loopg [0, 1, 7] (xs.length + ys.length) (fun kq v0 v1 v7 w' => ∃ (A : Option Addr) (c : Nat) (xs : List Int) (B : Option Addr) (d : Nat) (ys : List Int) (v : Value) (zs : List Int), v0 = .slice A xs.length c ∧ v1 = .slice B ys.length d ∧ v = v7 ∧ Aside0 (xs.length + ys.length ≤ kq) ∧ Aside0 (Sl w A c xs ∧ Sl w B d ys) ∧ Aside0 (zs ++ pick r_without kq xs ys = Z ∧ zs.length + (xs.length + ys.length) ≤ 1000000) ∧ Aside0 (Pk w w' v zs))
  case atStart => exact ⟨A, c, xs, B, d, ys, .slice none 0 0, [], rfl, rfl, rfl, ⟨Nat.le_refl _⟩, HX0, ⟨by rw [List.nil_append]; exact HZ0.out, by have := HL0.out; simpa using this⟩, ⟨⟨by simp, .inl ⟨rfl, rfl⟩⟩, Below.refl _ _⟩⟩
  case round =>
    clear HX0 HL0 HZ0
    obtain ⟨A, c, xs, B, d, ys, v, zs, rfl, rfl, rfl, HM, HS0, HZ, HP⟩ := hrel
    have HS := Aside0.mk (And.intro (sl_below HS0.out.1 HP.out.2) (sl_below HS0.out.2 HP.out.2))
    cases xs with
    | nil =>
      cases ys with
      | nil =>
        have hz := HZ.out.1
        rw [pick_nil, List.append_nil] at hz
        subst hz
        go_wp2
        go_ret
        exact ⟨_, rfl, HP.out⟩
      | cons y ys =>
        obtain ⟨kq, rfl⟩ : ∃ m, gk = m + 1 := ⟨gk - 1, by have h_ := HM.out; simp only [List.length_cons, List.length_nil] at h_; omega⟩
        obtain ⟨bd, rfl, hy0, hy1, hyc⟩ := sl_head HS.out.2
        have b1 : decide ((0 : Int) < (ys.length : Int) + 1) = true := decide_eq_true (by omega)
        have b2 : ((ys.length : Int) + 1 == 0) = false := beq_false_of_ne (by omega)
        by_cases hd1 : d = 1
        · subst hd1
          obtain rfl : ys = [] := List.eq_nil_of_length_eq_zero (by omega)
          have HZ1 : Aside0 ((zs) ++ pick r_without kq ([]) ([]) = Z) := ⟨by have h_ := HZ.out.1; simp only [pick, show r_without false true = false from rfl, if_true, if_false, Bool.false_eq_true, List.nil_append] at h_; simpa using h_⟩
          go_wp2
          go_quiet (fail)
          try go_wp2
          go_quiet (fail)
          try go_wp2
          go_quiet (fail)
          go_wp2_with (first | (go_at_call 62; (refine (r_without_calls false true _).mono ?_); rintro e w3 ⟨rfl, rfl⟩) | (at_builtin; (refine print_append_cells (w0 := w) w.heap.size rfl (.tmp 69) (.tmp 71) 31 3 (.int .i64 0) 1 8 rfl Try.underlying31 info3' rfl (by decide) (by decide) v zs.length (zs.map (Value.int .i64)) [.int .i64 (y)] rfl rfl rfl ?a1 ?aO ?aB ?aS ?aL ?_); (case a1 => intro u hu; rw [List.mem_singleton] at hu; subst hu; rfl); (case aO => repeat (first | exact HP.out.1 | (with_reducible refine own_drewN ?_ _))); (case aB => repeat (first | exact HP.out.2 | (with_reducible refine pw_below_drewN ?_ _))); (case aS => refine Below.size (B := w.heap.size) (w := w) ?_; repeat (first | exact HP.out.2 | (with_reducible refine pw_below_drewN ?_ _))); (case aL => have := HZ.out.2; omega); intro v1 w4 ho hb hg hat; obtain ⟨gb, cp, rfl⟩ := pk_form ho (by omega); have HQ := Aside0.mk (And.intro ho hb); clear ho hb hg hat))
          go_roundg kq
          case measure => omega
          case rel => exact ⟨A, c, [], some bd, 0, [], _, zs, (by first | rfl | simp), (by first | rfl | simp), rfl, ⟨by have := HM.out; simp only [List.length_cons, List.length_nil] at this ⊢; omega⟩, ⟨(HS0.out.1), (sl_nil _ _)⟩, ⟨HZ1.out, by have h_ := HZ.out.2; (try simp only [List.length_cons, List.length_append, List.length_nil] at h_ ⊢); omega⟩, ⟨by repeat (first | exact HP.out | (with_reducible refine pk_drewN ?_ _))⟩⟩
        · have hd2 : (d = 1) = False := eq_false hd1
          have HZ1 : Aside0 ((zs) ++ pick r_without kq ([]) (ys) = Z) := ⟨by have h_ := HZ.out.1; simp only [pick, show r_without false true = false from rfl, if_true, if_false, Bool.false_eq_true, List.nil_append] at h_; simpa using h_⟩
          go_wp2
          go_quiet (fail)
          try go_wp2
          go_quiet (fail)
          try go_wp2
          go_quiet (fail)
          go_wp2_with (first | (go_at_call 62; (refine (r_without_calls false true _).mono ?_); rintro e w3 ⟨rfl, rfl⟩) | (at_builtin; (refine print_append_cells (w0 := w) w.heap.size rfl (.tmp 69) (.tmp 71) 31 3 (.int .i64 0) 1 8 rfl Try.underlying31 info3' rfl (by decide) (by decide) v zs.length (zs.map (Value.int .i64)) [.int .i64 (y)] rfl rfl rfl ?a1 ?aO ?aB ?aS ?aL ?_); (case a1 => intro u hu; rw [List.mem_singleton] at hu; subst hu; rfl); (case aO => repeat (first | exact HP.out.1 | (with_reducible refine own_drewN ?_ _))); (case aB => repeat (first | exact HP.out.2 | (with_reducible refine pw_below_drewN ?_ _))); (case aS => refine Below.size (B := w.heap.size) (w := w) ?_; repeat (first | exact HP.out.2 | (with_reducible refine pw_below_drewN ?_ _))); (case aL => have := HZ.out.2; omega); intro v1 w4 ho hb hg hat; obtain ⟨gb, cp, rfl⟩ := pk_form ho (by omega); have HQ := Aside0.mk (And.intro ho hb); clear ho hb hg hat))
          go_roundg kq
          case measure => omega
          case rel => exact ⟨A, c, [], some (bd.add 1), d - 1, ys, _, zs, (by first | rfl | simp), (by first | rfl | simp), rfl, ⟨by have := HM.out; simp only [List.length_cons, List.length_nil] at this ⊢; omega⟩, ⟨(HS0.out.1), (sl_tail HS0.out.2)⟩, ⟨HZ1.out, by have h_ := HZ.out.2; (try simp only [List.length_cons, List.length_append, List.length_nil] at h_ ⊢); omega⟩, ⟨by repeat (first | exact HP.out | (with_reducible refine pk_drewN ?_ _))⟩⟩
    | cons x xs =>
      obtain ⟨kq, rfl⟩ : ∃ m, gk = m + 1 := ⟨gk - 1, by have h_ := HM.out; simp only [List.length_cons, List.length_nil] at h_; omega⟩
      cases ys with
      | nil =>
        obtain ⟨ad, rfl, hx0, hx1, hxc⟩ := sl_head HS.out.1
        have a1 : decide ((0 : Int) < (xs.length : Int) + 1) = true := decide_eq_true (by omega)
        have a2 : ((xs.length : Int) + 1 == 0) = false := beq_false_of_ne (by omega)
        by_cases hc1 : c = 1
        · subst hc1
          obtain rfl : xs = [] := List.eq_nil_of_length_eq_zero (by omega)
          have HZ1 : Aside0 ((zs ++ [x]) ++ pick r_without kq ([]) ([]) = Z) := ⟨by have h_ := HZ.out.1; simp only [pick, show r_without true false = true from rfl, if_true, if_false, Bool.false_eq_true, List.nil_append] at h_; simpa using h_⟩
          go_wp2
          go_quiet (fail)
          try go_wp2
          go_quiet (fail)
          try go_wp2
          go_quiet (fail)
          go_wp2_with (first | (go_at_call 62; (refine (r_without_calls true false _).mono ?_); rintro e w3 ⟨rfl, rfl⟩) | (at_builtin; (refine print_append_cells (w0 := w) w.heap.size rfl (.tmp 69) (.tmp 71) 31 3 (.int .i64 0) 1 8 rfl Try.underlying31 info3' rfl (by decide) (by decide) v zs.length (zs.map (Value.int .i64)) [.int .i64 (x)] rfl rfl rfl ?a1 ?aO ?aB ?aS ?aL ?_); (case a1 => intro u hu; rw [List.mem_singleton] at hu; subst hu; rfl); (case aO => repeat (first | exact HP.out.1 | (with_reducible refine own_drewN ?_ _))); (case aB => repeat (first | exact HP.out.2 | (with_reducible refine pw_below_drewN ?_ _))); (case aS => refine Below.size (B := w.heap.size) (w := w) ?_; repeat (first | exact HP.out.2 | (with_reducible refine pw_below_drewN ?_ _))); (case aL => have := HZ.out.2; omega); intro v1 w4 ho hb hg hat; obtain ⟨gb, cp, rfl⟩ := pk_form ho (by omega); have HQ := Aside0.mk (And.intro ho hb); clear ho hb hg hat))
          go_roundg kq
          case measure => omega
          case rel => exact ⟨some ad, 0, [], B, d, [], _, zs ++ [x], (by first | rfl | simp), (by first | rfl | simp), rfl, ⟨by have := HM.out; simp only [List.length_cons, List.length_nil] at this ⊢; omega⟩, ⟨(sl_nil _ _), (HS0.out.2)⟩, ⟨HZ1.out, by have h_ := HZ.out.2; (try simp only [List.length_cons, List.length_append, List.length_nil] at h_ ⊢); omega⟩, ⟨by simpa using HQ.out.1, HQ.out.2⟩⟩
        · have hc2 : (c = 1) = False := eq_false hc1
          have HZ1 : Aside0 ((zs ++ [x]) ++ pick r_without kq (xs) ([]) = Z) := ⟨by have h_ := HZ.out.1; simp only [pick, show r_without true false = true from rfl, if_true, if_false, Bool.false_eq_true, List.nil_append] at h_; simpa using h_⟩
          go_wp2
          go_quiet (fail)
          try go_wp2
          go_quiet (fail)
          try go_wp2
          go_quiet (fail)
          go_wp2_with (first | (go_at_call 62; (refine (r_without_calls true false _).mono ?_); rintro e w3 ⟨rfl, rfl⟩) | (at_builtin; (refine print_append_cells (w0 := w) w.heap.size rfl (.tmp 69) (.tmp 71) 31 3 (.int .i64 0) 1 8 rfl Try.underlying31 info3' rfl (by decide) (by decide) v zs.length (zs.map (Value.int .i64)) [.int .i64 (x)] rfl rfl rfl ?a1 ?aO ?aB ?aS ?aL ?_); (case a1 => intro u hu; rw [List.mem_singleton] at hu; subst hu; rfl); (case aO => repeat (first | exact HP.out.1 | (with_reducible refine own_drewN ?_ _))); (case aB => repeat (first | exact HP.out.2 | (with_reducible refine pw_below_drewN ?_ _))); (case aS => refine Below.size (B := w.heap.size) (w := w) ?_; repeat (first | exact HP.out.2 | (with_reducible refine pw_below_drewN ?_ _))); (case aL => have := HZ.out.2; omega); intro v1 w4 ho hb hg hat; obtain ⟨gb, cp, rfl⟩ := pk_form ho (by omega); have HQ := Aside0.mk (And.intro ho hb); clear ho hb hg hat))
          go_roundg kq
          case measure => omega
          case rel => exact ⟨some (ad.add 1), c - 1, xs, B, d, [], _, zs ++ [x], (by first | rfl | simp), (by first | rfl | simp), rfl, ⟨by have := HM.out; simp only [List.length_cons, List.length_nil] at this ⊢; omega⟩, ⟨(sl_tail HS0.out.1), (HS0.out.2)⟩, ⟨HZ1.out, by have h_ := HZ.out.2; (try simp only [List.length_cons, List.length_append, List.length_nil] at h_ ⊢); omega⟩, ⟨by simpa using HQ.out.1, HQ.out.2⟩⟩
      | cons y ys =>
        by_cases h0 : x < y
        · skip
          obtain ⟨ad, rfl, hx0, hx1, hxc⟩ := sl_head HS.out.1
          have a1 : decide ((0 : Int) < (xs.length : Int) + 1) = true := decide_eq_true (by omega)
          have a2 : ((xs.length : Int) + 1 == 0) = false := beq_false_of_ne (by omega)
          obtain ⟨bd, rfl, hy0, hy1, hyc⟩ := sl_head HS.out.2
          have b1 : decide ((0 : Int) < (ys.length : Int) + 1) = true := decide_eq_true (by omega)
          have b2 : ((ys.length : Int) + 1 == 0) = false := beq_false_of_ne (by omega)
          have d1 : decide (x ≤ y) = true := decide_eq_true (by omega)
          have d2 : decide (y ≤ x) = false := decide_eq_false (by omega)
          by_cases hc1 : c = 1
          · subst hc1
            obtain rfl : xs = [] := List.eq_nil_of_length_eq_zero (by omega)
            have HZ1 : Aside0 ((zs ++ [x]) ++ pick r_without kq ([]) (y :: ys) = Z) := ⟨by have h_ := HZ.out.1; simp only [pick, show r_without true false = true from rfl, if_pos h0, if_true, if_false, Bool.false_eq_true, List.nil_append] at h_; simpa using h_⟩
            go_wp2
            go_quiet (fail)
            try go_wp2
            go_quiet (fail)
            try go_wp2
            go_quiet (fail)
            go_wp2_with (first | (go_at_call 62; (refine (r_without_calls true false _).mono ?_); rintro e w3 ⟨rfl, rfl⟩) | (at_builtin; (refine print_append_cells (w0 := w) w.heap.size rfl (.tmp 69) (.tmp 71) 31 3 (.int .i64 0) 1 8 rfl Try.underlying31 info3' rfl (by decide) (by decide) v zs.length (zs.map (Value.int .i64)) [.int .i64 (x)] rfl rfl rfl ?a1 ?aO ?aB ?aS ?aL ?_); (case a1 => intro u hu; rw [List.mem_singleton] at hu; subst hu; rfl); (case aO => repeat (first | exact HP.out.1 | (with_reducible refine own_drewN ?_ _))); (case aB => repeat (first | exact HP.out.2 | (with_reducible refine pw_below_drewN ?_ _))); (case aS => refine Below.size (B := w.heap.size) (w := w) ?_; repeat (first | exact HP.out.2 | (with_reducible refine pw_below_drewN ?_ _))); (case aL => have := HZ.out.2; omega); intro v1 w4 ho hb hg hat; obtain ⟨gb, cp, rfl⟩ := pk_form ho (by omega); have HQ := Aside0.mk (And.intro ho hb); clear ho hb hg hat))
            go_roundg kq
            case measure => omega
            case rel => exact ⟨some ad, 0, [], some bd, d, y :: ys, _, zs ++ [x], (by first | rfl | simp), (by first | rfl | simp), rfl, ⟨by have := HM.out; simp only [List.length_cons, List.length_nil] at this ⊢; omega⟩, ⟨(sl_nil _ _), (HS0.out.2)⟩, ⟨HZ1.out, by have h_ := HZ.out.2; (try simp only [List.length_cons, List.length_append, List.length_nil] at h_ ⊢); omega⟩, ⟨by simpa using HQ.out.1, HQ.out.2⟩⟩
          · have hc2 : (c = 1) = False := eq_false hc1
            have HZ1 : Aside0 ((zs ++ [x]) ++ pick r_without kq (xs) (y :: ys) = Z) := ⟨by have h_ := HZ.out.1; simp only [pick, show r_without true false = true from rfl, if_pos h0, if_true, if_false, Bool.false_eq_true, List.nil_append] at h_; simpa using h_⟩
            go_wp2
            go_quiet (fail)
            try go_wp2
            go_quiet (fail)
            try go_wp2
            go_quiet (fail)
            go_wp2_with (first | (go_at_call 62; (refine (r_without_calls true false _).mono ?_); rintro e w3 ⟨rfl, rfl⟩) | (at_builtin; (refine print_append_cells (w0 := w) w.heap.size rfl (.tmp 69) (.tmp 71) 31 3 (.int .i64 0) 1 8 rfl Try.underlying31 info3' rfl (by decide) (by decide) v zs.length (zs.map (Value.int .i64)) [.int .i64 (x)] rfl rfl rfl ?a1 ?aO ?aB ?aS ?aL ?_); (case a1 => intro u hu; rw [List.mem_singleton] at hu; subst hu; rfl); (case aO => repeat (first | exact HP.out.1 | (with_reducible refine own_drewN ?_ _))); (case aB => repeat (first | exact HP.out.2 | (with_reducible refine pw_below_drewN ?_ _))); (case aS => refine Below.size (B := w.heap.size) (w := w) ?_; repeat (first | exact HP.out.2 | (with_reducible refine pw_below_drewN ?_ _))); (case aL => have := HZ.out.2; omega); intro v1 w4 ho hb hg hat; obtain ⟨gb, cp, rfl⟩ := pk_form ho (by omega); have HQ := Aside0.mk (And.intro ho hb); clear ho hb hg hat))
            go_roundg kq
            case measure => omega
            case rel => exact ⟨some (ad.add 1), c - 1, xs, some bd, d, y :: ys, _, zs ++ [x], (by first | rfl | simp), (by first | rfl | simp), rfl, ⟨by have := HM.out; simp only [List.length_cons, List.length_nil] at this ⊢; omega⟩, ⟨(sl_tail HS0.out.1), (HS0.out.2)⟩, ⟨HZ1.out, by have h_ := HZ.out.2; (try simp only [List.length_cons, List.length_append, List.length_nil] at h_ ⊢); omega⟩, ⟨by simpa using HQ.out.1, HQ.out.2⟩⟩
        · by_cases h1 : y < x
          · skip
            obtain ⟨ad, rfl, hx0, hx1, hxc⟩ := sl_head HS.out.1
            have a1 : decide ((0 : Int) < (xs.length : Int) + 1) = true := decide_eq_true (by omega)
            have a2 : ((xs.length : Int) + 1 == 0) = false := beq_false_of_ne (by omega)
            obtain ⟨bd, rfl, hy0, hy1, hyc⟩ := sl_head HS.out.2
            have b1 : decide ((0 : Int) < (ys.length : Int) + 1) = true := decide_eq_true (by omega)
            have b2 : ((ys.length : Int) + 1 == 0) = false := beq_false_of_ne (by omega)
            have d1 : decide (x ≤ y) = false := decide_eq_false (by omega)
            have d2 : decide (y ≤ x) = true := decide_eq_true (by omega)
            by_cases hd1 : d = 1
            · subst hd1
              obtain rfl : ys = [] := List.eq_nil_of_length_eq_zero (by omega)
              have HZ1 : Aside0 ((zs) ++ pick r_without kq (x :: xs) ([]) = Z) := ⟨by have h_ := HZ.out.1; simp only [pick, show r_without false true = false from rfl, if_neg h0, if_pos h1, if_true, if_false, Bool.false_eq_true, List.nil_append] at h_; simpa using h_⟩
              go_wp2
              go_quiet (fail)
              try go_wp2
              go_quiet (fail)
              try go_wp2
              go_quiet (fail)
              go_wp2_with (first | (go_at_call 62; (refine (r_without_calls false true _).mono ?_); rintro e w3 ⟨rfl, rfl⟩) | (at_builtin; (refine print_append_cells (w0 := w) w.heap.size rfl (.tmp 69) (.tmp 71) 31 3 (.int .i64 0) 1 8 rfl Try.underlying31 info3' rfl (by decide) (by decide) v zs.length (zs.map (Value.int .i64)) [.int .i64 (y)] rfl rfl rfl ?a1 ?aO ?aB ?aS ?aL ?_); (case a1 => intro u hu; rw [List.mem_singleton] at hu; subst hu; rfl); (case aO => repeat (first | exact HP.out.1 | (with_reducible refine own_drewN ?_ _))); (case aB => repeat (first | exact HP.out.2 | (with_reducible refine pw_below_drewN ?_ _))); (case aS => refine Below.size (B := w.heap.size) (w := w) ?_; repeat (first | exact HP.out.2 | (with_reducible refine pw_below_drewN ?_ _))); (case aL => have := HZ.out.2; omega); intro v1 w4 ho hb hg hat; obtain ⟨gb, cp, rfl⟩ := pk_form ho (by omega); have HQ := Aside0.mk (And.intro ho hb); clear ho hb hg hat))
              go_roundg kq
              case measure => omega
              case rel => exact ⟨some ad, c, x :: xs, some bd, 0, [], _, zs, (by first | rfl | simp), (by first | rfl | simp), rfl, ⟨by have := HM.out; simp only [List.length_cons, List.length_nil] at this ⊢; omega⟩, ⟨(HS0.out.1), (sl_nil _ _)⟩, ⟨HZ1.out, by have h_ := HZ.out.2; (try simp only [List.length_cons, List.length_append, List.length_nil] at h_ ⊢); omega⟩, ⟨by repeat (first | exact HP.out | (with_reducible refine pk_drewN ?_ _))⟩⟩
            · have hd2 : (d = 1) = False := eq_false hd1
              have HZ1 : Aside0 ((zs) ++ pick r_without kq (x :: xs) (ys) = Z) := ⟨by have h_ := HZ.out.1; simp only [pick, show r_without false true = false from rfl, if_neg h0, if_pos h1, if_true, if_false, Bool.false_eq_true, List.nil_append] at h_; simpa using h_⟩
              go_wp2
              go_quiet (fail)
              try go_wp2
              go_quiet (fail)
              try go_wp2
              go_quiet (fail)
              go_wp2_with (first | (go_at_call 62; (refine (r_without_calls false true _).mono ?_); rintro e w3 ⟨rfl, rfl⟩) | (at_builtin; (refine print_append_cells (w0 := w) w.heap.size rfl (.tmp 69) (.tmp 71) 31 3 (.int .i64 0) 1 8 rfl Try.underlying31 info3' rfl (by decide) (by decide) v zs.length (zs.map (Value.int .i64)) [.int .i64 (y)] rfl rfl rfl ?a1 ?aO ?aB ?aS ?aL ?_); (case a1 => intro u hu; rw [List.mem_singleton] at hu; subst hu; rfl); (case aO => repeat (first | exact HP.out.1 | (with_reducible refine own_drewN ?_ _))); (case aB => repeat (first | exact HP.out.2 | (with_reducible refine pw_below_drewN ?_ _))); (case aS => refine Below.size (B := w.heap.size) (w := w) ?_; repeat (first | exact HP.out.2 | (with_reducible refine pw_below_drewN ?_ _))); (case aL => have := HZ.out.2; omega); intro v1 w4 ho hb hg hat; obtain ⟨gb, cp, rfl⟩ := pk_form ho (by omega); have HQ := Aside0.mk (And.intro ho hb); clear ho hb hg hat))
              go_roundg kq
              case measure => omega
              case rel => exact ⟨some ad, c, x :: xs, some (bd.add 1), d - 1, ys, _, zs, (by first | rfl | simp), (by first | rfl | simp), rfl, ⟨by have := HM.out; simp only [List.length_cons, List.length_nil] at this ⊢; omega⟩, ⟨(HS0.out.1), (sl_tail HS0.out.2)⟩, ⟨HZ1.out, by have h_ := HZ.out.2; (try simp only [List.length_cons, List.length_append, List.length_nil] at h_ ⊢); omega⟩, ⟨by repeat (first | exact HP.out | (with_reducible refine pk_drewN ?_ _))⟩⟩
          · skip
            obtain ⟨ad, rfl, hx0, hx1, hxc⟩ := sl_head HS.out.1
            have a1 : decide ((0 : Int) < (xs.length : Int) + 1) = true := decide_eq_true (by omega)
            have a2 : ((xs.length : Int) + 1 == 0) = false := beq_false_of_ne (by omega)
            obtain ⟨bd, rfl, hy0, hy1, hyc⟩ := sl_head HS.out.2
            have b1 : decide ((0 : Int) < (ys.length : Int) + 1) = true := decide_eq_true (by omega)
            have b2 : ((ys.length : Int) + 1 == 0) = false := beq_false_of_ne (by omega)
            have d1 : decide (x ≤ y) = true := decide_eq_true (by omega)
            have d2 : decide (y ≤ x) = true := decide_eq_true (by omega)
            by_cases hc1 : c = 1
            · subst hc1
              obtain rfl : xs = [] := List.eq_nil_of_length_eq_zero (by omega)
              by_cases hd1 : d = 1
              · subst hd1
                obtain rfl : ys = [] := List.eq_nil_of_length_eq_zero (by omega)
                have HZ1 : Aside0 ((zs) ++ pick r_without kq ([]) ([]) = Z) := ⟨by have h_ := HZ.out.1; simp only [pick, show r_without true true = false from rfl, if_neg h0, if_neg h1, if_true, if_false, Bool.false_eq_true, List.nil_append] at h_; simpa using h_⟩
                go_wp2
                go_quiet (fail)
                try go_wp2
                go_quiet (fail)
                try go_wp2
                go_quiet (fail)
                go_wp2_with (first | (go_at_call 62; (refine (r_without_calls true true _).mono ?_); rintro e w3 ⟨rfl, rfl⟩) | (at_builtin; (refine print_append_cells (w0 := w) w.heap.size rfl (.tmp 69) (.tmp 71) 31 3 (.int .i64 0) 1 8 rfl Try.underlying31 info3' rfl (by decide) (by decide) v zs.length (zs.map (Value.int .i64)) [.int .i64 (y)] rfl rfl rfl ?a1 ?aO ?aB ?aS ?aL ?_); (case a1 => intro u hu; rw [List.mem_singleton] at hu; subst hu; rfl); (case aO => repeat (first | exact HP.out.1 | (with_reducible refine own_drewN ?_ _))); (case aB => repeat (first | exact HP.out.2 | (with_reducible refine pw_below_drewN ?_ _))); (case aS => refine Below.size (B := w.heap.size) (w := w) ?_; repeat (first | exact HP.out.2 | (with_reducible refine pw_below_drewN ?_ _))); (case aL => have := HZ.out.2; omega); intro v1 w4 ho hb hg hat; obtain ⟨gb, cp, rfl⟩ := pk_form ho (by omega); have HQ := Aside0.mk (And.intro ho hb); clear ho hb hg hat))
                go_quiet (fail)
                go_wp2_with (first | (go_at_call 62; (refine (r_without_calls true true _).mono ?_); rintro e w3 ⟨rfl, rfl⟩) | (at_builtin; (refine print_append_cells (w0 := w) w.heap.size rfl (.tmp 69) (.tmp 71) 31 3 (.int .i64 0) 1 8 rfl Try.underlying31 info3' rfl (by decide) (by decide) v zs.length (zs.map (Value.int .i64)) [.int .i64 (y)] rfl rfl rfl ?a1 ?aO ?aB ?aS ?aL ?_); (case a1 => intro u hu; rw [List.mem_singleton] at hu; subst hu; rfl); (case aO => repeat (first | exact HP.out.1 | (with_reducible refine own_drewN ?_ _))); (case aB => repeat (first | exact HP.out.2 | (with_reducible refine pw_below_drewN ?_ _))); (case aS => refine Below.size (B := w.heap.size) (w := w) ?_; repeat (first | exact HP.out.2 | (with_reducible refine pw_below_drewN ?_ _))); (case aL => have := HZ.out.2; omega); intro v1 w4 ho hb hg hat; obtain ⟨gb, cp, rfl⟩ := pk_form ho (by omega); have HQ := Aside0.mk (And.intro ho hb); clear ho hb hg hat))
                go_roundg kq
                case measure => omega
                case rel => exact ⟨some ad, 0, [], some bd, 0, [], _, zs, (by first | rfl | simp), (by first | rfl | simp), rfl, ⟨by have := HM.out; simp only [List.length_cons, List.length_nil] at this ⊢; omega⟩, ⟨(sl_nil _ _), (sl_nil _ _)⟩, ⟨HZ1.out, by have h_ := HZ.out.2; (try simp only [List.length_cons, List.length_append, List.length_nil] at h_ ⊢); omega⟩, ⟨by repeat (first | exact HP.out | (with_reducible refine pk_drewN ?_ _))⟩⟩
              · have hd2 : (d = 1) = False := eq_false hd1
                have HZ1 : Aside0 ((zs) ++ pick r_without kq ([]) (ys) = Z) := ⟨by have h_ := HZ.out.1; simp only [pick, show r_without true true = false from rfl, if_neg h0, if_neg h1, if_true, if_false, Bool.false_eq_true, List.nil_append] at h_; simpa using h_⟩
                go_wp2
                go_quiet (fail)
                try go_wp2
                go_quiet (fail)
                try go_wp2
                go_quiet (fail)
                go_wp2_with (first | (go_at_call 62; (refine (r_without_calls true true _).mono ?_); rintro e w3 ⟨rfl, rfl⟩) | (at_builtin; (refine print_append_cells (w0 := w) w.heap.size rfl (.tmp 69) (.tmp 71) 31 3 (.int .i64 0) 1 8 rfl Try.underlying31 info3' rfl (by decide) (by decide) v zs.length (zs.map (Value.int .i64)) [.int .i64 (y)] rfl rfl rfl ?a1 ?aO ?aB ?aS ?aL ?_); (case a1 => intro u hu; rw [List.mem_singleton] at hu; subst hu; rfl); (case aO => repeat (first | exact HP.out.1 | (with_reducible refine own_drewN ?_ _))); (case aB => repeat (first | exact HP.out.2 | (with_reducible refine pw_below_drewN ?_ _))); (case aS => refine Below.size (B := w.heap.size) (w := w) ?_; repeat (first | exact HP.out.2 | (with_reducible refine pw_below_drewN ?_ _))); (case aL => have := HZ.out.2; omega); intro v1 w4 ho hb hg hat; obtain ⟨gb, cp, rfl⟩ := pk_form ho (by omega); have HQ := Aside0.mk (And.intro ho hb); clear ho hb hg hat))
                go_quiet (fail)
                go_wp2_with (first | (go_at_call 62; (refine (r_without_calls true true _).mono ?_); rintro e w3 ⟨rfl, rfl⟩) | (at_builtin; (refine print_append_cells (w0 := w) w.heap.size rfl (.tmp 69) (.tmp 71) 31 3 (.int .i64 0) 1 8 rfl Try.underlying31 info3' rfl (by decide) (by decide) v zs.length (zs.map (Value.int .i64)) [.int .i64 (y)] rfl rfl rfl ?a1 ?aO ?aB ?aS ?aL ?_); (case a1 => intro u hu; rw [List.mem_singleton] at hu; subst hu; rfl); (case aO => repeat (first | exact HP.out.1 | (with_reducible refine own_drewN ?_ _))); (case aB => repeat (first | exact HP.out.2 | (with_reducible refine pw_below_drewN ?_ _))); (case aS => refine Below.size (B := w.heap.size) (w := w) ?_; repeat (first | exact HP.out.2 | (with_reducible refine pw_below_drewN ?_ _))); (case aL => have := HZ.out.2; omega); intro v1 w4 ho hb hg hat; obtain ⟨gb, cp, rfl⟩ := pk_form ho (by omega); have HQ := Aside0.mk (And.intro ho hb); clear ho hb hg hat))
                go_roundg kq
                case measure => omega
                case rel => exact ⟨some ad, 0, [], some (bd.add 1), d - 1, ys, _, zs, (by first | rfl | simp), (by first | rfl | simp), rfl, ⟨by have := HM.out; simp only [List.length_cons, List.length_nil] at this ⊢; omega⟩, ⟨(sl_nil _ _), (sl_tail HS0.out.2)⟩, ⟨HZ1.out, by have h_ := HZ.out.2; (try simp only [List.length_cons, List.length_append, List.length_nil] at h_ ⊢); omega⟩, ⟨by repeat (first | exact HP.out | (with_reducible refine pk_drewN ?_ _))⟩⟩
            · have hc2 : (c = 1) = False := eq_false hc1
              by_cases hd1 : d = 1
              · subst hd1
                obtain rfl : ys = [] := List.eq_nil_of_length_eq_zero (by omega)
                have HZ1 : Aside0 ((zs) ++ pick r_without kq (xs) ([]) = Z) := ⟨by have h_ := HZ.out.1; simp only [pick, show r_without true true = false from rfl, if_neg h0, if_neg h1, if_true, if_false, Bool.false_eq_true, List.nil_append] at h_; simpa using h_⟩
                go_wp2
                go_quiet (fail)
                try go_wp2
                go_quiet (fail)
                try go_wp2
                go_quiet (fail)
                go_wp2_with (first | (go_at_call 62; (refine (r_without_calls true true _).mono ?_); rintro e w3 ⟨rfl, rfl⟩) | (at_builtin; (refine print_append_cells (w0 := w) w.heap.size rfl (.tmp 69) (.tmp 71) 31 3 (.int .i64 0) 1 8 rfl Try.underlying31 info3' rfl (by decide) (by decide) v zs.length (zs.map (Value.int .i64)) [.int .i64 (y)] rfl rfl rfl ?a1 ?aO ?aB ?aS ?aL ?_); (case a1 => intro u hu; rw [List.mem_singleton] at hu; subst hu; rfl); (case aO => repeat (first | exact HP.out.1 | (with_reducible refine own_drewN ?_ _))); (case aB => repeat (first | exact HP.out.2 | (with_reducible refine pw_below_drewN ?_ _))); (case aS => refine Below.size (B := w.heap.size) (w := w) ?_; repeat (first | exact HP.out.2 | (with_reducible refine pw_below_drewN ?_ _))); (case aL => have := HZ.out.2; omega); intro v1 w4 ho hb hg hat; obtain ⟨gb, cp, rfl⟩ := pk_form ho (by omega); have HQ := Aside0.mk (And.intro ho hb); clear ho hb hg hat))
                go_quiet (fail)
                go_wp2_with (first | (go_at_call 62; (refine (r_without_calls true true _).mono ?_); rintro e w3 ⟨rfl, rfl⟩) | (at_builtin; (refine print_append_cells (w0 := w) w.heap.size rfl (.tmp 69) (.tmp 71) 31 3 (.int .i64 0) 1 8 rfl Try.underlying31 info3' rfl (by decide) (by decide) v zs.length (zs.map (Value.int .i64)) [.int .i64 (y)] rfl rfl rfl ?a1 ?aO ?aB ?aS ?aL ?_); (case a1 => intro u hu; rw [List.mem_singleton] at hu; subst hu; rfl); (case aO => repeat (first | exact HP.out.1 | (with_reducible refine own_drewN ?_ _))); (case aB => repeat (first | exact HP.out.2 | (with_reducible refine pw_below_drewN ?_ _))); (case aS => refine Below.size (B := w.heap.size) (w := w) ?_; repeat (first | exact HP.out.2 | (with_reducible refine pw_below_drewN ?_ _))); (case aL => have := HZ.out.2; omega); intro v1 w4 ho hb hg hat; obtain ⟨gb, cp, rfl⟩ := pk_form ho (by omega); have HQ := Aside0.mk (And.intro ho hb); clear ho hb hg hat))
                go_roundg kq
                case measure => omega
                case rel => exact ⟨some (ad.add 1), c - 1, xs, some bd, 0, [], _, zs, (by first | rfl | simp), (by first | rfl | simp), rfl, ⟨by have := HM.out; simp only [List.length_cons, List.length_nil] at this ⊢; omega⟩, ⟨(sl_tail HS0.out.1), (sl_nil _ _)⟩, ⟨HZ1.out, by have h_ := HZ.out.2; (try simp only [List.length_cons, List.length_append, List.length_nil] at h_ ⊢); omega⟩, ⟨by repeat (first | exact HP.out | (with_reducible refine pk_drewN ?_ _))⟩⟩
              · have hd2 : (d = 1) = False := eq_false hd1
                have HZ1 : Aside0 ((zs) ++ pick r_without kq (xs) (ys) = Z) := ⟨by have h_ := HZ.out.1; simp only [pick, show r_without true true = false from rfl, if_neg h0, if_neg h1, if_true, if_false, Bool.false_eq_true, List.nil_append] at h_; simpa using h_⟩
                go_wp2
                go_quiet (fail)
                try go_wp2
                go_quiet (fail)
                try go_wp2
                go_quiet (fail)
                go_wp2_with (first | (go_at_call 62; (refine (r_without_calls true true _).mono ?_); rintro e w3 ⟨rfl, rfl⟩) | (at_builtin; (refine print_append_cells (w0 := w) w.heap.size rfl (.tmp 69) (.tmp 71) 31 3 (.int .i64 0) 1 8 rfl Try.underlying31 info3' rfl (by decide) (by decide) v zs.length (zs.map (Value.int .i64)) [.int .i64 (y)] rfl rfl rfl ?a1 ?aO ?aB ?aS ?aL ?_); (case a1 => intro u hu; rw [List.mem_singleton] at hu; subst hu; rfl); (case aO => repeat (first | exact HP.out.1 | (with_reducible refine own_drewN ?_ _))); (case aB => repeat (first | exact HP.out.2 | (with_reducible refine pw_below_drewN ?_ _))); (case aS => refine Below.size (B := w.heap.size) (w := w) ?_; repeat (first | exact HP.out.2 | (with_reducible refine pw_below_drewN ?_ _))); (case aL => have := HZ.out.2; omega); intro v1 w4 ho hb hg hat; obtain ⟨gb, cp, rfl⟩ := pk_form ho (by omega); have HQ := Aside0.mk (And.intro ho hb); clear ho hb hg hat))
                go_quiet (fail)
                go_wp2_with (first | (go_at_call 62; (refine (r_without_calls true true _).mono ?_); rintro e w3 ⟨rfl, rfl⟩) | (at_builtin; (refine print_append_cells (w0 := w) w.heap.size rfl (.tmp 69) (.tmp 71) 31 3 (.int .i64 0) 1 8 rfl Try.underlying31 info3' rfl (by decide) (by decide) v zs.length (zs.map (Value.int .i64)) [.int .i64 (y)] rfl rfl rfl ?a1 ?aO ?aB ?aS ?aL ?_); (case a1 => intro u hu; rw [List.mem_singleton] at hu; subst hu; rfl); (case aO => repeat (first | exact HP.out.1 | (with_reducible refine own_drewN ?_ _))); (case aB => repeat (first | exact HP.out.2 | (with_reducible refine pw_below_drewN ?_ _))); (case aS => refine Below.size (B := w.heap.size) (w := w) ?_; repeat (first | exact HP.out.2 | (with_reducible refine pw_below_drewN ?_ _))); (case aL => have := HZ.out.2; omega); intro v1 w4 ho hb hg hat; obtain ⟨gb, cp, rfl⟩ := pk_form ho (by omega); have HQ := Aside0.mk (And.intro ho hb); clear ho hb hg hat))
                go_roundg kq
                case measure => omega
                case rel => exact ⟨some (ad.add 1), c - 1, xs, some (bd.add 1), d - 1, ys, _, zs, (by first | rfl | simp), (by first | rfl | simp), rfl, ⟨by have := HM.out; simp only [List.length_cons, List.length_nil] at this ⊢; omega⟩, ⟨(sl_tail HS0.out.1), (sl_tail HS0.out.2)⟩, ⟨HZ1.out, by have h_ := HZ.out.2; (try simp only [List.length_cons, List.length_append, List.length_nil] at h_ ⊢); omega⟩, ⟨by repeat (first | exact HP.out | (with_reducible refine pk_drewN ?_ _))⟩⟩
end Go.Proofs.Ytgfbgfbnmiainaa.Fam
/-! picked, at one of its rules. (Written by fam_pick.py.) -/
namespace Go.Proofs.Ytgfbgfbnmiainaa.Fam
set_option linter.unusedVariables false
set_option linter.unusedSimpArgs false
open Go.RowKit Go.Proofs.YtgfbgfbnmiainaaW.PrintWords Go.Proofs.YtgfbgfbnmiainaaW.PrintLast Go.Proofs.YtgfbgfbnmiainaaW.PrintMore Go.Proofs.Ytgfbgfbnmiainaa.Q
attribute [local go_sem] Go.Proofs.YtgfbgfbnmiainaaW.OwnWords.isSome_setCell max2_int min2_int
def r_both (a b : Bool) : Bool := a && b
theorem r_both_calls (a b : Bool) (w : World) : Calls Try.prog 63 #[.bool a, .bool b] w fun e w' => e = .returned (.bool (r_both a b)) ∧ w' = w := by
  cases a <;> cases b
  all_goals
    go_enter Try.func63, Try.ntmps63
    go_wp2
    go_ret
    exact ⟨rfl, rfl⟩
set_option maxHeartbeats 8000000 in
set_option maxRecDepth 100000 in
theorem pick_both (A : Option Addr) (c : Nat) (xs : List Int) (B : Option Addr) (d : Nat) (ys : List Int) (hl : xs.length + ys.length ≤ 1000000) (Z : List Int) (hZ : pick r_both (xs.length + ys.length) xs ys = Z) (w : World) (hx : Sl w A c xs) (hy : Sl w B d ys) :
    Calls Try.prog 64 #[.slice A xs.length c, .slice B ys.length d, .func (.func 63) #[] #[]] w (PickEnd w Z) := by
  have HX0 := Aside0.mk (And.intro hx hy)
  have HL0 := Aside0.mk hl
  have HZ0 := Aside0.mk hZ
  clear hx hy hl hZ
  go_enter Try.func64, Try.ntmps64
  go_upto_region 2 with fail
  go_loopg [0, 1, 7] (xs.length + ys.length) (fun kq v0 v1 v7 w' => ∃ (A : Option Addr) (c : Nat) (xs : List Int) (B : Option Addr) (d : Nat) (ys : List Int) (v : Value) (zs : List Int), v0 = .slice A xs.length c ∧ v1 = .slice B ys.length d ∧ v = v7 ∧ Aside0 (xs.length + ys.length ≤ kq) ∧ Aside0 (Sl w A c xs ∧ Sl w B d ys) ∧ Aside0 (zs ++ pick r_both kq xs ys = Z ∧ zs.length + (xs.length + ys.length) ≤ 1000000) ∧ Aside0 (Pk w w' v zs))
  case atStart => exact ⟨A, c, xs, B, d, ys, .slice none 0 0, [], rfl, rfl, rfl, ⟨Nat.le_refl _⟩, HX0, ⟨by rw [List.nil_append]; exact HZ0.out, by have := HL0.out; simpa using this⟩, ⟨⟨by simp, .inl ⟨rfl, rfl⟩⟩, Below.refl _ _⟩⟩
  case round =>
    clear HX0 HL0 HZ0
    obtain ⟨A, c, xs, B, d, ys, v, zs, rfl, rfl, rfl, HM, HS0, HZ, HP⟩ := hrel
    have HS := Aside0.mk (And.intro (sl_below HS0.out.1 HP.out.2) (sl_below HS0.out.2 HP.out.2))
    cases xs with
    | nil =>
      cases ys with
      | nil =>
        have hz := HZ.out.1
        rw [pick_nil, List.append_nil] at hz
        subst hz
        go_wp2
        go_ret
        exact ⟨_, rfl, HP.out⟩
      | cons y ys =>
        obtain ⟨kq, rfl⟩ : ∃ m, gk = m + 1 := ⟨gk - 1, by have h_ := HM.out; simp only [List.length_cons, List.length_nil] at h_; omega⟩
        obtain ⟨bd, rfl, hy0, hy1, hyc⟩ := sl_head HS.out.2
        have b1 : decide ((0 : Int) < (ys.length : Int) + 1) = true := decide_eq_true (by omega)
        have b2 : ((ys.length : Int) + 1 == 0) = false := beq_false_of_ne (by omega)
        by_cases hd1 : d = 1
        · subst hd1
          obtain rfl : ys = [] := List.eq_nil_of_length_eq_zero (by omega)
          have HZ1 : Aside0 ((zs) ++ pick r_both kq ([]) ([]) = Z) := ⟨by have h_ := HZ.out.1; simp only [pick, show r_both false true = false from rfl, if_true, if_false, Bool.false_eq_true, List.nil_append] at h_; simpa using h_⟩
          go_wp2
          go_quiet (fail)
          try go_wp2
          go_quiet (fail)
          try go_wp2
          go_quiet (fail)
          go_wp2_with (first | (go_at_call 63; (refine (r_both_calls false true _).mono ?_); rintro e w3 ⟨rfl, rfl⟩) | (at_builtin; (refine print_append_cells (w0 := w) w.heap.size rfl (.tmp 69) (.tmp 71) 31 3 (.int .i64 0) 1 8 rfl Try.underlying31 info3' rfl (by decide) (by decide) v zs.length (zs.map (Value.int .i64)) [.int .i64 (y)] rfl rfl rfl ?a1 ?aO ?aB ?aS ?aL ?_); (case a1 => intro u hu; rw [List.mem_singleton] at hu; subst hu; rfl); (case aO => repeat (first | exact HP.out.1 | (with_reducible refine own_drewN ?_ _))); (case aB => repeat (first | exact HP.out.2 | (with_reducible refine pw_below_drewN ?_ _))); (case aS => refine Below.size (B := w.heap.size) (w := w) ?_; repeat (first | exact HP.out.2 | (with_reducible refine pw_below_drewN ?_ _))); (case aL => have := HZ.out.2; omega); intro v1 w4 ho hb hg hat; obtain ⟨gb, cp, rfl⟩ := pk_form ho (by omega); have HQ := Aside0.mk (And.intro ho hb); clear ho hb hg hat))
          go_roundg kq
          case measure => omega
          case rel => exact ⟨A, c, [], some bd, 0, [], _, zs, (by first | rfl | simp), (by first | rfl | simp), rfl, ⟨by have := HM.out; simp only [List.length_cons, List.length_nil] at this ⊢; omega⟩, ⟨(HS0.out.1), (sl_nil _ _)⟩, ⟨HZ1.out, by have h_ := HZ.out.2; (try simp only [List.length_cons, List.length_append, List.length_nil] at h_ ⊢); omega⟩, ⟨by repeat (first | exact HP.out | (with_reducible refine pk_drewN ?_ _))⟩⟩
        · have hd2 : (d = 1) = False := eq_false hd1
          have HZ1 : Aside0 ((zs) ++ pick r_both kq ([]) (ys) = Z) := ⟨by have h_ := HZ.out.1; simp only [pick, show r_both false true = false from rfl, if_true, if_false, Bool.false_eq_true, List.nil_append] at h_; simpa using h_⟩
          go_wp2
          go_quiet (fail)
          try go_wp2
          go_quiet (fail)
          try go_wp2
          go_quiet (fail)
          go_wp2_with (first | (go_at_call 63; (refine (r_both_calls false true _).mono ?_); rintro e w3 ⟨rfl, rfl⟩) | (at_builtin; (refine print_append_cells (w0 := w) w.heap.size rfl (.tmp 69) (.tmp 71) 31 3 (.int .i64 0) 1 8 rfl Try.underlying31 info3' rfl (by decide) (by decide) v zs.length (zs.map (Value.int .i64)) [.int .i64 (y)] rfl rfl rfl ?a1 ?aO ?aB ?aS ?aL ?_); (case a1 => intro u hu; rw [List.mem_singleton] at hu; subst hu; rfl); (case aO => repeat (first | exact HP.out.1 | (with_reducible refine own_drewN ?_ _))); (case aB => repeat (first | exact HP.out.2 | (with_reducible refine pw_below_drewN ?_ _))); (case aS => refine Below.size (B := w.heap.size) (w := w) ?_; repeat (first | exact HP.out.2 | (with_reducible refine pw_below_drewN ?_ _))); (case aL => have := HZ.out.2; omega); intro v1 w4 ho hb hg hat; obtain ⟨gb, cp, rfl⟩ := pk_form ho (by omega); have HQ := Aside0.mk (And.intro ho hb); clear ho hb hg hat))
          go_roundg kq
          case measure => omega
          case rel => exact ⟨A, c, [], some (bd.add 1), d - 1, ys, _, zs, (by first | rfl | simp), (by first | rfl | simp), rfl, ⟨by have := HM.out; simp only [List.length_cons, List.length_nil] at this ⊢; omega⟩, ⟨(HS0.out.1), (sl_tail HS0.out.2)⟩, ⟨HZ1.out, by have h_ := HZ.out.2; (try simp only [List.length_cons, List.length_append, List.length_nil] at h_ ⊢); omega⟩, ⟨by repeat (first | exact HP.out | (with_reducible refine pk_drewN ?_ _))⟩⟩
    | cons x xs =>
      obtain ⟨kq, rfl⟩ : ∃ m, gk = m + 1 := ⟨gk - 1, by have h_ := HM.out; simp only [List.length_cons, List.length_nil] at h_; omega⟩
      cases ys with
      | nil =>
        obtain ⟨ad, rfl, hx0, hx1, hxc⟩ := sl_head HS.out.1
        have a1 : decide ((0 : Int) < (xs.length : Int) + 1) = true := decide_eq_true (by omega)
        have a2 : ((xs.length : Int) + 1 == 0) = false := beq_false_of_ne (by omega)
        by_cases hc1 : c = 1
        · subst hc1
          obtain rfl : xs = [] := List.eq_nil_of_length_eq_zero (by omega)
          have HZ1 : Aside0 ((zs) ++ pick r_both kq ([]) ([]) = Z) := ⟨by have h_ := HZ.out.1; simp only [pick, show r_both true false = false from rfl, if_true, if_false, Bool.false_eq_true, List.nil_append] at h_; simpa using h_⟩
          go_wp2
          go_quiet (fail)
          try go_wp2
          go_quiet (fail)
          try go_wp2
          go_quiet (fail)
          go_wp2_with (first | (go_at_call 63; (refine (r_both_calls true false _).mono ?_); rintro e w3 ⟨rfl, rfl⟩) | (at_builtin; (refine print_append_cells (w0 := w) w.heap.size rfl (.tmp 69) (.tmp 71) 31 3 (.int .i64 0) 1 8 rfl Try.underlying31 info3' rfl (by decide) (by decide) v zs.length (zs.map (Value.int .i64)) [.int .i64 (x)] rfl rfl rfl ?a1 ?aO ?aB ?aS ?aL ?_); (case a1 => intro u hu; rw [List.mem_singleton] at hu; subst hu; rfl); (case aO => repeat (first | exact HP.out.1 | (with_reducible refine own_drewN ?_ _))); (case aB => repeat (first | exact HP.out.2 | (with_reducible refine pw_below_drewN ?_ _))); (case aS => refine Below.size (B := w.heap.size) (w := w) ?_; repeat (first | exact HP.out.2 | (with_reducible refine pw_below_drewN ?_ _))); (case aL => have := HZ.out.2; omega); intro v1 w4 ho hb hg hat; obtain ⟨gb, cp, rfl⟩ := pk_form ho (by omega); have HQ := Aside0.mk (And.intro ho hb); clear ho hb hg hat))
          go_roundg kq
          case measure => omega
          case rel => exact ⟨some ad, 0, [], B, d, [], _, zs, (by first | rfl | simp), (by first | rfl | simp), rfl, ⟨by have := HM.out; simp only [List.length_cons, List.length_nil] at this ⊢; omega⟩, ⟨(sl_nil _ _), (HS0.out.2)⟩, ⟨HZ1.out, by have h_ := HZ.out.2; (try simp only [List.length_cons, List.length_append, List.length_nil] at h_ ⊢); omega⟩, ⟨by repeat (first | exact HP.out | (with_reducible refine pk_drewN ?_ _))⟩⟩
        · have hc2 : (c = 1) = False := eq_false hc1
          have HZ1 : Aside0 ((zs) ++ pick r_both kq (xs) ([]) = Z) := ⟨by have h_ := HZ.out.1; simp only [pick, show r_both true false = false from rfl, if_true, if_false, Bool.false_eq_true, List.nil_append] at h_; simpa using h_⟩
          go_wp2
          go_quiet (fail)
          try go_wp2
          go_quiet (fail)
          try go_wp2
          go_quiet (fail)
          go_wp2_with (first | (go_at_call 63; (refine (r_both_calls true false _).mono ?_); rintro e w3 ⟨rfl, rfl⟩) | (at_builtin; (refine print_append_cells (w0 := w) w.heap.size rfl (.tmp 69) (.tmp 71) 31 3 (.int .i64 0) 1 8 rfl Try.underlying31 info3' rfl (by decide) (by decide) v zs.length (zs.map (Value.int .i64)) [.int .i64 (x)] rfl rfl rfl ?a1 ?aO ?aB ?aS ?aL ?_); (case a1 => intro u hu; rw [List.mem_singleton] at hu; subst hu; rfl); (case aO => repeat (first | exact HP.out.1 | (with_reducible refine own_drewN ?_ _))); (case aB => repeat (first | exact HP.out.2 | (with_reducible refine pw_below_drewN ?_ _))); (case aS => refine Below.size (B := w.heap.size) (w := w) ?_; repeat (first | exact HP.out.2 | (with_reducible refine pw_below_drewN ?_ _))); (case aL => have := HZ.out.2; omega); intro v1 w4 ho hb hg hat; obtain ⟨gb, cp, rfl⟩ := pk_form ho (by omega); have HQ := Aside0.mk (And.intro ho hb); clear ho hb hg hat))
          go_roundg kq
          case measure => omega
          case rel => exact ⟨some (ad.add 1), c - 1, xs, B, d, [], _, zs, (by first | rfl | simp), (by first | rfl | simp), rfl, ⟨by have := HM.out; simp only [List.length_cons, List.length_nil] at this ⊢; omega⟩, ⟨(sl_tail HS0.out.1), (HS0.out.2)⟩, ⟨HZ1.out, by have h_ := HZ.out.2; (try simp only [List.length_cons, List.length_append, List.length_nil] at h_ ⊢); omega⟩, ⟨by repeat (first | exact HP.out | (with_reducible refine pk_drewN ?_ _))⟩⟩
      | cons y ys =>
        by_cases h0 : x < y
        · skip
          obtain ⟨ad, rfl, hx0, hx1, hxc⟩ := sl_head HS.out.1
          have a1 : decide ((0 : Int) < (xs.length : Int) + 1) = true := decide_eq_true (by omega)
          have a2 : ((xs.length : Int) + 1 == 0) = false := beq_false_of_ne (by omega)
          obtain ⟨bd, rfl, hy0, hy1, hyc⟩ := sl_head HS.out.2
          have b1 : decide ((0 : Int) < (ys.length : Int) + 1) = true := decide_eq_true (by omega)
          have b2 : ((ys.length : Int) + 1 == 0) = false := beq_false_of_ne (by omega)
          have d1 : decide (x ≤ y) = true := decide_eq_true (by omega)
          have d2 : decide (y ≤ x) = false := decide_eq_false (by omega)
          by_cases hc1 : c = 1
          · subst hc1
            obtain rfl : xs = [] := List.eq_nil_of_length_eq_zero (by omega)
            have HZ1 : Aside0 ((zs) ++ pick r_both kq ([]) (y :: ys) = Z) := ⟨by have h_ := HZ.out.1; simp only [pick, show r_both true false = false from rfl, if_pos h0, if_true, if_false, Bool.false_eq_true, List.nil_append] at h_; simpa using h_⟩
            go_wp2
            go_quiet (fail)
            try go_wp2
            go_quiet (fail)
            try go_wp2
            go_quiet (fail)
            go_wp2_with (first | (go_at_call 63; (refine (r_both_calls true false _).mono ?_); rintro e w3 ⟨rfl, rfl⟩) | (at_builtin; (refine print_append_cells (w0 := w) w.heap.size rfl (.tmp 69) (.tmp 71) 31 3 (.int .i64 0) 1 8 rfl Try.underlying31 info3' rfl (by decide) (by decide) v zs.length (zs.map (Value.int .i64)) [.int .i64 (x)] rfl rfl rfl ?a1 ?aO ?aB ?aS ?aL ?_); (case a1 => intro u hu; rw [List.mem_singleton] at hu; subst hu; rfl); (case aO => repeat (first | exact HP.out.1 | (with_reducible refine own_drewN ?_ _))); (case aB => repeat (first | exact HP.out.2 | (with_reducible refine pw_below_drewN ?_ _))); (case aS => refine Below.size (B := w.heap.size) (w := w) ?_; repeat (first | exact HP.out.2 | (with_reducible refine pw_below_drewN ?_ _))); (case aL => have := HZ.out.2; omega); intro v1 w4 ho hb hg hat; obtain ⟨gb, cp, rfl⟩ := pk_form ho (by omega); have HQ := Aside0.mk (And.intro ho hb); clear ho hb hg hat))
            go_roundg kq
            case measure => omega
            case rel => exact ⟨some ad, 0, [], some bd, d, y :: ys, _, zs, (by first | rfl | simp), (by first | rfl | simp), rfl, ⟨by have := HM.out; simp only [List.length_cons, List.length_nil] at this ⊢; omega⟩, ⟨(sl_nil _ _), (HS0.out.2)⟩, ⟨HZ1.out, by have h_ := HZ.out.2; (try simp only [List.length_cons, List.length_append, List.length_nil] at h_ ⊢); omega⟩, ⟨by repeat (first | exact HP.out | (with_reducible refine pk_drewN ?_ _))⟩⟩
          · have hc2 : (c = 1) = False := eq_false hc1
            have HZ1 : Aside0 ((zs) ++ pick r_both kq (xs) (y :: ys) = Z) := ⟨by have h_ := HZ.out.1; simp only [pick, show r_both true false = false from rfl, if_pos h0, if_true, if_false, Bool.false_eq_true, List.nil_append] at h_; simpa using h_⟩
            go_wp2
            go_quiet (fail)
            try go_wp2
            go_quiet (fail)
            try go_wp2
            go_quiet (fail)
            go_wp2_with (first | (go_at_call 63; (refine (r_both_calls true false _).mono ?_); rintro e w3 ⟨rfl, rfl⟩) | (at_builtin; (refine print_append_cells (w0 := w) w.heap.size rfl (.tmp 69) (.tmp 71) 31 3 (.int .i64 0) 1 8 rfl Try.underlying31 info3' rfl (by decide) (by decide) v zs.length (zs.map (Value.int .i64)) [.int .i64 (x)] rfl rfl rfl ?a1 ?aO ?aB ?aS ?aL ?_); (case a1 => intro u hu; rw [List.mem_singleton] at hu; subst hu; rfl); (case aO => repeat (first | exact HP.out.1 | (with_reducible refine own_drewN ?_ _))); (case aB => repeat (first | exact HP.out.2 | (with_reducible refine pw_below_drewN ?_ _))); (case aS => refine Below.size (B := w.heap.size) (w := w) ?_; repeat (first | exact HP.out.2 | (with_reducible refine pw_below_drewN ?_ _))); (case aL => have := HZ.out.2; omega); intro v1 w4 ho hb hg hat; obtain ⟨gb, cp, rfl⟩ := pk_form ho (by omega); have HQ := Aside0.mk (And.intro ho hb); clear ho hb hg hat))
            go_roundg kq
            case measure => omega
            case rel => exact ⟨some (ad.add 1), c - 1, xs, some bd, d, y :: ys, _, zs, (by first | rfl | simp), (by first | rfl | simp), rfl, ⟨by have := HM.out; simp only [List.length_cons, List.length_nil] at this ⊢; omega⟩, ⟨(sl_tail HS0.out.1), (HS0.out.2)⟩, ⟨HZ1.out, by have h_ := HZ.out.2; (try simp only [List.length_cons, List.length_append, List.length_nil] at h_ ⊢); omega⟩, ⟨by repeat (first | exact HP.out | (with_reducible refine pk_drewN ?_ _))⟩⟩
        · by_cases h1 : y < x
          · skip
            obtain ⟨ad, rfl, hx0, hx1, hxc⟩ := sl_head HS.out.1
            have a1 : decide ((0 : Int) < (xs.length : Int) + 1) = true := decide_eq_true (by omega)
            have a2 : ((xs.length : Int) + 1 == 0) = false := beq_false_of_ne (by omega)
            obtain ⟨bd, rfl, hy0, hy1, hyc⟩ := sl_head HS.out.2
            have b1 : decide ((0 : Int) < (ys.length : Int) + 1) = true := decide_eq_true (by omega)
            have b2 : ((ys.length : Int) + 1 == 0) = false := beq_false_of_ne (by omega)
            have d1 : decide (x ≤ y) = false := decide_eq_false (by omega)
            have d2 : decide (y ≤ x) = true := decide_eq_true (by omega)
            by_cases hd1 : d = 1
            · subst hd1
              obtain rfl : ys = [] := List.eq_nil_of_length_eq_zero (by omega)
              have HZ1 : Aside0 ((zs) ++ pick r_both kq (x :: xs) ([]) = Z) := ⟨by have h_ := HZ.out.1; simp only [pick, show r_both false true = false from rfl, if_neg h0, if_pos h1, if_true, if_false, Bool.false_eq_true, List.nil_append] at h_; simpa using h_⟩
              go_wp2
              go_quiet (fail)
              try go_wp2
              go_quiet (fail)
              try go_wp2
              go_quiet (fail)
              go_wp2_with (first | (go_at_call 63; (refine (r_both_calls false true _).mono ?_); rintro e w3 ⟨rfl, rfl⟩) | (at_builtin; (refine print_append_cells (w0 := w) w.heap.size rfl (.tmp 69) (.tmp 71) 31 3 (.int .i64 0) 1 8 rfl Try.underlying31 info3' rfl (by decide) (by decide) v zs.length (zs.map (Value.int .i64)) [.int .i64 (y)] rfl rfl rfl ?a1 ?aO ?aB ?aS ?aL ?_); (case a1 => intro u hu; rw [List.mem_singleton] at hu; subst hu; rfl); (case aO => repeat (first | exact HP.out.1 | (with_reducible refine own_drewN ?_ _))); (case aB => repeat (first | exact HP.out.2 | (with_reducible refine pw_below_drewN ?_ _))); (case aS => refine Below.size (B := w.heap.size) (w := w) ?_; repeat (first | exact HP.out.2 | (with_reducible refine pw_below_drewN ?_ _))); (case aL => have := HZ.out.2; omega); intro v1 w4 ho hb hg hat; obtain ⟨gb, cp, rfl⟩ := pk_form ho (by omega); have HQ := Aside0.mk (And.intro ho hb); clear ho hb hg hat))
              go_roundg kq
              case measure => omega
              case rel => exact ⟨some ad, c, x :: xs, some bd, 0, [], _, zs, (by first | rfl | simp), (by first | rfl | simp), rfl, ⟨by have := HM.out; simp only [List.length_cons, List.length_nil] at this ⊢; omega⟩, ⟨(HS0.out.1), (sl_nil _ _)⟩, ⟨HZ1.out, by have h_ := HZ.out.2; (try simp only [List.length_cons, List.length_append, List.length_nil] at h_ ⊢); omega⟩, ⟨by repeat (first | exact HP.out | (with_reducible refine pk_drewN ?_ _))⟩⟩
            · have hd2 : (d = 1) = False := eq_false hd1
              have HZ1 : Aside0 ((zs) ++ pick r_both kq (x :: xs) (ys) = Z) := ⟨by have h_ := HZ.out.1; simp only [pick, show r_both false true = false from rfl, if_neg h0, if_pos h1, if_true, if_false, Bool.false_eq_true, List.nil_append] at h_; simpa using h_⟩
              go_wp2
              go_quiet (fail)
              try go_wp2
              go_quiet (fail)
              try go_wp2
              go_quiet (fail)
              go_wp2_with (first | (go_at_call 63; (refine (r_both_calls false true _).mono ?_); rintro e w3 ⟨rfl, rfl⟩) | (at_builtin; (refine print_append_cells (w0 := w) w.heap.size rfl (.tmp 69) (.tmp 71) 31 3 (.int .i64 0) 1 8 rfl Try.underlying31 info3' rfl (by decide) (by decide) v zs.length (zs.map (Value.int .i64)) [.int .i64 (y)] rfl rfl rfl ?a1 ?aO ?aB ?aS ?aL ?_); (case a1 => intro u hu; rw [List.mem_singleton] at hu; subst hu; rfl); (case aO => repeat (first | exact HP.out.1 | (with_reducible refine own_drewN ?_ _))); (case aB => repeat (first | exact HP.out.2 | (with_reducible refine pw_below_drewN ?_ _))); (case aS => refine Below.size (B := w.heap.size) (w := w) ?_; repeat (first | exact HP.out.2 | (with_reducible refine pw_below_drewN ?_ _))); (case aL => have := HZ.out.2; omega); intro v1 w4 ho hb hg hat; obtain ⟨gb, cp, rfl⟩ := pk_form ho (by omega); have HQ := Aside0.mk (And.intro ho hb); clear ho hb hg hat))
              go_roundg kq
              case measure => omega
              case rel => exact ⟨some ad, c, x :: xs, some (bd.add 1), d - 1, ys, _, zs, (by first | rfl | simp), (by first | rfl | simp), rfl, ⟨by have := HM.out; simp only [List.length_cons, List.length_nil] at this ⊢; omega⟩, ⟨(HS0.out.1), (sl_tail HS0.out.2)⟩, ⟨HZ1.out, by have h_ := HZ.out.2; (try simp only [List.length_cons, List.length_append, List.length_nil] at h_ ⊢); omega⟩, ⟨by repeat (first | exact HP.out | (with_reducible refine pk_drewN ?_ _))⟩⟩
          · skip
            obtain ⟨ad, rfl, hx0, hx1, hxc⟩ := sl_head HS.out.1
            have a1 : decide ((0 : Int) < (xs.length : Int) + 1) = true := decide_eq_true (by omega)
            have a2 : ((xs.length : Int) + 1 == 0) = false := beq_false_of_ne (by omega)
            obtain ⟨bd, rfl, hy0, hy1, hyc⟩ := sl_head HS.out.2
            have b1 : decide ((0 : Int) < (ys.length : Int) + 1) = true := decide_eq_true (by omega)
            have b2 : ((ys.length : Int) + 1 == 0) = false := beq_false_of_ne (by omega)
            have d1 : decide (x ≤ y) = true := decide_eq_true (by omega)
            have d2 : decide (y ≤ x) = true := decide_eq_true (by omega)
            by_cases hc1 : c = 1
            · subst hc1
              obtain rfl : xs = [] := List.eq_nil_of_length_eq_zero (by omega)
              by_cases hd1 : d = 1
              · subst hd1
                obtain rfl : ys = [] := List.eq_nil_of_length_eq_zero (by omega)
                have HZ1 : Aside0 ((zs ++ [y]) ++ pick r_both kq ([]) ([]) = Z) := ⟨by have h_ := HZ.out.1; simp only [pick, show r_both true true = true from rfl, if_neg h0, if_neg h1, if_true, if_false, Bool.false_eq_true, List.nil_append] at h_; simpa using h_⟩
                go_wp2
                go_quiet (fail)
                try go_wp2
                go_quiet (fail)
                try go_wp2
                go_quiet (fail)
                go_wp2_with (first | (go_at_call 63; (refine (r_both_calls true true _).mono ?_); rintro e w3 ⟨rfl, rfl⟩) | (at_builtin; (refine print_append_cells (w0 := w) w.heap.size rfl (.tmp 69) (.tmp 71) 31 3 (.int .i64 0) 1 8 rfl Try.underlying31 info3' rfl (by decide) (by decide) v zs.length (zs.map (Value.int .i64)) [.int .i64 (y)] rfl rfl rfl ?a1 ?aO ?aB ?aS ?aL ?_); (case a1 => intro u hu; rw [List.mem_singleton] at hu; subst hu; rfl); (case aO => repeat (first | exact HP.out.1 | (with_reducible refine own_drewN ?_ _))); (case aB => repeat (first | exact HP.out.2 | (with_reducible refine pw_below_drewN ?_ _))); (case aS => refine Below.size (B := w.heap.size) (w := w) ?_; repeat (first | exact HP.out.2 | (with_reducible refine pw_below_drewN ?_ _))); (case aL => have := HZ.out.2; omega); intro v1 w4 ho hb hg hat; obtain ⟨gb, cp, rfl⟩ := pk_form ho (by omega); have HQ := Aside0.mk (And.intro ho hb); clear ho hb hg hat))
                go_quiet (fail)
                go_wp2_with (first | (go_at_call 63; (refine (r_both_calls true true _).mono ?_); rintro e w3 ⟨rfl, rfl⟩) | (at_builtin; (refine print_append_cells (w0 := w) w.heap.size rfl (.tmp 69) (.tmp 71) 31 3 (.int .i64 0) 1 8 rfl Try.underlying31 info3' rfl (by decide) (by decide) v zs.length (zs.map (Value.int .i64)) [.int .i64 (y)] rfl rfl rfl ?a1 ?aO ?aB ?aS ?aL ?_); (case a1 => intro u hu; rw [List.mem_singleton] at hu; subst hu; rfl); (case aO => repeat (first | exact HP.out.1 | (with_reducible refine own_drewN ?_ _))); (case aB => repeat (first | exact HP.out.2 | (with_reducible refine pw_below_drewN ?_ _))); (case aS => refine Below.size (B := w.heap.size) (w := w) ?_; repeat (first | exact HP.out.2 | (with_reducible refine pw_below_drewN ?_ _))); (case aL => have := HZ.out.2; omega); intro v1 w4 ho hb hg hat; obtain ⟨gb, cp, rfl⟩ := pk_form ho (by omega); have HQ := Aside0.mk (And.intro ho hb); clear ho hb hg hat))
                go_roundg kq
                case measure => omega
                case rel => exact ⟨some ad, 0, [], some bd, 0, [], _, zs ++ [y], (by first | rfl | simp), (by first | rfl | simp), rfl, ⟨by have := HM.out; simp only [List.length_cons, List.length_nil] at this ⊢; omega⟩, ⟨(sl_nil _ _), (sl_nil _ _)⟩, ⟨HZ1.out, by have h_ := HZ.out.2; (try simp only [List.length_cons, List.length_append, List.length_nil] at h_ ⊢); omega⟩, ⟨by simpa using HQ.out.1, HQ.out.2⟩⟩
              · have hd2 : (d = 1) = False := eq_false hd1
                have HZ1 : Aside0 ((zs ++ [y]) ++ pick r_both kq ([]) (ys) = Z) := ⟨by have h_ := HZ.out.1; simp only [pick, show r_both true true = true from rfl, if_neg h0, if_neg h1, if_true, if_false, Bool.false_eq_true, List.nil_append] at h_; simpa using h_⟩
                go_wp2
                go_quiet (fail)
                try go_wp2
                go_quiet (fail)
                try go_wp2
                go_quiet (fail)
                go_wp2_with (first | (go_at_call 63; (refine (r_both_calls true true _).mono ?_); rintro e w3 ⟨rfl, rfl⟩) | (at_builtin; (refine print_append_cells (w0 := w) w.heap.size rfl (.tmp 69) (.tmp 71) 31 3 (.int .i64 0) 1 8 rfl Try.underlying31 info3' rfl (by decide) (by decide) v zs.length (zs.map (Value.int .i64)) [.int .i64 (y)] rfl rfl rfl ?a1 ?aO ?aB ?aS ?aL ?_); (case a1 => intro u hu; rw [List.mem_singleton] at hu; subst hu; rfl); (case aO => repeat (first | exact HP.out.1 | (with_reducible refine own_drewN ?_ _))); (case aB => repeat (first | exact HP.out.2 | (with_reducible refine pw_below_drewN ?_ _))); (case aS => refine Below.size (B := w.heap.size) (w := w) ?_; repeat (first | exact HP.out.2 | (with_reducible refine pw_below_drewN ?_ _))); (case aL => have := HZ.out.2; omega); intro v1 w4 ho hb hg hat; obtain ⟨gb, cp, rfl⟩ := pk_form ho (by omega); have HQ := Aside0.mk (And.intro ho hb); clear ho hb hg hat))
                go_quiet (fail)
                go_wp2_with (first | (go_at_call 63; (refine (r_both_calls true true _).mono ?_); rintro e w3 ⟨rfl, rfl⟩) | (at_builtin; (refine print_append_cells (w0 := w) w.heap.size rfl (.tmp 69) (.tmp 71) 31 3 (.int .i64 0) 1 8 rfl Try.underlying31 info3' rfl (by decide) (by decide) v zs.length (zs.map (Value.int .i64)) [.int .i64 (y)] rfl rfl rfl ?a1 ?aO ?aB ?aS ?aL ?_); (case a1 => intro u hu; rw [List.mem_singleton] at hu; subst hu; rfl); (case aO => repeat (first | exact HP.out.1 | (with_reducible refine own_drewN ?_ _))); (case aB => repeat (first | exact HP.out.2 | (with_reducible refine pw_below_drewN ?_ _))); (case aS => refine Below.size (B := w.heap.size) (w := w) ?_; repeat (first | exact HP.out.2 | (with_reducible refine pw_below_drewN ?_ _))); (case aL => have := HZ.out.2; omega); intro v1 w4 ho hb hg hat; obtain ⟨gb, cp, rfl⟩ := pk_form ho (by omega); have HQ := Aside0.mk (And.intro ho hb); clear ho hb hg hat))
                go_roundg kq
                case measure => omega
                case rel => exact ⟨some ad, 0, [], some (bd.add 1), d - 1, ys, _, zs ++ [y], (by first | rfl | simp), (by first | rfl | simp), rfl, ⟨by have := HM.out; simp only [List.length_cons, List.length_nil] at this ⊢; omega⟩, ⟨(sl_nil _ _), (sl_tail HS0.out.2)⟩, ⟨HZ1.out, by have h_ := HZ.out.2; (try simp only [List.length_cons, List.length_append, List.length_nil] at h_ ⊢); omega⟩, ⟨by simpa using HQ.out.1, HQ.out.2⟩⟩
            · have hc2 : (c = 1) = False := eq_false hc1
              by_cases hd1 : d = 1
              · subst hd1
                obtain rfl : ys = [] := List.eq_nil_of_length_eq_zero (by omega)
                have HZ1 : Aside0 ((zs ++ [y]) ++ pick r_both kq (xs) ([]) = Z) := ⟨by have h_ := HZ.out.1; simp only [pick, show r_both true true = true from rfl, if_neg h0, if_neg h1, if_true, if_false, Bool.false_eq_true, List.nil_append] at h_; simpa using h_⟩
                go_wp2
                go_quiet (fail)
                try go_wp2
                go_quiet (fail)
                try go_wp2
                go_quiet (fail)
                go_wp2_with (first | (go_at_call 63; (refine (r_both_calls true true _).mono ?_); rintro e w3 ⟨rfl, rfl⟩) | (at_builtin; (refine print_append_cells (w0 := w) w.heap.size rfl (.tmp 69) (.tmp 71) 31 3 (.int .i64 0) 1 8 rfl Try.underlying31 info3' rfl (by decide) (by decide) v zs.length (zs.map (Value.int .i64)) [.int .i64 (y)] rfl rfl rfl ?a1 ?aO ?aB ?aS ?aL ?_); (case a1 => intro u hu; rw [List.mem_singleton] at hu; subst hu; rfl); (case aO => repeat (first | exact HP.out.1 | (with_reducible refine own_drewN ?_ _))); (case aB => repeat (first | exact HP.out.2 | (with_reducible refine pw_below_drewN ?_ _))); (case aS => refine Below.size (B := w.heap.size) (w := w) ?_; repeat (first | exact HP.out.2 | (with_reducible refine pw_below_drewN ?_ _))); (case aL => have := HZ.out.2; omega); intro v1 w4 ho hb hg hat; obtain ⟨gb, cp, rfl⟩ := pk_form ho (by omega); have HQ := Aside0.mk (And.intro ho hb); clear ho hb hg hat))
                go_quiet (fail)
                go_wp2_with (first | (go_at_call 63; (refine (r_both_calls true true _).mono ?_); rintro e w3 ⟨rfl, rfl⟩) | (at_builtin; (refine print_append_cells (w0 := w) w.heap.size rfl (.tmp 69) (.tmp 71) 31 3 (.int .i64 0) 1 8 rfl Try.underlying31 info3' rfl (by decide) (by decide) v zs.length (zs.map (Value.int .i64)) [.int .i64 (y)] rfl rfl rfl ?a1 ?aO ?aB ?aS ?aL ?_); (case a1 => intro u hu; rw [List.mem_singleton] at hu; subst hu; rfl); (case aO => repeat (first | exact HP.out.1 | (with_reducible refine own_drewN ?_ _))); (case aB => repeat (first | exact HP.out.2 | (with_reducible refine pw_below_drewN ?_ _))); (case aS => refine Below.size (B := w.heap.size) (w := w) ?_; repeat (first | exact HP.out.2 | (with_reducible refine pw_below_drewN ?_ _))); (case aL => have := HZ.out.2; omega); intro v1 w4 ho hb hg hat; obtain ⟨gb, cp, rfl⟩ := pk_form ho (by omega); have HQ := Aside0.mk (And.intro ho hb); clear ho hb hg hat))
                go_roundg kq
                case measure => omega
                case rel => exact ⟨some (ad.add 1), c - 1, xs, some bd, 0, [], _, zs ++ [y], (by first | rfl | simp), (by first | rfl | simp), rfl, ⟨by have := HM.out; simp only [List.length_cons, List.length_nil] at this ⊢; omega⟩, ⟨(sl_tail HS0.out.1), (sl_nil _ _)⟩, ⟨HZ1.out, by have h_ := HZ.out.2; (try simp only [List.length_cons, List.length_append, List.length_nil] at h_ ⊢); omega⟩, ⟨by simpa using HQ.out.1, HQ.out.2⟩⟩
              · have hd2 : (d = 1) = False := eq_false hd1
                have HZ1 : Aside0 ((zs ++ [y]) ++ pick r_both kq (xs) (ys) = Z) := ⟨by have h_ := HZ.out.1; simp only [pick, show r_both true true = true from rfl, if_neg h0, if_neg h1, if_true, if_false, Bool.false_eq_true, List.nil_append] at h_; simpa using h_⟩
                go_wp2
                go_quiet (fail)
                try go_wp2
                go_quiet (fail)
                try go_wp2
                go_quiet (fail)
                go_wp2_with (first | (go_at_call 63; (refine (r_both_calls true true _).mono ?_); rintro e w3 ⟨rfl, rfl⟩) | (at_builtin; (refine print_append_cells (w0 := w) w.heap.size rfl (.tmp 69) (.tmp 71) 31 3 (.int .i64 0) 1 8 rfl Try.underlying31 info3' rfl (by decide) (by decide) v zs.length (zs.map (Value.int .i64)) [.int .i64 (y)] rfl rfl rfl ?a1 ?aO ?aB ?aS ?aL ?_); (case a1 => intro u hu; rw [List.mem_singleton] at hu; subst hu; rfl); (case aO => repeat (first | exact HP.out.1 | (with_reducible refine own_drewN ?_ _))); (case aB => repeat (first | exact HP.out.2 | (with_reducible refine pw_below_drewN ?_ _))); (case aS => refine Below.size (B := w.heap.size) (w := w) ?_; repeat (first | exact HP.out.2 | (with_reducible refine pw_below_drewN ?_ _))); (case aL => have := HZ.out.2; omega); intro v1 w4 ho hb hg hat; obtain ⟨gb, cp, rfl⟩ := pk_form ho (by omega); have HQ := Aside0.mk (And.intro ho hb); clear ho hb hg hat))
                go_quiet (fail)
                go_wp2_with (first | (go_at_call 63; (refine (r_both_calls true true _).mono ?_); rintro e w3 ⟨rfl, rfl⟩) | (at_builtin; (refine print_append_cells (w0 := w) w.heap.size rfl (.tmp 69) (.tmp 71) 31 3 (.int .i64 0) 1 8 rfl Try.underlying31 info3' rfl (by decide) (by decide) v zs.length (zs.map (Value.int .i64)) [.int .i64 (y)] rfl rfl rfl ?a1 ?aO ?aB ?aS ?aL ?_); (case a1 => intro u hu; rw [List.mem_singleton] at hu; subst hu; rfl); (case aO => repeat (first | exact HP.out.1 | (with_reducible refine own_drewN ?_ _))); (case aB => repeat (first | exact HP.out.2 | (with_reducible refine pw_below_drewN ?_ _))); (case aS => refine Below.size (B := w.heap.size) (w := w) ?_; repeat (first | exact HP.out.2 | (with_reducible refine pw_below_drewN ?_ _))); (case aL => have := HZ.out.2; omega); intro v1 w4 ho hb hg hat; obtain ⟨gb, cp, rfl⟩ := pk_form ho (by omega); have HQ := Aside0.mk (And.intro ho hb); clear ho hb hg hat))
                go_roundg kq
                case measure => omega
                case rel => exact ⟨some (ad.add 1), c - 1, xs, some (bd.add 1), d - 1, ys, _, zs ++ [y], (by first | rfl | simp), (by first | rfl | simp), rfl, ⟨by have := HM.out; simp only [List.length_cons, List.length_nil] at this ⊢; omega⟩, ⟨(sl_tail HS0.out.1), (sl_tail HS0.out.2)⟩, ⟨HZ1.out, by have h_ := HZ.out.2; (try simp only [List.length_cons, List.length_append, List.length_nil] at h_ ⊢); omega⟩, ⟨by simpa using HQ.out.1, HQ.out.2⟩⟩
end Go.Proofs.Ytgfbgfbnmiainaa.Fam
/-! picked, at one of its rules. (Written by fam_pick.py.) -/
namespace Go.Proofs.Ytgfbgfbnmiainaa.Fam
set_option linter.unusedVariables false
set_option linter.unusedSimpArgs false
open Go.RowKit Go.Proofs.YtgfbgfbnmiainaaW.PrintWords Go.Proofs.YtgfbgfbnmiainaaW.PrintLast Go.Proofs.YtgfbgfbnmiainaaW.PrintMore Go.Proofs.Ytgfbgfbnmiainaa.Q
attribute [local go_sem] Go.Proofs.YtgfbgfbnmiainaaW.OwnWords.isSome_setCell max2_int min2_int
def r_either (a b : Bool) : Bool := a || b
theorem r_either_calls (a b : Bool) (w : World) : Calls Try.prog 66 #[.bool a, .bool b] w fun e w' => e = .returned (.bool (r_either a b)) ∧ w' = w := by
  cases a <;> cases b
  all_goals
    go_enter Try.func66, Try.ntmps66
    go_wp2
    go_ret
    exact ⟨rfl, rfl⟩
set_option maxHeartbeats 8000000 in
set_option maxRecDepth 100000 in
theorem pick_either (A : Option Addr) (c : Nat) (xs : List Int) (B : Option Addr) (d : Nat) (ys : List Int) (hl : xs.length + ys.length ≤ 1000000) (Z : List Int) (hZ : pick r_either (xs.length + ys.length) xs ys = Z) (w : World) (hx : Sl w A c xs) (hy : Sl w B d ys) :
    Calls Try.prog 64 #[.slice A xs.length c, .slice B ys.length d, .func (.func 66) #[] #[]] w (PickEnd w Z) := by
  have HX0 := Aside0.mk (And.intro hx hy)
  have HL0 := Aside0.mk hl
  have HZ0 := Aside0.mk hZ
  clear hx hy hl hZ
  go_enter Try.func64, Try.ntmps64
  go_upto_region 2 with fail
  go_loopg [0, 1, 7] (xs.length + ys.length) (fun kq v0 v1 v7 w' => ∃ (A : Option Addr) (c : Nat) (xs : List Int) (B : Option Addr) (d : Nat) (ys : List Int) (v : Value) (zs : List Int), v0 = .slice A xs.length c ∧ v1 = .slice B ys.length d ∧ v = v7 ∧ Aside0 (xs.length + ys.length ≤ kq) ∧ Aside0 (Sl w A c xs ∧ Sl w B d ys) ∧ Aside0 (zs ++ pick r_either kq xs ys = Z ∧ zs.length + (xs.length + ys.length) ≤ 1000000) ∧ Aside0 (Pk w w' v zs))
  case atStart => exact ⟨A, c, xs, B, d, ys, .slice none 0 0, [], rfl, rfl, rfl, ⟨Nat.le_refl _⟩, HX0, ⟨by rw [List.nil_append]; exact HZ0.out, by have := HL0.out; simpa using this⟩, ⟨⟨by simp, .inl ⟨rfl, rfl⟩⟩, Below.refl _ _⟩⟩
  case round =>
    clear HX0 HL0 HZ0
    obtain ⟨A, c, xs, B, d, ys, v, zs, rfl, rfl, rfl, HM, HS0, HZ, HP⟩ := hrel
    have HS := Aside0.mk (And.intro (sl_below HS0.out.1 HP.out.2) (sl_below HS0.out.2 HP.out.2))
    cases xs with
    | nil =>
      cases ys with
      | nil =>
        have hz := HZ.out.1
        rw [pick_nil, List.append_nil] at hz
        subst hz
        go_wp2
        go_ret
        exact ⟨_, rfl, HP.out⟩
      | cons y ys =>
        obtain ⟨kq, rfl⟩ : ∃ m, gk = m + 1 := ⟨gk - 1, by have h_ := HM.out; simp only [List.length_cons, List.length_nil] at h_; omega⟩
        obtain ⟨bd, rfl, hy0, hy1, hyc⟩ := sl_head HS.out.2
        have b1 : decide ((0 : Int) < (ys.length : Int) + 1) = true := decide_eq_true (by omega)
        have b2 : ((ys.length : Int) + 1 == 0) = false := beq_false_of_ne (by omega)
        by_cases hd1 : d = 1
        · subst hd1
          obtain rfl : ys = [] := List.eq_nil_of_length_eq_zero (by omega)
          have HZ1 : Aside0 ((zs ++ [y]) ++ pick r_either kq ([]) ([]) = Z) := ⟨by have h_ := HZ.out.1; simp only [pick, show r_either false true = true from rfl, if_true, if_false, Bool.false_eq_true, List.nil_append] at h_; simpa using h_⟩
          go_wp2
          go_quiet (fail)
          try go_wp2
          go_quiet (fail)
          try go_wp2
          go_quiet (fail)
          go_wp2_with (first | (go_at_call 66; (refine (r_either_calls false true _).mono ?_); rintro e w3 ⟨rfl, rfl⟩) | (at_builtin; (refine print_append_cells (w0 := w) w.heap.size rfl (.tmp 69) (.tmp 71) 31 3 (.int .i64 0) 1 8 rfl Try.underlying31 info3' rfl (by decide) (by decide) v zs.length (zs.map (Value.int .i64)) [.int .i64 (y)] rfl rfl rfl ?a1 ?aO ?aB ?aS ?aL ?_); (case a1 => intro u hu; rw [List.mem_singleton] at hu; subst hu; rfl); (case aO => repeat (first | exact HP.out.1 | (with_reducible refine own_drewN ?_ _))); (case aB => repeat (first | exact HP.out.2 | (with_reducible refine pw_below_drewN ?_ _))); (case aS => refine Below.size (B := w.heap.size) (w := w) ?_; repeat (first | exact HP.out.2 | (with_reducible refine pw_below_drewN ?_ _))); (case aL => have := HZ.out.2; omega); intro v1 w4 ho hb hg hat; obtain ⟨gb, cp, rfl⟩ := pk_form ho (by omega); have HQ := Aside0.mk (And.intro ho hb); clear ho hb hg hat))
          go_roundg kq
          case measure => omega
          case rel => exact ⟨A, c, [], some bd, 0, [], _, zs ++ [y], (by first | rfl | simp), (by first | rfl | simp), rfl, ⟨by have := HM.out; simp only [List.length_cons, List.length_nil] at this ⊢; omega⟩, ⟨(HS0.out.1), (sl_nil _ _)⟩, ⟨HZ1.out, by have h_ := HZ.out.2; (try simp only [List.length_cons, List.length_append, List.length_nil] at h_ ⊢); omega⟩, ⟨by simpa using HQ.out.1, HQ.out.2⟩⟩
        · have hd2 : (d = 1) = False := eq_false hd1
          have HZ1 : Aside0 ((zs ++ [y]) ++ pick r_either kq ([]) (ys) = Z) := ⟨by have h_ := HZ.out.1; simp only [pick, show r_either false true = true from rfl, if_true, if_false, Bool.false_eq_true, List.nil_append] at h_; simpa using h_⟩
          go_wp2
          go_quiet (fail)
          try go_wp2
          go_quiet (fail)
          try go_wp2
          go_quiet (fail)
          go_wp2_with (first | (go_at_call 66; (refine (r_either_calls false true _).mono ?_); rintro e w3 ⟨rfl, rfl⟩) | (at_builtin; (refine print_append_cells (w0 := w) w.heap.size rfl (.tmp 69) (.tmp 71) 31 3 (.int .i64 0) 1 8 rfl Try.underlying31 info3' rfl (by decide) (by decide) v zs.length (zs.map (Value.int .i64)) [.int .i64 (y)] rfl rfl rfl ?a1 ?aO ?aB ?aS ?aL ?_); (case a1 => intro u hu; rw [List.mem_singleton] at hu; subst hu; rfl); (case aO => repeat (first | exact HP.out.1 | (with_reducible refine own_drewN ?_ _))); (case aB => repeat (first | exact HP.out.2 | (with_reducible refine pw_below_drewN ?_ _))); (case aS => refine Below.size (B := w.heap.size) (w := w) ?_; repeat (first | exact HP.out.2 | (with_reducible refine pw_below_drewN ?_ _))); (case aL => have := HZ.out.2; omega); intro v1 w4 ho hb hg hat; obtain ⟨gb, cp, rfl⟩ := pk_form ho (by omega); have HQ := Aside0.mk (And.intro ho hb); clear ho hb hg hat))
          go_roundg kq
          case measure => omega
          case rel => exact ⟨A, c, [], some (bd.add 1), d - 1, ys, _, zs ++ [y], (by first | rfl | simp), (by first | rfl | simp), rfl, ⟨by have := HM.out; simp only [List.length_cons, List.length_nil] at this ⊢; omega⟩, ⟨(HS0.out.1), (sl_tail HS0.out.2)⟩, ⟨HZ1.out, by have h_ := HZ.out.2; (try simp only [List.length_cons, List.length_append, List.length_nil] at h_ ⊢); omega⟩, ⟨by simpa using HQ.out.1, HQ.out.2⟩⟩
    | cons x xs =>
      obtain ⟨kq, rfl⟩ : ∃ m, gk = m + 1 := ⟨gk - 1, by have h_ := HM.out; simp only [List.length_cons, List.length_nil] at h_; omega⟩
      cases ys with
      | nil =>
        obtain ⟨ad, rfl, hx0, hx1, hxc⟩ := sl_head HS.out.1
        have a1 : decide ((0 : Int) < (xs.length : Int) + 1) = true := decide_eq_true (by omega)
        have a2 : ((xs.length : Int) + 1 == 0) = false := beq_false_of_ne (by omega)
        by_cases hc1 : c = 1
        · subst hc1
          obtain rfl : xs = [] := List.eq_nil_of_length_eq_zero (by omega)
          have HZ1 : Aside0 ((zs ++ [x]) ++ pick r_either kq ([]) ([]) = Z) := ⟨by have h_ := HZ.out.1; simp only [pick, show r_either true false = true from rfl, if_true, if_false, Bool.false_eq_true, List.nil_append] at h_; simpa using h_⟩
          go_wp2
          go_quiet (fail)
          try go_wp2
          go_quiet (fail)
          try go_wp2
          go_quiet (fail)
          go_wp2_with (first | (go_at_call 66; (refine (r_either_calls true false _).mono ?_); rintro e w3 ⟨rfl, rfl⟩) | (at_builtin; (refine print_append_cells (w0 := w) w.heap.size rfl (.tmp 69) (.tmp 71) 31 3 (.int .i64 0) 1 8 rfl Try.underlying31 info3' rfl (by decide) (by decide) v zs.length (zs.map (Value.int .i64)) [.int .i64 (x)] rfl rfl rfl ?a1 ?aO ?aB ?aS ?aL ?_); (case a1 => intro u hu; rw [List.mem_singleton] at hu; subst hu; rfl); (case aO => repeat (first | exact HP.out.1 | (with_reducible refine own_drewN ?_ _))); (case aB => repeat (first | exact HP.out.2 | (with_reducible refine pw_below_drewN ?_ _))); (case aS => refine Below.size (B := w.heap.size) (w := w) ?_; repeat (first | exact HP.out.2 | (with_reducible refine pw_below_drewN ?_ _))); (case aL => have := HZ.out.2; omega); intro v1 w4 ho hb hg hat; obtain ⟨gb, cp, rfl⟩ := pk_form ho (by omega); have HQ := Aside0.mk (And.intro ho hb); clear ho hb hg hat))
          go_roundg kq
          case measure => omega
          case rel => exact ⟨some ad, 0, [], B, d, [], _, zs ++ [x], (by first | rfl | simp), (by first | rfl | simp), rfl, ⟨by have := HM.out; simp only [List.length_cons, List.length_nil] at this ⊢; omega⟩, ⟨(sl_nil _ _), (HS0.out.2)⟩, ⟨HZ1.out, by have h_ := HZ.out.2; (try simp only [List.length_cons, List.length_append, List.length_nil] at h_ ⊢); omega⟩, ⟨by simpa using HQ.out.1, HQ.out.2⟩⟩
        · have hc2 : (c = 1) = False := eq_false hc1
          have HZ1 : Aside0 ((zs ++ [x]) ++ pick r_either kq (xs) ([]) = Z) := ⟨by have h_ := HZ.out.1; simp only [pick, show r_either true false = true from rfl, if_true, if_false, Bool.false_eq_true, List.nil_append] at h_; simpa using h_⟩
          go_wp2
          go_quiet (fail)
          try go_wp2
          go_quiet (fail)
          try go_wp2
          go_quiet (fail)
          go_wp2_with (first | (go_at_call 66; (refine (r_either_calls true false _).mono ?_); rintro e w3 ⟨rfl, rfl⟩) | (at_builtin; (refine print_append_cells (w0 := w) w.heap.size rfl (.tmp 69) (.tmp 71) 31 3 (.int .i64 0) 1 8 rfl Try.underlying31 info3' rfl (by decide) (by decide) v zs.length (zs.map (Value.int .i64)) [.int .i64 (x)] rfl rfl rfl ?a1 ?aO ?aB ?aS ?aL ?_); (case a1 => intro u hu; rw [List.mem_singleton] at hu; subst hu; rfl); (case aO => repeat (first | exact HP.out.1 | (with_reducible refine own_drewN ?_ _))); (case aB => repeat (first | exact HP.out.2 | (with_reducible refine pw_below_drewN ?_ _))); (case aS => refine Below.size (B := w.heap.size) (w := w) ?_; repeat (first | exact HP.out.2 | (with_reducible refine pw_below_drewN ?_ _))); (case aL => have := HZ.out.2; omega); intro v1 w4 ho hb hg hat; obtain ⟨gb, cp, rfl⟩ := pk_form ho (by omega); have HQ := Aside0.mk (And.intro ho hb); clear ho hb hg hat))
          go_roundg kq
          case measure => omega
          case rel => exact ⟨some (ad.add 1), c - 1, xs, B, d, [], _, zs ++ [x], (by first | rfl | simp), (by first | rfl | simp), rfl, ⟨by have := HM.out; simp only [List.length_cons, List.length_nil] at this ⊢; omega⟩, ⟨(sl_tail HS0.out.1), (HS0.out.2)⟩, ⟨HZ1.out, by have h_ := HZ.out.2; (try simp only [List.length_cons, List.length_append, List.length_nil] at h_ ⊢); omega⟩, ⟨by simpa using HQ.out.1, HQ.out.2⟩⟩
      | cons y ys =>
        by_cases h0 : x < y
        · skip
          obtain ⟨ad, rfl, hx0, hx1, hxc⟩ := sl_head HS.out.1
          have a1 : decide ((0 : Int) < (xs.length : Int) + 1) = true := decide_eq_true (by omega)
          have a2 : ((xs.length : Int) + 1 == 0) = false := beq_false_of_ne (by omega)
          obtain ⟨bd, rfl, hy0, hy1, hyc⟩ := sl_head HS.out.2
          have b1 : decide ((0 : Int) < (ys.length : Int) + 1) = true := decide_eq_true (by omega)
          have b2 : ((ys.length : Int) + 1 == 0) = false := beq_false_of_ne (by omega)
          have d1 : decide (x ≤ y) = true := decide_eq_true (by omega)
          have d2 : decide (y ≤ x) = false := decide_eq_false (by omega)
          by_cases hc1 : c = 1
          · subst hc1
            obtain rfl : xs = [] := List.eq_nil_of_length_eq_zero (by omega)
            have HZ1 : Aside0 ((zs ++ [x]) ++ pick r_either kq ([]) (y :: ys) = Z) := ⟨by have h_ := HZ.out.1; simp only [pick, show r_either true false = true from rfl, if_pos h0, if_true, if_false, Bool.false_eq_true, List.nil_append] at h_; simpa using h_⟩
            go_wp2
            go_quiet (fail)
            try go_wp2
            go_quiet (fail)
            try go_wp2
            go_quiet (fail)
            go_wp2_with (first | (go_at_call 66; (refine (r_either_calls true false _).mono ?_); rintro e w3 ⟨rfl, rfl⟩) | (at_builtin; (refine print_append_cells (w0 := w) w.heap.size rfl (.tmp 69) (.tmp 71) 31 3 (.int .i64 0) 1 8 rfl Try.underlying31 info3' rfl (by decide) (by decide) v zs.length (zs.map (Value.int .i64)) [.int .i64 (x)] rfl rfl rfl ?a1 ?aO ?aB ?aS ?aL ?_); (case a1 => intro u hu; rw [List.mem_singleton] at hu; subst hu; rfl); (case aO => repeat (first | exact HP.out.1 | (with_reducible refine own_drewN ?_ _))); (case aB => repeat (first | exact HP.out.2 | (with_reducible refine pw_below_drewN ?_ _))); (case aS => refine Below.size (B := w.heap.size) (w := w) ?_; repeat (first | exact HP.out.2 | (with_reducible refine pw_below_drewN ?_ _))); (case aL => have := HZ.out.2; omega); intro v1 w4 ho hb hg hat; obtain ⟨gb, cp, rfl⟩ := pk_form ho (by omega); have HQ := Aside0.mk (And.intro ho hb); clear ho hb hg hat))
            go_roundg kq
            case measure => omega
            case rel => exact ⟨some ad, 0, [], some bd, d, y :: ys, _, zs ++ [x], (by first | rfl | simp), (by first | rfl | simp), rfl, ⟨by have := HM.out; simp only [List.length_cons, List.length_nil] at this ⊢; omega⟩, ⟨(sl_nil _ _), (HS0.out.2)⟩, ⟨HZ1.out, by have h_ := HZ.out.2; (try simp only [List.length_cons, List.length_append, List.length_nil] at h_ ⊢); omega⟩, ⟨by simpa using HQ.out.1, HQ.out.2⟩⟩
          · have hc2 : (c = 1) = False := eq_false hc1
            have HZ1 : Aside0 ((zs ++ [x]) ++ pick r_either kq (xs) (y :: ys) = Z) := ⟨by have h_ := HZ.out.1; simp only [pick, show r_either true false = true from rfl, if_pos h0, if_true, if_false, Bool.false_eq_true, List.nil_append] at h_; simpa using h_⟩
            go_wp2
            go_quiet (fail)
            try go_wp2
            go_quiet (fail)
            try go_wp2
            go_quiet (fail)
            go_wp2_with (first | (go_at_call 66; (refine (r_either_calls true false _).mono ?_); rintro e w3 ⟨rfl, rfl⟩) | (at_builtin; (refine print_append_cells (w0 := w) w.heap.size rfl (.tmp 69) (.tmp 71) 31 3 (.int .i64 0) 1 8 rfl Try.underlying31 info3' rfl (by decide) (by decide) v zs.length (zs.map (Value.int .i64)) [.int .i64 (x)] rfl rfl rfl ?a1 ?aO ?aB ?aS ?aL ?_); (case a1 => intro u hu; rw [List.mem_singleton] at hu; subst hu; rfl); (case aO => repeat (first | exact HP.out.1 | (with_reducible refine own_drewN ?_ _))); (case aB => repeat (first | exact HP.out.2 | (with_reducible refine pw_below_drewN ?_ _))); (case aS => refine Below.size (B := w.heap.size) (w := w) ?_; repeat (first | exact HP.out.2 | (with_reducible refine pw_below_drewN ?_ _))); (case aL => have := HZ.out.2; omega); intro v1 w4 ho hb hg hat; obtain ⟨gb, cp, rfl⟩ := pk_form ho (by omega); have HQ := Aside0.mk (And.intro ho hb); clear ho hb hg hat))
            go_roundg kq
            case measure => omega
            case rel => exact ⟨some (ad.add 1), c - 1, xs, some bd, d, y :: ys, _, zs ++ [x], (by first | rfl | simp), (by first | rfl | simp), rfl, ⟨by have := HM.out; simp only [List.length_cons, List.length_nil] at this ⊢; omega⟩, ⟨(sl_tail HS0.out.1), (HS0.out.2)⟩, ⟨HZ1.out, by have h_ := HZ.out.2; (try simp only [List.length_cons, List.length_append, List.length_nil] at h_ ⊢); omega⟩, ⟨by simpa using HQ.out.1, HQ.out.2⟩⟩
        · by_cases h1 : y < x
          · skip
            obtain ⟨ad, rfl, hx0, hx1, hxc⟩ := sl_head HS.out.1
            have a1 : decide ((0 : Int) < (xs.length : Int) + 1) = true := decide_eq_true (by omega)
            have a2 : ((xs.length : Int) + 1 == 0) = false := beq_false_of_ne (by omega)
            obtain ⟨bd, rfl, hy0, hy1, hyc⟩ := sl_head HS.out.2
            have b1 : decide ((0 : Int) < (ys.length : Int) + 1) = true := decide_eq_true (by omega)
            have b2 : ((ys.length : Int) + 1 == 0) = false := beq_false_of_ne (by omega)
            have d1 : decide (x ≤ y) = false := decide_eq_false (by omega)
            have d2 : decide (y ≤ x) = true := decide_eq_true (by omega)
            by_cases hd1 : d = 1
            · subst hd1
              obtain rfl : ys = [] := List.eq_nil_of_length_eq_zero (by omega)
              have HZ1 : Aside0 ((zs ++ [y]) ++ pick r_either kq (x :: xs) ([]) = Z) := ⟨by have h_ := HZ.out.1; simp only [pick, show r_either false true = true from rfl, if_neg h0, if_pos h1, if_true, if_false, Bool.false_eq_true, List.nil_append] at h_; simpa using h_⟩
              go_wp2
              go_quiet (fail)
              try go_wp2
              go_quiet (fail)
              try go_wp2
              go_quiet (fail)
              go_wp2_with (first | (go_at_call 66; (refine (r_either_calls false true _).mono ?_); rintro e w3 ⟨rfl, rfl⟩) | (at_builtin; (refine print_append_cells (w0 := w) w.heap.size rfl (.tmp 69) (.tmp 71) 31 3 (.int .i64 0) 1 8 rfl Try.underlying31 info3' rfl (by decide) (by decide) v zs.length (zs.map (Value.int .i64)) [.int .i64 (y)] rfl rfl rfl ?a1 ?aO ?aB ?aS ?aL ?_); (case a1 => intro u hu; rw [List.mem_singleton] at hu; subst hu; rfl); (case aO => repeat (first | exact HP.out.1 | (with_reducible refine own_drewN ?_ _))); (case aB => repeat (first | exact HP.out.2 | (with_reducible refine pw_below_drewN ?_ _))); (case aS => refine Below.size (B := w.heap.size) (w := w) ?_; repeat (first | exact HP.out.2 | (with_reducible refine pw_below_drewN ?_ _))); (case aL => have := HZ.out.2; omega); intro v1 w4 ho hb hg hat; obtain ⟨gb, cp, rfl⟩ := pk_form ho (by omega); have HQ := Aside0.mk (And.intro ho hb); clear ho hb hg hat))
              go_roundg kq
              case measure => omega
              case rel => exact ⟨some ad, c, x :: xs, some bd, 0, [], _, zs ++ [y], (by first | rfl | simp), (by first | rfl | simp), rfl, ⟨by have := HM.out; simp only [List.length_cons, List.length_nil] at this ⊢; omega⟩, ⟨(HS0.out.1), (sl_nil _ _)⟩, ⟨HZ1.out, by have h_ := HZ.out.2; (try simp only [List.length_cons, List.length_append, List.length_nil] at h_ ⊢); omega⟩, ⟨by simpa using HQ.out.1, HQ.out.2⟩⟩
            · have hd2 : (d = 1) = False := eq_false hd1
              have HZ1 : Aside0 ((zs ++ [y]) ++ pick r_either kq (x :: xs) (ys) = Z) := ⟨by have h_ := HZ.out.1; simp only [pick, show r_either false true = true from rfl, if_neg h0, if_pos h1, if_true, if_false, Bool.false_eq_true, List.nil_append] at h_; simpa using h_⟩
              go_wp2
              go_quiet (fail)
              try go_wp2
              go_quiet (fail)
              try go_wp2
              go_quiet (fail)
              go_wp2_with (first | (go_at_call 66; (refine (r_either_calls false true _).mono ?_); rintro e w3 ⟨rfl, rfl⟩) | (at_builtin; (refine print_append_cells (w0 := w) w.heap.size rfl (.tmp 69) (.tmp 71) 31 3 (.int .i64 0) 1 8 rfl Try.underlying31 info3' rfl (by decide) (by decide) v zs.length (zs.map (Value.int .i64)) [.int .i64 (y)] rfl rfl rfl ?a1 ?aO ?aB ?aS ?aL ?_); (case a1 => intro u hu; rw [List.mem_singleton] at hu; subst hu; rfl); (case aO => repeat (first | exact HP.out.1 | (with_reducible refine own_drewN ?_ _))); (case aB => repeat (first | exact HP.out.2 | (with_reducible refine pw_below_drewN ?_ _))); (case aS => refine Below.size (B := w.heap.size) (w := w) ?_; repeat (first | exact HP.out.2 | (with_reducible refine pw_below_drewN ?_ _))); (case aL => have := HZ.out.2; omega); intro v1 w4 ho hb hg hat; obtain ⟨gb, cp, rfl⟩ := pk_form ho (by omega); have HQ := Aside0.mk (And.intro ho hb); clear ho hb hg hat))
              go_roundg kq
              case measure => omega
              case rel => exact ⟨some ad, c, x :: xs, some (bd.add 1), d - 1, ys, _, zs ++ [y], (by first | rfl | simp), (by first | rfl | simp), rfl, ⟨by have := HM.out; simp only [List.length_cons, List.length_nil] at this ⊢; omega⟩, ⟨(HS0.out.1), (sl_tail HS0.out.2)⟩, ⟨HZ1.out, by have h_ := HZ.out.2; (try simp only [List.length_cons, List.length_append, List.length_nil] at h_ ⊢); omega⟩, ⟨by simpa using HQ.out.1, HQ.out.2⟩⟩
          · skip
            obtain ⟨ad, rfl, hx0, hx1, hxc⟩ := sl_head HS.out.1
            have a1 : decide ((0 : Int) < (xs.length : Int) + 1) = true := decide_eq_true (by omega)
            have a2 : ((xs.length : Int) + 1 == 0) = false := beq_false_of_ne (by omega)
            obtain ⟨bd, rfl, hy0, hy1, hyc⟩ := sl_head HS.out.2
            have b1 : decide ((0 : Int) < (ys.length : Int) + 1) = true := decide_eq_true (by omega)
            have b2 : ((ys.length : Int) + 1 == 0) = false := beq_false_of_ne (by omega)
            have d1 : decide (x ≤ y) = true := decide_eq_true (by omega)
            have d2 : decide (y ≤ x) = true := decide_eq_true (by omega)
            by_cases hc1 : c = 1
            · subst hc1
              obtain rfl : xs = [] := List.eq_nil_of_length_eq_zero (by omega)
              by_cases hd1 : d = 1
              · subst hd1
                obtain rfl : ys = [] := List.eq_nil_of_length_eq_zero (by omega)
                have HZ1 : Aside0 ((zs ++ [y]) ++ pick r_either kq ([]) ([]) = Z) := ⟨by have h_ := HZ.out.1; simp only [pick, show r_either true true = true from rfl, if_neg h0, if_neg h1, if_true, if_false, Bool.false_eq_true, List.nil_append] at h_; simpa using h_⟩
                go_wp2
                go_quiet (fail)
                try go_wp2
                go_quiet (fail)
                try go_wp2
                go_quiet (fail)
                go_wp2_with (first | (go_at_call 66; (refine (r_either_calls true true _).mono ?_); rintro e w3 ⟨rfl, rfl⟩) | (at_builtin; (refine print_append_cells (w0 := w) w.heap.size rfl (.tmp 69) (.tmp 71) 31 3 (.int .i64 0) 1 8 rfl Try.underlying31 info3' rfl (by decide) (by decide) v zs.length (zs.map (Value.int .i64)) [.int .i64 (y)] rfl rfl rfl ?a1 ?aO ?aB ?aS ?aL ?_); (case a1 => intro u hu; rw [List.mem_singleton] at hu; subst hu; rfl); (case aO => repeat (first | exact HP.out.1 | (with_reducible refine own_drewN ?_ _))); (case aB => repeat (first | exact HP.out.2 | (with_reducible refine pw_below_drewN ?_ _))); (case aS => refine Below.size (B := w.heap.size) (w := w) ?_; repeat (first | exact HP.out.2 | (with_reducible refine pw_below_drewN ?_ _))); (case aL => have := HZ.out.2; omega); intro v1 w4 ho hb hg hat; obtain ⟨gb, cp, rfl⟩ := pk_form ho (by omega); have HQ := Aside0.mk (And.intro ho hb); clear ho hb hg hat))
                go_quiet (fail)
                go_wp2_with (first | (go_at_call 66; (refine (r_either_calls true true _).mono ?_); rintro e w3 ⟨rfl, rfl⟩) | (at_builtin; (refine print_append_cells (w0 := w) w.heap.size rfl (.tmp 69) (.tmp 71) 31 3 (.int .i64 0) 1 8 rfl Try.underlying31 info3' rfl (by decide) (by decide) v zs.length (zs.map (Value.int .i64)) [.int .i64 (y)] rfl rfl rfl ?a1 ?aO ?aB ?aS ?aL ?_); (case a1 => intro u hu; rw [List.mem_singleton] at hu; subst hu; rfl); (case aO => repeat (first | exact HP.out.1 | (with_reducible refine own_drewN ?_ _))); (case aB => repeat (first | exact HP.out.2 | (with_reducible refine pw_below_drewN ?_ _))); (case aS => refine Below.size (B := w.heap.size) (w := w) ?_; repeat (first | exact HP.out.2 | (with_reducible refine pw_below_drewN ?_ _))); (case aL => have := HZ.out.2; omega); intro v1 w4 ho hb hg hat; obtain ⟨gb, cp, rfl⟩ := pk_form ho (by omega); have HQ := Aside0.mk (And.intro ho hb); clear ho hb hg hat))
                go_roundg kq
                case measure => omega
                case rel => exact ⟨some ad, 0, [], some bd, 0, [], _, zs ++ [y], (by first | rfl | simp), (by first | rfl | simp), rfl, ⟨by have := HM.out; simp only [List.length_cons, List.length_nil] at this ⊢; omega⟩, ⟨(sl_nil _ _), (sl_nil _ _)⟩, ⟨HZ1.out, by have h_ := HZ.out.2; (try simp only [List.length_cons, List.length_append, List.length_nil] at h_ ⊢); omega⟩, ⟨by simpa using HQ.out.1, HQ.out.2⟩⟩
              · have hd2 : (d = 1) = False := eq_false hd1
                have HZ1 : Aside0 ((zs ++ [y]) ++ pick r_either kq ([]) (ys) = Z) := ⟨by have h_ := HZ.out.1; simp only [pick, show r_either true true = true from rfl, if_neg h0, if_neg h1, if_true, if_false, Bool.false_eq_true, List.nil_append] at h_; simpa using h_⟩
                go_wp2
                go_quiet (fail)
                try go_wp2
                go_quiet (fail)
                try go_wp2
                go_quiet (fail)
                go_wp2_with (first | (go_at_call 66; (refine (r_either_calls true true _).mono ?_); rintro e w3 ⟨rfl, rfl⟩) | (at_builtin; (refine print_append_cells (w0 := w) w.heap.size rfl (.tmp 69) (.tmp 71) 31 3 (.int .i64 0) 1 8 rfl Try.underlying31 info3' rfl (by decide) (by decide) v zs.length (zs.map (Value.int .i64)) [.int .i64 (y)] rfl rfl rfl ?a1 ?aO ?aB ?aS ?aL ?_); (case a1 => intro u hu; rw [List.mem_singleton] at hu; subst hu; rfl); (case aO => repeat (first | exact HP.out.1 | (with_reducible refine own_drewN ?_ _))); (case aB => repeat (first | exact HP.out.2 | (with_reducible refine pw_below_drewN ?_ _))); (case aS => refine Below.size (B := w.heap.size) (w := w) ?_; repeat (first | exact HP.out.2 | (with_reducible refine pw_below_drewN ?_ _))); (case aL => have := HZ.out.2; omega); intro v1 w4 ho hb hg hat; obtain ⟨gb, cp, rfl⟩ := pk_form ho (by omega); have HQ := Aside0.mk (And.intro ho hb); clear ho hb hg hat))
                go_quiet (fail)
                go_wp2_with (first | (go_at_call 66; (refine (r_either_calls true true _).mono ?_); rintro e w3 ⟨rfl, rfl⟩) | (at_builtin; (refine print_append_cells (w0 := w) w.heap.size rfl (.tmp 69) (.tmp 71) 31 3 (.int .i64 0) 1 8 rfl Try.underlying31 info3' rfl (by decide) (by decide) v zs.length (zs.map (Value.int .i64)) [.int .i64 (y)] rfl rfl rfl ?a1 ?aO ?aB ?aS ?aL ?_); (case a1 => intro u hu; rw [List.mem_singleton] at hu; subst hu; rfl); (case aO => repeat (first | exact HP.out.1 | (with_reducible refine own_drewN ?_ _))); (case aB => repeat (first | exact HP.out.2 | (with_reducible refine pw_below_drewN ?_ _))); (case aS => refine Below.size (B := w.heap.size) (w := w) ?_; repeat (first | exact HP.out.2 | (with_reducible refine pw_below_drewN ?_ _))); (case aL => have := HZ.out.2; omega); intro v1 w4 ho hb hg hat; obtain ⟨gb, cp, rfl⟩ := pk_form ho (by omega); have HQ := Aside0.mk (And.intro ho hb); clear ho hb hg hat))
                go_roundg kq
                case measure => omega
                case rel => exact ⟨some ad, 0, [], some (bd.add 1), d - 1, ys, _, zs ++ [y], (by first | rfl | simp), (by first | rfl | simp), rfl, ⟨by have := HM.out; simp only [List.length_cons, List.length_nil] at this ⊢; omega⟩, ⟨(sl_nil _ _), (sl_tail HS0.out.2)⟩, ⟨HZ1.out, by have h_ := HZ.out.2; (try simp only [List.length_cons, List.length_append, List.length_nil] at h_ ⊢); omega⟩, ⟨by simpa using HQ.out.1, HQ.out.2⟩⟩
            · have hc2 : (c = 1) = False := eq_false hc1
              by_cases hd1 : d = 1
              · subst hd1
                obtain rfl : ys = [] := List.eq_nil_of_length_eq_zero (by omega)
                have HZ1 : Aside0 ((zs ++ [y]) ++ pick r_either kq (xs) ([]) = Z) := ⟨by have h_ := HZ.out.1; simp only [pick, show r_either true true = true from rfl, if_neg h0, if_neg h1, if_true, if_false, Bool.false_eq_true, List.nil_append] at h_; simpa using h_⟩
                go_wp2
                go_quiet (fail)
                try go_wp2
                go_quiet (fail)
                try go_wp2
                go_quiet (fail)
                go_wp2_with (first | (go_at_call 66; (refine (r_either_calls true true _).mono ?_); rintro e w3 ⟨rfl, rfl⟩) | (at_builtin; (refine print_append_cells (w0 := w) w.heap.size rfl (.tmp 69) (.tmp 71) 31 3 (.int .i64 0) 1 8 rfl Try.underlying31 info3' rfl (by decide) (by decide) v zs.length (zs.map (Value.int .i64)) [.int .i64 (y)] rfl rfl rfl ?a1 ?aO ?aB ?aS ?aL ?_); (case a1 => intro u hu; rw [List.mem_singleton] at hu; subst hu; rfl); (case aO => repeat (first | exact HP.out.1 | (with_reducible refine own_drewN ?_ _))); (case aB => repeat (first | exact HP.out.2 | (with_reducible refine pw_below_drewN ?_ _))); (case aS => refine Below.size (B := w.heap.size) (w := w) ?_; repeat (first | exact HP.out.2 | (with_reducible refine pw_below_drewN ?_ _))); (case aL => have := HZ.out.2; omega); intro v1 w4 ho hb hg hat; obtain ⟨gb, cp, rfl⟩ := pk_form ho (by omega); have HQ := Aside0.mk (And.intro ho hb); clear ho hb hg hat))
                go_quiet (fail)
                go_wp2_with (first | (go_at_call 66; (refine (r_either_calls true true _).mono ?_); rintro e w3 ⟨rfl, rfl⟩) | (at_builtin; (refine print_append_cells (w0 := w) w.heap.size rfl (.tmp 69) (.tmp 71) 31 3 (.int .i64 0) 1 8 rfl Try.underlying31 info3' rfl (by decide) (by decide) v zs.length (zs.map (Value.int .i64)) [.int .i64 (y)] rfl rfl rfl ?a1 ?aO ?aB ?aS ?aL ?_); (case a1 => intro u hu; rw [List.mem_singleton] at hu; subst hu; rfl); (case aO => repeat (first | exact HP.out.1 | (with_reducible refine own_drewN ?_ _))); (case aB => repeat (first | exact HP.out.2 | (with_reducible refine pw_below_drewN ?_ _))); (case aS => refine Below.size (B := w.heap.size) (w := w) ?_; repeat (first | exact HP.out.2 | (with_reducible refine pw_below_drewN ?_ _))); (case aL => have := HZ.out.2; omega); intro v1 w4 ho hb hg hat; obtain ⟨gb, cp, rfl⟩ := pk_form ho (by omega); have HQ := Aside0.mk (And.intro ho hb); clear ho hb hg hat))
                go_roundg kq
                case measure => omega
                case rel => exact ⟨some (ad.add 1), c - 1, xs, some bd, 0, [], _, zs ++ [y], (by first | rfl | simp), (by first | rfl | simp), rfl, ⟨by have := HM.out; simp only [List.length_cons, List.length_nil] at this ⊢; omega⟩, ⟨(sl_tail HS0.out.1), (sl_nil _ _)⟩, ⟨HZ1.out, by have h_ := HZ.out.2; (try simp only [List.length_cons, List.length_append, List.length_nil] at h_ ⊢); omega⟩, ⟨by simpa using HQ.out.1, HQ.out.2⟩⟩
              · have hd2 : (d = 1) = False := eq_false hd1
                have HZ1 : Aside0 ((zs ++ [y]) ++ pick r_either kq (xs) (ys) = Z) := ⟨by have h_ := HZ.out.1; simp only [pick, show r_either true true = true from rfl, if_neg h0, if_neg h1, if_true, if_false, Bool.false_eq_true, List.nil_append] at h_; simpa using h_⟩
                go_wp2
                go_quiet (fail)
                try go_wp2
                go_quiet (fail)
                try go_wp2
                go_quiet (fail)
                go_wp2_with (first | (go_at_call 66; (refine (r_either_calls true true _).mono ?_); rintro e w3 ⟨rfl, rfl⟩) | (at_builtin; (refine print_append_cells (w0 := w) w.heap.size rfl (.tmp 69) (.tmp 71) 31 3 (.int .i64 0) 1 8 rfl Try.underlying31 info3' rfl (by decide) (by decide) v zs.length (zs.map (Value.int .i64)) [.int .i64 (y)] rfl rfl rfl ?a1 ?aO ?aB ?aS ?aL ?_); (case a1 => intro u hu; rw [List.mem_singleton] at hu; subst hu; rfl); (case aO => repeat (first | exact HP.out.1 | (with_reducible refine own_drewN ?_ _))); (case aB => repeat (first | exact HP.out.2 | (with_reducible refine pw_below_drewN ?_ _))); (case aS => refine Below.size (B := w.heap.size) (w := w) ?_; repeat (first | exact HP.out.2 | (with_reducible refine pw_below_drewN ?_ _))); (case aL => have := HZ.out.2; omega); intro v1 w4 ho hb hg hat; obtain ⟨gb, cp, rfl⟩ := pk_form ho (by omega); have HQ := Aside0.mk (And.intro ho hb); clear ho hb hg hat))
                go_quiet (fail)
                go_wp2_with (first | (go_at_call 66; (refine (r_either_calls true true _).mono ?_); rintro e w3 ⟨rfl, rfl⟩) | (at_builtin; (refine print_append_cells (w0 := w) w.heap.size rfl (.tmp 69) (.tmp 71) 31 3 (.int .i64 0) 1 8 rfl Try.underlying31 info3' rfl (by decide) (by decide) v zs.length (zs.map (Value.int .i64)) [.int .i64 (y)] rfl rfl rfl ?a1 ?aO ?aB ?aS ?aL ?_); (case a1 => intro u hu; rw [List.mem_singleton] at hu; subst hu; rfl); (case aO => repeat (first | exact HP.out.1 | (with_reducible refine own_drewN ?_ _))); (case aB => repeat (first | exact HP.out.2 | (with_reducible refine pw_below_drewN ?_ _))); (case aS => refine Below.size (B := w.heap.size) (w := w) ?_; repeat (first | exact HP.out.2 | (with_reducible refine pw_below_drewN ?_ _))); (case aL => have := HZ.out.2; omega); intro v1 w4 ho hb hg hat; obtain ⟨gb, cp, rfl⟩ := pk_form ho (by omega); have HQ := Aside0.mk (And.intro ho hb); clear ho hb hg hat))
                go_roundg kq
                case measure => omega
                case rel => exact ⟨some (ad.add 1), c - 1, xs, some (bd.add 1), d - 1, ys, _, zs ++ [y], (by first | rfl | simp), (by first | rfl | simp), rfl, ⟨by have := HM.out; simp only [List.length_cons, List.length_nil] at this ⊢; omega⟩, ⟨(sl_tail HS0.out.1), (sl_tail HS0.out.2)⟩, ⟨HZ1.out, by have h_ := HZ.out.2; (try simp only [List.length_cons, List.length_append, List.length_nil] at h_ ⊢); omega⟩, ⟨by simpa using HQ.out.1, HQ.out.2⟩⟩
end Go.Proofs.Ytgfbgfbnmiainaa.Fam
/-! Plain laws of the small functions on lists of numbers. -/
namespace Go.Proofs.Ytgfbgfbnmiainaa.Fam
set_option linter.unusedVariables false
set_option linter.unusedSimpArgs false
open Go.RowKit Go.Proofs.YtgfbgfbnmiainaaW.PrintWords Go.Proofs.YtgfbgfbnmiainaaW.PrintLast Go.Proofs.YtgfbgfbnmiainaaW.PrintMore Go.Proofs.Ytgfbgfbnmiainaa.Q
theorem index_from (xs : List Int) (t : Int) (hl : xs.length ≤ 4611686018427387904) : ∀ n i k, i + n = xs.length → n < k → ∃ r, slices_Index_int_int.l0 k xs t (xs.length : Int) (i : Int) = some r ∧ (0 ≤ r ↔ t ∈ xs.drop i) := by
  intro n
  induction n with
  | zero =>
    intro i k hi hk
    obtain ⟨k, rfl⟩ : ∃ m, k = m + 1 := ⟨k - 1, by omega⟩
    refine ⟨-1, ?_, ?_⟩
    · unfold slices_Index_int_int.l0
      rw [if_neg (by omega)]
    · rw [List.drop_eq_nil_of_le (by omega)]; simp
  | succ n ih =>
    intro i k hi hk
    obtain ⟨k, rfl⟩ : ∃ m, k = m + 1 := ⟨k - 1, by omega⟩
    have hlt : i < xs.length := by omega
    unfold slices_Index_int_int.l0
    rw [if_pos (by omega), if_pos (by omega), if_pos (by omega), rd_at hlt, drop_at hlt]
    by_cases he : t = xs[i]
    · exact ⟨i, by rw [if_pos he], by rw [List.mem_cons]; exact ⟨fun _ => .inl he, fun _ => by omega⟩⟩
    · obtain ⟨r, hr, hm⟩ := ih (i + 1) k (by omega) (by omega)
      exact ⟨r, by rw [if_neg he, wrap_next i (by omega)]; exact hr, by rw [hm, List.mem_cons]; exact ⟨.inr, fun h => h.resolve_left he⟩⟩
theorem contains_f (xs : List Int) (t : Int) (hl : xs.length ≤ 4611686018427387904) : slices_Contains_int_int.f (xs.length + 1) xs t = some (decide (t ∈ xs)) := by
  obtain ⟨r, hr, hm⟩ := index_from xs t hl xs.length 0 (xs.length + 1) (by omega) (by omega)
  have hr' : slices_Index_int_int.f (xs.length + 1) xs t = some r := hr
  unfold slices_Contains_int_int.f
  rw [hr', Option.bind_some]
  congr 1
  exact decide_eq_decide.2 (by simpa using hm)
theorem equal_from (xs ys : List Int) (hl : xs.length ≤ 4611686018427387904) (he : ys.length = xs.length) : ∀ n i k, i + n = xs.length → n < k → slices_Equal_int_int.l0 k xs ys (xs.length : Int) (i : Int) = some (decide (xs.drop i = ys.drop i)) := by
  intro n
  induction n with
  | zero =>
    intro i k hi hk
    obtain ⟨k, rfl⟩ : ∃ m, k = m + 1 := ⟨k - 1, by omega⟩
    unfold slices_Equal_int_int.l0
    rw [if_neg (by omega), List.drop_eq_nil_of_le (by omega), List.drop_eq_nil_of_le (by omega)]; simp
  | succ n ih =>
    intro i k hi hk
    obtain ⟨k, rfl⟩ : ∃ m, k = m + 1 := ⟨k - 1, by omega⟩
    have hlt : i < xs.length := by omega
    have hlt2 : i < ys.length := by omega
    unfold slices_Equal_int_int.l0
    rw [if_pos (by omega), if_pos (by omega), if_pos (by omega), if_pos (by omega), rd_at hlt, rd_at hlt2, drop_at hlt, drop_at hlt2]
    by_cases h1 : xs[i] = ys[i]
    · rw [if_pos h1, wrap_next i (by omega), ih (i + 1) k (by omega) (by omega)]
      congr 1
      exact decide_eq_decide.2 ⟨fun h => by rw [h1, h], fun h => (List.cons.inj h).2⟩
    · rw [if_neg h1]
      congr 1
      exact (decide_eq_false (fun h => h1 (List.cons.inj h).1)).symm
theorem equal_f (xs ys : List Int) (hl : xs.length ≤ 4611686018427387904) : slices_Equal_int_int.f (xs.length + 1) xs ys = some (decide (xs = ys)) := by
  unfold slices_Equal_int_int.f
  by_cases h : xs.length = ys.length
  · rw [if_pos (by omega)]
    exact equal_from xs ys hl h.symm xs.length 0 _ (by omega) (by omega)
  · rw [if_neg (by omega)]
    congr 1
    exact (decide_eq_false (fun e => h (by rw [e]))).symm
theorem family_ascending_from (l : List Int) (hl : l.length ≤ 4611686018427387904) : ∀ n i k, i + n = l.length → n < k → family_ascending.l0 k l ((i + 1 : Nat) : Int) = some (ascB (l.drop i)) := by
  intro n
  induction n with
  | zero =>
    intro i k hi hk
    obtain ⟨k, rfl⟩ : ∃ m, k = m + 1 := ⟨k - 1, by omega⟩
    unfold family_ascending.l0
    rw [if_neg (by omega), List.drop_eq_nil_of_le (by omega)]; rfl
  | succ n ih =>
    intro i k hi hk
    obtain ⟨k, rfl⟩ : ∃ m, k = m + 1 := ⟨k - 1, by omega⟩
    have hlt : i < l.length := by omega
    unfold family_ascending.l0
    by_cases h2 : i + 1 < l.length
    · rw [if_pos (by omega), if_pos (by omega), wrap_prev i (by omega), if_pos (by omega), if_pos (by omega), rd_at hlt, rd_at h2, drop_at hlt, drop_at h2, wrap_next (i + 1) (by omega), ih (i + 1) k (by omega) (by omega), drop_at h2]
      by_cases h3 : l[i + 1] ≤ l[i]
      · rw [if_pos h3]
        simp only [ascB, decide_eq_false (show ¬ l[i] < l[i + 1] by omega), Bool.false_and]
      · rw [if_neg h3]
        simp only [ascB, decide_eq_true (show l[i] < l[i + 1] by omega), Bool.true_and]
    · rw [if_neg (by omega), drop_at hlt, List.drop_eq_nil_of_le (by omega)]; rfl
theorem family_ascending_f (l : List Int) (hl : l.length ≤ 4611686018427387904) {k : Nat} (hk : l.length < k) : family_ascending.f k l = some (ascB l) :=
  family_ascending_from l hl l.length 0 k (by omega) hk
end Go.Proofs.Ytgfbgfbnmiainaa.Fam
/-! family.Holds, the walk. -/
namespace Go.Proofs.Ytgfbgfbnmiainaa.Fam
set_option linter.unusedVariables false
set_option linter.unusedSimpArgs false
open Go.RowKit Go.Proofs.YtgfbgfbnmiainaaW.PrintWords Go.Proofs.YtgfbgfbnmiainaaW.PrintLast Go.Proofs.YtgfbgfbnmiainaaW.PrintMore Go.Proofs.Ytgfbgfbnmiainaa.Q
attribute [local go_sem] Go.Proofs.YtgfbgfbnmiainaaW.OwnWords.isSome_setCell max2_int min2_int
/-- What family.Holds answers, by the lists. -/
def Kn.resF (a b c : List Int) (n : Int) : Kn → Bool
  | .part => decide (((pick r_without (a.length + b.length) a b).length : Int) = 0)
  | .apart => decide (((pick r_both (a.length + b.length) a b).length : Int) = 0)
  | .union => decide (c = pick r_either (a.length + b.length) a b)
  | .meet => decide (c = pick r_both (a.length + b.length) a b)
  | .minus => decide (c = pick r_without (a.length + b.length) a b)
  | .has => decide (n ∈ a)
  | .lacks => !decide (n ∈ a)
  | .size => decide ((a.length : Int) = n)
/-- The i-th list. -/
def lst (L : List (List Int)) (i : Nat) : List Int := L.getD i []
/-- Lists of numbers that are read at A. -/
abbrev kII : Kd (List Int) := Kd.slice 3 (Kd.int .i64)
theorem at_II {w : World} {A : Option Addr} {n : Nat} {L : List (List Int)} (h : kII.C w A n L) (i : Int) (h0 : 0 ≤ i) (h1 : i < n) :
    ∃ ad B b, A = some ad ∧ w.cell? (ad.add i.toNat) = some (.slice B (lst L i.toNat).length b) ∧ Sl w B b (lst L i.toNat) := by
  obtain ⟨ad, c, e, _, ⟨B, b, rfl, hb, hB⟩, hc⟩ := Kd.C_get h [] i h0 h1
  refine ⟨ad, B, b, e, ?_, hB, hb⟩
  have h2 : w.cell? (ad.add (i.toNat * 1 + 0)) = some (.slice B (lst L i.toNat).length b) := hc 0 _ rfl
  rwa [Nat.mul_one, Nat.add_zero] at h2
/-- The list of the j-th variable, where i variables are read already. -/
def ent (vars : List Int) (L : List (List Int)) (i j : Nat) : List Int := if j < i then lst L (rd vars (j : Int)).toNat else []
/-- The three lists that Holds lays for itself, i of them read already. -/
def VV (vars : List Int) (L : List (List Int)) (w w' : World) (g i : Nat) : Prop := ∃ A0 c0 A1 c1 A2 c2,
  w'.heap[g]? = some (.cells #[.slice A0 (ent vars L i 0).length c0, .slice A1 (ent vars L i 1).length c1, .slice A2 (ent vars L i 2).length c2] 31 (0, 0)) ∧ Sl w A0 c0 (ent vars L i 0) ∧ Sl w A1 c1 (ent vars L i 1) ∧ Sl w A2 c2 (ent vars L i 2)
theorem vv_zero {vars : List Int} {L : List (List Int)} {w w' : World} {g : Nat} (h : w'.heap[g]? = some (.cells #[.slice none 0 0, .slice none 0 0, .slice none 0 0] 31 (0, 0))) : VV vars L w w' g 0 :=
  ⟨none, 0, none, 0, none, 0, h, sl_nil _ _, sl_nil _ _, sl_nil _ _⟩
theorem ent_keep (vars : List Int) (L : List (List Int)) (i j : Nat) (h : i ≠ j) : ent vars L (i + 1) j = ent vars L i j := by
  unfold ent
  by_cases hj : j < i
  · rw [if_pos hj, if_pos (by omega)]
  · rw [if_neg hj, if_neg (by omega)]
theorem ent_new (vars : List Int) (L : List (List Int)) (i : Nat) : ent vars L (i + 1) i = lst L (rd vars (i : Int)).toNat := by
  unfold ent
  rw [if_pos (by omega)]
theorem vv_next {vars : List Int} {L : List (List Int)} {w w' : World} {g i : Nat} (h : VV vars L w w' g i) (hi : i < 3) {B : Option Addr} {b : Nat} (hS : Sl w B b (lst L (rd vars (i : Int)).toNat)) :
    VV vars L w (w'.setCell ⟨g, i, none⟩ (.slice B (lst L (rd vars (i : Int)).toNat).length b)) g (i + 1) := by
  obtain ⟨A0, c0, A1, c1, A2, c2, hg, s0, s1, s2⟩ := h
  match i, hi with
  | 0, _ =>
    refine ⟨B, b, A1, c1, A2, c2, ?_, by rw [ent_new]; exact hS, by rw [ent_keep _ _ 0 1 (by decide)]; exact s1, by rw [ent_keep _ _ 0 2 (by decide)]; exact s2⟩
    rw [ent_new, ent_keep _ _ 0 1 (by decide), ent_keep _ _ 0 2 (by decide)]
    exact (blk_set hg 0 _).trans rfl
  | 1, _ =>
    refine ⟨A0, c0, B, b, A2, c2, ?_, by rw [ent_keep _ _ 1 0 (by decide)]; exact s0, by rw [ent_new]; exact hS, by rw [ent_keep _ _ 1 2 (by decide)]; exact s2⟩
    rw [ent_new, ent_keep _ _ 1 0 (by decide), ent_keep _ _ 1 2 (by decide)]
    exact (blk_set hg 1 _).trans rfl
  | 2, _ =>
    refine ⟨A0, c0, A1, c1, B, b, ?_, by rw [ent_keep _ _ 2 0 (by decide)]; exact s0, by rw [ent_keep _ _ 2 1 (by decide)]; exact s1, by rw [ent_new]; exact hS⟩
    rw [ent_new, ent_keep _ _ 2 0 (by decide), ent_keep _ _ 2 1 (by decide)]
    exact (blk_set hg 2 _).trans rfl
/-- A cell of the three. -/
theorem vv_cell {vars : List Int} {L : List (List Int)} {w w' : World} {g i : Nat} (h : VV vars L w w' g i) (j : Nat) (hj : j < 3) : ∃ A c n, w'.cell? ⟨g, j, none⟩ = some (.slice A n c) := by
  obtain ⟨A0, c0, A1, c1, A2, c2, hg, s0, s1, s2⟩ := h
  match j, hj with
  | 0, _ => exact ⟨_, _, _, (blk_cell hg 0).trans rfl⟩
  | 1, _ => exact ⟨_, _, _, (blk_cell hg 1).trans rfl⟩
  | 2, _ => exact ⟨_, _, _, (blk_cell hg 2).trans rfl⟩
theorem vv_frozen {vars : List Int} {L : List (List Int)} {w w' : World} {g i : Nat} (h : VV vars L w w' g i) (j : Nat) : w'.frozen? ⟨g, j, none⟩ = false := by
  obtain ⟨A0, c0, A1, c1, A2, c2, hg, s0, s1, s2⟩ := h
  exact blk_frozen hg j
theorem vv_lt {vars : List Int} {L : List (List Int)} {w w' : World} {g i : Nat} (h : VV vars L w w' g i) : g < w'.heap.size := by
  obtain ⟨A0, c0, A1, c1, A2, c2, hg, s0, s1, s2⟩ := h
  exact blk_lt hg
theorem ent_le (vars : List Int) (L : List (List Int)) (i j : Nat) (h : ∀ i : Nat, (lst L i).length ≤ 1000) : (ent vars L i j).length ≤ 1000 := by
  unfold ent
  split
  · exact h _
  · simp
/-- The cells of the three lists stay. -/
def bS (g : Nat) (A0 : Option Addr) (n0 c0 : Nat) (A1 : Option Addr) (n1 c1 : Nat) (A2 : Option Addr) (n2 c2 : Nat) (w2 w' : World) : Prop :=
  Below w2.heap.size w2 w' ∧ w'.cell? ⟨g, 0, none⟩ = some (.slice A0 n0 c0) ∧ w'.cell? ⟨g, 1, none⟩ = some (.slice A1 n1 c1) ∧ w'.cell? ⟨g, 2, none⟩ = some (.slice A2 n2 c2)
section
variable {g : Nat} {A0 : Option Addr} {n0 c0 : Nat} {A1 : Option Addr} {n1 c1 : Nat} {A2 : Option Addr} {n2 c2 : Nat} {w2 w w' : World}
theorem bS_below (h : bS g A0 n0 c0 A1 n1 c1 A2 n2 c2 w2 w) (hb : Below w.heap.size w w') : bS g A0 n0 c0 A1 n1 c1 A2 n2 c2 w2 w' :=
  ⟨below_then h.1 h.1.size hb, pw_cell_below hb h.2.1, pw_cell_below hb h.2.2.1, pw_cell_below hb h.2.2.2⟩
theorem bS_drew (h : bS g A0 n0 c0 A1 n1 c1 A2 n2 c2 w2 w) : bS g A0 n0 c0 A1 n1 c1 A2 n2 c2 w2 w.drew := bS_below h (below_drew (Below.refl _ _))
theorem bS_drewN (h : bS g A0 n0 c0 A1 n1 c1 A2 n2 c2 w2 w) (n : Nat) : bS g A0 n0 c0 A1 n1 c1 A2 n2 c2 w2 (w.drewN n) := bS_below h (pw_below_drewN (Below.refl _ _) n)
end
theorem pk_sl {w w' : World} {v : Value} {zs : List Int} (h : Pk w w' v zs) : ∃ A c, v = .slice A zs.length c ∧ Sl w' A c zs := by
  rcases h.1.2 with ⟨hv, hn⟩ | ⟨g, cap, cur, hv, hb, hh, hn, hc, hs, ht⟩
  · obtain rfl : zs = [] := List.eq_nil_of_length_eq_zero hn
    exact ⟨none, 0, hv, sl_nil _ _⟩
  · refine ⟨_, cap, hv, ⟨rfl, by simp only [maxLen] at hc; omega, fun _ => ⟨_, rfl, fun j p hj => ⟨[.int .i64 p], rfl, rfl, fun i u hu => ?_⟩⟩⟩, hn⟩
    have hi : i = 0 := by
      cases i with
      | zero => rfl
      | succ i => simp at hu
    subst hi
    have hu' : Value.int .i64 p = u := by simpa using hu
    subst hu'
    show w'.cell? ((⟨g, 0, none⟩ : Addr).add (j * 1 + 0)) = _
    rw [add_plain, Nat.mul_one, Nat.add_zero, blk_cell hh j, ← Array.getElem?_toList]
    have hj' : j < zs.length := (List.getElem?_eq_some_iff.1 hj).1
    have : (cur.toList.take (zs.length * 1))[j]? = some (.int .i64 p) := by rw [ht, List.getElem?_map, hj]; rfl
    rw [List.getElem?_take_of_lt (by omega)] at this
    exact this
theorem all_next {p : Nat → Bool} {i : Nat} (h : ∀ j : Nat, j < i → p j = true) (hi : p i = true) : ∀ j : Nat, j < i + 1 → p j = true := by
  intro j hj
  rcases Nat.lt_or_ge j i with h_ | h_
  · exact h j h_
  · obtain rfl : j = i := by omega
    exact hi
theorem blk_other' (w : World) (b : Nat) (a : Addr) (u : Value) (h : b ≠ a.block) : (w.setCell a u).heap[b]? = w.heap[b]? := by
  simp [World.setCell, Array.getElem?_modify, Ne.symm h]
theorem info31 : (Try.prog.info? 31).map (fun i => (i.zero, i.size, i.bytes)) = some (some (.slice none 0 0), 1, 24) := by kernel_rfl
theorem made3 : madeCells #[Value.slice none 0 0] 3 = #[.slice none 0 0, .slice none 0 0, .slice none 0 0] := by kernel_rfl
theorem make3 (W : World) : Sem.run Try.prog (Instr.makeSlice 51 (.int .i64 3) (.int .i64 3)) W = .ok (.slice (some ⟨W.heap.size, 0, none⟩) 3 3) (W.alloc (.cells #[.slice none 0 0, .slice none 0 0, .slice none 0 0] 31)) :=
  (run_make_row' (P := Try.prog) 51 31 (.slice none 0 0) 24 Try.underlying51 info31 rfl .i64 .i64 3 (by decide) (by decide) W).trans (by rw [made3])
attribute [local go_sem high] make3
def HoldsEnd (w : World) (r : Bool) (e : Ending) (w' : World) : Prop := e = .returned (.bool r) ∧ Below w.heap.size w w'
theorem holdsF_not (k : Nat) (kind : ByteArray) (A : Option Addr) (c : Nat) (vars : List Int) (n : Int) (La : Option Addr) (lc : Nat) (L : List (List Int)) (w : World) (hv : Sl w A c vars) (h : family_ValidRel.f k kind vars n L.length = some false) :
    Calls Try.prog 34 #[.agg #[.string kind, .slice A vars.length c, .int .i64 n], .slice La L.length lc] w (HoldsEnd w false) := by
  have HV := Aside0.mk hv
  have HF := Aside0.mk h
  clear hv h
  go_enter Try.func34, Try.ntmps34
  go_wp2_with (go_at_call 14; (refine (family_ValidRel.calls k kind A c vars n L.length false _ (Kd.C_alloc HV.out.1 _) HV.out.2 HF.out).mono ?_); rintro e w2 ⟨rfl, hb⟩; have HB := Aside0.mk (below_then (below_alloc (Below.refl _ _) _) (by simp) hb); clear hb)
  go_ret
  exact ⟨rfl, HB.out⟩
set_option maxHeartbeats 1000000 in
set_option maxRecDepth 100000 in
theorem holdsF_calls (k : Nat) (q : Kn) (A : Option Addr) (c : Nat) (vars : List Int) (n : Int) (La : Option Addr) (lc : Nat) (L : List (List Int)) (asc : Nat → Bool) (w : World) (hv : Sl w A c vars) (hL : kII.C w La L.length L) (hlc : L.length ≤ lc)
    (h : family_ValidRel.f k q.text vars n L.length = some true) (hasc : ∀ i : Nat, i < L.length → family_ascending.f k (lst L i) = some (asc i)) (hn : vars.length = q.arity) (hin : ∀ j : Nat, j < vars.length → 0 ≤ rd vars (j : Int) ∧ rd vars (j : Int) < L.length) (hsz : L.length ≤ 1000)
    (hl : ∀ i : Nat, (lst L i).length ≤ 1000) (r : Bool) (hr0 : ∀ i : Nat, i < L.length → asc i = false → r = false)
    (hr1 : (∀ i : Nat, i < L.length → asc i = true) → r = q.resF (ent vars L vars.length 0) (ent vars L vars.length 1) (ent vars L vars.length 2) n) :
    Calls Try.prog 34 #[.agg #[.string q.text, .slice A vars.length c, .int .i64 n], .slice La L.length lc] w (HoldsEnd w r) := by
  have HV := Aside0.mk hv
  have HF := Aside0.mk h
  have HL := Aside0.mk hL
  have HA := Aside0.mk hasc
  have HN := Aside0.mk (And.intro hn (And.intro hin (And.intro hsz hl)))
  have HR := Aside0.mk (And.intro hr0 hr1)
  clear hv h hL hlc hasc hn hin hsz hl hr0 hr1
  go_enter Try.func34, Try.ntmps34
  go_upto_region 4 with (go_at_call 14; (refine (family_ValidRel.calls k q.text A c vars n L.length true _ (Kd.C_alloc HV.out.1 _) HV.out.2 HF.out).mono ?_); rintro e w2 ⟨rfl, hb⟩; have HB := Aside0.mk (And.intro (blk_below (blk_new w _) hb) (below_then (below_alloc (Below.refl _ _) _) (by simp) hb)); clear hb)
  go_loopg [18] L.length (fun kq v18 w' => ∃ (i : Nat) (x : Int), v18 = .int .i64 x ∧ Aside0 (x = (i : Int)) ∧ i + kq = L.length ∧ Aside0 (∀ j : Nat, j < i → asc j = true) ∧ Aside0 (w'.heap[w.heap.size]? = some (.cells #[.string q.text, .slice A vars.length c, .int .i64 n] 33 (0, 0)) ∧ Below w.heap.size w w'))
  case atStart => exact ⟨0, 0, rfl, ⟨rfl⟩, by omega, ⟨fun j hj => absurd hj (by omega)⟩, HB⟩
  case round =>
    clear HB
    obtain ⟨i, x, rfl, HX, hi, HT, HB⟩ := hrel
    by_cases hlt : i < L.length
    · have d0 : decide (0 ≤ x) = true := decide_eq_true (by have := HX.out; omega)
      have d1 : decide (x < (L.length : Int)) = true := decide_eq_true (by have := HX.out; omega)
      have p0 := eq_true (show 0 ≤ x by have := HX.out; omega)
      have p1 := eq_true (show x < (L.length : Int) by have := HX.out; omega)
      obtain ⟨ad, B, b, rfl, hx0, hS⟩ := at_II HL.out x (by have := HX.out; omega) (by have := HX.out; omega)
      have HS := Aside0.mk (sl_below hS HB.out.2)
      replace hx0 := (HB.out.2.cell (World.block_lt_of_cell? w _ hx0)).trans hx0
      have hf := HA.out i hlt
      have hxi : x.toNat = i := by have := HX.out; omega
      rw [← hxi] at hf
      have HF2 := Aside0.mk hf
      have HXI := Aside0.mk hxi
      clear hf hS hxi
      cases ha : asc x.toNat with
      | false =>
        rw [ha] at HF2
        go_wp2_with (go_at_call 61; (refine (family_ascending.calls k B b (lst L x.toNat) false _ HS.out.1 HS.out.2 HF2.out).mono ?_); rintro e w3 ⟨rfl, ⟨nd, rfl⟩⟩)
        go_ret
        exact ⟨by rw [HR.out.1 i hlt (by rw [← HXI.out]; exact ha)]; rfl, pw_below_drewN HB.out.2 _⟩
      | true =>
        rw [ha] at HF2
        go_wp2_with (go_at_call 61; (refine (family_ascending.calls k B b (lst L x.toNat) true _ HS.out.1 HS.out.2 HF2.out).mono ?_); rintro e w3 ⟨rfl, ⟨nd, rfl⟩⟩)
        go_roundg (L.length - (i + 1))
        case measure => omega
        case rel => exact ⟨i + 1, _, rfl, ⟨by rw [HX.out]; unfold wrap64; have := HN.out.2.2.1; omega⟩, by omega, ⟨all_next HT.out (by rw [← HXI.out]; exact ha)⟩, ⟨blk_below HB.out.1 (pw_below_drewN (Below.refl _ _) _), pw_below_drewN HB.out.2 _⟩⟩
    · obtain rfl : i = L.length := by omega
      have d1 : decide (x < (L.length : Int)) = false := decide_eq_false (by have := HX.out; omega)
      have p1 := eq_false (show ¬ x < (L.length : Int) by have := HX.out; omega)
      have b0 : wr.cell? ⟨w.heap.size, 0, none⟩ = some (.string q.text) := (blk_cell HB.out.1 0).trans rfl
      have b1 : wr.cell? ⟨w.heap.size, 1, none⟩ = some (.slice A vars.length c) := (blk_cell HB.out.1 1).trans rfl
      have b2 : wr.cell? ⟨w.heap.size, 2, none⟩ = some (.int .i64 n) := (blk_cell HB.out.1 2).trans rfl
      have blt := blk_lt HB.out.1
      have bne : w.heap.size ≠ wr.heap.size := by omega
      have bne' : wr.heap.size ≠ w.heap.size := by omega
      go_upto_region 11 with fail
      obtain ⟨g, hgs⟩ : ∃ g, wr.heap.size = g := ⟨_, rfl⟩
      have hnew := heap_alloc_new wr (.cells #[.slice none 0 0, .slice none 0 0, .slice none 0 0] 31)
      rw [hgs] at hnew
      have HV0 := Aside0.mk (And.intro (vv_zero (vars := vars) (L := L) (w := w) hnew) (And.intro (blk_below HB.out.1 (below_alloc (Below.refl _ _) (.cells #[.slice none 0 0, .slice none 0 0, .slice none 0 0] 31))) (And.intro (below_then HB.out.2 HB.out.2.size (below_alloc (Below.refl _ _) (.cells #[.slice none 0 0, .slice none 0 0, .slice none 0 0] 31))) (show w.heap.size < g by omega))))
      have HR1 := Aside0.mk (HR.out.2 HT.out)
      simp only [hgs]
      clear HB HT HR b0 b1 b2 bne bne' blt d1 p1 hnew HA HF HX hlt hi hgs
      go_loopg [32] vars.length (fun kq v32 w' => ∃ (i : Nat) (x : Int), v32 = .int .i64 x ∧ Aside0 (x = (i : Int)) ∧ i + kq = vars.length ∧ Aside0 (VV vars L w w' g i ∧ w'.heap[w.heap.size]? = some (.cells #[.string q.text, .slice A vars.length c, .int .i64 n] 33 (0, 0)) ∧ Below w.heap.size w w' ∧ w.heap.size < g))
      case atStart => exact ⟨0, 0, rfl, ⟨rfl⟩, by omega, HV0⟩
      case round =>
        clear HV0
        obtain ⟨i, y, rfl, HY, hi, HB⟩ := hrel
        by_cases hlt : i < vars.length
        · have hi3 : i < 3 := by have h_ := HN.out.1; cases q <;> simp only [Kn.arity] at h_ <;> omega
          have d0 : decide (0 ≤ y) = true := decide_eq_true (by have := HY.out; omega)
          have d1 : decide (y < (vars.length : Int)) = true := decide_eq_true (by have := HY.out; omega)
          have d2 : decide (y < 3) = true := decide_eq_true (by have := HY.out; omega)
          have p0 := eq_true (show 0 ≤ y by have := HY.out; omega)
          have p1 := eq_true (show y < (vars.length : Int) by have := HY.out; omega)
          have p2 := eq_true (show y < 3 by have := HY.out; omega)
          obtain ⟨ad, rfl, hx0⟩ := Kd.at_int HV.out.1 y (by have := HY.out; omega) (by have := HY.out; omega)
          replace hx0 := (HB.out.2.2.1.cell (World.block_lt_of_cell? w _ hx0)).trans hx0
          have hv := HN.out.2.1 i hlt
          have hyi : y.toNat = i := by have := HY.out; omega
          have hyi' : (i : Int) = y := by have := HY.out; omega
          rw [hyi'] at hv
          obtain ⟨bd, B, b, rfl, hy0, hS⟩ := at_II HL.out (rd vars y) hv.1 hv.2
          replace hy0 := (HB.out.2.2.1.cell (World.block_lt_of_cell? w _ hy0)).trans hy0
          have e0 : decide (0 ≤ rd vars y) = true := decide_eq_true hv.1
          have e1 : decide (rd vars y < (L.length : Int)) = true := decide_eq_true hv.2
          have e2 := eq_true hv.1
          have e3 := eq_true hv.2
          obtain ⟨uA, uc, un, hu⟩ := vv_cell HB.out.1 y.toNat (by omega)
          have hz := vv_frozen HB.out.1 y.toNat
          have HS := Aside0.mk hS
          have HYI := Aside0.mk (And.intro hyi hyi')
          clear hyi hyi' hv hS
          go_wp2
          go_roundg (vars.length - (i + 1))
          case measure => omega
          case rel =>
            have hne : w.heap.size ≠ g := by have := HB.out.2.2.2; omega
            have hv2 := vv_next HB.out.1 hi3 (B := B) (b := b) (by rw [HYI.out.2]; exact HS.out)
            have hyy : ((y.toNat : Nat) : Int) = y := by have := HYI.out; omega
            rw [← HYI.out.1, hyy] at hv2
            exact ⟨i + 1, _, rfl, ⟨by rw [HY.out]; unfold wrap64; omega⟩, by omega, ⟨by rw [← HYI.out.1]; exact hv2, (blk_other' _ _ _ _ hne).trans HB.out.2.1, HB.out.2.2.1.setCell (Nat.le_of_lt HB.out.2.2.2) _, HB.out.2.2.2⟩⟩
        · obtain rfl : i = vars.length := by omega
          have d1 : decide (y < (vars.length : Int)) = false := decide_eq_false (by have := HY.out; omega)
          have p1 := eq_false (show ¬ y < (vars.length : Int) by have := HY.out; omega)
          obtain ⟨⟨A0, c0, A1, c1, A2, c2, hg, s0, s1, s2⟩, hbx, hbb, hgl⟩ := HB.out
          have g0 : wr.cell? ⟨g, 0, none⟩ = some (.slice A0 (ent vars L vars.length 0).length c0) := (blk_cell hg 0).trans rfl
          have g1 : wr.cell? ⟨g, 1, none⟩ = some (.slice A1 (ent vars L vars.length 1).length c1) := (blk_cell hg 1).trans rfl
          have g2 : wr.cell? ⟨g, 2, none⟩ = some (.slice A2 (ent vars L vars.length 2).length c2) := (blk_cell hg 2).trans rfl
          have HSL := Aside0.mk (And.intro s0 (And.intro s1 s2))
          have HBX := Aside0.mk hbx
          have HBB := Aside0.mk hbb
          have HS0 := Aside0.mk (show bS g A0 (ent vars L vars.length 0).length c0 A1 (ent vars L vars.length 1).length c1 A2 (ent vars L vars.length 2).length c2 wr wr from ⟨Below.refl _ _, g0, g1, g2⟩)
          have HS1 := Aside0.mk (bS_drew HS0.out)
          have HSZ : Aside0 ((ent vars L vars.length 0).length + (ent vars L vars.length 1).length ≤ 1000000 ∧ (ent vars L vars.length 0).length ≤ 1000 ∧ (ent vars L vars.length 2).length ≤ 1000) := ⟨by
            have h0 := ent_le vars L vars.length 0 HN.out.2.2.2
            have h1 := ent_le vars L vars.length 1 HN.out.2.2.2
            have h2 := ent_le vars L vars.length 2 HN.out.2.2.2
            exact ⟨by omega, h0, h2⟩⟩
          clear HB HY hi hlt HN hg s0 s1 s2 hbx hbb HV HL
          -- KINDS
          cases q with
          | part =>
            replace HBX := HBX.out
            have b0 := (blk_cell HBX 0)
            have b2 := (blk_cell HBX 2)
            simp only [List.getElem?_toArray, List.getElem?_cons_zero, List.getElem?_cons_succ, Kn.text] at b0 b2
            go_upto_region 19 with fail
            have HBW := Aside0.mk (below_drew HBB.out)
            go_region_held3 (fun w' => Below wr.heap.size wr w' ∧ w'.cell? ⟨g, 0, none⟩ = some (.slice A0 (ent vars L vars.length 0).length c0) ∧ w'.cell? ⟨g, 1, none⟩ = some (.slice A1 (ent vars L vars.length 1).length c1) ∧ w'.cell? ⟨g, 2, none⟩ = some (.slice A2 (ent vars L vars.length 2).length c2))
              (first | exact HS0.out | exact HS1.out | exact HS2.out | exact bS_drewN HS2.out _)
              (first | (go_at_call 64; (refine (pick_without A0 c0 (ent vars L vars.length 0) A1 c1 (ent vars L vars.length 1) HSZ.out.1 _ rfl _ (sl_below HSL.out.1 HBW.out) (sl_below HSL.out.2.1 HBW.out)).mono ?_); rintro e w3 ⟨v, rfl, hp⟩; obtain ⟨A3, c3, rfl, hs3⟩ := pk_sl hp; have HS2 := Aside0.mk (bS_below HS1.out hp.2); have HS3 := Aside0.mk hs3; have HB3 := Aside0.mk (below_then (below_drew HBB.out) (below_drew HBB.out).size hp.2); clear hp hs3))
            all_goals
              try go_wp2
              go_ret
              refine ⟨by rw [HR1.out]; rfl, ?_⟩
              first | exact HB3.out | exact pw_below_drewN HB3.out _
          | apart =>
            replace HBX := HBX.out
            have b0 := (blk_cell HBX 0)
            have b2 := (blk_cell HBX 2)
            simp only [List.getElem?_toArray, List.getElem?_cons_zero, List.getElem?_cons_succ, Kn.text] at b0 b2
            go_upto_region 21 with fail
            have HBW := Aside0.mk (below_drew HBB.out)
            go_region_held3 (fun w' => Below wr.heap.size wr w' ∧ w'.cell? ⟨g, 0, none⟩ = some (.slice A0 (ent vars L vars.length 0).length c0) ∧ w'.cell? ⟨g, 1, none⟩ = some (.slice A1 (ent vars L vars.length 1).length c1) ∧ w'.cell? ⟨g, 2, none⟩ = some (.slice A2 (ent vars L vars.length 2).length c2))
              (first | exact HS0.out | exact HS1.out | exact HS2.out | exact bS_drewN HS2.out _)
              (first | (go_at_call 64; (refine (pick_both A0 c0 (ent vars L vars.length 0) A1 c1 (ent vars L vars.length 1) HSZ.out.1 _ rfl _ (sl_below HSL.out.1 HBW.out) (sl_below HSL.out.2.1 HBW.out)).mono ?_); rintro e w3 ⟨v, rfl, hp⟩; obtain ⟨A3, c3, rfl, hs3⟩ := pk_sl hp; have HS2 := Aside0.mk (bS_below HS1.out hp.2); have HS3 := Aside0.mk hs3; have HB3 := Aside0.mk (below_then (below_drew HBB.out) (below_drew HBB.out).size hp.2); clear hp hs3))
            all_goals
              try go_wp2
              go_ret
              refine ⟨by rw [HR1.out]; rfl, ?_⟩
              first | exact HB3.out | exact pw_below_drewN HB3.out _
          | union =>
            replace HBX := HBX.out
            have b0 := (blk_cell HBX 0)
            have b2 := (blk_cell HBX 2)
            simp only [List.getElem?_toArray, List.getElem?_cons_zero, List.getElem?_cons_succ, Kn.text] at b0 b2
            go_upto_region 23 with fail
            have HBW := Aside0.mk (below_drew HBB.out)
            go_region_held3 (fun w' => Below wr.heap.size wr w' ∧ w'.cell? ⟨g, 0, none⟩ = some (.slice A0 (ent vars L vars.length 0).length c0) ∧ w'.cell? ⟨g, 1, none⟩ = some (.slice A1 (ent vars L vars.length 1).length c1) ∧ w'.cell? ⟨g, 2, none⟩ = some (.slice A2 (ent vars L vars.length 2).length c2))
              (first | exact HS0.out | exact HS1.out | exact HS2.out | exact bS_drewN HS2.out _)
              (first | (go_at_call 64; (refine (pick_either A0 c0 (ent vars L vars.length 0) A1 c1 (ent vars L vars.length 1) HSZ.out.1 _ rfl _ (sl_below HSL.out.1 HBW.out) (sl_below HSL.out.2.1 HBW.out)).mono ?_); rintro e w3 ⟨v, rfl, hp⟩; obtain ⟨A3, c3, rfl, hs3⟩ := pk_sl hp; have HS2 := Aside0.mk (bS_below HS1.out hp.2); have HS3 := Aside0.mk hs3; have HB3 := Aside0.mk (below_then (below_drew HBB.out) (below_drew HBB.out).size hp.2); clear hp hs3) | (go_at_call 65; (refine (slices_Equal_int_int.calls ((ent vars L vars.length 2).length + 1) A2 c2 (ent vars L vars.length 2) A3 c3 (pick r_either ((ent vars L vars.length 0).length + (ent vars L vars.length 1).length) (ent vars L vars.length 0) (ent vars L vars.length 1)) _ _ (sl_below HSL.out.2.2 HB3.out).1 HSL.out.2.2.2 HS3.out.1 HS3.out.2 (equal_f _ _ (by have := HSZ.out.2; omega))).mono ?_); rintro e w4 ⟨rfl, ⟨nd, rfl⟩⟩))
            all_goals
              try go_wp2
              go_ret
              refine ⟨by rw [HR1.out]; rfl, ?_⟩
              first | exact HB3.out | exact pw_below_drewN HB3.out _
          | meet =>
            replace HBX := HBX.out
            have b0 := (blk_cell HBX 0)
            have b2 := (blk_cell HBX 2)
            simp only [List.getElem?_toArray, List.getElem?_cons_zero, List.getElem?_cons_succ, Kn.text] at b0 b2
            go_upto_region 25 with fail
            have HBW := Aside0.mk (below_drew HBB.out)
            go_region_held3 (fun w' => Below wr.heap.size wr w' ∧ w'.cell? ⟨g, 0, none⟩ = some (.slice A0 (ent vars L vars.length 0).length c0) ∧ w'.cell? ⟨g, 1, none⟩ = some (.slice A1 (ent vars L vars.length 1).length c1) ∧ w'.cell? ⟨g, 2, none⟩ = some (.slice A2 (ent vars L vars.length 2).length c2))
              (first | exact HS0.out | exact HS1.out | exact HS2.out | exact bS_drewN HS2.out _)
              (first | (go_at_call 64; (refine (pick_both A0 c0 (ent vars L vars.length 0) A1 c1 (ent vars L vars.length 1) HSZ.out.1 _ rfl _ (sl_below HSL.out.1 HBW.out) (sl_below HSL.out.2.1 HBW.out)).mono ?_); rintro e w3 ⟨v, rfl, hp⟩; obtain ⟨A3, c3, rfl, hs3⟩ := pk_sl hp; have HS2 := Aside0.mk (bS_below HS1.out hp.2); have HS3 := Aside0.mk hs3; have HB3 := Aside0.mk (below_then (below_drew HBB.out) (below_drew HBB.out).size hp.2); clear hp hs3) | (go_at_call 65; (refine (slices_Equal_int_int.calls ((ent vars L vars.length 2).length + 1) A2 c2 (ent vars L vars.length 2) A3 c3 (pick r_both ((ent vars L vars.length 0).length + (ent vars L vars.length 1).length) (ent vars L vars.length 0) (ent vars L vars.length 1)) _ _ (sl_below HSL.out.2.2 HB3.out).1 HSL.out.2.2.2 HS3.out.1 HS3.out.2 (equal_f _ _ (by have := HSZ.out.2; omega))).mono ?_); rintro e w4 ⟨rfl, ⟨nd, rfl⟩⟩))
            all_goals
              try go_wp2
              go_ret
              refine ⟨by rw [HR1.out]; rfl, ?_⟩
              first | exact HB3.out | exact pw_below_drewN HB3.out _
          | minus =>
            replace HBX := HBX.out
            have b0 := (blk_cell HBX 0)
            have b2 := (blk_cell HBX 2)
            simp only [List.getElem?_toArray, List.getElem?_cons_zero, List.getElem?_cons_succ, Kn.text] at b0 b2
            go_upto_region 27 with fail
            have HBW := Aside0.mk (below_drew HBB.out)
            go_region_held3 (fun w' => Below wr.heap.size wr w' ∧ w'.cell? ⟨g, 0, none⟩ = some (.slice A0 (ent vars L vars.length 0).length c0) ∧ w'.cell? ⟨g, 1, none⟩ = some (.slice A1 (ent vars L vars.length 1).length c1) ∧ w'.cell? ⟨g, 2, none⟩ = some (.slice A2 (ent vars L vars.length 2).length c2))
              (first | exact HS0.out | exact HS1.out | exact HS2.out | exact bS_drewN HS2.out _)
              (first | (go_at_call 64; (refine (pick_without A0 c0 (ent vars L vars.length 0) A1 c1 (ent vars L vars.length 1) HSZ.out.1 _ rfl _ (sl_below HSL.out.1 HBW.out) (sl_below HSL.out.2.1 HBW.out)).mono ?_); rintro e w3 ⟨v, rfl, hp⟩; obtain ⟨A3, c3, rfl, hs3⟩ := pk_sl hp; have HS2 := Aside0.mk (bS_below HS1.out hp.2); have HS3 := Aside0.mk hs3; have HB3 := Aside0.mk (below_then (below_drew HBB.out) (below_drew HBB.out).size hp.2); clear hp hs3) | (go_at_call 65; (refine (slices_Equal_int_int.calls ((ent vars L vars.length 2).length + 1) A2 c2 (ent vars L vars.length 2) A3 c3 (pick r_without ((ent vars L vars.length 0).length + (ent vars L vars.length 1).length) (ent vars L vars.length 0) (ent vars L vars.length 1)) _ _ (sl_below HSL.out.2.2 HB3.out).1 HSL.out.2.2.2 HS3.out.1 HS3.out.2 (equal_f _ _ (by have := HSZ.out.2; omega))).mono ?_); rintro e w4 ⟨rfl, ⟨nd, rfl⟩⟩))
            all_goals
              try go_wp2
              go_ret
              refine ⟨by rw [HR1.out]; rfl, ?_⟩
              first | exact HB3.out | exact pw_below_drewN HB3.out _
          | has =>
            replace HBX := HBX.out
            have b0 := (blk_cell HBX 0)
            have b2 := (blk_cell HBX 2)
            simp only [List.getElem?_toArray, List.getElem?_cons_zero, List.getElem?_cons_succ, Kn.text] at b0 b2
            have HC0 := Aside0.mk (sl_below HSL.out.1 HBB.out).1
            have HCF := Aside0.mk (contains_f (ent vars L vars.length 0) n (by have := HSZ.out.2; omega))
            go_upto_region 29 with fail
            go_quiet (first | (go_at_call 67; (refine (slices_Contains_int_int.calls ((ent vars L vars.length 0).length + 1) A0 c0 (ent vars L vars.length 0) n (decide (n ∈ (ent vars L vars.length 0))) _ ?s1 HSL.out.1.2 HCF.out).mono ?_); (case s1 => repeat (first | exact HC0.out | (with_reducible refine Kd.C_drewN ?_ _) | (with_reducible refine Kd.C_drew ?_))); rintro e w4 ⟨rfl, ⟨nd, rfl⟩⟩; (try first | exact ⟨rfl, _, World.drewN_drewN _ _ _⟩ | exact ⟨rfl, _, rfl⟩)))
            try go_wp2
            go_ret
            refine ⟨by rw [HR1.out]; rfl, ?_⟩
            first | exact HBB.out | exact pw_below_drewN HBB.out _
          | lacks =>
            replace HBX := HBX.out
            have b0 := (blk_cell HBX 0)
            have b2 := (blk_cell HBX 2)
            simp only [List.getElem?_toArray, List.getElem?_cons_zero, List.getElem?_cons_succ, Kn.text] at b0 b2
            have HC0 := Aside0.mk (sl_below HSL.out.1 HBB.out).1
            have HCF := Aside0.mk (contains_f (ent vars L vars.length 0) n (by have := HSZ.out.2; omega))
            go_upto_region 31 with fail
            go_quiet (first | (go_at_call 67; (refine (slices_Contains_int_int.calls ((ent vars L vars.length 0).length + 1) A0 c0 (ent vars L vars.length 0) n (decide (n ∈ (ent vars L vars.length 0))) _ ?s1 HSL.out.1.2 HCF.out).mono ?_); (case s1 => repeat (first | exact HC0.out | (with_reducible refine Kd.C_drewN ?_ _) | (with_reducible refine Kd.C_drew ?_))); rintro e w4 ⟨rfl, ⟨nd, rfl⟩⟩; (try first | exact ⟨rfl, _, World.drewN_drewN _ _ _⟩ | exact ⟨rfl, _, rfl⟩)))
            try go_wp2
            go_ret
            refine ⟨by rw [HR1.out]; rfl, ?_⟩
            first | exact HBB.out | exact pw_below_drewN HBB.out _
          | size =>
            replace HBX := HBX.out
            have b0 := (blk_cell HBX 0)
            have b2 := (blk_cell HBX 2)
            simp only [List.getElem?_toArray, List.getElem?_cons_zero, List.getElem?_cons_succ, Kn.text] at b0 b2
            go_wp2
            go_quiet (fail)
            try go_wp2
            go_ret
            refine ⟨by rw [HR1.out]; rfl, ?_⟩
            first | exact HBB.out | exact pw_below_drewN HBB.out _
          -- END
end Go.Proofs.Ytgfbgfbnmiainaa.Fam
/-! What a rule picks of two ascending lists is what the reference asks of each number. -/
namespace Go.Proofs.Ytgfbgfbnmiainaa.Fam
set_option linter.unusedVariables false
set_option linter.unusedSimpArgs false
open Go.RowKit Go.Proofs.YtgfbgfbnmiainaaW.PrintWords Go.Proofs.YtgfbgfbnmiainaaW.PrintLast Go.Proofs.YtgfbgfbnmiainaaW.PrintMore Go.Proofs.Ytgfbgfbnmiainaa.Q
theorem asc_pair : ∀ l : List Int, ascB l = true → l.Pairwise (· < ·)
  | [], _ => List.Pairwise.nil
  | [x], _ => List.pairwise_singleton _ _
  | x :: y :: l, h => by
    simp only [ascB, Bool.and_eq_true, decide_eq_true_eq] at h
    have ih := asc_pair (y :: l) h.2
    refine List.Pairwise.cons (fun z hz => ?_) ih
    rcases List.mem_cons.1 hz with rfl | hz
    · exact h.1
    · have := (List.pairwise_cons.1 ih).1 z hz
      omega
theorem mem_if {p : Bool} {x z : Int} : z ∈ (if p then [x] else []) ↔ z = x ∧ p = true := by
  cases p <;> simp
theorem mem_pick (rule : Bool → Bool → Bool) : ∀ (k : Nat) (a b : List Int), a.length + b.length ≤ k → a.Pairwise (· < ·) → b.Pairwise (· < ·) → ∀ z, z ∈ pick rule k a b ↔ (z ∈ a ∨ z ∈ b) ∧ rule (decide (z ∈ a)) (decide (z ∈ b)) = true := by
  intro k
  induction k with
  | zero =>
    intro a b hl ha hb z
    obtain rfl : a = [] := List.eq_nil_of_length_eq_zero (by omega)
    obtain rfl : b = [] := List.eq_nil_of_length_eq_zero (by omega)
    simp [pick]
  | succ k ih =>
    intro a b hl ha hb z
    cases a with
    | nil =>
      cases b with
      | nil => simp [pick]
      | cons y b =>
        obtain ⟨hy, hb'⟩ := List.pairwise_cons.1 hb
        have hi := ih [] b (by simp only [List.length_cons, List.length_nil] at hl ⊢; omega) ha hb' z
        simp only [pick, List.mem_append, mem_if, hi]
        by_cases hz : z = y
        · subst hz
          have hn : z ∉ b := fun h => by have := hy z h; omega
          simp [hn]
        · simp [hz]
    | cons x a =>
      obtain ⟨hx, ha'⟩ := List.pairwise_cons.1 ha
      cases b with
      | nil =>
        have hi := ih a [] (by simp only [List.length_cons, List.length_nil] at hl ⊢; omega) ha' hb z
        simp only [pick, List.mem_append, mem_if, hi]
        by_cases hz : z = x
        · subst hz
          have hn : z ∉ a := fun h => by have := hx z h; omega
          simp [hn]
        · simp [hz]
      | cons y b =>
        obtain ⟨hy, hb'⟩ := List.pairwise_cons.1 hb
        simp only [List.length_cons] at hl
        by_cases h1 : x < y
        · have hi := ih a (y :: b) (by simp only [List.length_cons]; omega) ha' hb z
          simp only [pick, if_pos h1, List.mem_append, mem_if, hi]
          by_cases hz : z = x
          · subst hz
            have hn : z ∉ a := fun h => by have := hx z h; omega
            have hn2 : z ∉ b := fun h => by have := hy z h; omega
            have hn3 : z ≠ y := by omega
            simp [hn, hn2, hn3]
          · simp [hz]
        · by_cases h2 : y < x
          · have hi := ih (x :: a) b (by simp only [List.length_cons]; omega) ha hb' z
            simp only [pick, if_neg h1, if_pos h2, List.mem_append, mem_if, hi]
            by_cases hz : z = y
            · subst hz
              have hn : z ∉ b := fun h => by have := hy z h; omega
              have hn2 : z ∉ a := fun h => by have := hx z h; omega
              have hn3 : z ≠ x := by omega
              simp [hn, hn2, hn3]
            · simp [hz]
          · obtain rfl : x = y := by omega
            have hi := ih a b (by omega) ha' hb' z
            simp only [pick, if_neg h1, if_neg h2, List.mem_append, mem_if, hi]
            by_cases hz : z = x
            · subst hz
              have hn : z ∉ a := fun h => by have := hx z h; omega
              have hn2 : z ∉ b := fun h => by have := hy z h; omega
              simp [hn, hn2]
            · simp [hz]
theorem pick_sorted (rule : Bool → Bool → Bool) : ∀ (k : Nat) (a b : List Int), a.length + b.length ≤ k → a.Pairwise (· < ·) → b.Pairwise (· < ·) → (pick rule k a b).Pairwise (· < ·) := by
  intro k
  have put : ∀ (p : Bool) (x : Int) (l : List Int), l.Pairwise (· < ·) → (∀ z ∈ l, x < z) → ((if p then [x] else []) ++ l).Pairwise (· < ·) := by
    intro p x l hl hx
    cases p with
    | false => simpa using hl
    | true => exact List.Pairwise.cons hx hl
  induction k with
  | zero => intro a b _ _ _; exact List.Pairwise.nil
  | succ k ih =>
    intro a b hl ha hb
    cases a with
    | nil =>
      cases b with
      | nil => exact List.Pairwise.nil
      | cons y b =>
        obtain ⟨hy, hb'⟩ := List.pairwise_cons.1 hb
        simp only [List.length_cons, List.length_nil] at hl
        refine put _ _ _ (ih [] b (by simp only [List.length_nil]; omega) ha hb') (fun z hz => ?_)
        rcases ((mem_pick rule k [] b (by simp only [List.length_nil]; omega) ha hb' z).1 hz).1 with h | h
        · cases h
        · exact hy z h
    | cons x a =>
      obtain ⟨hx, ha'⟩ := List.pairwise_cons.1 ha
      cases b with
      | nil =>
        simp only [List.length_cons, List.length_nil] at hl
        refine put _ _ _ (ih a [] (by simp only [List.length_nil]; omega) ha' hb) (fun z hz => ?_)
        rcases ((mem_pick rule k a [] (by simp only [List.length_nil]; omega) ha' hb z).1 hz).1 with h | h
        · exact hx z h
        · cases h
      | cons y b =>
        obtain ⟨hy, hb'⟩ := List.pairwise_cons.1 hb
        simp only [List.length_cons] at hl
        unfold pick
        by_cases h1 : x < y
        · rw [if_pos h1]
          refine put _ _ _ (ih a (y :: b) (by simp only [List.length_cons]; omega) ha' hb) (fun z hz => ?_)
          rcases ((mem_pick rule k a (y :: b) (by simp only [List.length_cons]; omega) ha' hb z).1 hz).1 with h | h
          · exact hx z h
          · rcases List.mem_cons.1 h with rfl | h
            · exact h1
            · have := hy z h; omega
        · rw [if_neg h1]
          by_cases h2 : y < x
          · rw [if_pos h2]
            refine put _ _ _ (ih (x :: a) b (by simp only [List.length_cons]; omega) ha hb') (fun z hz => ?_)
            rcases ((mem_pick rule k (x :: a) b (by simp only [List.length_cons]; omega) ha hb' z).1 hz).1 with h | h
            · rcases List.mem_cons.1 h with rfl | h
              · exact h2
              · have := hx z h; omega
            · exact hy z h
          · rw [if_neg h2]
            refine put _ _ _ (ih a b (by omega) ha' hb') (fun z hz => ?_)
            rcases ((mem_pick rule k a b (by omega) ha' hb' z).1 hz).1 with h | h
            · have := hx z h; omega
            · exact hy z h
theorem sorted_ext : ∀ (a b : List Int), a.Pairwise (· < ·) → b.Pairwise (· < ·) → (∀ z, z ∈ a ↔ z ∈ b) → a = b
  | [], [], _, _, _ => rfl
  | [], y :: b, _, _, h => absurd ((h y).2 (List.mem_cons_self ..)) (by simp)
  | x :: a, [], _, _, h => absurd ((h x).1 (List.mem_cons_self ..)) (by simp)
  | x :: a, y :: b, ha, hb, h => by
    obtain ⟨hx, ha'⟩ := List.pairwise_cons.1 ha
    obtain ⟨hy, hb'⟩ := List.pairwise_cons.1 hb
    have e : x = y := by
      rcases List.mem_cons.1 ((h x).1 (List.mem_cons_self ..)) with e | e
      · exact e
      · rcases List.mem_cons.1 ((h y).2 (List.mem_cons_self ..)) with e' | e'
        · exact e'.symm
        · have := hy x e; have := hx y e'; omega
    subst e
    rw [sorted_ext a b ha' hb' (fun z => ?_)]
    constructor
    · intro hz
      rcases List.mem_cons.1 ((h z).1 (List.mem_cons_of_mem _ hz)) with rfl | e
      · have := hx z hz; omega
      · exact e
    · intro hz
      rcases List.mem_cons.1 ((h z).2 (List.mem_cons_of_mem _ hz)) with rfl | e
      · have := hy z hz; omega
      · exact e
theorem eq_pick (rule : Bool → Bool → Bool) (h0 : rule false false = false) (a b c : List Int) (ha : a.Pairwise (· < ·)) (hb : b.Pairwise (· < ·)) (hc : c.Pairwise (· < ·)) :
    decide (c = pick rule (a.length + b.length) a b) = (a ++ b ++ c).all fun x => decide (x ∈ c) == rule (decide (x ∈ a)) (decide (x ∈ b)) := by
  have hm := mem_pick rule (a.length + b.length) a b (Nat.le_refl _) ha hb
  have hs := pick_sorted rule (a.length + b.length) a b (Nat.le_refl _) ha hb
  rw [Bool.eq_iff_iff, decide_eq_true_iff, List.all_eq_true]
  constructor
  · intro h z hz
    rw [beq_iff_eq, Bool.eq_iff_iff, decide_eq_true_iff]
    rw [h, hm z]
    constructor
    · exact fun k => k.2
    · intro k
      refine ⟨?_, k⟩
      by_cases h1 : z ∈ a
      · exact .inl h1
      · by_cases h2 : z ∈ b
        · exact .inr h2
        · rw [decide_eq_false h1, decide_eq_false h2, h0] at k
          cases k
  · intro h
    refine sorted_ext c _ hc hs (fun z => ?_)
    rw [hm z]
    constructor
    · intro hz
      have h1 := h z (by simp [hz])
      rw [beq_iff_eq, decide_eq_true hz] at h1
      refine ⟨?_, h1.symm⟩
      by_cases h2 : z ∈ a
      · exact .inl h2
      · by_cases h3 : z ∈ b
        · exact .inr h3
        · rw [decide_eq_false h2, decide_eq_false h3, h0] at h1
          cases h1
    · intro hz
      have h1 := h z (by rcases hz.1 with h | h <;> simp [h])
      rw [beq_iff_eq, hz.2] at h1
      exact of_decide_eq_true h1
theorem nil_pick (rule : Bool → Bool → Bool) (a b : List Int) (ha : a.Pairwise (· < ·)) (hb : b.Pairwise (· < ·)) :
    ((pick rule (a.length + b.length) a b).length : Int) = 0 ↔ ∀ z, (z ∈ a ∨ z ∈ b) → rule (decide (z ∈ a)) (decide (z ∈ b)) = false := by
  have hm := mem_pick rule (a.length + b.length) a b (Nat.le_refl _) ha hb
  constructor
  · intro h z hz
    have hn : pick rule (a.length + b.length) a b = [] := List.eq_nil_of_length_eq_zero (by omega)
    cases hr : rule (decide (z ∈ a)) (decide (z ∈ b)) with
    | false => rfl
    | true =>
      have := (hm z).2 ⟨hz, hr⟩
      rw [hn] at this
      cases this
  · intro h
    cases hp : pick rule (a.length + b.length) a b with
    | nil => rfl
    | cons z l =>
      have := (hm z).1 (by rw [hp]; exact List.mem_cons_self ..)
      rw [h z this.1] at this
      cases this.2
end Go.Proofs.Ytgfbgfbnmiainaa.Fam
/-! Single sets: which relations leave them as they are. -/
namespace Go.Proofs.Ytgfbgfbnmiainaa.Fam
set_option linter.unusedVariables false
set_option linter.unusedSimpArgs false
open Go.RowKit Go.Proofs.YtgfbgfbnmiainaaW.PrintWords Go.Proofs.YtgfbgfbnmiainaaW.PrintLast Go.Proofs.YtgfbgfbnmiainaaW.PrintMore Go.Proofs.Ytgfbgfbnmiainaa.Q
theorem le_into {P : List S59} {i m : Int} (hm : Wd m) (hi : Wd (rd_T59 P i).f0) : Le (intoS P i m) (rd_T59 P i) ↔ sub m (rd_T59 P i).f0 := by
  constructor
  · intro h j hj hb
    refine h.lo j hj ?_
    show bt (Go.bits .or .u64 (rd_T59 P i).f0 m) j = true
    rw [bt_or hi hm, hb, Bool.or_true]
  · intro h
    refine ⟨fun j hj hb => ?_, sub_refl _, Int.le_refl _, Int.le_refl _⟩
    have hb' : bt (Go.bits .or .u64 (rd_T59 P i).f0 m) j = true := hb
    rw [bt_or hi hm] at hb'
    rcases Bool.or_eq_true_iff.mp hb' with h' | h'
    · exact h'
    · exact h j hj h'
theorem le_only {P : List S59} {i m : Int} (hm : Wd m) (hi : Wd (rd_T59 P i).f1) : Le (onlyS P i m) (rd_T59 P i) ↔ sub (rd_T59 P i).f1 m := by
  constructor
  · intro h j hj hb
    have h1 : bt (Go.bits .and .u64 (rd_T59 P i).f1 m) j = true := h.hi j hj hb
    rw [bt_and hi hm] at h1
    exact (Bool.and_eq_true_iff.mp h1).2
  · intro h
    refine ⟨sub_refl _, fun j hj hb => ?_, Int.le_refl _, Int.le_refl _⟩
    show bt (Go.bits .and .u64 (rd_T59 P i).f1 m) j = true
    rw [bt_and hi hm, hb, h j hj hb]
    rfl
theorem le_least {P : List S59} {i m : Int} : Le (leastS P i m) (rd_T59 P i) ↔ m ≤ (rd_T59 P i).f2 := by
  obtain ⟨p1, p2, p3⟩ := mx_facts (rd_T59 P i).f2 m
  constructor
  · intro h
    exact Int.le_trans p2 h.mn
  · intro h
    refine ⟨sub_refl _, sub_refl _, ?_, Int.le_refl _⟩
    show mx (rd_T59 P i).f2 m ≤ (rd_T59 P i).f2
    rcases p3 with e | e <;> omega
theorem le_greatest {P : List S59} {i m : Int} : Le (greatestS P i m) (rd_T59 P i) ↔ (rd_T59 P i).f3 ≤ m := by
  obtain ⟨p1, p2, p3⟩ := mn_facts (rd_T59 P i).f3 m
  constructor
  · intro h
    exact Int.le_trans h.mx p2
  · intro h
    refine ⟨sub_refl _, sub_refl _, Int.le_refl _, ?_⟩
    show (rd_T59 P i).f3 ≤ mn (rd_T59 P i).f3 m
    rcases p3 with e | e <;> omega
/-- A single set. -/
def pnt (s : List Int) : S59 := ⟨ofL s, ofL s, (s.length : Int), (s.length : Int)⟩
theorem pnt_nm {s : List Int} (h : chk none s = true) : Nm (pnt s) :=
  ⟨⟨wd_ofL s, wd_ofL s⟩, sub_refl _, Int.le_of_eq (card_ofL h), Int.le_refl _, Int.le_of_eq (card_ofL h).symm, fun _ => rfl, fun _ => rfl⟩
theorem sub_pnt {a : List Int} (ha : chk none a = true) {v : Int} : sub (ofL a) v ↔ ∀ z ∈ a, bt v z.toNat = true := by
  constructor
  · intro h z hz
    obtain ⟨h0, h1⟩ := chk_rng _ _ ha z hz
    refine h z.toNat (by omega) ?_
    rw [bt_ofL ha, decide_eq_true_iff, Int.toNat_of_nonneg h0]
    exact hz
  · intro h i hi hb
    rw [bt_ofL ha, decide_eq_true_iff] at hb
    have := h _ hb
    rwa [Int.toNat_natCast] at this
theorem bt_in {a : List Int} (ha : chk none a = true) {z : Int} (hz : 0 ≤ z) : bt (ofL a) z.toNat = decide (z ∈ a) := by
  rw [bt_ofL ha, Int.toNat_of_nonneg hz]
theorem cnt_or : ∀ n x y z, (∀ i, i < n → z.testBit i = true → x.testBit i = true ∨ y.testBit i = true) → cnt n z ≤ cnt n x + cnt n y
  | 0, _, _, _, _ => Nat.zero_le _
  | n + 1, x, y, z, h => by
    have h1 := cnt_or n (x / 2) (y / 2) (z / 2) (fun i hi hx => by
      have := h (i + 1) (by omega)
      rw [Nat.testBit_succ, Nat.testBit_succ, Nat.testBit_succ] at this
      exact this hx)
    have h0 := h 0 (by omega)
    rw [Nat.testBit_zero, Nat.testBit_zero, Nat.testBit_zero] at h0
    simp only [decide_eq_true_eq] at h0
    simp only [cnt]
    omega
theorem card_or {x y z : Int} (h : ∀ i, i < 64 → bt z i = true → bt x i = true ∨ bt y i = true) : card z ≤ card x + card y := by
  have := cnt_or 64 x.toNat y.toNat z.toNat h
  unfold card
  omega
def setsOk (L : List (List Int)) : Prop := ∀ i : Nat, i < L.length → chk none (lst L i) = true
def pts (L : List (List Int)) : List S59 := (List.range L.length).map fun i => pnt (lst L i)
theorem rd_pts {L : List (List Int)} {i : Int} (h0 : 0 ≤ i) (h1 : i < L.length) : rd_T59 (pts L) i = pnt (lst L i.toNat) := rd_map h0 h1
theorem pts_an {L : List (List Int)} (h : setsOk L) : AN L.length (pts L) := by
  refine ⟨by simp [pts], fun i h0 h1 => ?_⟩
  rw [rd_pts h0 h1]
  exact pnt_nm (h _ (by omega))
/-- What a relation asks of sets. -/
def asks (q : Kn) (a b c : List Int) (N : Int) : Prop := match q with
  | .part => ∀ z ∈ a, z ∈ b
  | .apart => ∀ z ∈ a, z ∉ b
  | .union => ∀ z, z ∈ c ↔ z ∈ a ∨ z ∈ b
  | .meet => ∀ z, z ∈ c ↔ z ∈ a ∧ z ∈ b
  | .minus => ∀ z, z ∈ c ↔ z ∈ a ∧ z ∉ b
  | .has => N ∈ a
  | .lacks => N ∉ a
  | .size => (a.length : Int) = N
theorem resF_asks (q : Kn) (a b c : List Int) (N : Int) (ha : a.Pairwise (· < ·)) (hb : b.Pairwise (· < ·)) (hc : c.Pairwise (· < ·)) : q.resF a b c N = true ↔ asks q a b c N := by
  have hset : ∀ rule : Bool → Bool → Bool, c = pick rule (a.length + b.length) a b ↔ ∀ z, z ∈ c ↔ (z ∈ a ∨ z ∈ b) ∧ rule (decide (z ∈ a)) (decide (z ∈ b)) = true := by
    intro rule
    have hm := mem_pick rule (a.length + b.length) a b (Nat.le_refl _) ha hb
    constructor
    · intro h z
      rw [← hm z, ← h]
    · intro h
      exact sorted_ext c _ hc (pick_sorted rule _ a b (Nat.le_refl _) ha hb) (fun z => (h z).trans (hm z).symm)
  cases q with
  | part =>
    simp only [Kn.resF, asks, decide_eq_true_iff]
    rw [nil_pick r_without a b ha hb]
    refine ⟨fun h z hz => ?_, fun h z hz => ?_⟩
    · have := h z (.inl hz)
      simpa [r_without, hz] using this
    · by_cases h1 : z ∈ a
      · have := h z h1
        simp [r_without, this]
      · simp [r_without, h1]
  | apart =>
    simp only [Kn.resF, asks, decide_eq_true_iff]
    rw [nil_pick r_both a b ha hb]
    refine ⟨fun h z hz => ?_, fun h z hz => ?_⟩
    · have := h z (.inl hz)
      simpa [r_both, hz] using this
    · by_cases h1 : z ∈ a
      · have := h z h1
        simp [r_both, this]
      · simp [r_both, h1]
  | union =>
    simp only [Kn.resF, asks, decide_eq_true_iff]
    rw [hset]
    refine forall_congr' fun z => ?_
    by_cases h1 : z ∈ a <;> by_cases h2 : z ∈ b <;> simp [r_either, h1, h2]
  | meet =>
    simp only [Kn.resF, asks, decide_eq_true_iff]
    rw [hset]
    refine forall_congr' fun z => ?_
    by_cases h1 : z ∈ a <;> by_cases h2 : z ∈ b <;> simp [r_both, h1, h2]
  | minus =>
    simp only [Kn.resF, asks, decide_eq_true_iff]
    rw [hset]
    refine forall_congr' fun z => ?_
    by_cases h1 : z ∈ a <;> by_cases h2 : z ∈ b <;> simp [r_without, h1, h2]
  | has => simp only [Kn.resF, asks, decide_eq_true_iff]
  | lacks => simp only [Kn.resF, asks, Bool.not_eq_true', decide_eq_false_iff_not]
  | size => simp only [Kn.resF, asks, decide_eq_true_iff]
end Go.Proofs.Ytgfbgfbnmiainaa.Fam
/-! Single sets: a relation leaves them as they are exactly if it holds. -/
namespace Go.Proofs.Ytgfbgfbnmiainaa.Fam
set_option linter.unusedVariables false
set_option linter.unusedSimpArgs false
open Go.RowKit Go.Proofs.YtgfbgfbnmiainaaW.PrintWords Go.Proofs.YtgfbgfbnmiainaaW.PrintLast Go.Proofs.YtgfbgfbnmiainaaW.PrintMore Go.Proofs.Ytgfbgfbnmiainaa.Q
section
variable {P : List S59} {a b c : Int} {A B C : List Int}
theorem card_sub {A B : List Int} (hA : chk none A = true) (hB : chk none B = true) (h : ∀ z ∈ A, z ∈ B) : (A.length : Int) ≤ (B.length : Int) := by
  rw [← card_ofL hA, ← card_ofL hB]
  refine card_mono ((sub_pnt hA).mpr fun z hz => ?_)
  rw [bt_in hB (chk_rng _ _ hA z hz).1, decide_eq_true_iff]
  exact h z hz
theorem q_part (hA : chk none A = true) (hB : chk none B = true) (ha : rd_T59 P a = pnt A) (hb : rd_T59 P b = pnt B) : Qs (opsQ (.part a b)) P ↔ ∀ z ∈ A, z ∈ B := by
  simp only [Qs, opsQ, List.forall_mem_cons, List.not_mem_nil, false_implies, implies_true, and_true]
  rw [le_into (by rw [ha]; exact wd_ofL A) (by rw [hb]; exact wd_ofL B), le_only (by rw [hb]; exact wd_ofL B) (by rw [ha]; exact wd_ofL A), le_greatest, le_least, ha, hb]
  simp only [pnt]
  rw [sub_pnt hA]
  have e : (∀ z ∈ A, bt (ofL B) z.toNat = true) ↔ ∀ z ∈ A, z ∈ B := by
    refine forall_congr' fun z => forall_congr' fun hz => ?_
    rw [bt_in hB (chk_rng _ _ hA z hz).1, decide_eq_true_iff]
  rw [e]
  refine ⟨fun h => h.1, fun h => ⟨h, h, ?_, ?_⟩⟩ <;> exact card_sub hA hB h
theorem sub_notP (hA : chk none A = true) (hB : chk none B = true) : sub (ofL A) (Go.bits .xor .u64 (IntKind.max .u64) (ofL B)) ↔ ∀ z ∈ A, z ∉ B := by
  rw [sub_pnt hA]
  refine forall_congr' fun z => forall_congr' fun hz => ?_
  obtain ⟨h0, h1⟩ := chk_rng _ _ hA z hz
  rw [bt_not (wd_ofL B) _ (by omega), bt_in hB h0, Bool.not_eq_true', decide_eq_false_iff_not]
theorem q_apart (hA : chk none A = true) (hB : chk none B = true) (ha : rd_T59 P a = pnt A) (hb : rd_T59 P b = pnt B) : Qs (opsQ (.apart a b)) P ↔ ∀ z ∈ A, z ∉ B := by
  simp only [Qs, opsQ, List.forall_mem_cons, List.not_mem_nil, false_implies, implies_true, and_true]
  rw [le_only (wd_xor _ _) (by rw [hb]; exact wd_ofL B), le_only (wd_xor _ _) (by rw [ha]; exact wd_ofL A), ha, hb]
  simp only [pnt]
  rw [sub_notP hA hB, sub_notP hB hA]
  exact ⟨fun h => h.2, fun h => ⟨fun z h1 h2 => h z h2 h1, h⟩⟩
theorem sub_orL (hA : chk none A = true) (hB : chk none B = true) (hC : chk none C = true) : sub (Go.bits .or .u64 (ofL A) (ofL B)) (ofL C) ↔ (∀ z ∈ A, z ∈ C) ∧ (∀ z ∈ B, z ∈ C) := by
  have hb : ∀ i, bt (Go.bits .or .u64 (ofL A) (ofL B)) i = (decide ((i : Int) ∈ A) || decide ((i : Int) ∈ B)) := fun i => by rw [bt_or (wd_ofL A) (wd_ofL B), bt_ofL hA, bt_ofL hB]
  constructor
  · intro h
    refine ⟨fun z hz => ?_, fun z hz => ?_⟩
    · obtain ⟨h0, h1⟩ := chk_rng _ _ hA z hz
      have := h z.toNat (by omega) (by rw [hb, Int.toNat_of_nonneg h0, decide_eq_true hz]; rfl)
      rwa [bt_in hC h0, decide_eq_true_iff] at this
    · obtain ⟨h0, h1⟩ := chk_rng _ _ hB z hz
      have := h z.toNat (by omega) (by rw [hb, Int.toNat_of_nonneg h0, decide_eq_true hz, Bool.or_true])
      rwa [bt_in hC h0, decide_eq_true_iff] at this
  · rintro ⟨h1, h2⟩ i hi h
    rw [hb] at h
    rw [bt_ofL hC, decide_eq_true_iff]
    rcases Bool.or_eq_true_iff.mp h with h | h
    · exact h1 _ (of_decide_eq_true h)
    · exact h2 _ (of_decide_eq_true h)
theorem sub_orR (hA : chk none A = true) (hB : chk none B = true) (hC : chk none C = true) : sub (ofL C) (Go.bits .or .u64 (ofL A) (ofL B)) ↔ ∀ z ∈ C, z ∈ A ∨ z ∈ B := by
  rw [sub_pnt hC]
  refine forall_congr' fun z => forall_congr' fun hz => ?_
  have h0 := (chk_rng _ _ hC z hz).1
  rw [bt_or (wd_ofL A) (wd_ofL B), bt_in hA h0, bt_in hB h0, Bool.or_eq_true_iff, decide_eq_true_iff, decide_eq_true_iff]
theorem bt_dif (hA : chk none A = true) (hB : chk none B = true) (i : Nat) (hi : i < 64) : bt (Go.bits .andNot .u64 (ofL A) (ofL B)) i = (decide ((i : Int) ∈ A) && !decide ((i : Int) ∈ B)) := by
  rw [bt_andNot (wd_ofL A) (wd_ofL B) i hi, bt_ofL hA, bt_ofL hB]
theorem sub_difL (hA : chk none A = true) (hB : chk none B = true) (hC : chk none C = true) : sub (Go.bits .andNot .u64 (ofL A) (ofL B)) (ofL C) ↔ ∀ z ∈ A, z ∉ B → z ∈ C := by
  constructor
  · intro h z hz hn
    obtain ⟨h0, h1⟩ := chk_rng _ _ hA z hz
    have := h z.toNat (by omega) (by rw [bt_dif hA hB _ (by omega), Int.toNat_of_nonneg h0, decide_eq_true hz, decide_eq_false hn]; rfl)
    rwa [bt_in hC h0, decide_eq_true_iff] at this
  · intro h i hi hb
    rw [bt_dif hA hB i hi] at hb
    obtain ⟨h1, h2⟩ := Bool.and_eq_true_iff.mp hb
    rw [bt_ofL hC, decide_eq_true_iff]
    rw [Bool.not_eq_true', decide_eq_false_iff_not] at h2
    exact h _ (of_decide_eq_true h1) h2
theorem sub_difR (hA : chk none A = true) (hB : chk none B = true) (hC : chk none C = true) : sub (ofL C) (Go.bits .andNot .u64 (ofL A) (ofL B)) ↔ ∀ z ∈ C, z ∈ A ∧ z ∉ B := by
  rw [sub_pnt hC]
  refine forall_congr' fun z => forall_congr' fun hz => ?_
  obtain ⟨h0, h1⟩ := chk_rng _ _ hC z hz
  rw [bt_dif hA hB _ (by omega), Int.toNat_of_nonneg h0, Bool.and_eq_true_iff, decide_eq_true_iff, Bool.not_eq_true', decide_eq_false_iff_not]
theorem sub_andR (hA : chk none A = true) (hB : chk none B = true) (hC : chk none C = true) : sub (ofL C) (Go.bits .and .u64 (ofL A) (ofL B)) ↔ ∀ z ∈ C, z ∈ A ∧ z ∈ B := by
  rw [sub_pnt hC]
  refine forall_congr' fun z => forall_congr' fun hz => ?_
  have h0 := (chk_rng _ _ hC z hz).1
  rw [bt_and (wd_ofL A) (wd_ofL B), bt_in hA h0, bt_in hB h0, Bool.and_eq_true_iff, decide_eq_true_iff, decide_eq_true_iff]
theorem sub_andL (hA : chk none A = true) (hB : chk none B = true) (hC : chk none C = true) : sub (Go.bits .and .u64 (ofL A) (ofL B)) (ofL C) ↔ ∀ z ∈ A, z ∈ B → z ∈ C := by
  have hb : ∀ i, bt (Go.bits .and .u64 (ofL A) (ofL B)) i = (decide ((i : Int) ∈ A) && decide ((i : Int) ∈ B)) := fun i => by rw [bt_and (wd_ofL A) (wd_ofL B), bt_ofL hA, bt_ofL hB]
  constructor
  · intro h z hz hz2
    obtain ⟨h0, h1⟩ := chk_rng _ _ hA z hz
    have := h z.toNat (by omega) (by rw [hb, Int.toNat_of_nonneg h0, decide_eq_true hz, decide_eq_true hz2]; rfl)
    rwa [bt_in hC h0, decide_eq_true_iff] at this
  · intro h i hi h'
    rw [hb] at h'
    obtain ⟨h1, h2⟩ := Bool.and_eq_true_iff.mp h'
    rw [bt_ofL hC, decide_eq_true_iff]
    exact h _ (of_decide_eq_true h1) (of_decide_eq_true h2)
/-- b \\ (a \\ c): none of what a has and c has not. -/
theorem sub_notdif (hA : chk none A = true) (hB : chk none B = true) (hC : chk none C = true) : sub (ofL B) (Go.bits .xor .u64 (IntKind.max .u64) (Go.bits .andNot .u64 (ofL A) (ofL C))) ↔ ∀ z ∈ B, z ∈ A → z ∈ C := by
  rw [sub_pnt hB]
  refine forall_congr' fun z => forall_congr' fun hz => ?_
  obtain ⟨h0, h1⟩ := chk_rng _ _ hB z hz
  rw [bt_not (wd_andNot _ _) _ (by omega), bt_dif hA hC _ (by omega), Int.toNat_of_nonneg h0]
  by_cases h2 : z ∈ A <;> by_cases h3 : z ∈ C <;> simp [h2, h3]
theorem sub_in (hA : chk none A = true) (hB : chk none B = true) : sub (ofL A) (ofL B) ↔ ∀ z ∈ A, z ∈ B := by
  rw [sub_pnt hA]
  refine forall_congr' fun z => forall_congr' fun hz => ?_
  rw [bt_in hB (chk_rng _ _ hA z hz).1, decide_eq_true_iff]
theorem len_or (hA : chk none A = true) (hB : chk none B = true) (hC : chk none C = true) (h : ∀ z ∈ C, z ∈ A ∨ z ∈ B) : (C.length : Int) ≤ A.length + B.length := by
  rw [← card_ofL hA, ← card_ofL hB, ← card_ofL hC]
  refine card_or fun i hi hb => ?_
  rw [bt_ofL hC, decide_eq_true_iff] at hb
  rw [bt_ofL hA, bt_ofL hB, decide_eq_true_iff, decide_eq_true_iff]
  exact h _ hb
theorem len64 (hA : chk none A = true) : (A.length : Int) ≤ 64 := by
  rw [← card_ofL hA]
  exact (card_le _).2
theorem q_union (hA : chk none A = true) (hB : chk none B = true) (hC : chk none C = true) (ha : rd_T59 P a = pnt A) (hb : rd_T59 P b = pnt B) (hc : rd_T59 P c = pnt C) : Qs (opsQ (.union a b c)) P ↔ ∀ z, z ∈ C ↔ z ∈ A ∨ z ∈ B := by
  simp only [Qs, opsQ, List.forall_mem_cons, List.not_mem_nil, false_implies, implies_true, and_true]
  have wa : Wd (rd_T59 P a).f0 ∧ Wd (rd_T59 P a).f1 := by rw [ha]; exact ⟨wd_ofL A, wd_ofL A⟩
  have wb : Wd (rd_T59 P b).f0 ∧ Wd (rd_T59 P b).f1 := by rw [hb]; exact ⟨wd_ofL B, wd_ofL B⟩
  have wc : Wd (rd_T59 P c).f0 ∧ Wd (rd_T59 P c).f1 := by rw [hc]; exact ⟨wd_ofL C, wd_ofL C⟩
  rw [le_into (wd_or _ _) wc.1, le_only wc.2 wa.2, le_only wc.2 wb.2, le_only (wd_or _ _) wc.2, le_into (wd_andNot _ _) wb.1, le_into (wd_andNot _ _) wa.1, le_greatest, le_least, ha, hb, hc]
  simp only [pnt]
  rw [sub_orL hA hB hC, sub_in hA hC, sub_in hB hC, sub_orR hA hB hC, sub_difL hC hA hB, sub_difL hC hB hA]
  have n0 := len64 hA
  have n1 := len64 hB
  have hw : wrap64 ((A.length : Int) + (B.length : Int)) = (A.length : Int) + (B.length : Int) := by unfold wrap64; omega
  rw [hw]
  constructor
  · rintro ⟨⟨h1, h2⟩, _, _, h3, _⟩ z
    exact ⟨h3 z, fun h => h.elim (h1 z) (h2 z)⟩
  · intro h
    have h1 : ∀ z ∈ A, z ∈ C := fun z hz => (h z).mpr (.inl hz)
    have h2 : ∀ z ∈ B, z ∈ C := fun z hz => (h z).mpr (.inr hz)
    refine ⟨⟨h1, h2⟩, h1, h2, fun z hz => (h z).mp hz, fun z hz hn => ((h z).mp hz).resolve_left hn, fun z hz hn => ((h z).mp hz).resolve_right hn, len_or hA hB hC (fun z hz => (h z).mp hz), ?_⟩
    have k1 := card_sub hA hC h1
    have k2 := card_sub hB hC h2
    show mx (A.length : Int) (B.length : Int) ≤ _
    rcases (mx_facts (A.length : Int) (B.length : Int)).2.2 with e | e <;> rw [e] <;> assumption
theorem q_meet (hA : chk none A = true) (hB : chk none B = true) (hC : chk none C = true) (ha : rd_T59 P a = pnt A) (hb : rd_T59 P b = pnt B) (hc : rd_T59 P c = pnt C) : Qs (opsQ (.meet a b c)) P ↔ ∀ z, z ∈ C ↔ z ∈ A ∧ z ∈ B := by
  simp only [Qs, opsQ, List.forall_mem_cons, List.not_mem_nil, false_implies, implies_true, and_true]
  have wa : Wd (rd_T59 P a).f0 ∧ Wd (rd_T59 P a).f1 := by rw [ha]; exact ⟨wd_ofL A, wd_ofL A⟩
  have wb : Wd (rd_T59 P b).f0 ∧ Wd (rd_T59 P b).f1 := by rw [hb]; exact ⟨wd_ofL B, wd_ofL B⟩
  have wc : Wd (rd_T59 P c).f0 ∧ Wd (rd_T59 P c).f1 := by rw [hc]; exact ⟨wd_ofL C, wd_ofL C⟩
  rw [le_into (wd_and _ _) wc.1, le_into wc.1 wa.1, le_into wc.1 wb.1, le_only (wd_and _ _) wc.2, le_only (wd_xor _ _) wb.2, le_only (wd_xor _ _) wa.2, le_greatest, ha, hb, hc]
  simp only [pnt]
  rw [sub_andL hA hB hC, sub_in hC hA, sub_in hC hB, sub_andR hA hB hC, sub_notdif hA hB hC, sub_notdif hB hA hC]
  constructor
  · rintro ⟨h1, h2, h3, _⟩ z
    exact ⟨fun h => ⟨h2 z h, h3 z h⟩, fun h => h1 z h.1 h.2⟩
  · intro h
    have h1 : ∀ z ∈ C, z ∈ A := fun z hz => ((h z).mp hz).1
    have h2 : ∀ z ∈ C, z ∈ B := fun z hz => ((h z).mp hz).2
    refine ⟨fun z h3 h4 => (h z).mpr ⟨h3, h4⟩, h1, h2, fun z hz => (h z).mp hz, fun z h3 h4 => (h z).mpr ⟨h4, h3⟩, fun z h3 h4 => (h z).mpr ⟨h3, h4⟩, ?_⟩
    have k1 := card_sub hC hA h1
    have k2 := card_sub hC hB h2
    show _ ≤ mn (A.length : Int) (B.length : Int)
    rcases (mn_facts (A.length : Int) (B.length : Int)).2.2 with e | e <;> rw [e] <;> assumption
theorem q_minus (hA : chk none A = true) (hB : chk none B = true) (hC : chk none C = true) (ha : rd_T59 P a = pnt A) (hb : rd_T59 P b = pnt B) (hc : rd_T59 P c = pnt C) : Qs (opsQ (.minus a b c)) P ↔ ∀ z, z ∈ C ↔ z ∈ A ∧ z ∉ B := by
  simp only [Qs, opsQ, List.forall_mem_cons, List.not_mem_nil, false_implies, implies_true, and_true]
  have wa : Wd (rd_T59 P a).f0 ∧ Wd (rd_T59 P a).f1 := by rw [ha]; exact ⟨wd_ofL A, wd_ofL A⟩
  have wb : Wd (rd_T59 P b).f0 ∧ Wd (rd_T59 P b).f1 := by rw [hb]; exact ⟨wd_ofL B, wd_ofL B⟩
  have wc : Wd (rd_T59 P c).f0 ∧ Wd (rd_T59 P c).f1 := by rw [hc]; exact ⟨wd_ofL C, wd_ofL C⟩
  rw [le_into (wd_andNot _ _) wc.1, le_into wc.1 wa.1, le_only (wd_xor _ _) wb.2, le_only (wd_andNot _ _) wc.2, le_into (wd_andNot _ _) wb.1, le_greatest, ha, hb, hc]
  simp only [pnt]
  rw [sub_difL hA hB hC, sub_in hC hA, sub_notP hB hC, sub_difR hA hB hC, sub_difL hA hC hB]
  constructor
  · rintro ⟨h1, h2, h3, h4, _⟩ z
    exact ⟨h4 z, fun h => h1 z h.1 h.2⟩
  · intro h
    have h1 : ∀ z ∈ C, z ∈ A := fun z hz => ((h z).mp hz).1
    refine ⟨fun z h3 h4 => (h z).mpr ⟨h3, h4⟩, h1, fun z h3 h4 => ((h z).mp h4).2 h3, fun z hz => (h z).mp hz, fun z h3 h4 => ?_, card_sub hC hA h1⟩
    by_cases h5 : z ∈ B
    · exact h5
    · exact absurd ((h z).mpr ⟨h3, h5⟩) h4
theorem bit_pow {N : Int} (h0 : 0 ≤ N) (h1 : N ≤ 63) : IntKind.u64.wrap (2 ^ N.toNat) = ((2 ^ N.toNat : Nat) : Int) := by
  have h2 : ((2 ^ N.toNat : Nat) : Int) = (2 : Int) ^ N.toNat := by rw [Int.natCast_pow]; rfl
  rw [← h2]
  exact wrap_u _ (Nat.lt_of_le_of_lt (Nat.pow_le_pow_right (by decide) (by omega : N.toNat ≤ 63)) (by decide))
theorem q_has {N : Int} (hA : chk none A = true) (ha : rd_T59 P a = pnt A) : (failQ (.has a N) = false ∧ Qs (opsQ (.has a N)) P) ↔ N ∈ A := by
  simp only [Qs, opsQ, List.forall_mem_cons, List.not_mem_nil, false_implies, implies_true, and_true, failQ, Bool.not_eq_false', decide_eq_true_iff]
  constructor
  · rintro ⟨⟨h0, h1⟩, h2⟩
    rw [bit_pow h0 h1, le_into (wd_pow (by omega)) (by rw [ha]; exact wd_ofL A), ha] at h2
    have := h2 N.toNat (by omega) (by rw [bt_pow, decide_eq_true_iff])
    simp only [pnt] at this
    rwa [bt_in hA h0, decide_eq_true_iff] at this
  · intro h
    obtain ⟨h0, h1⟩ := chk_rng _ _ hA N h
    refine ⟨⟨h0, h1⟩, ?_⟩
    rw [bit_pow h0 h1, le_into (wd_pow (by omega)) (by rw [ha]; exact wd_ofL A), ha]
    intro i hi hb
    rw [bt_pow, decide_eq_true_iff] at hb
    subst hb
    simp only [pnt]
    rw [bt_in hA h0, decide_eq_true_iff]
    exact h
theorem q_lacks {N : Int} (hA : chk none A = true) (ha : rd_T59 P a = pnt A) : Qs (opsQ (.lacks a N)) P ↔ N ∉ A := by
  simp only [Qs, opsQ]
  by_cases hN : 0 ≤ N ∧ N ≤ 63
  · rw [if_pos hN]
    simp only [List.forall_mem_cons, List.not_mem_nil, false_implies, implies_true, and_true]
    rw [bit_pow hN.1 hN.2, le_only (wd_xor _ _) (by rw [ha]; exact wd_ofL A), ha]
    simp only [pnt]
    rw [sub_pnt hA]
    constructor
    · intro h hm
      have := h N hm
      rw [bt_not (wd_pow (by omega)) _ (by omega), bt_pow, decide_eq_true rfl] at this
      cases this
    · intro h z hz
      obtain ⟨h0, h1⟩ := chk_rng _ _ hA z hz
      rw [bt_not (wd_pow (by omega)) _ (by omega), bt_pow, Bool.not_eq_true', decide_eq_false_iff_not]
      intro e
      obtain rfl : z = N := by omega
      exact h hz
  · rw [if_neg hN]
    refine ⟨fun _ hm => hN (chk_rng _ _ hA N hm), fun _ o ho => by cases ho⟩
theorem q_size {N : Int} (hA : chk none A = true) (ha : rd_T59 P a = pnt A) : (failQ (.size a N) = false ∧ Qs (opsQ (.size a N)) P) ↔ (A.length : Int) = N := by
  simp only [Qs, opsQ, List.forall_mem_cons, List.not_mem_nil, false_implies, implies_true, and_true, failQ, Bool.not_eq_false', decide_eq_true_iff]
  rw [le_least, le_greatest, ha]
  simp only [pnt]
  have := len64 hA
  omega
end
/-- A relation of sets. -/
theorem q_pts {q : Kn} {v : List Int} {N : Int} {L : List (List Int)} (hL : setsOk L) (hq : v.length = q.arity) (hin : ∀ j : Nat, j < v.length → 0 ≤ rd v (j : Int) ∧ rd v (j : Int) < L.length) :
    Qr (rlOf q v N) (pts L) ↔ asks q (lst L (rd v 0).toNat) (lst L (rd v 1).toNat) (lst L (rd v 2).toNat) N := by
  have C : ∀ j : Nat, j < v.length → chk none (lst L (rd v (j : Int)).toNat) = true ∧ rd_T59 (pts L) (rd v (j : Int)) = pnt (lst L (rd v (j : Int)).toNat) := fun j hj => by
    obtain ⟨h0, h1⟩ := hin j hj
    exact ⟨hL _ (by omega), rd_pts h0 h1⟩
  cases q
  case part =>
    obtain ⟨a0, a1⟩ := C 0 (by rw [hq]; decide)
    obtain ⟨b0, b1⟩ := C 1 (by rw [hq]; decide)
    exact ⟨fun h => (q_part a0 b0 a1 b1).mp h.2, fun h => ⟨rfl, (q_part a0 b0 a1 b1).mpr h⟩⟩
  case apart =>
    obtain ⟨a0, a1⟩ := C 0 (by rw [hq]; decide)
    obtain ⟨b0, b1⟩ := C 1 (by rw [hq]; decide)
    exact ⟨fun h => (q_apart a0 b0 a1 b1).mp h.2, fun h => ⟨rfl, (q_apart a0 b0 a1 b1).mpr h⟩⟩
  case union =>
    obtain ⟨a0, a1⟩ := C 0 (by rw [hq]; decide)
    obtain ⟨b0, b1⟩ := C 1 (by rw [hq]; decide)
    obtain ⟨c0, c1⟩ := C 2 (by rw [hq]; decide)
    exact ⟨fun h => (q_union a0 b0 c0 a1 b1 c1).mp h.2, fun h => ⟨rfl, (q_union a0 b0 c0 a1 b1 c1).mpr h⟩⟩
  case meet =>
    obtain ⟨a0, a1⟩ := C 0 (by rw [hq]; decide)
    obtain ⟨b0, b1⟩ := C 1 (by rw [hq]; decide)
    obtain ⟨c0, c1⟩ := C 2 (by rw [hq]; decide)
    exact ⟨fun h => (q_meet a0 b0 c0 a1 b1 c1).mp h.2, fun h => ⟨rfl, (q_meet a0 b0 c0 a1 b1 c1).mpr h⟩⟩
  case minus =>
    obtain ⟨a0, a1⟩ := C 0 (by rw [hq]; decide)
    obtain ⟨b0, b1⟩ := C 1 (by rw [hq]; decide)
    obtain ⟨c0, c1⟩ := C 2 (by rw [hq]; decide)
    exact ⟨fun h => (q_minus a0 b0 c0 a1 b1 c1).mp h.2, fun h => ⟨rfl, (q_minus a0 b0 c0 a1 b1 c1).mpr h⟩⟩
  case has =>
    obtain ⟨a0, a1⟩ := C 0 (by rw [hq]; decide)
    exact q_has a0 a1
  case lacks =>
    obtain ⟨a0, a1⟩ := C 0 (by rw [hq]; decide)
    exact ⟨fun h => (q_lacks a0 a1).mp h.2, fun h => ⟨rfl, (q_lacks a0 a1).mpr h⟩⟩
  case size =>
    obtain ⟨a0, a1⟩ := C 0 (by rw [hq]; decide)
    exact q_size a0 a1
end Go.Proofs.Ytgfbgfbnmiainaa.Fam
/-! FamilyKeeps, the plain law. -/
namespace Go.Proofs.Ytgfbgfbnmiainaa.Fam
set_option linter.unusedVariables false
set_option linter.unusedSimpArgs false
open Go.RowKit Go.Proofs.YtgfbgfbnmiainaaW.PrintWords Go.Proofs.YtgfbgfbnmiainaaW.PrintLast Go.Proofs.YtgfbgfbnmiainaaW.PrintMore Go.Proofs.Ytgfbgfbnmiainaa.Q
/-- Whether a family stands for a set. -/
def hasB (f : S37) (s : List Int) : Bool := vl f && chk none s && (Go.bits .andNot .u64 (opn f).f0 (mskF s).1 == 0) && (Go.bits .andNot .u64 (mskF s).1 (opn f).f1 == 0) && decide (f.f2 ≤ (s.length : Int)) && decide ((s.length : Int) ≤ f.f3)
def fixedB (f : S37) : Bool := vl f && ((opn f).f0 == (opn f).f1)
theorem has_f' {f : S37} {s : List Int} (h0 : f.f0.length ≤ 1000) (h1 : f.f1.length ≤ 1000) (hs : s.length ≤ 1000) : family_Has.f 2000 f.f0 f.f1 f.f2 f.f3 s = some (hasB f s) := by
  unfold family_Has.f hasB
  rw [openF_some (openF_eq h0 h1 (by decide)), Option.bind_some, mask_f (by omega) (by omega), Option.bind_some]
  simp only
  have e : (mskF s).2 = chk none s := by unfold mskF; cases chk none s <;> rfl
  rw [e]
  generalize Go.bits .andNot .u64 (opn f).f0 (mskF s).1 = x
  generalize Go.bits .andNot .u64 (mskF s).1 (opn f).f1 = y
  cases vl f
  · simp
  cases chk none s
  · simp
  simp only [if_true, Bool.true_and]
  by_cases hx : x = 0
  · rw [if_pos hx, show (x == 0) = true from beq_iff_eq.mpr hx, Bool.true_and]
    by_cases hy : y = 0
    · rw [if_pos hy, show (y == 0) = true from beq_iff_eq.mpr hy, Bool.true_and]
      have e2 : (opn f).f2 = f.f2 := rfl
      have e3 : (opn f).f3 = f.f3 := rfl
      rw [e2, e3]
      by_cases h : (s.length : Int) ≥ f.f2
      · rw [if_pos h, decide_eq_true (show f.f2 ≤ (s.length : Int) from h), Bool.true_and]
      · rw [if_neg h, decide_eq_false (show ¬ f.f2 ≤ (s.length : Int) from h), Bool.false_and]
    · rw [if_neg hy, show (y == 0) = false from by simpa using hy]
      simp
  · rw [if_neg hx, show (x == 0) = false from by simpa using hx]
    simp
theorem fixed_f {f : S37} (h0 : f.f0.length ≤ 1000) (h1 : f.f1.length ≤ 1000) : family_Fixed.f 2000 f.f0 f.f1 f.f2 f.f3 = some (fixedB f) := by
  unfold family_Fixed.f fixedB
  rw [openF_some (openF_eq h0 h1 (by decide)), Option.bind_some]
  simp only
  cases vl f
  · simp
  · simp
theorem hasB_iff {f : S37} {s : List Int} : hasB f s = true ↔ vl f = true ∧ chk none s = true ∧ Le (opn f) (pnt s) := by
  unfold hasB
  simp only [Bool.and_eq_true, decide_eq_true_eq, beq_iff_eq]
  constructor
  · rintro ⟨⟨⟨⟨⟨h1, h2⟩, h3⟩, h4⟩, h5⟩, h6⟩
    have hw := (opn_rg h1).wf
    have e : (mskF s).1 = ofL s := by unfold mskF; rw [h2]; rfl
    rw [e] at h3 h4
    exact ⟨h1, h2, ⟨(andNot_zero hw.1 (wd_ofL s)).mp h3, (andNot_zero (wd_ofL s) hw.2).mp h4, h5, h6⟩⟩
  · rintro ⟨h1, h2, h3⟩
    have hw := (opn_rg h1).wf
    have e : (mskF s).1 = ofL s := by unfold mskF; rw [h2]; rfl
    rw [e]
    exact ⟨⟨⟨⟨⟨h1, h2⟩, (andNot_zero hw.1 (wd_ofL s)).mpr h3.lo⟩, (andNot_zero (wd_ofL s) hw.2).mpr h3.hi⟩, h3.mn⟩, h3.mx⟩
def HoldsC (r : S33) (L : List (List Int)) (b : Bool) : Prop := ∀ (A : Option Addr) (c : Nat) (La : Option Addr) (lc : Nat) (w : World), Sl w A c r.f1 → kII.C w La L.length L → L.length ≤ lc →
  Calls Try.prog 34 #[.agg #[.string r.f0, .slice A r.f1.length c, .int .i64 r.f2], .slice La L.length lc] w (HoldsEnd w b)
theorem lst_out' {L : List (List Int)} {i : Nat} (h : ¬ i < L.length) : lst L i = [] := by
  unfold lst
  rw [List.getD_eq_getElem?_getD, List.getElem?_eq_none (by omega)]
  rfl
theorem pair_asc : ∀ l : List Int, l.Pairwise (· < ·) → ascB l = true
  | [], _ => rfl
  | [_], _ => rfl
  | x :: y :: l, h => by
    obtain ⟨h1, h2⟩ := List.pairwise_cons.mp h
    simp only [ascB, Bool.and_eq_true, decide_eq_true_eq]
    exact ⟨h1 y (List.mem_cons_self ..), pair_asc (y :: l) h2⟩
/-- Holds, and what it says of sets. -/
theorem holds_c (r : S33) (L : List (List Int)) (hv : r.f1.length ≤ 1000) (hL : L.length ≤ 1000) (hs : ∀ i : Nat, i < L.length → (lst L i).length ≤ 1000) :
    ∃ b, HoldsC r L b ∧ (setsOk L → validB r.f0 r.f1 L.length = true → (b = true ↔ Qr (rlR r) (pts L))) := by
  have hl : ∀ i : Nat, (lst L i).length ≤ 1000 := by
    intro i
    by_cases h : i < L.length
    · exact hs i h
    · rw [lst_out' h]; simp
  obtain ⟨kind, vars, n⟩ := r
  have hF := validF_k (r := ⟨kind, vars, n⟩) (n := L.length) hv (k := 2000) (by decide)
  cases hb : validB kind vars L.length with
  | false =>
    simp only [hb] at hF
    exact ⟨false, fun A c La lc w h1 _ _ => holdsF_not _ kind A c vars n La lc L w h1 hF, fun _ h => by simp at h⟩
  | true =>
    simp only [hb] at hF
    obtain ⟨q, h1, hq, hin, hrl⟩ := valid_q (r := ⟨kind, vars, n⟩) hb
    simp only at h1 hq hin hrl
    subst h1
    by_cases ha : ∀ i : Nat, i < L.length → ascB (lst L i) = true
    · refine ⟨q.resF (lst L (rd vars 0).toNat) (lst L (rd vars 1).toNat) (lst L (rd vars 2).toNat) n, fun A c La lc w h1 h2 h3 => ?_, fun hok _ => ?_⟩
      · refine holdsF_calls 2000 q A c vars n La lc L (fun i => ascB (lst L i)) w h1 h2 h3 hF (fun i _ => family_ascending_f _ (by have := hl i; omega) (by have := hl i; omega)) hq hin (by omega) (fun i => by have := hl i; omega) _ (fun i hi hf => by rw [ha i hi] at hf; cases hf) (fun _ => ?_)
        cases q <;> simp only [Kn.arity] at hq <;> simp only [Kn.resF, ent, hq, Int.ofNat_zero, Int.ofNat_one] <;> rfl
      · have has : ∀ i : Nat, (lst L i).Pairwise (· < ·) := by
          intro i
          by_cases h : i < L.length
          · exact asc_pair _ (ha i h)
          · rw [lst_out' h]; exact List.Pairwise.nil
        rw [hrl, q_pts hok hq hin]
        exact resF_asks q _ _ _ n (has _) (has _) (has _)
    · refine ⟨false, fun A c La lc w h1 h2 h3 => ?_, fun hok _ => ?_⟩
      · exact holdsF_calls 2000 q A c vars n La lc L (fun i => ascB (lst L i)) w h1 h2 h3 hF (fun i _ => family_ascending_f _ (by have := hl i; omega) (by have := hl i; omega)) hq hin (by omega) (fun i => by have := hl i; omega) false (fun _ _ _ => rfl) (fun h => absurd h ha)
      · exact absurd (fun i hi => pair_asc _ (chk_sort _ _ (hok i hi)).1) ha
/-- The families that are the sets alone. -/
def fixL (L : List (List Int)) : List S37 := (List.range L.length).map fun i : Nat => ⟨lst L i, lst L i, 0, 64⟩
theorem fixL_len (L : List (List Int)) : (fixL L).length = L.length := by simp [fixL]
theorem rd_fixL {L : List (List Int)} {i : Nat} (h : i < L.length) : rd_T37 (fixL L) i = ⟨lst L i, lst L i, 0, 64⟩ := rd_map37 (f := fun i : Nat => (⟨lst L i, lst L i, 0, 64⟩ : S37)) h
theorem vl_fix {s : List Int} : vl ⟨s, s, 0, 64⟩ = chk none s := by
  unfold vl
  cases chk none s <;> rfl
/-- Whatever lies below a set alone is the set. -/
theorem below_pnt {s : List Int} (hs : chk none s = true) {p : S59} (hp : Nm p) (h : Le ⟨ofL s, ofL s, 0, 64⟩ p) : p = pnt s := by
  have h0 : p.f0 = ofL s := sub_anti hp.wf.1 (wd_ofL s) (sub_trans hp.in_ h.hi) h.lo
  have h1 : p.f1 = ofL s := sub_anti hp.wf.2 (wd_ofL s) h.hi (sub_trans h.lo hp.in_)
  have c0 := hp.c0; have c1 := hp.c1; have c2 := hp.c2
  rw [h0, card_ofL hs] at c0
  rw [h1, card_ofL hs] at c2
  obtain ⟨p0, p1, p2, p3⟩ := p
  simp only at h0 h1 c0 c1 c2
  unfold pnt
  rw [h0, h1, show p2 = (s.length : Int) by omega, show p3 = (s.length : Int) by omega]
theorem pnt_le {s : List Int} (hs : chk none s = true) : Le ⟨ofL s, ofL s, 0, 64⟩ (pnt s) := by
  have := len64 hs
  exact ⟨sub_refl _, sub_refl _, by simp only [pnt]; omega, by simp only [pnt]; omega⟩
/-- What the law asks. -/
theorem keep_law {rels : List S33} {l : List S37} {L : List (List Int)} {out : List S37} {code : Int} (hn : L.length = l.length) (ho : FixOut rels l out code) (hc : code ≠ 2) {hol : Nat → Bool}
    (hh : ∀ i : Nat, i < rels.length → setsOk L → validB (rd_T33 rels i).f0 (rd_T33 rels i).f1 L.length = true → (hol i = true ↔ Qr (rlR (rd_T33 rels i)) (pts L))) {out2 : List S37} {code2 : Int} (ho2 : FixOut rels (fixL L) out2 code2) :
    ((∀ i : Nat, i < L.length → hasB (rd_T37 l i) (lst L i) = true) → (∀ i : Nat, i < rels.length → hol i = true) → code = 0 ∧ ∀ i : Nat, i < L.length → hasB (rd_T37 out i) (lst L i) = true) ∧
    (code2 = 2 ∨ ((code2 = 0 ↔ ∀ i : Nat, i < rels.length → hol i = true) ∧ (code2 = 0 → out2.length = L.length ∧ ∀ i : Nat, i < L.length → fixedB (rd_T37 out2 i) = true ∧ hasB (rd_T37 out2 i) (lst L i) = true))) := by
  have hb : okB rels l = true := by
    rcases ho with ⟨_, _, h⟩ | ⟨h, _⟩ | ⟨h, _⟩
    · exact absurd h hc
    · exact h
    · exact h
  obtain ⟨_, hvl, hvb⟩ := okB_iff.mp hb
  rw [← hn] at hvb
  have hcl : setsOk L → ((∀ i : Nat, i < rels.length → hol i = true) ↔ Cl L.length (qsOf rels) rels.length (pts L)) := fun hs =>
    ⟨fun h => ⟨pts_an hs, fun j hj => (hh j hj hs (hvb j hj)).mp (h j hj)⟩, fun h i hi => (hh i hi hs (hvb i hi)).mpr (h.q i hi)⟩
  constructor
  · intro hin hall
    have hs : setsOk L := fun i hi => (hasB_iff.mp (hin i hi)).2.1
    have hC := (hcl hs).mp hall
    have hle : LE L.length (xsOf l) (pts L) := fun i h0 h1 => by
      rw [rd_xsOf h0 (by omega), rd_pts h0 h1]
      have := (hasB_iff.mp (hin i.toNat (by omega))).2.2
      rwa [Int.toNat_of_nonneg h0] at this
    rcases ho with ⟨_, _, h⟩ | ⟨_, _, _, h⟩ | ⟨_, h0, X, hX, _, h1, h2⟩
    · exact absurd h hc
    · rw [← hn] at h
      exact absurd hle (h _ hC)
    · rw [← hn] at h1 h2 hX
      refine ⟨h0, fun i hi => ?_⟩
      rw [h2, rd_map37 (f := fun i : Nat => clo (rd_T59 X i)) hi]
      have hR := (hX.nm.2 (i : Int) (by omega) (by omega)).rg
      refine hasB_iff.mpr ⟨vl_clo hR, hs i hi, ?_⟩
      rw [opn_clo hR]
      have := h1 _ hC hle (i : Int) (by omega) (by omega)
      rwa [rd_pts (by omega) (by omega), Int.toNat_natCast] at this
  · have hf := fixL_len L
    rcases ho2 with ⟨_, _, h⟩ | ⟨hb2, _, hc2, h⟩ | ⟨hb2, hc2, X, hX, hXle, h1, h2⟩
    · exact .inl h
    · refine .inr ⟨⟨fun h' => by omega, fun hall => ?_⟩, fun h' => by omega⟩
      obtain ⟨_, hv2, _⟩ := okB_iff.mp hb2
      have hs : setsOk L := fun i hi => by
        have := hv2 i (by omega)
        rwa [rd_fixL hi, vl_fix] at this
      rw [hf] at h
      refine absurd ?_ (h _ ((hcl hs).mp hall))
      intro i h0 h1
      rw [rd_xsOf h0 (by omega), rd_pts h0 h1]
      have e := rd_fixL (L := L) (i := i.toNat) (by omega)
      rw [Int.toNat_of_nonneg h0] at e
      rw [e, opn_eq (by rw [vl_fix]; exact hs _ (by omega))]
      exact pnt_le (hs _ (by omega))
    · obtain ⟨_, hv2, _⟩ := okB_iff.mp hb2
      have hs : setsOk L := fun i hi => by
        have := hv2 i (by omega)
        rwa [rd_fixL hi, vl_fix] at this
      rw [hf] at hX hXle h2
      have e : X = pts L := by
        refine rd_ext hX.nm.1 (by simp [pts]) (fun i h0 h1 => ?_)
        rw [rd_pts h0 h1]
        refine below_pnt (hs _ (by omega)) (hX.nm.2 i h0 h1) ?_
        have := hXle i h0 h1
        rw [rd_xsOf h0 (by omega)] at this
        have e := rd_fixL (L := L) (i := i.toNat) (by omega)
        rw [Int.toNat_of_nonneg h0] at e
        rwa [e, opn_eq (by rw [vl_fix]; exact hs _ (by omega))] at this
      subst e
      refine .inr ⟨⟨fun _ => (hcl hs).mpr hX, fun _ => hc2⟩, fun _ => ⟨by rw [h2]; simp, fun i hi => ?_⟩⟩
      rw [h2, rd_map37 (f := fun i : Nat => clo (rd_T59 (pts L) i)) hi]
      have hR := (hX.nm.2 (i : Int) (by omega) (by omega)).rg
      have er := rd_pts (L := L) (i := (i : Int)) (by omega) (by omega)
      rw [Int.toNat_natCast] at er
      refine ⟨?_, hasB_iff.mpr ⟨vl_clo hR, hs i hi, ?_⟩⟩
      · unfold fixedB
        rw [vl_clo hR, opn_clo hR, er]
        simp [pnt]
      · rw [opn_clo hR, er]
        exact Le.refl _
end Go.Proofs.Ytgfbgfbnmiainaa.Fam
/-! light and lean, for any arguments. -/
namespace Go.Proofs.Ytgfbgfbnmiainaa.Fam
set_option linter.unusedVariables false
set_option linter.unusedSimpArgs false
open Go.RowKit Go.Proofs.YtgfbgfbnmiainaaW.PrintWords Go.Proofs.YtgfbgfbnmiainaaW.PrintLast Go.Proofs.YtgfbgfbnmiainaaW.PrintMore Go.Proofs.Ytgfbgfbnmiainaa.Q
theorem wrap_next' (i : Nat) (h : i < 9223372036854775807) : wrap64 ((i : Int) + 1) = ((i + 1 : Nat) : Int) := by
  unfold wrap64; omega
theorem rd37_at {l : List S37} {i : Nat} (h : i < l.length) : rd_T37 l (i : Int) = l[i] := by
  unfold rd_T37
  rw [Int.toNat_natCast, List.getD_eq_getElem?_getD, List.getElem?_eq_getElem h]
  rfl
theorem rd33_at {l : List S33} {i : Nat} (h : i < l.length) : rd_T33 l (i : Int) = l[i] := by
  unfold rd_T33
  rw [Int.toNat_natCast, List.getD_eq_getElem?_getD, List.getElem?_eq_getElem h]
  rfl
def okL (f : S37) : Bool := decide (f.f0.length ≤ 100) && decide (f.f1.length ≤ 100)
def okE (r : S33) : Bool := decide (r.f1.length ≤ 10) && decide (r.f0.size ≤ 100)
theorem light_from (l : List S37) (hl : l.length ≤ 9223372036854775807) : ∀ n i k, i + n = l.length → n < k → manystrandlaw07_light.l0 k l l (l.length : Int) (i : Int) = some ((l.drop i).all okL && decide (l.length ≤ 50)) := by
  intro n
  induction n with
  | zero =>
    intro i k hi hk
    obtain ⟨k, rfl⟩ : ∃ j, k = j + 1 := ⟨k - 1, by omega⟩
    unfold manystrandlaw07_light.l0
    rw [if_neg (by omega), List.drop_of_length_le (by omega)]
    simp only [List.all_nil, Bool.true_and]
    congr 1
    exact decide_eq_decide.mpr (by omega)
  | succ n ih =>
    intro i k hi hk
    obtain ⟨k, rfl⟩ : ∃ j, k = j + 1 := ⟨k - 1, by omega⟩
    have hlt : i < l.length := by omega
    unfold manystrandlaw07_light.l0
    rw [if_pos (by omega), if_pos (by omega), if_pos (by omega), rd37_at hlt, List.drop_eq_getElem_cons hlt, wrap_next' i (by omega), ih (i + 1) k (by omega) (by omega)]
    simp only [List.all_cons, okL]
    by_cases h0 : ((l[i].f0.length : Nat) : Int) > 100
    · rw [if_pos h0, decide_eq_false (show ¬ l[i].f0.length ≤ 100 by omega)]; rfl
    · rw [if_neg h0, decide_eq_true (show l[i].f0.length ≤ 100 by omega)]
      by_cases h1 : ((l[i].f1.length : Nat) : Int) > 100
      · rw [if_pos h1, decide_eq_false (show ¬ l[i].f1.length ≤ 100 by omega)]; rfl
      · rw [if_neg h1, decide_eq_true (show l[i].f1.length ≤ 100 by omega)]; rfl
theorem light_any (l : List S37) (hl : l.length ≤ 9223372036854775807) : ∃ k b, manystrandlaw07_light.f k l = some b ∧ (b = true → l.length ≤ 50 ∧ ∀ i : Nat, i < l.length → (rd_T37 l i).f0.length ≤ 100 ∧ (rd_T37 l i).f1.length ≤ 100) := by
  refine ⟨_, _, light_from l hl l.length 0 (l.length + 1) (by omega) (by omega), fun h => ?_⟩
  simp only [List.drop_zero, Bool.and_eq_true, decide_eq_true_eq, List.all_eq_true, okL] at h
  refine ⟨h.2, fun i hi => ?_⟩
  rw [rd37_at hi]
  exact h.1 _ (List.getElem_mem hi)
theorem lean_from (l : List S33) (hl : l.length ≤ 9223372036854775807) : ∀ n i k, i + n = l.length → n < k → manystrandlaw07_lean.l0 k l l (l.length : Int) (i : Int) = some ((l.drop i).all okE && decide (l.length ≤ 110)) := by
  intro n
  induction n with
  | zero =>
    intro i k hi hk
    obtain ⟨k, rfl⟩ : ∃ j, k = j + 1 := ⟨k - 1, by omega⟩
    unfold manystrandlaw07_lean.l0
    rw [if_neg (by omega), List.drop_of_length_le (by omega)]
    simp only [List.all_nil, Bool.true_and]
    congr 1
    exact decide_eq_decide.mpr (by omega)
  | succ n ih =>
    intro i k hi hk
    obtain ⟨k, rfl⟩ : ∃ j, k = j + 1 := ⟨k - 1, by omega⟩
    have hlt : i < l.length := by omega
    unfold manystrandlaw07_lean.l0
    rw [if_pos (by omega), if_pos (by omega), if_pos (by omega), rd33_at hlt, List.drop_eq_getElem_cons hlt, wrap_next' i (by omega), ih (i + 1) k (by omega) (by omega)]
    simp only [List.all_cons, okE]
    by_cases h0 : ((l[i].f1.length : Nat) : Int) > 10
    · rw [if_pos h0, decide_eq_false (show ¬ l[i].f1.length ≤ 10 by omega)]; rfl
    · rw [if_neg h0, decide_eq_true (show l[i].f1.length ≤ 10 by omega)]
      by_cases h1 : ((l[i].f0.size : Nat) : Int) > 100
      · rw [if_pos h1, decide_eq_false (show ¬ l[i].f0.size ≤ 100 by omega)]; rfl
      · rw [if_neg h1, decide_eq_true (show l[i].f0.size ≤ 100 by omega)]; rfl
theorem lean_any (l : List S33) (hl : l.length ≤ 9223372036854775807) : ∃ k b, manystrandlaw07_lean.f k l = some b ∧ (b = true → l.length ≤ 110 ∧ ∀ i : Nat, i < l.length → (rd_T33 l i).f1.length ≤ 10) := by
  refine ⟨_, _, lean_from l hl l.length 0 (l.length + 1) (by omega) (by omega), fun h => ?_⟩
  simp only [List.drop_zero, Bool.and_eq_true, decide_eq_true_eq, List.all_eq_true, okE] at h
  refine ⟨h.2, fun i hi => ?_⟩
  rw [rd33_at hi]
  exact (h.1 _ (List.getElem_mem hi)).1
end Go.Proofs.Ytgfbgfbnmiainaa.Fam
/-! Lists that are written out in memory. -/
namespace Go.Proofs.Ytgfbgfbnmiainaa.Fam
set_option linter.unusedVariables false
set_option linter.unusedSimpArgs false
open Go.RowKit Go.Proofs.YtgfbgfbnmiainaaW.PrintWords Go.Proofs.YtgfbgfbnmiainaaW.PrintLast Go.Proofs.YtgfbgfbnmiainaaW.PrintMore Go.Proofs.Ytgfbgfbnmiainaa.Q
theorem ints_lit {w : World} {b : Nat} {xs : List Int} {c : Array Value} {t : Nat} (h : w.heap[b]? = some (.cells c t)) (hc : c.toList = xs.map (.int .i64)) (hn : xs.length ≤ 9223372036854775807) : (Kd.int .i64).C w (some ⟨b, 0, none⟩) xs.length xs := by
  refine ⟨rfl, hn, fun _ => ⟨_, rfl, fun j p hj => ⟨[.int .i64 p], rfl, rfl, fun i u hu => ?_⟩⟩⟩
  have hi : i = 0 := by
    cases i with
    | zero => rfl
    | succ i => simp at hu
  subst hi
  have hu' : Value.int .i64 p = u := by simpa using hu
  subst hu'
  show w.cell? ((⟨b, 0, none⟩ : Addr).add (j * 1 + 0)) = _
  rw [add_plain, Nat.mul_one, Nat.add_zero, blk_cell h j]
  rw [← Array.getElem?_toList, hc, List.getElem?_map, hj]
  rfl
/-- A list of things of some cells each, in a block that is written out. -/
theorem rows_lit {α : Type} {d : Kd α} {w : World} {b : Nat} {ps : List α} {css : List (List Value)} {c : Array Value} {t : Nat} (h : w.heap[b]? = some (.cells c t)) (hl : css.length = ps.length) (hs : ∀ cs ∈ css, cs.length = d.sz) (hc : c.toList = css.flatten) (hn : ps.length ≤ 9223372036854775807)
    (hK : ∀ (j : Nat) (p : α) (cs : List Value), ps[j]? = some p → css[j]? = some cs → d.K w p cs) : d.C w (some ⟨b, 0, none⟩) ps.length ps := by
  refine ⟨rfl, hn, fun _ => ⟨_, rfl, fun j p hj => ?_⟩⟩
  have hjl : j < ps.length := (List.getElem?_eq_some_iff.1 hj).1
  have hjc : css[j]? = some css[j] := List.getElem?_eq_getElem (by omega)
  refine ⟨css[j], hs _ (List.getElem_mem _), hK j p _ hj hjc, fun i u hu => ?_⟩
  rw [add_plain, blk_cell h]
  rw [← Array.getElem?_toList, hc]
  have hi : i < d.sz := by
    rw [← hs _ (List.getElem_mem (l := css) (n := j) (by omega))]
    exact (List.getElem?_eq_some_iff.1 hu).1
  clear hK hj
  have key : ∀ (css : List (List Value)) (j : Nat) (cs : List Value), (∀ cs ∈ css, cs.length = d.sz) → css[j]? = some cs → css.flatten[j * d.sz + i]? = cs[i]? := by
    intro css
    induction css with
    | nil => intro j cs _ hj; simp at hj
    | cons c0 css ih =>
      intro j cs hs hj
      have h0 : c0.length = d.sz := hs _ List.mem_cons_self
      cases j with
      | zero =>
        simp only [List.getElem?_cons_zero, Option.some.injEq] at hj
        subst hj
        simp only [List.flatten_cons, Nat.zero_mul, Nat.zero_add]
        exact List.getElem?_append_left (by omega)
      | succ j =>
        rw [List.flatten_cons, List.getElem?_append_right (by rw [h0, Nat.succ_mul]; omega), h0]
        have e : (j + 1) * d.sz + i - d.sz = j * d.sz + i := by rw [Nat.succ_mul]; omega
        rw [e]
        exact ih j cs (fun x hx => hs x (List.mem_cons_of_mem _ hx)) (by simpa using hj)
  rw [key css j _ hs hjc]
  exact hu
theorem alloc_size (w : World) (o : Obj) : (w.alloc o).heap.size = w.heap.size + 1 := by
  have := World.alloc_eq w o
  simp [this]
theorem blk_new' {w W : World} {o : Obj} {n : Nat} (hW : W = w.alloc o) (hn : n = w.heap.size) : W.heap[n]? = some o ∧ W.heap.size = n + 1 := by
  subst hW hn
  exact ⟨blk_new w o, alloc_size w o⟩
theorem blk_old {w W : World} {o o' : Obj} {n : Nat} (hW : W = w.alloc o) (h : w.heap[n]? = some o') : W.heap[n]? = some o' := by
  subst hW
  exact blk_below h (below_alloc (Below.refl _ _) o)
theorem allocs7 (w : World) (o0 o1 o2 o3 o4 o5 o6 : Obj) : ∀ W, W = ((((((w.alloc o0).alloc o1).alloc o2).alloc o3).alloc o4).alloc o5).alloc o6 →
    W.heap[w.heap.size]? = some o0 ∧ W.heap[w.heap.size + 1]? = some o1 ∧ W.heap[w.heap.size + 1 + 1]? = some o2 ∧ W.heap[w.heap.size + 1 + 1 + 1]? = some o3 ∧ W.heap[w.heap.size + 1 + 1 + 1 + 1]? = some o4 ∧ W.heap[w.heap.size + 1 + 1 + 1 + 1 + 1]? = some o5 ∧ W.heap[w.heap.size + 1 + 1 + 1 + 1 + 1 + 1]? = some o6 ∧ W.heap.size = w.heap.size + 1 + 1 + 1 + 1 + 1 + 1 + 1 := by
  rintro W rfl
  obtain ⟨a0, s0⟩ := blk_new' (o := o0) rfl (rfl : w.heap.size = w.heap.size)
  obtain ⟨a1, s1⟩ := blk_new' (o := o1) rfl s0.symm
  obtain ⟨a2, s2⟩ := blk_new' (o := o2) rfl s1.symm
  obtain ⟨a3, s3⟩ := blk_new' (o := o3) rfl s2.symm
  obtain ⟨a4, s4⟩ := blk_new' (o := o4) rfl s3.symm
  obtain ⟨a5, s5⟩ := blk_new' (o := o5) rfl s4.symm
  obtain ⟨a6, s6⟩ := blk_new' (o := o6) rfl s5.symm
  exact ⟨blk_old rfl (blk_old rfl (blk_old rfl (blk_old rfl (blk_old rfl (blk_old rfl a0))))), blk_old rfl (blk_old rfl (blk_old rfl (blk_old rfl (blk_old rfl a1)))), blk_old rfl (blk_old rfl (blk_old rfl (blk_old rfl a2))), blk_old rfl (blk_old rfl (blk_old rfl a3)), blk_old rfl (blk_old rfl a4), blk_old rfl a5, a6, s6⟩
end Go.Proofs.Ytgfbgfbnmiainaa.Fam
namespace Go.Proofs.Ytgfbgfbnmiainaa.Q
open Go.RowKit Go.Proofs.YtgfbgfbnmiainaaW.PrintWords Go.Proofs.YtgfbgfbnmiainaaW.PrintLast Go.Proofs.YtgfbgfbnmiainaaW.PrintMore
attribute [local go_sem] Go.Proofs.YtgfbgfbnmiainaaW.OwnWords.isSome_setCell max2_int min2_int max_two min_two max_three min_three max_four min_four   -- for this text's walks alone
set_option linter.unusedVariables false
set_option linter.unusedSimpArgs false

/-! ### manystrandref07_Same, the answer true: function 18 -/
def famSameT.f (k : Nat) (l0_0 : List Int) (l0_1 : List Int) (a0_2 : Int) (a0_3 : Int) (l1_0 : List Int) (l1_1 : List Int) (a1_2 : Int) (a1_3 : Int) : Option (Bool) := (manystrandref07_Valid.f k l0_0 l0_1 a0_2 a0_3).bind fun t183 => (if t183 = true then ((manystrandref07_Valid.f k l1_0 l1_1 a1_2 a1_3).bind fun t184 => (if t184 = true then ((manystrandref07_of.f k l0_0).bind fun t185 => ((manystrandref07_of.f k l1_0).bind fun t186 => (if t185 = t186 then ((manystrandref07_of.f k l0_1).bind fun t187 => ((manystrandref07_of.f k l1_1).bind fun t188 => (if t187 = t188 then (if a0_2 = a1_2 then (some (a0_3 == a1_3)) else (some false)) else (some false)))) else (some false)))) else (some false))) else (some false))
theorem famSameT.mono : ∀ a0 a1 a2 a3 a4 a5 a6 a7 k, LeO (famSameT.f k a0 a1 a2 a3 a4 a5 a6 a7) (famSameT.f (k + 1) a0 a1 a2 a3 a4 a5 a6 a7) := by
 intro a0 a1 a2 a3 a4 a5 a6 a7 k
 unfold famSameT.f
 repeat' first
   | (with_reducible exact manystrandref07_Valid.mono _ _ _ _ _)
   | (with_reducible exact manystrandref07_of.mono _ _)
   | (with_reducible exact LeO.refl _)
   | (with_reducible exact LeO.none _)
   | (with_reducible refine LeO.ite ?_ ?_)
   | (with_reducible refine LeO.bind ?_ (fun _ => ?_))
   | exact manystrandref07_Valid.mono _ _ _ _ _
   | exact manystrandref07_of.mono _ _
   | exact LeO.none _
   | refine LeO.ite ?_ ?_
   | refine LeO.bind ?_ (fun _ => ?_)
def famSameT.T1 : Bool × List (List Nat × List Nat) := (true, [([], []), ([0], [0]), ([1, 1], [1]), ([2], [2]), ([3, 2, 2], [2, 3]), ([2, 4], [2, 4]), ([5, 4], [5]), ([6], [6]), ([7, 6], [6, 7]), ([8, 6, 6], [6, 8]), ([6], [6]), ([10, 6], [6, 10]), ([11, 9, 6], [6, 11]), ([9, 12, 6], [6, 9, 12]), ([6, 13], [6, 13]), ([14, 12], [14]), ([15], [15]), ([16, 15], [15, 16]), ([17, 15, 15], [15, 17]), ([15], [15]), ([19, 15], [15, 19]), ([20, 18, 15], [15, 20]), ([18, 21, 15], [15, 18, 21]), ([15, 22], [15, 22]), ([23, 21], [23]), ([24], [24]), ([25, 24], [24, 25]), ([24], [24]), ([27, 24], [24, 27]), ([26, 28, 24], [24, 26, 28]), ([24, 29], [24, 29]), ([30, 24], [30]), ([31], [31]), ([32, 31], [31, 32]), ([31], [31]), ([34, 31], [31, 34]), ([33, 35, 31], [31, 33, 35]), ([31, 36], [31, 36]), ([37, 31, 0, 1, 2, 3, 4, 5, 6, 7, 8, 9, 10, 11, 12, 13, 14, 15, 16, 17, 18, 19, 20, 21, 22, 23, 24, 25, 26, 27, 28, 29, 30, 31, 32, 33, 34, 35, 36, 37], [37])])
def famSameT.B1 : List Nat := [0, 1, 3, 7, 15, 31, 63, 127, 255, 511, 127, 1151, 4095, 8191, 16383, 32767, 65535, 131071, 262143, 65535, 589823, 2097151, 4194303, 8388607, 16777215, 33554431, 67108863, 33554431, 167772159, 536870911, 1073741823, 2147483647, 4294967295, 8589934591, 4294967295, 21474836479, 68719476735, 137438953471, 274877906943]
theorem famSameT.tab1 : rtab .any (opsOf Try.f18 1) = famSameT.T1 := by kernel_rfl
theorem famSameT.bits1 : waitsOk famSameT.T1.2 famSameT.B1 = true := by kernel_rfl
set_option maxHeartbeats 8000000 in
set_option maxRecDepth 100000 in
theorem famSameT.calls (k : Nat) (A0_0 : Option Addr) (c0_0 : Nat) (l0_0 : List Int) (A0_1 : Option Addr) (c0_1 : Nat) (l0_1 : List Int) (a0_2 : Int) (a0_3 : Int) (A1_0 : Option Addr) (c1_0 : Nat) (l1_0 : List Int) (A1_1 : Option Addr) (c1_1 : Nat) (l1_1 : List Int) (a1_2 : Int) (a1_3 : Int) (w : World) (hr0_0 : Kd.C (Kd.int .i64) w A0_0 l0_0.length l0_0) (hc0_0 : l0_0.length ≤ c0_0) (hr0_1 : Kd.C (Kd.int .i64) w A0_1 l0_1.length l0_1) (hc0_1 : l0_1.length ≤ c0_1) (hr1_0 : Kd.C (Kd.int .i64) w A1_0 l1_0.length l1_0) (hc1_0 : l1_0.length ≤ c1_0) (hr1_1 : Kd.C (Kd.int .i64) w A1_1 l1_1.length l1_1) (hc1_1 : l1_1.length ≤ c1_1) (h : famSameT.f k l0_0 l0_1 a0_2 a0_3 l1_0 l1_1 a1_2 a1_3 = some true) :
  Calls Try.prog 18 #[.agg #[.slice A0_0 l0_0.length c0_0, .slice A0_1 l0_1.length c0_1, .int .i64 a0_2, .int .i64 a0_3], .agg #[.slice A1_0 l1_0.length c1_0, .slice A1_1 l1_1.length c1_1, .int .i64 a1_2, .int .i64 a1_3]] w fun e w' => e = .returned (.bool true) ∧ Below w.heap.size w w' := by
 have hu37 := Try.underlying37
 have HR0_0 := Aside0.mk hr0_0
 have HC0_0 := Aside0.mk hc0_0
 clear hr0_0 hc0_0
 have HR0_1 := Aside0.mk hr0_1
 have HC0_1 := Aside0.mk hc0_1
 clear hr0_1 hc0_1
 have HR1_0 := Aside0.mk hr1_0
 have HC1_0 := Aside0.mk hc1_0
 clear hr1_0 hc1_0
 have HR1_1 := Aside0.mk hr1_1
 have HC1_1 := Aside0.mk hc1_1
 clear hr1_1 hc1_1
 have HB := Aside0.mk (Below.refl w.heap.size w)
 have H : ((manystrandref07_Valid.f k l0_0 l0_1 a0_2 a0_3).bind fun t183 => (if t183 = true then ((manystrandref07_Valid.f k l1_0 l1_1 a1_2 a1_3).bind fun t184 => (if t184 = true then ((manystrandref07_of.f k l0_0).bind fun t185 => ((manystrandref07_of.f k l1_0).bind fun t186 => (if t185 = t186 then ((manystrandref07_of.f k l0_1).bind fun t187 => ((manystrandref07_of.f k l1_1).bind fun t188 => (if t187 = t188 then (if a0_2 = a1_2 then (some (a0_3 == a1_3)) else (some false)) else (some false)))) else (some false)))) else (some false))) else (some false))) = some true := h
 clear h
 replace H := Option.bind_eq_some_iff.mp H
 obtain ⟨t183, A30, H⟩ := H
 replace H : (if t183 = true then ((manystrandref07_Valid.f k l1_0 l1_1 a1_2 a1_3).bind fun t184 => (if t184 = true then ((manystrandref07_of.f k l0_0).bind fun t185 => ((manystrandref07_of.f k l1_0).bind fun t186 => (if t185 = t186 then ((manystrandref07_of.f k l0_1).bind fun t187 => ((manystrandref07_of.f k l1_1).bind fun t188 => (if t187 = t188 then (if a0_2 = a1_2 then (some (a0_3 == a1_3)) else (some false)) else (some false)))) else (some false)))) else (some false))) else (some false)) = some true := H
 have A3 := Aside0.mk A30
 clear A30
 by_cases c4 : t183 = true
 ·subst c4
  have H1 : ((manystrandref07_Valid.f k l1_0 l1_1 a1_2 a1_3).bind fun t184 => (if t184 = true then ((manystrandref07_of.f k l0_0).bind fun t185 => ((manystrandref07_of.f k l1_0).bind fun t186 => (if t185 = t186 then ((manystrandref07_of.f k l0_1).bind fun t187 => ((manystrandref07_of.f k l1_1).bind fun t188 => (if t187 = t188 then (if a0_2 = a1_2 then (some (a0_3 == a1_3)) else (some false)) else (some false)))) else (some false)))) else (some false))) = some true := by rw [if_pos rfl] at H; exact H
  clear H
  have H := H1
  clear H1
  replace H := Option.bind_eq_some_iff.mp H
  obtain ⟨t184, A50, H⟩ := H
  replace H : (if t184 = true then ((manystrandref07_of.f k l0_0).bind fun t185 => ((manystrandref07_of.f k l1_0).bind fun t186 => (if t185 = t186 then ((manystrandref07_of.f k l0_1).bind fun t187 => ((manystrandref07_of.f k l1_1).bind fun t188 => (if t187 = t188 then (if a0_2 = a1_2 then (some (a0_3 == a1_3)) else (some false)) else (some false)))) else (some false)))) else (some false)) = some true := H
  have A5 := Aside0.mk A50
  clear A50
  by_cases c6 : t184 = true
  ·subst c6
   have H1 : ((manystrandref07_of.f k l0_0).bind fun t185 => ((manystrandref07_of.f k l1_0).bind fun t186 => (if t185 = t186 then ((manystrandref07_of.f k l0_1).bind fun t187 => ((manystrandref07_of.f k l1_1).bind fun t188 => (if t187 = t188 then (if a0_2 = a1_2 then (some (a0_3 == a1_3)) else (some false)) else (some false)))) else (some false)))) = some true := by rw [if_pos rfl] at H; exact H
   clear H
   have H := H1
   clear H1
   replace H := Option.bind_eq_some_iff.mp H
   obtain ⟨t185, A70, H⟩ := H
   replace H : ((manystrandref07_of.f k l1_0).bind fun t186 => (if t185 = t186 then ((manystrandref07_of.f k l0_1).bind fun t187 => ((manystrandref07_of.f k l1_1).bind fun t188 => (if t187 = t188 then (if a0_2 = a1_2 then (some (a0_3 == a1_3)) else (some false)) else (some false)))) else (some false))) = some true := H
   have A7 := Aside0.mk A70
   clear A70
   replace H := Option.bind_eq_some_iff.mp H
   obtain ⟨t186, A80, H⟩ := H
   replace H : (if t185 = t186 then ((manystrandref07_of.f k l0_1).bind fun t187 => ((manystrandref07_of.f k l1_1).bind fun t188 => (if t187 = t188 then (if a0_2 = a1_2 then (some (a0_3 == a1_3)) else (some false)) else (some false)))) else (some false)) = some true := H
   have A8 := Aside0.mk A80
   clear A80
   by_cases c9 : t185 = t186
   ·rw [if_pos c9] at H
    have c9b0 : (t185 == t186) = true := beq_iff_eq.mpr c9
    have c9b1 : (t185 != t186) = false := bne_eq_false_iff_eq.mpr c9
    clear c9
    replace H := Option.bind_eq_some_iff.mp H
    obtain ⟨t187, A100, H⟩ := H
    replace H : ((manystrandref07_of.f k l1_1).bind fun t188 => (if t187 = t188 then (if a0_2 = a1_2 then (some (a0_3 == a1_3)) else (some false)) else (some false))) = some true := H
    have A10 := Aside0.mk A100
    clear A100
    replace H := Option.bind_eq_some_iff.mp H
    obtain ⟨t188, A110, H⟩ := H
    replace H : (if t187 = t188 then (if a0_2 = a1_2 then (some (a0_3 == a1_3)) else (some false)) else (some false)) = some true := H
    have A11 := Aside0.mk A110
    clear A110
    by_cases c12 : t187 = t188
    ·rw [if_pos c12] at H
     have c12b0 : (t187 == t188) = true := beq_iff_eq.mpr c12
     have c12b1 : (t187 != t188) = false := bne_eq_false_iff_eq.mpr c12
     clear c12
     by_cases c13 : a0_2 = a1_2
     ·rw [if_pos c13] at H
      have c13b0 : (a0_2 == a1_2) = true := beq_iff_eq.mpr c13
      have c13b1 : (a0_2 != a1_2) = false := bne_eq_false_iff_eq.mpr c13
      clear c13
      have HZ := Aside0.mk (Option.some.inj H)
      clear H
      go_enter Try.func18, Try.ntmps18
      try go_wp2_with (first | ((with_reducible refine gate_dst (N := 2) rfl ?_); refine box_event ?hg (N := 2) ?hd (cs := #[.slice A0_0 l0_0.length c0_0, .slice A0_1 l0_1.length c0_1, .int .i64 a0_2, .int .i64 a0_3]) (t := 37) ?hr ?_; (case hd => rfl); (case hg => rfl); (case hr => first | (go_simp; done) | (go_simp; rfl)); intro gb181 hg w14 hbox hb; have n0_ := Aside0.mk (below_step (by repeat (first | (with_reducible first | exact HB.out | apply below_alloc | apply pw_below_drewN | apply below_drew1) | exact HB.out)) hb); have n1_ := Aside0.mk (hbox); have n2_ := Aside0.mk ((by rw [hg]; exact (below_size (by repeat (first | (with_reducible first | exact HB.out | apply below_alloc | apply pw_below_drewN | apply below_drew1) | exact HB.out))) : w.heap.size ≤ gb181)); have n3_ := Aside0.mk ((by rw [hg]; exact (below_size (by repeat (first | (with_reducible first | exact HB.out | apply below_alloc | apply pw_below_drewN | apply below_drew1) | exact HB.out))) : w.heap.size ≤ gb181)); clear HB; have HB := n0_; have BK181 := n1_; have GW181 := n2_; have GE181 := n3_; clear n0_ n1_ n2_ n3_; clear hb hbox hg) | ((with_reducible refine gate_dst (N := 3) rfl ?_); refine box_event ?hg (N := 3) ?hd (cs := #[.slice A1_0 l1_0.length c1_0, .slice A1_1 l1_1.length c1_1, .int .i64 a1_2, .int .i64 a1_3]) (t := 37) ?hr ?_; (case hd => rfl); (case hg => rfl); (case hr => first | (go_simp; done) | (go_simp; rfl)); intro gb182 hg w15 hbox hb; have n0_ := Aside0.mk (blk_below (g := gb181) (o := .cells #[.slice A0_0 l0_0.length c0_0, .slice A0_1 l0_1.length c0_1, .int .i64 a0_2, .int .i64 a0_3] 37 (0, 0)) (by (with_reducible repeat (first | refine blk_drewN ?_ _ | refine blk_drew ?_ | refine blk_alloc ?_ _)); exact BK181.out) hb); have n1_ := Aside0.mk (below_step (by repeat (first | (with_reducible first | exact HB.out | apply below_alloc | apply pw_below_drewN | apply below_drew1 | refine below_set ?_ GE181.out) | exact HB.out)) hb); have n2_ := Aside0.mk (hbox); have n3_ := Aside0.mk ((by rw [hg]; exact (below_size (by repeat (first | (with_reducible first | exact HB.out | apply below_alloc | apply pw_below_drewN | apply below_drew1 | refine below_set ?_ GE181.out) | exact HB.out))) : w.heap.size ≤ gb182)); have n4_ := Aside0.mk ((by rw [hg]; exact (below_size (by repeat (first | (with_reducible first | exact HB.out | apply below_alloc | apply pw_below_drewN | apply below_drew1 | refine below_set ?_ GE181.out) | exact HB.out))) : w.heap.size ≤ gb182)); have n5_ := Aside0.mk ((by rw [hg]; exact Nat.ne_of_lt (blk_lt (g := gb181) (o := .cells #[.slice A0_0 l0_0.length c0_0, .slice A0_1 l0_1.length c0_1, .int .i64 a0_2, .int .i64 a0_3] 37 (0, 0)) (by (with_reducible repeat (first | refine blk_drewN ?_ _ | refine blk_drew ?_ | refine blk_alloc ?_ _)); exact BK181.out)) : gb181 ≠ gb182)); have n6_ := Aside0.mk ((by rw [hg]; exact Nat.ne_of_gt (blk_lt (g := gb181) (o := .cells #[.slice A0_0 l0_0.length c0_0, .slice A0_1 l0_1.length c0_1, .int .i64 a0_2, .int .i64 a0_3] 37 (0, 0)) (by (with_reducible repeat (first | refine blk_drewN ?_ _ | refine blk_drew ?_ | refine blk_alloc ?_ _)); exact BK181.out)) : gb182 ≠ gb181)); clear BK181; clear HB; have BK181 := n0_; have HB := n1_; have BK182 := n2_; have GW182 := n3_; have GE182 := n4_; have NB181_182 := n5_; have NB182_181 := n6_; clear n0_ n1_ n2_ n3_ n4_ n5_ n6_; clear hb hbox hg))
      have n0_ := Aside0.mk (blk_drew BK181.out)
      have n1_ := Aside0.mk (blk_drew BK182.out)
      have n2_ := Aside0.mk (below_drew1 HB.out)
      clear BK181
      clear BK182
      clear HB
      have BK181 := n0_
      have BK182 := n1_
      have HB := n2_
      clear n0_ n1_ n2_
      refine start_ (n := 39) (S := fun w' => w'.cell? ⟨gb181, 0, none⟩ = some (.slice A0_0 l0_0.length c0_0) ∧ w'.cell? ⟨gb181, 1, none⟩ = some (.slice A0_1 l0_1.length c0_1) ∧ w'.cell? ⟨gb181, 2, none⟩ = some (.int .i64 a0_2) ∧ w'.cell? ⟨gb181, 3, none⟩ = some (.int .i64 a0_3) ∧ w'.cell? ⟨gb182, 0, none⟩ = some (.slice A1_0 l1_0.length c1_0) ∧ w'.cell? ⟨gb182, 1, none⟩ = some (.slice A1_1 l1_1.length c1_1) ∧ w'.cell? ⟨gb182, 2, none⟩ = some (.int .i64 a1_2) ∧ w'.cell? ⟨gb182, 3, none⟩ = some (.int .i64 a1_3)) (ds := []) (Array.replicate 39 false) (by kernel_rfl) rfl rfl ⟨(blk_cell BK181.out 0).trans rfl, (blk_cell BK181.out 1).trans rfl, (blk_cell BK181.out 2).trans rfl, (blk_cell BK181.out 3).trans rfl, (blk_cell BK182.out 0).trans rfl, (blk_cell BK182.out 1).trans rfl, (blk_cell BK182.out 2).trans rfl, (blk_cell BK182.out 3).trans rfl⟩ (fun hHeld => ?_); refine with_tabW famSameT.tab1 famSameT.bits1 (fun HT_ HW_ => ?_)
      generalize w15.drew = w16 at BK181 BK182 HB hHeld ⊢
      refine take_ (i := 0) (N := some 5) (v := ?_) (a' := ?_) #[true, false, false, false, false, false, false, false, false, false, false, false, false, false, false, false, false, false, false, false, false, false, false, false, false, false, false, false, false, false, false, false, false, false, false, false, false, false, false] rfl rfl (take_ofW HT_.out HW_.out (by kernel_rfl)) (fun _ _ _ h => h) (Or.inl ⟨by rfl, ?_⟩) hHeld ?_ ?_
      rotate_left
      ·rintro w' ⟨s0, s1, s2, s3, s4, s5, s6, s7⟩
       go_simp
       with_reducible rfl
      rotate_left
      ·simp only [Act.put, List.setIfInBounds_toArray, List.set_cons_zero, List.set_cons_succ, i64_w, i32_w]
       rfl
      refine one_ (i := 1) (N := some 6) #[true, true, false, false, false, false, false, false, false, false, false, false, false, false, false, false, false, false, false, false, false, false, false, false, false, false, false, false, false, false, false, false, false, false, false, false, false, false, false] rfl rfl (one_of HT_.out (by kernel_rfl)) (by decide) (fun K hK => ?_)
      refine goes_ Try.func23 (by kernel_rfl) rfl #[.agg #[.slice A0_0 l0_0.length c0_0, .slice A0_1 l0_1.length c0_1, .int .i64 a0_2, .int .i64 a0_3]] (by rfl) rfl rfl (by (try simp only [List.map_toArray, List.map_cons, List.map_nil]); first | done | rfl | (simp only [List.length_drop, List.length_take]; rfl)) ?_
      with_reducible refine (manystrandref07_Valid.calls k _ _ l0_0 _ _ l0_1 a0_2 a0_3 true _ ?side1 ?side2 ?side3 ?side4 A3.out).mono ?_
      (case side1 => repeat (first | exact (Kd.C_below HR0_0.out HB.out) | (with_reducible refine Kd.C_alloc ?_ _) | (with_reducible refine Kd.C_drewN ?_ _) | (with_reducible refine Kd.C_drew ?_)))
      (case side2 => exact HC0_0.out)
      (case side3 => repeat (first | exact (Kd.C_below HR0_1.out HB.out) | (with_reducible refine Kd.C_alloc ?_ _) | (with_reducible refine Kd.C_drewN ?_ _) | (with_reducible refine Kd.C_drew ?_)))
      (case side4 => exact HC0_1.out)
      rintro e w17 ⟨rfl, hb⟩
      refine ⟨_, rfl, ?_⟩
      have n0_ := Aside0.mk (blk_below (g := gb181) (o := .cells #[.slice A0_0 l0_0.length c0_0, .slice A0_1 l0_1.length c0_1, .int .i64 a0_2, .int .i64 a0_3] 37 (0, 0)) (by (with_reducible repeat (first | refine blk_drewN ?_ _ | refine blk_drew ?_ | refine blk_alloc ?_ _)); exact BK181.out) hb)
      have n1_ := Aside0.mk (blk_below (g := gb182) (o := .cells #[.slice A1_0 l1_0.length c1_0, .slice A1_1 l1_1.length c1_1, .int .i64 a1_2, .int .i64 a1_3] 37 (0, 0)) (by (with_reducible repeat (first | refine blk_drewN ?_ _ | refine blk_drew ?_ | refine blk_alloc ?_ _)); exact BK182.out) hb)
      have n2_ := Aside0.mk (below_step (by repeat (first | (with_reducible first | exact HB.out | apply below_alloc | apply pw_below_drewN | apply below_drew1 | refine below_set ?_ GE181.out | refine below_set ?_ GE182.out) | exact HB.out)) hb)
      clear BK181
      clear BK182
      clear HB
      have BK181 := n0_
      have BK182 := n1_
      have HB := n2_
      clear n0_ n1_ n2_
      (try clear hb)
      (try clear hb2)
      (try clear hk)
      (try clear hi)
      refine hK.out _ _ ⟨(blk_cell BK181.out 0).trans rfl, (blk_cell BK181.out 1).trans rfl, (blk_cell BK181.out 2).trans rfl, (blk_cell BK181.out 3).trans rfl, (blk_cell BK182.out 0).trans rfl, (blk_cell BK182.out 1).trans rfl, (blk_cell BK182.out 2).trans rfl, (blk_cell BK182.out 3).trans rfl⟩ (fun hHeld => ?_)
      clear hK K
      refine norm_ (a' := ?_) ?_ ?_
      rotate_left
      ·show Act.put _ (some 6) _ = _
       simp only [Act.put, List.setIfInBounds_toArray, List.set_cons_zero, List.set_cons_succ, i64_w, i32_w]
       rfl
      refine pure_ (i := 2) (N := some 7) (v := ?_) (a' := ?_) #[true, true, true, false, false, false, false, false, false, false, false, false, false, false, false, false, false, false, false, false, false, false, false, false, false, false, false, false, false, false, false, false, false, false, false, false, false, false, false] rfl rfl (any_of HT_.out (by kernel_rfl)) (fun _ _ _ h => h) (Or.inl ⟨by rfl, ?_⟩) ?_ ?_
      rotate_left
      ·intro w'
       go_simp
       with_reducible rfl
      rotate_left
      ·simp only [Act.put, List.setIfInBounds_toArray, List.set_cons_zero, List.set_cons_succ, i64_w, i32_w]
       rfl
      refine take_ (i := 3) (N := some 8) (v := ?_) (a' := ?_) #[true, true, true, true, false, false, false, false, false, false, false, false, false, false, false, false, false, false, false, false, false, false, false, false, false, false, false, false, false, false, false, false, false, false, false, false, false, false, false] rfl rfl (take_ofW HT_.out HW_.out (by kernel_rfl)) (fun _ _ _ h => h) (Or.inl ⟨by rfl, ?_⟩) hHeld ?_ ?_
      rotate_left
      ·rintro w' ⟨s0, s1, s2, s3, s4, s5, s6, s7⟩
       go_simp
       with_reducible rfl
      rotate_left
      ·simp only [Act.put, List.setIfInBounds_toArray, List.set_cons_zero, List.set_cons_succ, i64_w, i32_w]
       rfl
      refine one_ (i := 4) (N := some 9) #[true, true, true, true, true, false, false, false, false, false, false, false, false, false, false, false, false, false, false, false, false, false, false, false, false, false, false, false, false, false, false, false, false, false, false, false, false, false, false] rfl rfl (one_of HT_.out (by kernel_rfl)) (by decide) (fun K hK => ?_)
      refine goes_ Try.func23 (by kernel_rfl) rfl #[.agg #[.slice A1_0 l1_0.length c1_0, .slice A1_1 l1_1.length c1_1, .int .i64 a1_2, .int .i64 a1_3]] (by rfl) rfl rfl (by (try simp only [List.map_toArray, List.map_cons, List.map_nil]); first | done | rfl | (simp only [List.length_drop, List.length_take]; rfl)) ?_
      with_reducible refine (manystrandref07_Valid.calls k _ _ l1_0 _ _ l1_1 a1_2 a1_3 true _ ?side1 ?side2 ?side3 ?side4 A5.out).mono ?_
      (case side1 => repeat (first | exact (Kd.C_below HR1_0.out HB.out) | (with_reducible refine Kd.C_alloc ?_ _) | (with_reducible refine Kd.C_drewN ?_ _) | (with_reducible refine Kd.C_drew ?_)))
      (case side2 => exact HC1_0.out)
      (case side3 => repeat (first | exact (Kd.C_below HR1_1.out HB.out) | (with_reducible refine Kd.C_alloc ?_ _) | (with_reducible refine Kd.C_drewN ?_ _) | (with_reducible refine Kd.C_drew ?_)))
      (case side4 => exact HC1_1.out)
      rintro e w18 ⟨rfl, hb⟩
      refine ⟨_, rfl, ?_⟩
      have n0_ := Aside0.mk (blk_below (g := gb181) (o := .cells #[.slice A0_0 l0_0.length c0_0, .slice A0_1 l0_1.length c0_1, .int .i64 a0_2, .int .i64 a0_3] 37 (0, 0)) (by (with_reducible repeat (first | refine blk_drewN ?_ _ | refine blk_drew ?_ | refine blk_alloc ?_ _)); exact BK181.out) hb)
      have n1_ := Aside0.mk (blk_below (g := gb182) (o := .cells #[.slice A1_0 l1_0.length c1_0, .slice A1_1 l1_1.length c1_1, .int .i64 a1_2, .int .i64 a1_3] 37 (0, 0)) (by (with_reducible repeat (first | refine blk_drewN ?_ _ | refine blk_drew ?_ | refine blk_alloc ?_ _)); exact BK182.out) hb)
      have n2_ := Aside0.mk (below_step (by repeat (first | (with_reducible first | exact HB.out | apply below_alloc | apply pw_below_drewN | apply below_drew1 | refine below_set ?_ GE181.out | refine below_set ?_ GE182.out) | exact HB.out)) hb)
      clear BK181
      clear BK182
      clear HB
      have BK181 := n0_
      have BK182 := n1_
      have HB := n2_
      clear n0_ n1_ n2_
      (try clear hb)
      (try clear hb2)
      (try clear hk)
      (try clear hi)
      refine hK.out _ _ ⟨(blk_cell BK181.out 0).trans rfl, (blk_cell BK181.out 1).trans rfl, (blk_cell BK181.out 2).trans rfl, (blk_cell BK181.out 3).trans rfl, (blk_cell BK182.out 0).trans rfl, (blk_cell BK182.out 1).trans rfl, (blk_cell BK182.out 2).trans rfl, (blk_cell BK182.out 3).trans rfl⟩ (fun hHeld => ?_)
      clear hK K
      refine norm_ (a' := ?_) ?_ ?_
      rotate_left
      ·show Act.put _ (some 9) _ = _
       simp only [Act.put, List.setIfInBounds_toArray, List.set_cons_zero, List.set_cons_succ, i64_w, i32_w]
       rfl
      refine pure_ (i := 5) (N := some 10) (v := ?_) (a' := ?_) #[true, true, true, true, true, true, false, false, false, false, false, false, false, false, false, false, false, false, false, false, false, false, false, false, false, false, false, false, false, false, false, false, false, false, false, false, false, false, false] rfl rfl (any_of HT_.out (by kernel_rfl)) (fun _ _ _ h => h) (Or.inl ⟨by rfl, ?_⟩) ?_ ?_
      rotate_left
      ·intro w'
       go_simp
       with_reducible rfl
      rotate_left
      ·simp only [Act.put, List.setIfInBounds_toArray, List.set_cons_zero, List.set_cons_succ, i64_w, i32_w]
       rfl
      refine pure_ (i := 6) (N := some 11) (v := ?_) (a' := ?_) #[true, true, true, true, true, true, true, false, false, false, false, false, false, false, false, false, false, false, false, false, false, false, false, false, false, false, false, false, false, false, false, false, false, false, false, false, false, false, false] rfl rfl (any_of HT_.out (by kernel_rfl)) (fun _ _ _ h => h) (Or.inl ⟨by rfl, ?_⟩) ?_ ?_
      rotate_left
      ·intro w'
       go_simp
       with_reducible rfl
      rotate_left
      ·simp only [Act.put, List.setIfInBounds_toArray, List.set_cons_zero, List.set_cons_succ, i64_w, i32_w]
       rfl
      refine pure_ (i := 7) (N := some 12) (v := ?_) (a' := ?_) #[true, true, true, true, true, true, true, true, false, false, false, false, false, false, false, false, false, false, false, false, false, false, false, false, false, false, false, false, false, false, false, false, false, false, false, false, false, false, false] rfl rfl (any_of HT_.out (by kernel_rfl)) (fun _ _ _ h => h) (Or.inl ⟨by rfl, ?_⟩) ?_ ?_
      rotate_left
      ·intro w'
       go_simp
       with_reducible rfl
      rotate_left
      ·simp only [Act.put, List.setIfInBounds_toArray, List.set_cons_zero, List.set_cons_succ, i64_w, i32_w]
       rfl
      refine pure_ (i := 10) (N := some 15) (v := ?_) (a' := ?_) #[true, true, true, true, true, true, true, true, false, false, true, false, false, false, false, false, false, false, false, false, false, false, false, false, false, false, false, false, false, false, false, false, false, false, false, false, false, false, false] rfl rfl (any_of HT_.out (by kernel_rfl)) (fun _ _ _ h => h) (Or.inl ⟨by rfl, ?_⟩) ?_ ?_
      rotate_left
      ·intro w'
       go_simp
       with_reducible rfl
      rotate_left
      ·simp only [Act.put, List.setIfInBounds_toArray, List.set_cons_zero, List.set_cons_succ, i64_w, i32_w]
       rfl
      refine take_ (i := 8) (N := some 13) (v := ?_) (a' := ?_) #[true, true, true, true, true, true, true, true, true, false, true, false, false, false, false, false, false, false, false, false, false, false, false, false, false, false, false, false, false, false, false, false, false, false, false, false, false, false, false] rfl rfl (take_ofW HT_.out HW_.out (by kernel_rfl)) (fun _ _ _ h => h) (Or.inl ⟨by rfl, ?_⟩) hHeld ?_ ?_
      rotate_left
      ·rintro w' ⟨s0, s1, s2, s3, s4, s5, s6, s7⟩
       go_simp
       with_reducible rfl
      rotate_left
      ·simp only [Act.put, List.setIfInBounds_toArray, List.set_cons_zero, List.set_cons_succ, i64_w, i32_w]
       rfl
      refine take_ (i := 11) (N := some 16) (v := ?_) (a' := ?_) #[true, true, true, true, true, true, true, true, true, false, true, true, false, false, false, false, false, false, false, false, false, false, false, false, false, false, false, false, false, false, false, false, false, false, false, false, false, false, false] rfl rfl (take_ofW HT_.out HW_.out (by kernel_rfl)) (fun _ _ _ h => h) (Or.inl ⟨by rfl, ?_⟩) hHeld ?_ ?_
      rotate_left
      ·rintro w' ⟨s0, s1, s2, s3, s4, s5, s6, s7⟩
       go_simp
       with_reducible rfl
      rotate_left
      ·simp only [Act.put, List.setIfInBounds_toArray, List.set_cons_zero, List.set_cons_succ, i64_w, i32_w]
       rfl
      refine one_ (i := 9) (N := some 14) #[true, true, true, true, true, true, true, true, true, true, true, true, false, false, false, false, false, false, false, false, false, false, false, false, false, false, false, false, false, false, false, false, false, false, false, false, false, false, false] rfl rfl (one_of HT_.out (by kernel_rfl)) (by decide) (fun K hK => ?_)
      refine goes_ Try.func46 (by kernel_rfl) rfl #[.slice A0_0 l0_0.length c0_0] (by rfl) rfl rfl (by (try simp only [List.map_toArray, List.map_cons, List.map_nil]); first | done | rfl | (simp only [List.length_drop, List.length_take]; rfl)) ?_
      with_reducible refine (manystrandref07_of.calls k _ _ l0_0 t185 _ ?side1 ?side2 A7.out).mono ?_
      (case side1 => repeat (first | exact (Kd.C_below HR0_0.out HB.out) | (with_reducible refine Kd.C_alloc ?_ _) | (with_reducible refine Kd.C_drewN ?_ _) | (with_reducible refine Kd.C_drew ?_)))
      (case side2 => exact HC0_0.out)
      rintro e w' ⟨rfl, ⟨nd, rfl⟩⟩
      refine ⟨_, rfl, ?_⟩
      refine hK.out _ _ ⟨(blk_cell BK181.out 0).trans rfl, (blk_cell BK181.out 1).trans rfl, (blk_cell BK181.out 2).trans rfl, (blk_cell BK181.out 3).trans rfl, (blk_cell BK182.out 0).trans rfl, (blk_cell BK182.out 1).trans rfl, (blk_cell BK182.out 2).trans rfl, (blk_cell BK182.out 3).trans rfl⟩ (fun hHeld => ?_)
      clear hK K
      refine norm_ (a' := ?_) ?_ ?_
      rotate_left
      ·show Act.put _ (some 14) _ = _
       simp only [Act.put, List.setIfInBounds_toArray, List.set_cons_zero, List.set_cons_succ, i64_w, i32_w]
       rfl
      refine one_ (i := 12) (N := some 17) #[true, true, true, true, true, true, true, true, true, true, true, true, true, false, false, false, false, false, false, false, false, false, false, false, false, false, false, false, false, false, false, false, false, false, false, false, false, false, false] rfl rfl (one_of HT_.out (by kernel_rfl)) (by decide) (fun K hK => ?_)
      refine goes_ Try.func46 (by kernel_rfl) rfl #[.slice A1_0 l1_0.length c1_0] (by rfl) rfl rfl (by (try simp only [List.map_toArray, List.map_cons, List.map_nil]); first | done | rfl | (simp only [List.length_drop, List.length_take]; rfl)) ?_
      with_reducible refine (manystrandref07_of.calls k _ _ l1_0 t186 _ ?side1 ?side2 A8.out).mono ?_
      (case side1 => repeat (first | exact (Kd.C_below HR1_0.out (by repeat (first | (with_reducible first | exact HB.out | apply below_alloc | apply pw_below_drewN | apply below_drew1 | refine below_set ?_ GE181.out | refine below_set ?_ GE182.out) | exact HB.out))) | (with_reducible refine Kd.C_alloc ?_ _) | (with_reducible refine Kd.C_drewN ?_ _) | (with_reducible refine Kd.C_drew ?_)))
      (case side2 => exact HC1_0.out)
      rintro e w' ⟨rfl, ⟨nd, rfl⟩⟩
      refine ⟨_, rfl, ?_⟩
      refine hK.out _ _ ⟨(blk_cell BK181.out 0).trans rfl, (blk_cell BK181.out 1).trans rfl, (blk_cell BK181.out 2).trans rfl, (blk_cell BK181.out 3).trans rfl, (blk_cell BK182.out 0).trans rfl, (blk_cell BK182.out 1).trans rfl, (blk_cell BK182.out 2).trans rfl, (blk_cell BK182.out 3).trans rfl⟩ (fun hHeld => ?_)
      clear hK K
      refine norm_ (a' := ?_) ?_ ?_
      rotate_left
      ·show Act.put _ (some 17) _ = _
       simp only [Act.put, List.setIfInBounds_toArray, List.set_cons_zero, List.set_cons_succ, i64_w, i32_w]
       rfl
      refine pure_ (i := 13) (N := some 18) (v := ?_) (a' := ?_) #[true, true, true, true, true, true, true, true, true, true, true, true, true, true, false, false, false, false, false, false, false, false, false, false, false, false, false, false, false, false, false, false, false, false, false, false, false, false, false] rfl rfl (any_of HT_.out (by kernel_rfl)) (fun _ _ _ h => h) (Or.inl ⟨by rfl, ?_⟩) ?_ ?_
      rotate_left
      ·intro w'
       go_simp
       with_reducible rfl
      rotate_left
      ·simp only [Act.put, List.setIfInBounds_toArray, List.set_cons_zero, List.set_cons_succ, i64_w, i32_w]
       rfl
      refine pure_ (i := 14) (N := some 19) (v := ?_) (a' := ?_) #[true, true, true, true, true, true, true, true, true, true, true, true, true, true, true, false, false, false, false, false, false, false, false, false, false, false, false, false, false, false, false, false, false, false, false, false, false, false, false] rfl rfl (any_of HT_.out (by kernel_rfl)) (fun _ _ _ h => h) (Or.inl ⟨by rfl, ?_⟩) ?_ ?_
      rotate_left
      ·intro w'
       go_simp
       with_reducible rfl
      rotate_left
      ·simp only [Act.put, List.setIfInBounds_toArray, List.set_cons_zero, List.set_cons_succ, i64_w, i32_w]
       rfl
      refine pure_ (i := 15) (N := some 20) (v := ?_) (a' := ?_) #[true, true, true, true, true, true, true, true, true, true, true, true, true, true, true, true, false, false, false, false, false, false, false, false, false, false, false, false, false, false, false, false, false, false, false, false, false, false, false] rfl rfl (any_of HT_.out (by kernel_rfl)) (fun _ _ _ h => h) (Or.inl ⟨by rfl, ?_⟩) ?_ ?_
      rotate_left
      ·intro w'
       go_simp
       with_reducible rfl
      rotate_left
      ·simp only [Act.put, List.setIfInBounds_toArray, List.set_cons_zero, List.set_cons_succ, i64_w, i32_w]
       rfl
      refine pure_ (i := 16) (N := some 21) (v := ?_) (a' := ?_) #[true, true, true, true, true, true, true, true, true, true, true, true, true, true, true, true, true, false, false, false, false, false, false, false, false, false, false, false, false, false, false, false, false, false, false, false, false, false, false] rfl rfl (any_of HT_.out (by kernel_rfl)) (fun _ _ _ h => h) (Or.inl ⟨by rfl, ?_⟩) ?_ ?_
      rotate_left
      ·intro w'
       go_simp
       with_reducible rfl
      rotate_left
      ·simp only [Act.put, List.setIfInBounds_toArray, List.set_cons_zero, List.set_cons_succ, i64_w, i32_w]
       rfl
      refine pure_ (i := 19) (N := some 24) (v := ?_) (a' := ?_) #[true, true, true, true, true, true, true, true, true, true, true, true, true, true, true, true, true, false, false, true, false, false, false, false, false, false, false, false, false, false, false, false, false, false, false, false, false, false, false] rfl rfl (any_of HT_.out (by kernel_rfl)) (fun _ _ _ h => h) (Or.inl ⟨by rfl, ?_⟩) ?_ ?_
      rotate_left
      ·intro w'
       go_simp
       with_reducible rfl
      rotate_left
      ·simp only [Act.put, List.setIfInBounds_toArray, List.set_cons_zero, List.set_cons_succ, i64_w, i32_w]
       rfl
      refine take_ (i := 17) (N := some 22) (v := ?_) (a' := ?_) #[true, true, true, true, true, true, true, true, true, true, true, true, true, true, true, true, true, true, false, true, false, false, false, false, false, false, false, false, false, false, false, false, false, false, false, false, false, false, false] rfl rfl (take_ofW HT_.out HW_.out (by kernel_rfl)) (fun _ _ _ h => h) (Or.inl ⟨by rfl, ?_⟩) hHeld ?_ ?_
      rotate_left
      ·rintro w' ⟨s0, s1, s2, s3, s4, s5, s6, s7⟩
       go_simp
       with_reducible rfl
      rotate_left
      ·simp only [Act.put, List.setIfInBounds_toArray, List.set_cons_zero, List.set_cons_succ, i64_w, i32_w]
       rfl
      refine take_ (i := 20) (N := some 25) (v := ?_) (a' := ?_) #[true, true, true, true, true, true, true, true, true, true, true, true, true, true, true, true, true, true, false, true, true, false, false, false, false, false, false, false, false, false, false, false, false, false, false, false, false, false, false] rfl rfl (take_ofW HT_.out HW_.out (by kernel_rfl)) (fun _ _ _ h => h) (Or.inl ⟨by rfl, ?_⟩) hHeld ?_ ?_
      rotate_left
      ·rintro w' ⟨s0, s1, s2, s3, s4, s5, s6, s7⟩
       go_simp
       with_reducible rfl
      rotate_left
      ·simp only [Act.put, List.setIfInBounds_toArray, List.set_cons_zero, List.set_cons_succ, i64_w, i32_w]
       rfl
      refine one_ (i := 18) (N := some 23) #[true, true, true, true, true, true, true, true, true, true, true, true, true, true, true, true, true, true, true, true, true, false, false, false, false, false, false, false, false, false, false, false, false, false, false, false, false, false, false] rfl rfl (one_of HT_.out (by kernel_rfl)) (by decide) (fun K hK => ?_)
      refine goes_ Try.func46 (by kernel_rfl) rfl #[.slice A0_1 l0_1.length c0_1] (by rfl) rfl rfl (by (try simp only [List.map_toArray, List.map_cons, List.map_nil]); first | done | rfl | (simp only [List.length_drop, List.length_take]; rfl)) ?_
      with_reducible refine (manystrandref07_of.calls k _ _ l0_1 t187 _ ?side1 ?side2 A10.out).mono ?_
      (case side1 => repeat (first | exact (Kd.C_below HR0_1.out (by repeat (first | (with_reducible first | exact HB.out | apply below_alloc | apply pw_below_drewN | apply below_drew1 | refine below_set ?_ GE181.out | refine below_set ?_ GE182.out) | exact HB.out))) | (with_reducible refine Kd.C_alloc ?_ _) | (with_reducible refine Kd.C_drewN ?_ _) | (with_reducible refine Kd.C_drew ?_)))
      (case side2 => exact HC0_1.out)
      rintro e w' ⟨rfl, ⟨nd, rfl⟩⟩
      refine ⟨_, rfl, ?_⟩
      refine hK.out _ _ ⟨(blk_cell BK181.out 0).trans rfl, (blk_cell BK181.out 1).trans rfl, (blk_cell BK181.out 2).trans rfl, (blk_cell BK181.out 3).trans rfl, (blk_cell BK182.out 0).trans rfl, (blk_cell BK182.out 1).trans rfl, (blk_cell BK182.out 2).trans rfl, (blk_cell BK182.out 3).trans rfl⟩ (fun hHeld => ?_)
      clear hK K
      refine norm_ (a' := ?_) ?_ ?_
      rotate_left
      ·show Act.put _ (some 23) _ = _
       simp only [Act.put, List.setIfInBounds_toArray, List.set_cons_zero, List.set_cons_succ, i64_w, i32_w]
       rfl
      refine one_ (i := 21) (N := some 26) #[true, true, true, true, true, true, true, true, true, true, true, true, true, true, true, true, true, true, true, true, true, true, false, false, false, false, false, false, false, false, false, false, false, false, false, false, false, false, false] rfl rfl (one_of HT_.out (by kernel_rfl)) (by decide) (fun K hK => ?_)
      refine goes_ Try.func46 (by kernel_rfl) rfl #[.slice A1_1 l1_1.length c1_1] (by rfl) rfl rfl (by (try simp only [List.map_toArray, List.map_cons, List.map_nil]); first | done | rfl | (simp only [List.length_drop, List.length_take]; rfl)) ?_
      with_reducible refine (manystrandref07_of.calls k _ _ l1_1 t188 _ ?side1 ?side2 A11.out).mono ?_
      (case side1 => repeat (first | exact (Kd.C_below HR1_1.out (by repeat (first | (with_reducible first | exact HB.out | apply below_alloc | apply pw_below_drewN | apply below_drew1 | refine below_set ?_ GE181.out | refine below_set ?_ GE182.out) | exact HB.out))) | (with_reducible refine Kd.C_alloc ?_ _) | (with_reducible refine Kd.C_drewN ?_ _) | (with_reducible refine Kd.C_drew ?_)))
      (case side2 => exact HC1_1.out)
      rintro e w' ⟨rfl, ⟨nd, rfl⟩⟩
      refine ⟨_, rfl, ?_⟩
      refine hK.out _ _ ⟨(blk_cell BK181.out 0).trans rfl, (blk_cell BK181.out 1).trans rfl, (blk_cell BK181.out 2).trans rfl, (blk_cell BK181.out 3).trans rfl, (blk_cell BK182.out 0).trans rfl, (blk_cell BK182.out 1).trans rfl, (blk_cell BK182.out 2).trans rfl, (blk_cell BK182.out 3).trans rfl⟩ (fun hHeld => ?_)
      clear hK K
      refine norm_ (a' := ?_) ?_ ?_
      rotate_left
      ·show Act.put _ (some 26) _ = _
       simp only [Act.put, List.setIfInBounds_toArray, List.set_cons_zero, List.set_cons_succ, i64_w, i32_w]
       rfl
      refine pure_ (i := 22) (N := some 27) (v := ?_) (a' := ?_) #[true, true, true, true, true, true, true, true, true, true, true, true, true, true, true, true, true, true, true, true, true, true, true, false, false, false, false, false, false, false, false, false, false, false, false, false, false, false, false] rfl rfl (any_of HT_.out (by kernel_rfl)) (fun _ _ _ h => h) (Or.inl ⟨by rfl, ?_⟩) ?_ ?_
      rotate_left
      ·intro w'
       go_simp
       with_reducible rfl
      rotate_left
      ·simp only [Act.put, List.setIfInBounds_toArray, List.set_cons_zero, List.set_cons_succ, i64_w, i32_w]
       rfl
      refine pure_ (i := 23) (N := some 28) (v := ?_) (a' := ?_) #[true, true, true, true, true, true, true, true, true, true, true, true, true, true, true, true, true, true, true, true, true, true, true, true, false, false, false, false, false, false, false, false, false, false, false, false, false, false, false] rfl rfl (any_of HT_.out (by kernel_rfl)) (fun _ _ _ h => h) (Or.inl ⟨by rfl, ?_⟩) ?_ ?_
      rotate_left
      ·intro w'
       go_simp
       with_reducible rfl
      rotate_left
      ·simp only [Act.put, List.setIfInBounds_toArray, List.set_cons_zero, List.set_cons_succ, i64_w, i32_w]
       rfl
      refine pure_ (i := 24) (N := some 29) (v := ?_) (a' := ?_) #[true, true, true, true, true, true, true, true, true, true, true, true, true, true, true, true, true, true, true, true, true, true, true, true, true, false, false, false, false, false, false, false, false, false, false, false, false, false, false] rfl rfl (any_of HT_.out (by kernel_rfl)) (fun _ _ _ h => h) (Or.inl ⟨by rfl, ?_⟩) ?_ ?_
      rotate_left
      ·intro w'
       go_simp
       with_reducible rfl
      rotate_left
      ·simp only [Act.put, List.setIfInBounds_toArray, List.set_cons_zero, List.set_cons_succ, i64_w, i32_w]
       rfl
      refine pure_ (i := 25) (N := some 30) (v := ?_) (a' := ?_) #[true, true, true, true, true, true, true, true, true, true, true, true, true, true, true, true, true, true, true, true, true, true, true, true, true, true, false, false, false, false, false, false, false, false, false, false, false, false, false] rfl rfl (any_of HT_.out (by kernel_rfl)) (fun _ _ _ h => h) (Or.inl ⟨by rfl, ?_⟩) ?_ ?_
      rotate_left
      ·intro w'
       go_simp
       with_reducible rfl
      rotate_left
      ·simp only [Act.put, List.setIfInBounds_toArray, List.set_cons_zero, List.set_cons_succ, i64_w, i32_w]
       rfl
      refine pure_ (i := 27) (N := some 32) (v := ?_) (a' := ?_) #[true, true, true, true, true, true, true, true, true, true, true, true, true, true, true, true, true, true, true, true, true, true, true, true, true, true, false, true, false, false, false, false, false, false, false, false, false, false, false] rfl rfl (any_of HT_.out (by kernel_rfl)) (fun _ _ _ h => h) (Or.inl ⟨by rfl, ?_⟩) ?_ ?_
      rotate_left
      ·intro w'
       go_simp
       with_reducible rfl
      rotate_left
      ·simp only [Act.put, List.setIfInBounds_toArray, List.set_cons_zero, List.set_cons_succ, i64_w, i32_w]
       rfl
      refine take_ (i := 26) (N := some 31) (v := ?_) (a' := ?_) #[true, true, true, true, true, true, true, true, true, true, true, true, true, true, true, true, true, true, true, true, true, true, true, true, true, true, true, true, false, false, false, false, false, false, false, false, false, false, false] rfl rfl (take_ofW HT_.out HW_.out (by kernel_rfl)) (fun _ _ _ h => h) (Or.inl ⟨by rfl, ?_⟩) hHeld ?_ ?_
      rotate_left
      ·rintro w' ⟨s0, s1, s2, s3, s4, s5, s6, s7⟩
       go_simp
       with_reducible rfl
      rotate_left
      ·simp only [Act.put, List.setIfInBounds_toArray, List.set_cons_zero, List.set_cons_succ, i64_w, i32_w]
       rfl
      refine take_ (i := 28) (N := some 33) (v := ?_) (a' := ?_) #[true, true, true, true, true, true, true, true, true, true, true, true, true, true, true, true, true, true, true, true, true, true, true, true, true, true, true, true, true, false, false, false, false, false, false, false, false, false, false] rfl rfl (take_ofW HT_.out HW_.out (by kernel_rfl)) (fun _ _ _ h => h) (Or.inl ⟨by rfl, ?_⟩) hHeld ?_ ?_
      rotate_left
      ·rintro w' ⟨s0, s1, s2, s3, s4, s5, s6, s7⟩
       go_simp
       with_reducible rfl
      rotate_left
      ·simp only [Act.put, List.setIfInBounds_toArray, List.set_cons_zero, List.set_cons_succ, i64_w, i32_w]
       rfl
      refine pure_ (i := 29) (N := some 34) (v := ?_) (a' := ?_) #[true, true, true, true, true, true, true, true, true, true, true, true, true, true, true, true, true, true, true, true, true, true, true, true, true, true, true, true, true, true, false, false, false, false, false, false, false, false, false] rfl rfl (any_of HT_.out (by kernel_rfl)) (fun _ _ _ h => h) (Or.inl ⟨by rfl, ?_⟩) ?_ ?_
      rotate_left
      ·intro w'
       go_simp
       with_reducible rfl
      rotate_left
      ·simp only [Act.put, List.setIfInBounds_toArray, List.set_cons_zero, List.set_cons_succ, i64_w, i32_w]
       rfl
      refine pure_ (i := 30) (N := some 35) (v := ?_) (a' := ?_) #[true, true, true, true, true, true, true, true, true, true, true, true, true, true, true, true, true, true, true, true, true, true, true, true, true, true, true, true, true, true, true, false, false, false, false, false, false, false, false] rfl rfl (any_of HT_.out (by kernel_rfl)) (fun _ _ _ h => h) (Or.inl ⟨by rfl, ?_⟩) ?_ ?_
      rotate_left
      ·intro w'
       go_simp
       with_reducible rfl
      rotate_left
      ·simp only [Act.put, List.setIfInBounds_toArray, List.set_cons_zero, List.set_cons_succ, i64_w, i32_w]
       rfl
      refine pure_ (i := 31) (N := some 36) (v := ?_) (a' := ?_) #[true, true, true, true, true, true, true, true, true, true, true, true, true, true, true, true, true, true, true, true, true, true, true, true, true, true, true, true, true, true, true, true, false, false, false, false, false, false, false] rfl rfl (any_of HT_.out (by kernel_rfl)) (fun _ _ _ h => h) (Or.inl ⟨by rfl, ?_⟩) ?_ ?_
      rotate_left
      ·intro w'
       go_simp
       with_reducible rfl
      rotate_left
      ·simp only [Act.put, List.setIfInBounds_toArray, List.set_cons_zero, List.set_cons_succ, i64_w, i32_w]
       rfl
      refine pure_ (i := 32) (N := some 37) (v := ?_) (a' := ?_) #[true, true, true, true, true, true, true, true, true, true, true, true, true, true, true, true, true, true, true, true, true, true, true, true, true, true, true, true, true, true, true, true, true, false, false, false, false, false, false] rfl rfl (any_of HT_.out (by kernel_rfl)) (fun _ _ _ h => h) (Or.inl ⟨by rfl, ?_⟩) ?_ ?_
      rotate_left
      ·intro w'
       go_simp
       with_reducible rfl
      rotate_left
      ·simp only [Act.put, List.setIfInBounds_toArray, List.set_cons_zero, List.set_cons_succ, i64_w, i32_w]
       rfl
      refine pure_ (i := 34) (N := some 39) (v := ?_) (a' := ?_) #[true, true, true, true, true, true, true, true, true, true, true, true, true, true, true, true, true, true, true, true, true, true, true, true, true, true, true, true, true, true, true, true, true, false, true, false, false, false, false] rfl rfl (any_of HT_.out (by kernel_rfl)) (fun _ _ _ h => h) (Or.inl ⟨by rfl, ?_⟩) ?_ ?_
      rotate_left
      ·intro w'
       go_simp
       with_reducible rfl
      rotate_left
      ·simp only [Act.put, List.setIfInBounds_toArray, List.set_cons_zero, List.set_cons_succ, i64_w, i32_w]
       rfl
      refine take_ (i := 33) (N := some 38) (v := ?_) (a' := ?_) #[true, true, true, true, true, true, true, true, true, true, true, true, true, true, true, true, true, true, true, true, true, true, true, true, true, true, true, true, true, true, true, true, true, true, true, false, false, false, false] rfl rfl (take_ofW HT_.out HW_.out (by kernel_rfl)) (fun _ _ _ h => h) (Or.inl ⟨by rfl, ?_⟩) hHeld ?_ ?_
      rotate_left
      ·rintro w' ⟨s0, s1, s2, s3, s4, s5, s6, s7⟩
       go_simp
       with_reducible rfl
      rotate_left
      ·simp only [Act.put, List.setIfInBounds_toArray, List.set_cons_zero, List.set_cons_succ, i64_w, i32_w]
       rfl
      refine take_ (i := 35) (N := some 40) (v := ?_) (a' := ?_) #[true, true, true, true, true, true, true, true, true, true, true, true, true, true, true, true, true, true, true, true, true, true, true, true, true, true, true, true, true, true, true, true, true, true, true, true, false, false, false] rfl rfl (take_ofW HT_.out HW_.out (by kernel_rfl)) (fun _ _ _ h => h) (Or.inl ⟨by rfl, ?_⟩) hHeld ?_ ?_
      rotate_left
      ·rintro w' ⟨s0, s1, s2, s3, s4, s5, s6, s7⟩
       go_simp
       with_reducible rfl
      rotate_left
      ·simp only [Act.put, List.setIfInBounds_toArray, List.set_cons_zero, List.set_cons_succ, i64_w, i32_w]
       rfl
      refine pure_ (i := 36) (N := some 41) (v := ?_) (a' := ?_) #[true, true, true, true, true, true, true, true, true, true, true, true, true, true, true, true, true, true, true, true, true, true, true, true, true, true, true, true, true, true, true, true, true, true, true, true, true, false, false] rfl rfl (any_of HT_.out (by kernel_rfl)) (fun _ _ _ h => h) (Or.inl ⟨by rfl, ?_⟩) ?_ ?_
      rotate_left
      ·intro w'
       go_simp
       with_reducible rfl
      rotate_left
      ·simp only [Act.put, List.setIfInBounds_toArray, List.set_cons_zero, List.set_cons_succ, i64_w, i32_w]
       rfl
      refine pure_ (i := 37) (N := some 42) (v := ?_) (a' := ?_) #[true, true, true, true, true, true, true, true, true, true, true, true, true, true, true, true, true, true, true, true, true, true, true, true, true, true, true, true, true, true, true, true, true, true, true, true, true, true, false] rfl rfl (any_of HT_.out (by kernel_rfl)) (fun _ _ _ h => h) (Or.inl ⟨by rfl, ?_⟩) ?_ ?_
      rotate_left
      ·intro w'
       go_simp
       with_reducible rfl
      rotate_left
      ·simp only [Act.put, List.setIfInBounds_toArray, List.set_cons_zero, List.set_cons_succ, i64_w, i32_w]
       rfl
      refine pure_ (i := 38) (N := some 4) (v := ?_) (a' := ?_) #[true, true, true, true, true, true, true, true, true, true, true, true, true, true, true, true, true, true, true, true, true, true, true, true, true, true, true, true, true, true, true, true, true, true, true, true, true, true, true] rfl rfl (any_of HT_.out (by kernel_rfl)) (fun _ _ _ h => h) (Or.inl ⟨by rfl, ?_⟩) ?_ ?_
      rotate_left
      ·intro w'
       go_simp
       with_reducible rfl
      rotate_left
      ·simp only [Act.put, List.setIfInBounds_toArray, List.set_cons_zero, List.set_cons_succ, i64_w, i32_w]
       rfl
      refine done_ (done_of HT_.out (by kernel_rfl)) ?_
      try go_wp2
      go_ret
      have HZ := HZ.out
      exact ⟨by first | rfl | (simp [errW_none, errW_some] <;> rfl) | (simp [*, errW_none, errW_some] <;> rfl) | (simp [errW_none, errW_some]; exact Go.Proofs.YtgfbgfbnmiainaaW.OwnWords.isEmpty_bne _), by repeat (first | (with_reducible first | exact HB.out | apply below_alloc | apply pw_below_drewN | apply below_drew1 | refine below_set ?_ GE181.out | refine below_set ?_ GE182.out) | exact HB.out)⟩
     ·rw [if_neg c13] at H
      have c13b0 : (a0_2 == a1_2) = false := beq_eq_false_iff_ne.mpr c13
      have c13b1 : (a0_2 != a1_2) = true := bne_iff_ne.mpr c13
      exact absurd (Option.some.inj H) (by decide)
    ·rw [if_neg c12] at H
     have c12b0 : (t187 == t188) = false := beq_eq_false_iff_ne.mpr c12
     have c12b1 : (t187 != t188) = true := bne_iff_ne.mpr c12
     exact absurd (Option.some.inj H) (by decide)
   ·rw [if_neg c9] at H
    have c9b0 : (t185 == t186) = false := beq_eq_false_iff_ne.mpr c9
    have c9b1 : (t185 != t186) = true := bne_iff_ne.mpr c9
    exact absurd (Option.some.inj H) (by decide)
  ·replace c6 := Bool.eq_false_iff.mpr c6
   subst c6
   have H1 : (some false) = some true := by rw [if_neg (show ¬ (false = true) by decide)] at H; exact H
   clear H
   have H := H1
   clear H1
   exact absurd (Option.some.inj H) (by decide)
 ·replace c4 := Bool.eq_false_iff.mpr c4
  subst c4
  have H1 : (some false) = some true := by rw [if_neg (show ¬ (false = true) by decide)] at H; exact H
  clear H
  have H := H1
  clear H1
  exact absurd (Option.some.inj H) (by decide)
end Go.Proofs.Ytgfbgfbnmiainaa.Q
/-! awake, the walk. -/
namespace Go.Proofs.Ytgfbgfbnmiainaa.Fam
set_option linter.unusedVariables false
set_option linter.unusedSimpArgs false
open Go.RowKit Go.Proofs.YtgfbgfbnmiainaaW.PrintWords Go.Proofs.YtgfbgfbnmiainaaW.PrintLast Go.Proofs.YtgfbgfbnmiainaaW.PrintMore Go.Proofs.Ytgfbgfbnmiainaa.Q
attribute [local go_sem] Go.Proofs.YtgfbgfbnmiainaaW.OwnWords.isSome_setCell max2_int min2_int
attribute [local go_sem high] eqA59
def aRels : List S33 := [⟨⟨#[112, 97, 114, 116]⟩, [0, 1], 0⟩, ⟨⟨#[115, 105, 122, 101]⟩, [1], 1⟩]
def aFams : List S37 := [⟨[3], [1, 3], 0, 64⟩, ⟨[], [2, 3], 0, 64⟩]
def aSp (i : Nat) : S59 × Bool := if i = 0 then (⟨8, 10, 0, 64⟩, true) else (⟨0, 12, 0, 64⟩, true)
def aQs (i : Nat) : Rl := if i = 0 then .part 0 1 else .size 1 1
def aT : St := ⟨[⟨8, 10, 1, 2⟩, ⟨0, 12, 0, 2⟩], false, true⟩
def aU : St := ⟨[⟨8, 8, 1, 1⟩, ⟨8, 8, 1, 1⟩], false, false⟩
theorem a_aux0 : openF 100 (rd_T37 aFams ((0 : Nat) : Int)) = some (aSp 0) := by kernel_rfl
theorem a_aux1 : openF 100 (rd_T37 aFams ((1 : Nat) : Int)) = some (aSp 1) := by kernel_rfl
theorem a_aux2 : family_ValidRel.f 100 (rd_T33 aRels ((0 : Nat) : Int)).f0 (rd_T33 aRels ((0 : Nat) : Int)).f1 (rd_T33 aRels ((0 : Nat) : Int)).f2 aFams.length = some true := by kernel_rfl
theorem a_aux3 : family_ValidRel.f 100 (rd_T33 aRels ((1 : Nat) : Int)).f0 (rd_T33 aRels ((1 : Nat) : Int)).f1 (rd_T33 aRels ((1 : Nat) : Int)).f2 aFams.length = some true := by kernel_rfl
theorem a_aux4 : closeF 100 (rd_T59 aU.xs ((0 : Nat) : Int)) = some ⟨[3], [3], 1, 1⟩ := by kernel_rfl
theorem a_aux5 : closeF 100 (rd_T59 aU.xs ((1 : Nat) : Int)) = some ⟨[3], [3], 1, 1⟩ := by kernel_rfl
theorem a_open : ∀ i : Nat, i < aFams.length → openF 100 (rd_T37 aFams i) = some (aSp i) := by
  intro i hi
  match i, hi with
  | 0, _ => exact a_aux0
  | 1, _ => exact a_aux1
theorem a_valid : ∀ i : Nat, i < aRels.length → family_ValidRel.f 100 (rd_T33 aRels i).f0 (rd_T33 aRels i).f1 (rd_T33 aRels i).f2 aFams.length = some true := by
  intro i hi
  match i, hi with
  | 0, _ => exact a_aux2
  | 1, _ => exact a_aux3
theorem a_init : initF 100 aFams.length 0 ⟨spans aSp aFams.length, false, false⟩ = some aT := by kernel_rfl
theorem a_round : roundF 100 aQs aRels.length 100 ⟨aT.xs, aT.fail, true⟩ = some aU := by kernel_rfl
theorem a_close : ∀ i : Nat, i < aFams.length → closeF 100 (rd_T59 aU.xs i) = some ⟨[3], [3], 1, 1⟩ := by
  intro i hi
  match i, hi with
  | 0, _ => exact a_aux4
  | 1, _ => exact a_aux5
theorem a_same : famSameT.f 100 [3] [3] 1 1 [3] [3] 1 1 = some true := by kernel_rfl
theorem a_rels : RelsAre aRels aQs aFams.length := by
  intro i hi
  match i, hi with
  | 0, _ => exact ⟨⟨rfl, rfl⟩, ⟨by decide, by decide⟩, by decide, by decide⟩
  | 1, _ => exact ⟨⟨rfl, rfl, rfl⟩, by decide, by decide⟩
def aOut : List S37 := [⟨[3], [3], 1, 1⟩, ⟨[3], [3], 1, 1⟩]
/-- Fix of the two families, wherever they lie. -/
theorem a_fix (A0 : Option Addr) (c0 : Nat) (A1 : Option Addr) (c1 : Nat) (w : World) (hr0 : Kd.C k33 w A0 2 aRels) (hc0 : 2 ≤ c0) (hr1 : Kd.C k37 w A1 2 aFams) (hc1 : 2 ≤ c1) :
    Calls Try.prog 11 #[.slice A0 2 c0, .slice A1 2 c1] w fun e w' => ∃ v, e = .returned (.tuple #[v, .int .i64 0]) ∧ Kd.R k37 37 w' w.heap.size (fun _ => True) v aOut ∧ Below w.heap.size w w' :=
  fix_walk 100 aSp A0 c0 aRels A1 c1 aFams w hr0 hc0 hr1 hc1 a_open (by decide) (fun _ => true) a_valid (by decide) true ⟨rfl⟩ aOut 0
    ⟨fun _ => ⟨aQs, aT, aU, 100, a_rels, a_init, a_round, fun h => (by cases h), fun _ => ⟨rfl, fun _ => ⟨[3], [3], 1, 1⟩, a_close, rfl⟩⟩⟩ ⟨fun h => (by cases h)⟩
abbrev aW (w : World) : World := ((((((w.alloc (.cells #[.int .i64 0, .int .i64 1] 3)).alloc (.cells #[.int .i64 1] 3)).alloc (.cells #[.string ⟨#[112, 97, 114, 116]⟩, .slice (some ⟨w.heap.size, 0, none⟩) 2 2, .int .i64 0, .string ⟨#[115, 105, 122, 101]⟩, .slice (some ⟨w.heap.size + 1, 0, none⟩) 1 1, .int .i64 1] 33)).alloc (.cells #[.int .i64 3] 3)).alloc (.cells #[.int .i64 1, .int .i64 3] 3)).alloc (.cells #[.int .i64 2, .int .i64 3] 3)).alloc
  (.cells #[.slice (some ⟨w.heap.size + 1 + 1 + 1, 0, none⟩) 1 1, .slice (some ⟨w.heap.size + 1 + 1 + 1 + 1, 0, none⟩) 2 2, .int .i64 0, .int .i64 64, .slice none 0 0, .slice (some ⟨w.heap.size + 1 + 1 + 1 + 1 + 1, 0, none⟩) 2 2, .int .i64 0, .int .i64 64] 37)
theorem a_args (w : World) : Kd.C k33 (aW w) (some ⟨w.heap.size + 1 + 1, 0, none⟩) 2 aRels ∧ Kd.C k37 (aW w) (some ⟨w.heap.size + 1 + 1 + 1 + 1 + 1 + 1, 0, none⟩) 2 aFams := by
  obtain ⟨b0, b1, b2, b3, b4, b5, b6, _⟩ := allocs7 w _ _ _ _ _ _ _ (aW w) rfl
  refine ⟨rows_lit (css := [[.string ⟨#[112, 97, 114, 116]⟩, .slice (some ⟨w.heap.size, 0, none⟩) 2 2, .int .i64 0], [.string ⟨#[115, 105, 122, 101]⟩, .slice (some ⟨w.heap.size + 1, 0, none⟩) 1 1, .int .i64 1]]) b2 rfl ?_ rfl (by decide) ?_, rows_lit (css := [[.slice (some ⟨w.heap.size + 1 + 1 + 1, 0, none⟩) 1 1, .slice (some ⟨w.heap.size + 1 + 1 + 1 + 1, 0, none⟩) 2 2, .int .i64 0, .int .i64 64], [.slice none 0 0, .slice (some ⟨w.heap.size + 1 + 1 + 1 + 1 + 1, 0, none⟩) 2 2, .int .i64 0, .int .i64 64]]) b6 rfl ?_ rfl (by decide) ?_⟩
  · intro cs hcs
    simp only [List.mem_cons, List.not_mem_nil, or_false] at hcs
    rcases hcs with rfl | rfl <;> rfl
  · intro j p cs hp hc
    match j with
    | 0 => cases hp; cases hc; exact k33_mk _ ⟨⟨#[112, 97, 114, 116]⟩, [0, 1], 0⟩ (by decide) (ints_lit (xs := [0, 1]) b0 rfl (by decide))
    | 1 => cases hp; cases hc; exact k33_mk _ ⟨⟨#[115, 105, 122, 101]⟩, [1], 1⟩ (by decide) (ints_lit (xs := [1]) b1 rfl (by decide))
    | j + 2 => cases hp
  · intro cs hcs
    simp only [List.mem_cons, List.not_mem_nil, or_false] at hcs
    rcases hcs with rfl | rfl <;> rfl
  · intro j p cs hp hc
    match j with
    | 0 => cases hp; cases hc; exact k37_mk _ ⟨[3], [1, 3], 0, 64⟩ (by decide) (ints_lit (xs := [3]) b3 rfl (by decide)) (by decide) (ints_lit (xs := [1, 3]) b4 rfl (by decide))
    | 1 => cases hp; cases hc; exact k37_mk _ ⟨[], [2, 3], 0, 64⟩ (by decide) (Kd.C_nil _ _) (by decide) (ints_lit (xs := [2, 3]) b5 rfl (by decide))
    | j + 2 => cases hp
end Go.Proofs.Ytgfbgfbnmiainaa.Fam
/-! awake, the walk. -/
namespace Go.Proofs.Ytgfbgfbnmiainaa.Fam
set_option linter.unusedVariables false
set_option linter.unusedSimpArgs false
open Go.RowKit Go.Proofs.YtgfbgfbnmiainaaW.PrintWords Go.Proofs.YtgfbgfbnmiainaaW.PrintLast Go.Proofs.YtgfbgfbnmiainaaW.PrintMore Go.Proofs.Ytgfbgfbnmiainaa.Q
attribute [local go_sem] Go.Proofs.YtgfbgfbnmiainaaW.OwnWords.isSome_setCell max2_int min2_int
attribute [local go_sem high] eqA59
def aS (gb : Nat) (B0 : Option Addr) (b0 : Nat) (B1 : Option Addr) (b1 : Nat) (D0 : Option Addr) (d0 : Nat) (D1 : Option Addr) (d1 : Nat) (w2 w' : World) : Prop :=
  Below w2.heap.size w2 w' ∧ w'.cell? ⟨gb, 0, none⟩ = some (.slice B0 1 b0) ∧ w'.cell? ⟨gb, 1, none⟩ = some (.slice B1 1 b1) ∧ w'.cell? ⟨gb, 2, none⟩ = some (.int .i64 1) ∧ w'.cell? ⟨gb, 3, none⟩ = some (.int .i64 1) ∧ w'.cell? ⟨gb, 4, none⟩ = some (.slice D0 1 d0) ∧ w'.cell? ⟨gb, 5, none⟩ = some (.slice D1 1 d1) ∧ w'.cell? ⟨gb, 6, none⟩ = some (.int .i64 1) ∧ w'.cell? ⟨gb, 7, none⟩ = some (.int .i64 1)
theorem aS_below {gb : Nat} {B0 : Option Addr} {b0 : Nat} {B1 : Option Addr} {b1 : Nat} {D0 : Option Addr} {d0 : Nat} {D1 : Option Addr} {d1 : Nat} {w2 w w' : World} (h : aS gb B0 b0 B1 b1 D0 d0 D1 d1 w2 w) (hb : Below w.heap.size w w') : aS gb B0 b0 B1 b1 D0 d0 D1 d1 w2 w' := by
  obtain ⟨h0, a0, a1, a2, a3, a4, a5, a6, a7⟩ := h
  exact ⟨below_then h0 h0.size hb, pw_cell_below hb a0, pw_cell_below hb a1, pw_cell_below hb a2, pw_cell_below hb a3, pw_cell_below hb a4, pw_cell_below hb a5, pw_cell_below hb a6, pw_cell_below hb a7⟩
theorem aS_alloc {gb : Nat} {B0 : Option Addr} {b0 : Nat} {B1 : Option Addr} {b1 : Nat} {D0 : Option Addr} {d0 : Nat} {D1 : Option Addr} {d1 : Nat} {w2 w : World} (h : aS gb B0 b0 B1 b1 D0 d0 D1 d1 w2 w) (o : Obj) : aS gb B0 b0 B1 b1 D0 d0 D1 d1 w2 (w.alloc o) := aS_below h (below_alloc (Below.refl _ _) o)
theorem aS_drew {gb : Nat} {B0 : Option Addr} {b0 : Nat} {B1 : Option Addr} {b1 : Nat} {D0 : Option Addr} {d0 : Nat} {D1 : Option Addr} {d1 : Nat} {w2 w : World} (h : aS gb B0 b0 B1 b1 D0 d0 D1 d1 w2 w) : aS gb B0 b0 B1 b1 D0 d0 D1 d1 w2 w.drew := aS_below h (below_drew (Below.refl _ _))
set_option maxHeartbeats 8000000 in
set_option maxRecDepth 100000 in
theorem awake_walk (w : World) :
    Calls Try.prog 10 #[] w fun e w' => e = .returned (.bool true) ∧ Below w.heap.size w w' := by
  have HA := Aside0.mk (a_args w)
  have HB0 := Aside0.mk (show Below w.heap.size w (aW w) from below_alloc (below_alloc (below_alloc (below_alloc (below_alloc (below_alloc (below_alloc (Below.refl _ _) _) _) _) _) _) _) _)
  go_enter Try.func10, Try.ntmps10
  go_upto_region 2 with (first | (go_at_call 11; (refine (a_fix _ 2 _ 2 _ HA.out.1 (by decide) HA.out.2 (by decide)).mono ?_); rintro e w2 ⟨v, rfl, hR, hb2⟩; obtain ⟨gb, cp, rfl⟩ : ∃ gb cp, v = .slice (some ⟨gb, 0, none⟩) 2 cp := (by obtain ⟨gb, cp, h_, _⟩ := Kd.R_form hR (by decide); exact ⟨gb, cp, h_⟩); have HR := Aside0.mk hR; have HB := Aside0.mk (below_then HB0.out HB0.out.size hb2); clear hR hb2))
  obtain ⟨k1, k2, hC⟩ := Kd.R_reads' HR.out
  clear k1 k2
  obtain ⟨ad, B0, b0, B1, b1, e0, x0, x1, x2, x3, m0, M0, m1, M1⟩ := at_T37 hC 0 (by decide) (by decide)
  cases e0
  obtain ⟨ad, D0, d0, D1, d1, e0, y0, y1, y2, y3, n0, N0, n1, N1⟩ := at_T37 hC 1 (by decide) (by decide)
  cases e0
  have HM0 : Aside0 ([3].length ≤ b0 ∧ (Kd.int .i64).C w2 B0 [3].length [3]) := ⟨m0, M0⟩
  have HM1 : Aside0 ([3].length ≤ b1 ∧ (Kd.int .i64).C w2 B1 [3].length [3]) := ⟨m1, M1⟩
  have HM2 : Aside0 ([3].length ≤ d0 ∧ (Kd.int .i64).C w2 D0 [3].length [3]) := ⟨n0, N0⟩
  have HM3 : Aside0 ([3].length ≤ d1 ∧ (Kd.int .i64).C w2 D1 [3].length [3]) := ⟨n1, N1⟩
  clear hC m0 M0 m1 M1 n0 N0 n1 N1
  replace x0 : w2.cell? ⟨gb, 0, none⟩ = some (.slice B0 1 b0) := x0
  replace x1 : w2.cell? ⟨gb, 1, none⟩ = some (.slice B1 1 b1) := x1
  replace x2 : w2.cell? ⟨gb, 2, none⟩ = some (.int .i64 1) := x2
  replace x3 : w2.cell? ⟨gb, 3, none⟩ = some (.int .i64 1) := x3
  replace y0 : w2.cell? ⟨gb, 4, none⟩ = some (.slice D0 1 d0) := y0
  replace y1 : w2.cell? ⟨gb, 5, none⟩ = some (.slice D1 1 d1) := y1
  replace y2 : w2.cell? ⟨gb, 6, none⟩ = some (.int .i64 1) := y2
  replace y3 : w2.cell? ⟨gb, 7, none⟩ = some (.int .i64 1) := y3
  have HS := Aside0.mk (show aS gb B0 b0 B1 b1 D0 d0 D1 d1 w2 w2 from ⟨Below.refl _ _, x0, x1, x2, x3, y0, y1, y2, y3⟩)
  have HS1 := Aside0.mk (aS_drew (aS_alloc HS.out (.cells #[.int .i64 3] 3)))
  have HS2 := Aside0.mk (aS_drew (aS_alloc (aS_alloc HS.out (.cells #[.int .i64 3] 3)) (.cells #[.int .i64 3] 3)))
  have HL1 := Aside0.mk (Kd.C_drew (Kd.C_alloc (ints_lit (xs := [3]) (blk_new w2 (.cells #[.int .i64 3] 3)) rfl (by decide)) (.cells #[.int .i64 3] 3)))
  have HL2 := Aside0.mk (Kd.C_drew (ints_lit (xs := [3]) (blk_new' (w := w2.alloc (.cells #[.int .i64 3] 3)) (o := .cells #[.int .i64 3] 3) (n := w2.heap.size + 1) rfl (by simp)).1 rfl (by decide)))
  clear x0 x1 x2 x3 y0 y1 y2 y3
  go_region_held3 (fun w' => Below w2.heap.size w2 w' ∧ w'.cell? ⟨gb, 0, none⟩ = some (.slice B0 1 b0) ∧ w'.cell? ⟨gb, 1, none⟩ = some (.slice B1 1 b1) ∧ w'.cell? ⟨gb, 2, none⟩ = some (.int .i64 1) ∧ w'.cell? ⟨gb, 3, none⟩ = some (.int .i64 1) ∧ w'.cell? ⟨gb, 4, none⟩ = some (.slice D0 1 d0) ∧ w'.cell? ⟨gb, 5, none⟩ = some (.slice D1 1 d1) ∧ w'.cell? ⟨gb, 6, none⟩ = some (.int .i64 1) ∧ w'.cell? ⟨gb, 7, none⟩ = some (.int .i64 1))
    (first | exact HT.out | exact HU.out | exact HS.out | exact aS_drew HS.out | exact HS1.out | exact HS2.out)
    (first
      | (go_at_call 18; (refine (famSameT.calls 100 B0 b0 [3] B1 b1 [3] 1 1 D0 d0 [3] D1 d1 [3] 1 1 _ (Kd.C_below HM0.out.2 HT.out.1) HM0.out.1 (Kd.C_below HM1.out.2 HT.out.1) HM1.out.1 (Kd.C_below HM2.out.2 HT.out.1) HM2.out.1 (Kd.C_below HM3.out.2 HT.out.1) HM3.out.1 a_same).mono ?_); rintro e w4 ⟨rfl, hb⟩; have HU := Aside0.mk (aS_below HT.out hb); clear hb)
      | (go_at_call 18; (refine (famSameT.calls 100 B0 b0 [3] B1 b1 [3] 1 1 _ 1 [3] _ 1 [3] 1 1 _ (Kd.C_below HM0.out.2 HS2.out.1) HM0.out.1 (Kd.C_below HM1.out.2 HS2.out.1) HM1.out.1 ?r2 ?c2 ?r3 ?c3 a_same).mono ?_); (case r2 => first | exact HL1.out | exact HL2.out); (case c2 => decide); (case r3 => first | exact HL1.out | exact HL2.out); (case c3 => decide); rintro e w3 ⟨rfl, hb⟩; have HT := Aside0.mk (aS_below HS2.out hb); clear hb))
  all_goals
    try go_wp2
    go_ret
    first
      | exact ⟨rfl, below_then HB.out HB.out.size HU.out.1⟩
      | (trace_state; fail)
end Go.Proofs.Ytgfbgfbnmiainaa.Fam
/-! FamilyKeeps: the list of the sets alone, in memory. -/
namespace Go.Proofs.Ytgfbgfbnmiainaa.Fam
set_option linter.unusedVariables false
set_option linter.unusedSimpArgs false
open Go.RowKit Go.Proofs.YtgfbgfbnmiainaaW.PrintWords Go.Proofs.YtgfbgfbnmiainaaW.PrintLast Go.Proofs.YtgfbgfbnmiainaaW.PrintMore Go.Proofs.Ytgfbgfbnmiainaa.Q
structure Raw where
  A : Option Addr
  n : Nat
  c : Nat
def rawCells (p : Raw) : List Value := [.slice p.A p.n p.c, .slice p.A p.n p.c, .int .i64 0, .int .i64 64]
/-- A family whose lists are another's. -/
def kRaw : Kd Raw where
  sz := 4
  E := []
  K := fun _ p cs => cs = rawCells p
  M := fun _ _ _ p cs => cs = rawCells p
  K_len := fun h => by rw [h]; rfl
  K_one := fun h u hu => by
    rw [h] at hu
    simp only [rawCells, List.mem_cons, List.not_mem_nil, or_false] at hu
    rcases hu with rfl | rfl | rfl | rfl <;> rfl
  K_below := fun _ h => h
  K_of_M := fun h => h
  M_mono := fun _ h => h
  M_bound := fun h => h
  M_move := fun _ h => h
  M_lower := fun _ h => h
/-- The first i lists lie where rs says. -/
def Lies (w : World) (L : List (List Int)) (rs : List Raw) : Prop := rs.length ≤ L.length ∧ ∀ (j : Nat) (p : Raw), rs[j]? = some p → p.n = (lst L j).length ∧ Sl w p.A p.c (lst L j)
theorem lies_nil (w : World) (L : List (List Int)) : Lies w L [] := ⟨Nat.zero_le _, fun j p h => by cases h⟩
theorem lies_below {w w' : World} {L : List (List Int)} {rs : List Raw} (h : Lies w L rs) (hb : Below w.heap.size w w') : Lies w' L rs := ⟨h.1, fun j p hj => ⟨(h.2 j p hj).1, sl_below (h.2 j p hj).2 hb⟩⟩
theorem lies_next {w : World} {L : List (List Int)} {rs : List Raw} (h : Lies w L rs) (hl : rs.length < L.length) {A : Option Addr} {c : Nat} (hs : Sl w A c (lst L rs.length)) : Lies w L (rs ++ [⟨A, (lst L rs.length).length, c⟩]) := by
  refine ⟨by rw [List.length_append]; exact hl, fun j p hj => ?_⟩
  by_cases e : j < rs.length
  · rw [List.getElem?_append_left e] at hj
    exact h.2 j p hj
  · rw [List.getElem?_append_right (by omega)] at hj
    have : j = rs.length := by
      have := (List.getElem?_eq_some_iff.mp hj).1
      simp at this
      omega
    subst this
    simp at hj
    subst hj
    exact ⟨rfl, hs⟩
/-- The whole list, read. -/
theorem lies_all {w' : World} {L : List (List Int)} {rs : List Raw} (h : Lies w' L rs) (hn : rs.length = L.length) {A : Option Addr} {n : Nat} (hC : Kd.C kRaw w' A n rs) : Kd.C k37 w' A (fixL L).length (fixL L) := by
  obtain ⟨h1, h2, h3⟩ := hC
  have hf := fixL_len L
  refine ⟨rfl, by omega, fun h0 => ?_⟩
  obtain ⟨ad, e, hc⟩ := h3 (by omega)
  refine ⟨ad, e, fun j p hj => ?_⟩
  have hj1 : j < L.length := by
    have := (List.getElem?_eq_some_iff.mp hj).1
    omega
  obtain ⟨c, k1, k2, k3⟩ := hc j rs[j] (List.getElem?_eq_getElem (by omega))
  obtain ⟨l1, l2⟩ := h.2 j rs[j] (List.getElem?_eq_getElem (by omega))
  have hp : p = ⟨lst L j, lst L j, 0, 64⟩ := by
    have e1 := rd_fixL (L := L) hj1
    unfold rd_T37 at e1
    rw [Int.toNat_natCast, List.getD_eq_getElem?_getD, hj] at e1
    exact e1
  subst hp
  refine ⟨c, k1, ?_, k3⟩
  rw [show c = rawCells rs[j] from k2]
  unfold rawCells
  rw [l1]
  exact k37_mk w' ⟨lst L j, lst L j, 0, 64⟩ l2.2 l2.1 l2.2 l2.1
theorem okr_all {f : Nat → Bool} {n : Nat} : okr f true n = true ↔ ∀ i : Nat, i < n → f i = true := by
  unfold okr
  rw [Bool.true_and, List.all_eq_true]
  exact ⟨fun h i hi => h i (List.mem_range.mpr hi), fun h i hi => h i (List.mem_range.mp hi)⟩
theorem fix_len {rels : List S33} {l out : List S37} {code : Int} (h : FixOut rels l out code) : code = 0 → out.length = l.length := by
  rintro rfl
  rcases h with ⟨_, _, h⟩ | ⟨_, _, h, _⟩ | ⟨_, _, X, _, _, _, h⟩
  · cases h
  · cases h
  · rw [h]; simp
theorem out_small {rels : List S33} {l out : List S37} {code : Int} (h : FixOut rels l out code) (i : Nat) : (rd_T37 out i).f0.length ≤ 1000 ∧ (rd_T37 out i).f1.length ≤ 1000 := by
  by_cases hi : i < out.length
  · rcases h with ⟨_, h, _⟩ | ⟨_, h, _⟩ | ⟨_, _, X, _, _, _, h⟩
    · subst h; simp at hi
    · subst h; simp at hi
    · rw [h] at hi ⊢
      rw [rd_map37 (f := fun i : Nat => clo (rd_T59 X i)) (by simpa using hi)]
      have c0 := card_lsO (rd_T59 X i).f0
      have c1 := card_lsO (rd_T59 X i).f1
      have d0 := card_le (rd_T59 X i).f0
      have d1 := card_le (rd_T59 X i).f1
      simp only [clo]
      omega
  · have : rd_T37 out i = z37 := by
      unfold rd_T37
      rw [Int.toNat_natCast, List.getD_eq_getElem?_getD, List.getElem?_eq_none (by omega)]
      rfl
    rw [this]
    exact ⟨by decide, by decide⟩
/-- All that the walk asks behind its first loop. -/
theorem keep_facts {rels : List S33} {l : List S37} {L : List (List Int)} {out : List S37} {code : Int} (ho : FixOut rels l out code) (hc : code ≠ 2) (hn : L.length = l.length) (h50 : l.length ≤ 50) (hr : rels.length ≤ 110) (hr10 : ∀ i : Nat, i < rels.length → (rd_T33 rels i).f1.length ≤ 10) (hs : ∀ i : Nat, i < L.length → (lst L i).length ≤ 100) :
    ∃ (hol : Nat → Bool) (out2 : List S37) (code2 : Int), (∀ i : Nat, i < rels.length → HoldsC (rd_T33 rels i) L (hol i)) ∧ FixCalls rels (fixL L) out2 code2 ∧
      (okr (fun j : Nat => hasB (rd_T37 l (j : Int)) (lst L j)) true L.length = true → okr hol true rels.length = true → code = 0 ∧ ∀ i : Nat, i < L.length → family_Has.f 2000 (rd_T37 out i).f0 (rd_T37 out i).f1 (rd_T37 out i).f2 (rd_T37 out i).f3 (lst L i) = some true) ∧
      (code2 = 2 ∨ (code2 = 60 ∧ okr hol true rels.length = false) ∨ (code2 = 0 ∧ okr hol true rels.length = true ∧ out2.length = L.length ∧ ∀ i : Nat, i < L.length → family_Fixed.f 2000 (rd_T37 out2 i).f0 (rd_T37 out2 i).f1 (rd_T37 out2 i).f2 (rd_T37 out2 i).f3 = some true ∧ family_Has.f 2000 (rd_T37 out2 i).f0 (rd_T37 out2 i).f1 (rd_T37 out2 i).f2 (rd_T37 out2 i).f3 (lst L i) = some true)) := by
  have hH : ∀ i : Nat, ∃ b, i < rels.length → HoldsC (rd_T33 rels i) L b ∧ (setsOk L → validB (rd_T33 rels i).f0 (rd_T33 rels i).f1 L.length = true → (b = true ↔ Qr (rlR (rd_T33 rels i)) (pts L))) := by
    intro i
    by_cases hi : i < rels.length
    · obtain ⟨b, hb⟩ := holds_c (rd_T33 rels i) L (by have := hr10 i hi; omega) (by omega) (fun j hj => by have := hs j hj; omega)
      exact ⟨b, fun _ => hb⟩
    · exact ⟨false, fun h => absurd h hi⟩
  obtain ⟨hol, hhol⟩ := Classical.axiomOfChoice hH
  have hf := fixL_len L
  obtain ⟨out2, code2, ho2, hc2⟩ := fix_all rels (fixL L) (by omega) (by omega) (fun i hi => by
    rw [rd_fixL (by omega)]
    have := hs i (by omega)
    exact ⟨by simp only; omega, by simp only; omega⟩) (fun i hi => by have := hr10 i hi; omega)
  obtain ⟨k1, k2⟩ := keep_law hn ho hc (hol := hol) (fun i hi => (hhol i hi).2) ho2
  refine ⟨hol, out2, code2, fun i hi => (hhol i hi).1, hc2, fun h1 h2 => ?_, ?_⟩
  · obtain ⟨e, h⟩ := k1 (okr_all.mp h1) (okr_all.mp h2)
    refine ⟨e, fun i hi => ?_⟩
    have sm := out_small ho i
    rw [has_f' sm.1 sm.2 (by have := hs i hi; omega), h i hi]
  · have hcode : code2 = 2 ∨ code2 = 60 ∨ code2 = 0 := by
      rcases ho2 with ⟨_, _, h⟩ | ⟨_, _, h, _⟩ | ⟨_, h, _⟩
      · exact .inl h
      · exact .inr (.inl h)
      · exact .inr (.inr h)
    rcases hcode with e | e | e
    · exact .inl e
    · refine .inr (.inl ⟨e, ?_⟩)
      rcases k2 with h | ⟨h, _⟩
      · omega
      · cases ho : okr hol true rels.length with
        | false => rfl
        | true =>
          have := h.mpr (okr_all.mp ho)
          omega
    · refine .inr (.inr ⟨e, ?_⟩)
      rcases k2 with h | ⟨h, h'⟩
      · omega
      · obtain ⟨h1, h2⟩ := h' e
        refine ⟨okr_all.mpr (h.mp e), h1, fun i hi => ?_⟩
        have sm := out_small ho2 i
        rw [has_f' sm.1 sm.2 (by have := hs i hi; omega), fixed_f sm.1 sm.2, (h2 i hi).1, (h2 i hi).2]
        exact ⟨rfl, rfl⟩
theorem C_len {α : Type} {d : Kd α} {w : World} {A : Option Addr} {n : Nat} {xs : List α} (h : Kd.C d w A n xs) : n ≤ 9223372036854775807 := h.2.1
end Go.Proofs.Ytgfbgfbnmiainaa.Fam
