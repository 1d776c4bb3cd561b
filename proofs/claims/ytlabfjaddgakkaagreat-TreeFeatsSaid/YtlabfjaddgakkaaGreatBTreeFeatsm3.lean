-- Walks of Go functions; written by own_print.py of this repo (see NOTES.md).
import Derived.Test.YtlabfjaddgakkaaGreatBTreeFeatsm0
import Derived.Test.YtlabfjaddgakkaaGreatBTreeFeatsm2
section
namespace Go.Proofs.YtlabfjaddgakkaaGreat.Q
open Go.RowKit Go.Proofs.YtlabfjaddgakkaaGreatW.PrintWords Go.Proofs.YtlabfjaddgakkaaGreatW.PrintLast Go.Proofs.YtlabfjaddgakkaaGreatW.PrintMore Go.Proofs.YtlabfjaddgakkaaGreatW.OwnWords
attribute [local go_sem] Go.Proofs.YtlabfjaddgakkaaGreatW.OwnWords.isSome_setCell max2_int min2_int max_two min_two max_three min_three max_four min_four
set_option linter.unusedVariables false
set_option linter.unusedSimpArgs false

/-! ### token_next: function 108 -/
mutual
def token_next.j0 : Nat → ByteArray → Int → Int → Bool → ByteArray → ByteArray → Int → Option (ByteArray × ByteArray × Int × Int × Bool)
 | 0, _, _, _, _, _, _, _ => none
 | k + 1, x0, x1, x7, x24, x124000, x124001, x124002 => if x24 = true then (token_next.l0 k x0 x1 x7 x1 x124000 x124001 x124002) else (if x7 = 39 then (token_next.j3 k x0 x1 x7 true x124000 x124001 x124002) else (token_next.j3 k x0 x1 x7 (x7 == 34) x124000 x124001 x124002))
def token_next.j2 : Nat → ByteArray → Int → Int → Int → ByteArray → ByteArray → Int → Option (ByteArray × ByteArray × Int × Int × Bool)
 | 0, _, _, _, _, _, _, _ => none
 | k + 1, x0, x1, x7, x9, x124000, x124001, x124002 => if 0 ≤ x1 then (if x1 ≤ x9 then (if x9 ≤ (x0.size : Int) then ((token_upper.f x7).bind fun t127 => (if t127 = true then (some ((⟨#[118, 97, 114]⟩ : ByteArray), x0.extract (x1 : Int).toNat (x9 : Int).toNat, x124002, x9, decide ((wrap64 (x9 - x1)) ≤ 60))) else ((token_isKey.f (x0.extract (x1 : Int).toNat (x9 : Int).toNat)).bind fun t128 => (if t128 = true then (some ((⟨#[107, 101, 121]⟩ : ByteArray), x0.extract (x1 : Int).toNat (x9 : Int).toNat, x124002, x9, decide ((wrap64 (x9 - x1)) ≤ 60))) else (some ((⟨#[97, 116, 111, 109]⟩ : ByteArray), x0.extract (x1 : Int).toNat (x9 : Int).toNat, x124002, x9, decide ((wrap64 (x9 - x1)) ≤ 60))))))) else (none)) else (none)) else (none)
def token_next.l0 : Nat → ByteArray → Int → Int → Int → ByteArray → ByteArray → Int → Option (ByteArray × ByteArray × Int × Int × Bool)
 | 0, _, _, _, _, _, _, _ => none
 | k + 1, x0, x1, x7, x9, x124000, x124001, x124002 => if x9 < (x0.size : Int) then (if 0 ≤ x9 then ((token_word.f (bt x0 x9)).bind fun t126 => (if t126 = true then (token_next.l0 k x0 x1 x7 (wrap64 (x9 + 1)) x124000 x124001 x124002) else (token_next.j2 k x0 x1 x7 x9 x124000 x124001 x124002))) else (none)) else (token_next.j2 k x0 x1 x7 x9 x124000 x124001 x124002)
def token_next.j3 : Nat → ByteArray → Int → Int → Bool → ByteArray → ByteArray → Int → Option (ByteArray × ByteArray × Int × Int × Bool)
 | 0, _, _, _, _, _, _, _ => none
 | k + 1, x0, x1, x7, x63, x124000, x124001, x124002 => if x63 = true then (if x7 = 34 then ((token_quoted.f k x0 x1 200).bind fun bt129 => (some ((⟨#[116, 101, 120, 116]⟩ : ByteArray), bt129.1, x124002, bt129.2.1, bt129.2.2))) else ((token_quoted.f k x0 x1 60).bind fun bt132 => (some ((⟨#[97, 116, 111, 109]⟩ : ByteArray), bt132.1, x124002, bt132.2.1, bt132.2.2)))) else (if x7 = 38 then ((token_char.f x0 x1).bind fun bt135 => (some ((⟨#[99, 104, 97, 114]⟩ : ByteArray), bt135.1, x124002, bt135.2.1, bt135.2.2))) else ((token_digit.f x7).bind fun t138 => (if t138 = true then (token_next.j4 k x0 x1 x7 true x124000 x124001 x124002) else (if x7 = 126 then (if (wrap64 (x1 + 1)) < (x0.size : Int) then (if 0 ≤ (wrap64 (x1 + 1)) then ((token_digit.f (bt x0 (wrap64 (x1 + 1)))).bind fun t139 => (token_next.j4 k x0 x1 x7 t139 x124000 x124001 x124002)) else (none)) else (token_next.j4 k x0 x1 x7 false x124000 x124001 x124002)) else (token_next.j4 k x0 x1 x7 false x124000 x124001 x124002)))))
def token_next.j4 : Nat → ByteArray → Int → Int → Bool → ByteArray → ByteArray → Int → Option (ByteArray × ByteArray × Int × Int × Bool)
 | 0, _, _, _, _, _, _, _ => none
 | k + 1, x0, x1, x7, x103, x124000, x124001, x124002 => if x103 = true then ((token_number.f k x0 x1).bind fun bt140 => (if x7 = 126 then (if 0 ≤ (wrap64 (x1 + 1)) then (if (wrap64 (x1 + 1)) < (x0.size : Int) then (if (bt x0 (wrap64 (x1 + 1))) = 48 then (if bt140.1 = (wrap64 (x1 + 2)) then (some ((⟨#[115, 105, 103, 110]⟩ : ByteArray), (⟨#[126]⟩ : ByteArray), x124002, wrap64 (x1 + 1), true)) else (if 0 ≤ x1 then (if x1 ≤ bt140.1 then (if bt140.1 ≤ (x0.size : Int) then (some ((⟨#[105, 110, 116]⟩ : ByteArray), x0.extract (x1 : Int).toNat (bt140.1 : Int).toNat, x124002, bt140.1, bt140.2)) else (none)) else (none)) else (none))) else (if 0 ≤ x1 then (if x1 ≤ bt140.1 then (if bt140.1 ≤ (x0.size : Int) then (some ((⟨#[105, 110, 116]⟩ : ByteArray), x0.extract (x1 : Int).toNat (bt140.1 : Int).toNat, x124002, bt140.1, bt140.2)) else (none)) else (none)) else (none))) else (none)) else (none)) else (if 0 ≤ x1 then (if x1 ≤ bt140.1 then (if bt140.1 ≤ (x0.size : Int) then (some ((⟨#[105, 110, 116]⟩ : ByteArray), x0.extract (x1 : Int).toNat (bt140.1 : Int).toNat, x124002, bt140.1, bt140.2)) else (none)) else (none)) else (none)))) else (if 0 ≤ x1 then (if x1 ≤ (x0.size : Int) then ((token_signAt.f k (x0.extract (x1 : Int).toNat x0.size)).bind fun t142 => (some ((⟨#[115, 105, 103, 110]⟩ : ByteArray), t142, x124002, wrap64 (x1 + (t142.size : Int)), (t142.toList != ([] : List UInt8))))) else (none)) else (none))
end
def token_next.f (k : Nat) (a0 : ByteArray) (a1 : Int) : Option (ByteArray × ByteArray × Int × Int × Bool) := if 0 ≤ a1 then (if a1 < (a0.size : Int) then ((token_upper.f (bt a0 a1)).bind fun t124 => (if t124 = true then (token_next.j0 k a0 a1 (bt a0 a1) true (⟨#[]⟩ : ByteArray) (⟨#[]⟩ : ByteArray) a1) else ((token_lower.f (bt a0 a1)).bind fun t125 => (token_next.j0 k a0 a1 (bt a0 a1) t125 (⟨#[]⟩ : ByteArray) (⟨#[]⟩ : ByteArray) a1)))) else (none)) else (none)
theorem token_next.mono_l : ∀ k, (∀ y0 y1 y2 y3 y4 y5 y6, LeO (token_next.j0 k y0 y1 y2 y3 y4 y5 y6) (token_next.j0 (k + 1) y0 y1 y2 y3 y4 y5 y6)) ∧ (∀ y0 y1 y2 y3 y4 y5 y6, LeO (token_next.j2 k y0 y1 y2 y3 y4 y5 y6) (token_next.j2 (k + 1) y0 y1 y2 y3 y4 y5 y6)) ∧ (∀ y0 y1 y2 y3 y4 y5 y6, LeO (token_next.l0 k y0 y1 y2 y3 y4 y5 y6) (token_next.l0 (k + 1) y0 y1 y2 y3 y4 y5 y6)) ∧ (∀ y0 y1 y2 y3 y4 y5 y6, LeO (token_next.j3 k y0 y1 y2 y3 y4 y5 y6) (token_next.j3 (k + 1) y0 y1 y2 y3 y4 y5 y6)) ∧ (∀ y0 y1 y2 y3 y4 y5 y6, LeO (token_next.j4 k y0 y1 y2 y3 y4 y5 y6) (token_next.j4 (k + 1) y0 y1 y2 y3 y4 y5 y6))
 | 0 => ⟨fun _ _ _ _ _ _ _ r h => by simp [token_next.j0] at h, fun _ _ _ _ _ _ _ r h => by simp [token_next.j2] at h, fun _ _ _ _ _ _ _ r h => by simp [token_next.l0] at h, fun _ _ _ _ _ _ _ r h => by simp [token_next.j3] at h, fun _ _ _ _ _ _ _ r h => by simp [token_next.j4] at h⟩
 | k + 1 => by
  obtain ⟨ih0, ih1, ih2, ih3, ih4⟩ := token_next.mono_l k
  refine ⟨?_, ?_, ?_, ?_, ?_⟩
  ·intro y0 y1 y2 y3 y4 y5 y6
   unfold token_next.j0
   repeat' first
   | (with_reducible exact ih0 _ _ _ _ _ _ _)
   | (with_reducible exact ih1 _ _ _ _ _ _ _)
   | (with_reducible exact ih2 _ _ _ _ _ _ _)
   | (with_reducible exact ih3 _ _ _ _ _ _ _)
   | (with_reducible exact ih4 _ _ _ _ _ _ _)
   | (with_reducible exact token_number.mono _ _ _)
   | (with_reducible exact token_quoted.mono _ _ _ _)
   | (with_reducible exact token_signAt.mono _ _)
   | (with_reducible exact LeO.refl _)
   | (with_reducible exact LeO.none _)
   | (with_reducible refine LeO.ite ?_ ?_)
   | (with_reducible refine LeO.bind ?_ (fun _ => ?_))
   | exact ih0 _ _ _ _ _ _ _
   | exact ih1 _ _ _ _ _ _ _
   | exact ih2 _ _ _ _ _ _ _
   | exact ih3 _ _ _ _ _ _ _
   | exact ih4 _ _ _ _ _ _ _
   | exact token_number.mono _ _ _
   | exact token_quoted.mono _ _ _ _
   | exact token_signAt.mono _ _
   | exact LeO.none _
   | refine LeO.ite ?_ ?_
   | refine LeO.bind ?_ (fun _ => ?_)
  ·intro y0 y1 y2 y3 y4 y5 y6
   unfold token_next.j2
   repeat' first
   | (with_reducible exact ih0 _ _ _ _ _ _ _)
   | (with_reducible exact ih1 _ _ _ _ _ _ _)
   | (with_reducible exact ih2 _ _ _ _ _ _ _)
   | (with_reducible exact ih3 _ _ _ _ _ _ _)
   | (with_reducible exact ih4 _ _ _ _ _ _ _)
   | (with_reducible exact token_number.mono _ _ _)
   | (with_reducible exact token_quoted.mono _ _ _ _)
   | (with_reducible exact token_signAt.mono _ _)
   | (with_reducible exact LeO.refl _)
   | (with_reducible exact LeO.none _)
   | (with_reducible refine LeO.ite ?_ ?_)
   | (with_reducible refine LeO.bind ?_ (fun _ => ?_))
   | exact ih0 _ _ _ _ _ _ _
   | exact ih1 _ _ _ _ _ _ _
   | exact ih2 _ _ _ _ _ _ _
   | exact ih3 _ _ _ _ _ _ _
   | exact ih4 _ _ _ _ _ _ _
   | exact token_number.mono _ _ _
   | exact token_quoted.mono _ _ _ _
   | exact token_signAt.mono _ _
   | exact LeO.none _
   | refine LeO.ite ?_ ?_
   | refine LeO.bind ?_ (fun _ => ?_)
  ·intro y0 y1 y2 y3 y4 y5 y6
   unfold token_next.l0
   repeat' first
   | (with_reducible exact ih0 _ _ _ _ _ _ _)
   | (with_reducible exact ih1 _ _ _ _ _ _ _)
   | (with_reducible exact ih2 _ _ _ _ _ _ _)
   | (with_reducible exact ih3 _ _ _ _ _ _ _)
   | (with_reducible exact ih4 _ _ _ _ _ _ _)
   | (with_reducible exact token_number.mono _ _ _)
   | (with_reducible exact token_quoted.mono _ _ _ _)
   | (with_reducible exact token_signAt.mono _ _)
   | (with_reducible exact LeO.refl _)
   | (with_reducible exact LeO.none _)
   | (with_reducible refine LeO.ite ?_ ?_)
   | (with_reducible refine LeO.bind ?_ (fun _ => ?_))
   | exact ih0 _ _ _ _ _ _ _
   | exact ih1 _ _ _ _ _ _ _
   | exact ih2 _ _ _ _ _ _ _
   | exact ih3 _ _ _ _ _ _ _
   | exact ih4 _ _ _ _ _ _ _
   | exact token_number.mono _ _ _
   | exact token_quoted.mono _ _ _ _
   | exact token_signAt.mono _ _
   | exact LeO.none _
   | refine LeO.ite ?_ ?_
   | refine LeO.bind ?_ (fun _ => ?_)
  ·intro y0 y1 y2 y3 y4 y5 y6
   unfold token_next.j3
   repeat' first
   | (with_reducible exact ih0 _ _ _ _ _ _ _)
   | (with_reducible exact ih1 _ _ _ _ _ _ _)
   | (with_reducible exact ih2 _ _ _ _ _ _ _)
   | (with_reducible exact ih3 _ _ _ _ _ _ _)
   | (with_reducible exact ih4 _ _ _ _ _ _ _)
   | (with_reducible exact token_number.mono _ _ _)
   | (with_reducible exact token_quoted.mono _ _ _ _)
   | (with_reducible exact token_signAt.mono _ _)
   | (with_reducible exact LeO.refl _)
   | (with_reducible exact LeO.none _)
   | (with_reducible refine LeO.ite ?_ ?_)
   | (with_reducible refine LeO.bind ?_ (fun _ => ?_))
   | exact ih0 _ _ _ _ _ _ _
   | exact ih1 _ _ _ _ _ _ _
   | exact ih2 _ _ _ _ _ _ _
   | exact ih3 _ _ _ _ _ _ _
   | exact ih4 _ _ _ _ _ _ _
   | exact token_number.mono _ _ _
   | exact token_quoted.mono _ _ _ _
   | exact token_signAt.mono _ _
   | exact LeO.none _
   | refine LeO.ite ?_ ?_
   | refine LeO.bind ?_ (fun _ => ?_)
  ·intro y0 y1 y2 y3 y4 y5 y6
   unfold token_next.j4
   repeat' first
   | (with_reducible exact ih0 _ _ _ _ _ _ _)
   | (with_reducible exact ih1 _ _ _ _ _ _ _)
   | (with_reducible exact ih2 _ _ _ _ _ _ _)
   | (with_reducible exact ih3 _ _ _ _ _ _ _)
   | (with_reducible exact ih4 _ _ _ _ _ _ _)
   | (with_reducible exact token_number.mono _ _ _)
   | (with_reducible exact token_quoted.mono _ _ _ _)
   | (with_reducible exact token_signAt.mono _ _)
   | (with_reducible exact LeO.refl _)
   | (with_reducible exact LeO.none _)
   | (with_reducible refine LeO.ite ?_ ?_)
   | (with_reducible refine LeO.bind ?_ (fun _ => ?_))
   | exact ih0 _ _ _ _ _ _ _
   | exact ih1 _ _ _ _ _ _ _
   | exact ih2 _ _ _ _ _ _ _
   | exact ih3 _ _ _ _ _ _ _
   | exact ih4 _ _ _ _ _ _ _
   | exact token_number.mono _ _ _
   | exact token_quoted.mono _ _ _ _
   | exact token_signAt.mono _ _
   | exact LeO.none _
   | refine LeO.ite ?_ ?_
   | refine LeO.bind ?_ (fun _ => ?_)
theorem token_next.mono : ∀ a0 a1 k, LeO (token_next.f k a0 a1) (token_next.f (k + 1) a0 a1) := by
 intro a0 a1 k
 obtain ⟨ih0, ih1, ih2, ih3, ih4⟩ := token_next.mono_l k
 unfold token_next.f
 repeat' first
   | (with_reducible exact ih0 _ _ _ _ _ _ _)
   | (with_reducible exact ih1 _ _ _ _ _ _ _)
   | (with_reducible exact ih2 _ _ _ _ _ _ _)
   | (with_reducible exact ih3 _ _ _ _ _ _ _)
   | (with_reducible exact ih4 _ _ _ _ _ _ _)
   | (with_reducible exact token_number.mono _ _ _)
   | (with_reducible exact token_quoted.mono _ _ _ _)
   | (with_reducible exact token_signAt.mono _ _)
   | (with_reducible exact LeO.refl _)
   | (with_reducible exact LeO.none _)
   | (with_reducible refine LeO.ite ?_ ?_)
   | (with_reducible refine LeO.bind ?_ (fun _ => ?_))
   | exact ih0 _ _ _ _ _ _ _
   | exact ih1 _ _ _ _ _ _ _
   | exact ih2 _ _ _ _ _ _ _
   | exact ih3 _ _ _ _ _ _ _
   | exact ih4 _ _ _ _ _ _ _
   | exact token_number.mono _ _ _
   | exact token_quoted.mono _ _ _ _
   | exact token_signAt.mono _ _
   | exact LeO.none _
   | refine LeO.ite ?_ ?_
   | refine LeO.bind ?_ (fun _ => ?_)
def token_next.T32 : Bool × List (List Nat × List Nat) := (true, [([], []), ([], []), ([], []), ([0, 1, 2], [0, 1, 2]), ([], []), ([4], [4]), ([0, 1, 2, 3, 4, 5], []), ([6, 3, 5, 0, 1, 2, 3, 4, 5], [3, 6])])
def token_next.B32 : List Nat := [0, 0, 0, 7, 0, 16, 63, 127]
theorem token_next.tab32 : rtab .any (opsOf Tryz.f108 32) = token_next.T32 := by kernel_rfl
theorem token_next.bits32 : waitsOk token_next.T32.2 token_next.B32 = true := by kernel_rfl
def token_next.T36 : Bool × List (List Nat × List Nat) := (true, [([], []), ([], []), ([], []), ([2], [2]), ([3], [3]), ([1, 4], [1, 4]), ([], []), ([6], [6]), ([7], [7]), ([0, 0], [0]), ([5, 9, 0, 1, 2, 3, 4, 5, 9], [5]), ([8, 10, 0, 1, 2, 3, 4, 5, 6, 7, 8, 9, 10], [8])])
def token_next.B36 : List Nat := [0, 0, 0, 4, 12, 30, 0, 64, 192, 1, 575, 2047]
theorem token_next.tab36 : rtab .any (opsOf Tryz.f108 36) = token_next.T36 := by kernel_rfl
theorem token_next.bits36 : waitsOk token_next.T36.2 token_next.B36 = true := by kernel_rfl
set_option maxHeartbeats 8000000 in
set_option maxRecDepth 100000 in
theorem token_next.calls (k : Nat) (a0 : ByteArray) (a1 : Int) (r1 : ByteArray) (r2 : ByteArray) (r3 : Int) (r4 : Int) (r5 : Bool) (w : World) (h : token_next.f k a0 a1 = some (r1, r2, r3, r4, r5)) :
  Calls Tryz.prog 108 #[.string a0, .int .i64 a1] w fun e w' => e = .returned (.tuple #[.agg #[.string r1, .string r2, .int .i64 r3], .int .i64 r4, .bool r5]) ∧ Below w.heap.size w w' := by
 have hu59 := Tryz.underlying59
 have HB := Aside0.mk (Below.refl w.heap.size w)
 have H : (if 0 ≤ a1 then (if a1 < (a0.size : Int) then ((token_upper.f (bt a0 a1)).bind fun t124 => (if t124 = true then (token_next.j0 k a0 a1 (bt a0 a1) true (⟨#[]⟩ : ByteArray) (⟨#[]⟩ : ByteArray) a1) else ((token_lower.f (bt a0 a1)).bind fun t125 => (token_next.j0 k a0 a1 (bt a0 a1) t125 (⟨#[]⟩ : ByteArray) (⟨#[]⟩ : ByteArray) a1)))) else (none)) else (none)) = some (r1, r2, r3, r4, r5) := h
 clear h
 by_cases c3 : 0 ≤ a1
 ·rw [if_pos c3] at H
  have c3b0 : decide (0 ≤ a1) = true := decide_eq_true c3
  clear c3
  by_cases c4 : a1 < (a0.size : Int)
  ·rw [if_pos c4] at H
   have c4b0 : decide (a1 < (a0.size : Int)) = true := decide_eq_true c4
   clear c4
   have HC6 := Aside0.mk H
   clear H
   go_enter Tryz.func108, Tryz.ntmps108
   go_upto_region 3 with (first | ((with_reducible refine gate_dst (N := 4) rfl ?_); (try (refine gate_guard (by rfl) ?_; dsimp only)); refine box_event ?hg (N := 4) ?hd (cs := #[.string (⟨#[]⟩ : ByteArray), .string (⟨#[]⟩ : ByteArray), .int .i64 0]) (t := 59) ?hr ?_; (case hd => rfl); (case hg => rfl); (case hr => first | (go_simp; done) | (go_simp; rfl)); intro gb122 hg w7 hbox hb; have n0_ := Aside0.mk (below_step bSt_ hb); have n1_ := Aside0.mk (hbox); have n2_ := Aside0.mk ((by rw [hg]; exact (below_size bSt_) : w.heap.size ≤ gb122)); have n3_ := Aside0.mk ((by rw [hg]; exact (below_size bSt_) : w.heap.size ≤ gb122)); clear HB; have HB := n0_; have BK122 := n1_; have GW122 := n2_; have GE122 := n3_; clear n0_ n1_ n2_ n3_; clear hb hbox hg; have p5 : 0 ≤ (a1 : Int) := of_decide_eq_true (by first | (with_reducible assumption) | assumption); have q5 : a1 < (a0.size : Int) := of_decide_eq_true (by first | (with_reducible assumption) | assumption); have hx5 := bt_at a0 a1; replace p5 := eq_true p5; replace q5 := eq_true q5) | ((with_reducible refine gate_dst (N := 8) rfl ?_); (try (refine gate_guard (by rfl) ?_; dsimp only)); refine box_event ?hg (N := 8) ?hd (cs := #[.string (⟨#[]⟩ : ByteArray), .string (⟨#[]⟩ : ByteArray), .int .i64 0]) (t := 59) ?hr ?_; (case hd => rfl); (case hg => rfl); (case hr => first | (go_simp; done) | (go_simp; rfl)); intro gb123 hg w8 hbox hb; have n0_ := Aside0.mk (blk_below (bKq_ BK122.out) hb); have n1_ := Aside0.mk (below_step bSt_ hb); have n2_ := Aside0.mk (hbox); have n3_ := Aside0.mk ((by rw [hg]; exact (below_size bSt_) : w.heap.size ≤ gb123)); have n4_ := Aside0.mk ((by rw [hg]; exact (below_size bSt_) : w.heap.size ≤ gb123)); have n5_ := Aside0.mk ((by rw [hg]; exact Nat.ne_of_lt (blk_lt (bKq_ BK122.out)) : gb122 ≠ gb123)); have n6_ := Aside0.mk ((by rw [hg]; exact Nat.ne_of_gt (blk_lt (bKq_ BK122.out)) : gb123 ≠ gb122)); clear BK122; clear HB; have BK122 := n0_; have HB := n1_; have BK123 := n2_; have GW123 := n3_; have GE123 := n4_; have NB122_123 := n5_; have NB123_122 := n6_; clear n0_ n1_ n2_ n3_ n4_ n5_ n6_; clear hb hbox hg; have hnb9 := NB123_122.out; have hnc9 := NB122_123.out; have hcz10_0 : w8.cell? ⟨gb123, 0, none⟩ = some (.string (⟨#[]⟩ : ByteArray)) := (blk_cell BK123.out 0).trans rfl; have hcz10_1 : w8.cell? ⟨gb123, 1, none⟩ = some (.string (⟨#[]⟩ : ByteArray)) := (blk_cell BK123.out 1).trans rfl; have hcz10_2 : w8.cell? ⟨gb123, 2, none⟩ = some (.int .i64 0) := (blk_cell BK123.out 2).trans rfl; have hfz10_0 := blk_frozen BK123.out 0; have hfz10_1 := blk_frozen BK123.out 1; have hfz10_2 := blk_frozen BK123.out 2))
   (try simp only [Act.put, List.setIfInBounds_toArray, List.set_cons_zero, List.set_cons_succ])
   go_cut [24] (fun v24 wc => ∃ (kq : Nat) (x24_5 : Bool), v24 = .bool x24_5 ∧ Aside0 (token_next.j0 kq a0 a1 (bt a0 a1) x24_5 (⟨#[]⟩ : ByteArray) (⟨#[]⟩ : ByteArray) a1 = some (r1, r2, r3, r4, r5)) ∧ Aside0 (kq ≤ k) ∧ Aside0 (wc.heap[gb122]? = some (.cells #[.string (⟨#[]⟩ : ByteArray), .string (⟨#[]⟩ : ByteArray), .int .i64 0] 59 (0, 0))) ∧ Aside0 (wc.heap[gb123]? = some (.cells #[.string (⟨#[]⟩ : ByteArray), .string (⟨#[]⟩ : ByteArray), .int .i64 a1] 59 (0, 0))) ∧ Aside0 (Below w.heap.size w wc))
   case first =>
    have H := HC6.out
    clear HC6
    replace H := Option.bind_eq_some_iff.mp H
    obtain ⟨t124, A110, H⟩ := H
    replace H : (if t124 = true then (token_next.j0 k a0 a1 (bt a0 a1) true (⟨#[]⟩ : ByteArray) (⟨#[]⟩ : ByteArray) a1) else ((token_lower.f (bt a0 a1)).bind fun t125 => (token_next.j0 k a0 a1 (bt a0 a1) t125 (⟨#[]⟩ : ByteArray) (⟨#[]⟩ : ByteArray) a1))) = some (r1, r2, r3, r4, r5) := H
    have A11 := Aside0.mk A110
    clear A110
    by_cases c12 : t124 = true
    ·subst c12
     have H1 : (token_next.j0 k a0 a1 (bt a0 a1) true (⟨#[]⟩ : ByteArray) (⟨#[]⟩ : ByteArray) a1) = some (r1, r2, r3, r4, r5) := by rw [if_pos rfl] at H; exact H
     clear H
     have H := H1
     clear H1
     have H' := Aside0.mk H
     clear H
     go_wp2_with (first | ((with_reducible refine gate_callee (f := 135) rfl ?_); refine goesL_ (some 26) rfl rfl Tryz.func135 (by kernel_rfl) rfl #[.int .u8 (bt a0 a1)] rfl (by (try simp only [List.map_toArray, List.map_cons, List.map_nil]); first | done | rfl | (simp only [List.length_drop, List.length_take]; rfl)) ?_; (with_reducible refine (token_upper.calls (bt a0 a1) true _ A11.out).mono ?_); rintro e w' ⟨rfl, ⟨nd, rfl⟩⟩; refine ⟨_, rfl, ?_⟩))
     go_meet
     case rel => exact ⟨_, (true), (by first | rfl | (simp; done) | (simp [*]; done)), H', ⟨by first | omega | exact Nat.le_refl _⟩, ⟨bKq_ BK122.out⟩, ⟨bKq_ BK123.out⟩, ⟨bSt_⟩⟩
    ·replace c12 := Bool.eq_false_iff.mpr c12
     subst c12
     have H1 : ((token_lower.f (bt a0 a1)).bind fun t125 => (token_next.j0 k a0 a1 (bt a0 a1) t125 (⟨#[]⟩ : ByteArray) (⟨#[]⟩ : ByteArray) a1)) = some (r1, r2, r3, r4, r5) := by rw [if_neg (show ¬ (false = true) by decide)] at H; exact H
     clear H
     have H := H1
     clear H1
     replace H := Option.bind_eq_some_iff.mp H
     obtain ⟨t125, A130, H⟩ := H
     replace H : (token_next.j0 k a0 a1 (bt a0 a1) t125 (⟨#[]⟩ : ByteArray) (⟨#[]⟩ : ByteArray) a1) = some (r1, r2, r3, r4, r5) := H
     have A13 := Aside0.mk A130
     clear A130
     have H' := Aside0.mk H
     clear H
     go_wp2_with (first | ((with_reducible refine gate_callee (f := 135) rfl ?_); refine goesL_ (some 26) rfl rfl Tryz.func135 (by kernel_rfl) rfl #[.int .u8 (bt a0 a1)] rfl (by (try simp only [List.map_toArray, List.map_cons, List.map_nil]); first | done | rfl | (simp only [List.length_drop, List.length_take]; rfl)) ?_; (with_reducible refine (token_upper.calls (bt a0 a1) false _ A11.out).mono ?_); rintro e w' ⟨rfl, ⟨nd, rfl⟩⟩; refine ⟨_, rfl, ?_⟩) | (go_at_call 136; (with_reducible refine (token_lower.calls (bt a0 a1) t125 _ A13.out).mono ?_); rintro e w' ⟨rfl, ⟨nd, rfl⟩⟩))
     go_meet
     case rel => exact ⟨_, (t125), (by first | rfl | (simp; done) | (simp [*]; done)), H', ⟨by first | omega | exact Nat.le_refl _⟩, ⟨bKq_ BK122.out⟩, ⟨bKq_ BK123.out⟩, ⟨bSt_⟩⟩
   case rest =>
    clear HC6
    try clear c1
    try clear p2
    try clear c3
    try clear c3b0
    try clear c4
    try clear c4b0
    try clear p5
    try clear q5
    try clear hx5
    try clear c9
    try clear c10
    try clear c12
    try clear c13
    try clear hcz10_0
    try clear hcz10_1
    try clear hcz10_2
    try clear hfz10_0
    try clear hfz10_1
    try clear hfz10_2
    try clear p5
    try clear q5
    obtain ⟨kq, x24_5, rfl, HA, HJ5, BK122, BK123, HB⟩ := hcut
    cases kq with
    | zero => exact absurd HA.out (by simp [token_next.j0])
    | succ kj5 =>
     have H := HA.out
     clear HA
     simp only [token_next.j0] at H
     by_cases c14 : x24_5 = true
     ·subst c14
      have H1 : (token_next.l0 kj5 a0 a1 (bt a0 a1) a1 (⟨#[]⟩ : ByteArray) (⟨#[]⟩ : ByteArray) a1) = some (r1, r2, r3, r4, r5) := by rw [if_pos rfl] at H; exact H
      clear H
      have H := H1
      clear H1
      have HC15 := Aside0.mk H
      clear H
      go_upto_block 1 with (fail)
      go_cut [9] (fun v9 wc => ∃ (kq : Nat) (x9_14 : Int), v9 = .int .i64 x9_14 ∧ Aside0 (token_next.j2 kq a0 a1 (bt a0 a1) x9_14 (⟨#[]⟩ : ByteArray) (⟨#[]⟩ : ByteArray) a1 = some (r1, r2, r3, r4, r5)) ∧ Aside0 (kq ≤ kj5) ∧ Aside0 (wc.heap[gb122]? = some (.cells #[.string (⟨#[]⟩ : ByteArray), .string (⟨#[]⟩ : ByteArray), .int .i64 0] 59 (0, 0))) ∧ Aside0 (wc.heap[gb123]? = some (.cells #[.string (⟨#[]⟩ : ByteArray), .string (⟨#[]⟩ : ByteArray), .int .i64 a1] 59 (0, 0))) ∧ Aside0 (Below w.heap.size w wc))
      case first =>
       have H := HC15.out
       clear HC15
       have H' := Aside0.mk H
       clear H
       go_wp2
       go_loopg [9] kj5 (fun kq v9 w' => ∃ (x9_2 : Int), v9 = .int .i64 x9_2 ∧ Aside0 (token_next.l0 kq a0 a1 (bt a0 a1) x9_2 (⟨#[]⟩ : ByteArray) (⟨#[]⟩ : ByteArray) a1 = some (r1, r2, r3, r4, r5)) ∧ Aside0 (kq ≤ kj5) ∧ Aside0 (w'.heap[gb122]? = some (.cells #[.string (⟨#[]⟩ : ByteArray), .string (⟨#[]⟩ : ByteArray), .int .i64 0] 59 (0, 0))) ∧ Aside0 (w'.heap[gb123]? = some (.cells #[.string (⟨#[]⟩ : ByteArray), .string (⟨#[]⟩ : ByteArray), .int .i64 a1] 59 (0, 0))) ∧ Aside0 (Below w.heap.size w w'))
       case atStart => exact ⟨(a1), (by first | rfl | (simp; done) | (simp [*]; done)), H', ⟨Nat.le_refl _⟩, ⟨bKq_ BK122.out⟩, ⟨bKq_ BK123.out⟩, ⟨bSt_⟩⟩
       case round =>
        clear H'
        try clear c1
        try clear p2
        try clear c3
        try clear c3b0
        try clear c4
        try clear c4b0
        try clear p5
        try clear q5
        try clear hx5
        try clear c9
        try clear c10
        try clear c12
        try clear c13
        try clear c14
        try clear hcz10_0
        try clear hcz10_1
        try clear hcz10_2
        try clear hfz10_0
        try clear hfz10_1
        try clear hfz10_2
        try clear p2
        try clear p5
        try clear q5
        obtain ⟨x9_2, rfl, HA, HK2, BK122, BK123, HB⟩ := hrel
        cases gk with
        | zero => exact absurd HA.out (by simp [token_next.l0])
        | succ k2 =>
         have H := HA.out
         clear HA
         simp only [token_next.l0] at H
         by_cases c16 : x9_2 < (a0.size : Int)
         ·rw [if_pos c16] at H
          have c16b0 : decide (x9_2 < (a0.size : Int)) = true := decide_eq_true c16
          clear c16
          (first | rw [c16b0] | (simp only [i64_w, i32_w]; rw [c16b0]) | skip)
          by_cases c17 : 0 ≤ x9_2
          ·rw [if_pos c17] at H
           have c17b0 : decide (0 ≤ x9_2) = true := decide_eq_true c17
           clear c17
           replace H := Option.bind_eq_some_iff.mp H
           obtain ⟨t126, A190, H⟩ := H
           replace H : (if t126 = true then (token_next.l0 k2 a0 a1 (bt a0 a1) (wrap64 (x9_2 + 1)) (⟨#[]⟩ : ByteArray) (⟨#[]⟩ : ByteArray) a1) else (token_next.j2 k2 a0 a1 (bt a0 a1) x9_2 (⟨#[]⟩ : ByteArray) (⟨#[]⟩ : ByteArray) a1)) = some (r1, r2, r3, r4, r5) := H
           have A19 := Aside0.mk A190
           clear A190
           by_cases c20 : t126 = true
           ·subst c20
            have H1 : (token_next.l0 k2 a0 a1 (bt a0 a1) (wrap64 (x9_2 + 1)) (⟨#[]⟩ : ByteArray) (⟨#[]⟩ : ByteArray) a1) = some (r1, r2, r3, r4, r5) := by rw [if_pos rfl] at H; exact H
            clear H
            have H := H1
            clear H1
            have H' := Aside0.mk H
            clear H
            have p18 : 0 ≤ (x9_2 : Int) := of_decide_eq_true (by first | (with_reducible assumption) | assumption)
            have q18 : x9_2 < (a0.size : Int) := of_decide_eq_true (by first | (with_reducible assumption) | assumption)
            have hx18 := bt_at a0 x9_2
            replace p18 := eq_true p18
            replace q18 := eq_true q18
            go_wp2_with (first | (go_at_call 137; (with_reducible refine (token_word.calls (bt a0 x9_2) true _ A19.out).mono ?_); rintro e w' ⟨rfl, ⟨nd, rfl⟩⟩))
            go_roundg k2
            case measure => have := HJ5.out; have := HK2.out; omega
            case rel => exact ⟨(wrap64 (x9_2 + 1)), (by first | rfl | (simp; done) | (simp [*]; done)), H', ⟨by have := HJ5.out; have := HK2.out; omega⟩, ⟨bKq_ BK122.out⟩, ⟨bKq_ BK123.out⟩, ⟨bSt_⟩⟩
           ·replace c20 := Bool.eq_false_iff.mpr c20
            subst c20
            have H1 : (token_next.j2 k2 a0 a1 (bt a0 a1) x9_2 (⟨#[]⟩ : ByteArray) (⟨#[]⟩ : ByteArray) a1) = some (r1, r2, r3, r4, r5) := by rw [if_neg (show ¬ (false = true) by decide)] at H; exact H
            clear H
            have H := H1
            clear H1
            have H' := Aside0.mk H
            clear H
            have p18 : 0 ≤ (x9_2 : Int) := of_decide_eq_true (by first | (with_reducible assumption) | assumption)
            have q18 : x9_2 < (a0.size : Int) := of_decide_eq_true (by first | (with_reducible assumption) | assumption)
            have hx18 := bt_at a0 x9_2
            replace p18 := eq_true p18
            replace q18 := eq_true q18
            go_wp2_with (first | (go_at_call 137; (with_reducible refine (token_word.calls (bt a0 x9_2) false _ A19.out).mono ?_); rintro e w' ⟨rfl, ⟨nd, rfl⟩⟩))
            go_meet
            case rel => exact ⟨_, (x9_2), (by first | rfl | (simp; done) | (simp [*]; done)), H', ⟨by have := HJ5.out; have := HK2.out; first | omega | exact Nat.le_refl _⟩, ⟨bKq_ BK122.out⟩, ⟨bKq_ BK123.out⟩, ⟨bSt_⟩⟩
          ·rw [if_neg c17] at H
           exact absurd H (by simp)
         ·rw [if_neg c16] at H
          have c16b0 : decide (x9_2 < (a0.size : Int)) = false := decide_eq_false c16
          clear c16
          (first | rw [c16b0] | (simp only [i64_w, i32_w]; rw [c16b0]) | skip)
          have H' := Aside0.mk H
          clear H
          go_wp2
          go_meet
          case rel => exact ⟨_, (x9_2), (by first | rfl | (simp; done) | (simp [*]; done)), H', ⟨by have := HJ5.out; have := HK2.out; first | omega | exact Nat.le_refl _⟩, ⟨bKq_ BK122.out⟩, ⟨bKq_ BK123.out⟩, ⟨bSt_⟩⟩
      case rest =>
       clear HC15
       try clear c1
       try clear p1
       try clear q1
       try clear hx1
       try clear c2
       try clear p2
       try clear c3
       try clear c3b0
       try clear c4
       try clear c4b0
       try clear p5
       try clear q5
       try clear hx5
       try clear p6
       try clear c9
       try clear c10
       try clear c12
       try clear c13
       try clear c14
       try clear c16
       try clear c16b0
       try clear c17
       try clear c17b0
       try clear p18
       try clear q18
       try clear hx18
       try clear c20
       try clear hcz10_0
       try clear hcz10_1
       try clear hcz10_2
       try clear hfz10_0
       try clear hfz10_1
       try clear hfz10_2
       try clear p18
       try clear p2
       try clear p5
       try clear q18
       try clear q5
       obtain ⟨kq, x9_14, rfl, HA, HJ14, BK122, BK123, HB⟩ := hcut
       cases kq with
       | zero => exact absurd HA.out (by simp [token_next.j2])
       | succ kj14 =>
        have H := HA.out
        clear HA
        simp only [token_next.j2] at H
        by_cases c21 : 0 ≤ a1
        ·rw [if_pos c21] at H
         have c21b0 := eq_true c21
         have c21b1 : decide (0 ≤ a1) = true := decide_eq_true c21
         clear c21
         by_cases c22 : a1 ≤ x9_14
         ·rw [if_pos c22] at H
          have c22b0 := eq_true c22
          have c22b1 : decide (a1 ≤ x9_14) = true := decide_eq_true c22
          clear c22
          by_cases c23 : x9_14 ≤ (a0.size : Int)
          ·rw [if_pos c23] at H
           have c23b0 := eq_true c23
           have c23b1 : decide (x9_14 ≤ (a0.size : Int)) = true := decide_eq_true c23
           clear c23
           replace H := Option.bind_eq_some_iff.mp H
           obtain ⟨t127, A240, H⟩ := H
           replace H : (if t127 = true then (some ((⟨#[118, 97, 114]⟩ : ByteArray), a0.extract (a1 : Int).toNat (x9_14 : Int).toNat, a1, x9_14, decide ((wrap64 (x9_14 - a1)) ≤ 60))) else ((token_isKey.f (a0.extract (a1 : Int).toNat (x9_14 : Int).toNat)).bind fun t128 => (if t128 = true then (some ((⟨#[107, 101, 121]⟩ : ByteArray), a0.extract (a1 : Int).toNat (x9_14 : Int).toNat, a1, x9_14, decide ((wrap64 (x9_14 - a1)) ≤ 60))) else (some ((⟨#[97, 116, 111, 109]⟩ : ByteArray), a0.extract (a1 : Int).toNat (x9_14 : Int).toNat, a1, x9_14, decide ((wrap64 (x9_14 - a1)) ≤ 60)))))) = some (r1, r2, r3, r4, r5) := H
           have A24 := Aside0.mk A240
           clear A240
           by_cases c25 : t127 = true
           ·subst c25
            have H1 : (some ((⟨#[118, 97, 114]⟩ : ByteArray), a0.extract (a1 : Int).toNat (x9_14 : Int).toNat, a1, x9_14, decide ((wrap64 (x9_14 - a1)) ≤ 60))) = some (r1, r2, r3, r4, r5) := by rw [if_pos rfl] at H; exact H
            clear H
            have H := H1
            clear H1
            simp only [Option.some.injEq, Prod.mk.injEq] at H
            obtain ⟨rfl, rfl, rfl, rfl, rfl⟩ := H
            have hnb26 := NB123_122.out
            have hnc26 := NB122_123.out
            have hcz27_0 : wc.cell? ⟨gb123, 0, none⟩ = some (.string (⟨#[]⟩ : ByteArray)) := (blk_cell BK123.out 0).trans rfl
            have hcz27_1 : wc.cell? ⟨gb123, 1, none⟩ = some (.string (⟨#[]⟩ : ByteArray)) := (blk_cell BK123.out 1).trans rfl
            have hcz27_2 : wc.cell? ⟨gb123, 2, none⟩ = some (.int .i64 a1) := (blk_cell BK123.out 2).trans rfl
            have hfz27_0 := blk_frozen BK123.out 0
            have hfz27_1 := blk_frozen BK123.out 1
            have hfz27_2 := blk_frozen BK123.out 2
            go_wp2_with (first | ((with_reducible refine gate_callee (f := 135) rfl ?_); refine goesL_ (some 51) rfl rfl Tryz.func135 (by kernel_rfl) rfl #[.int .u8 (bt a0 a1)] rfl (by (try simp only [List.map_toArray, List.map_cons, List.map_nil]); first | done | rfl | (simp only [List.length_drop, List.length_take]; rfl)) ?_; (with_reducible refine (token_upper.calls (bt a0 a1) true _ A24.out).mono ?_); rintro e w' ⟨rfl, ⟨nd, rfl⟩⟩; refine ⟨_, rfl, ?_⟩; have hcz28_0 : wc.cell? ⟨gb122, 0, none⟩ = some (.string (⟨#[]⟩ : ByteArray)) := (blk_cell BK122.out 0).trans rfl; have hcz28_1 : wc.cell? ⟨gb122, 1, none⟩ = some (.string (⟨#[]⟩ : ByteArray)) := (blk_cell BK122.out 1).trans rfl; have hcz28_2 : wc.cell? ⟨gb122, 2, none⟩ = some (.int .i64 0) := (blk_cell BK122.out 2).trans rfl; have hfz28_0 := blk_frozen BK122.out 0; have hfz28_1 := blk_frozen BK122.out 1; have hfz28_2 := blk_frozen BK122.out 2))
            refine bodyPost_ret (results_ctt rfl _ _ gb122 59 #[.string (⟨#[118, 97, 114]⟩ : ByteArray), .string (a0.extract (a1 : Int).toNat (x9_14 : Int).toNat), .int .i64 a1] (0, 0) _ rfl (bKq_ BK122.out) Tryz.underlying59 rfl (by kernel_rfl)) rfl ?_
            exact ⟨by first | rfl | (simp [errW_none, errW_some] <;> rfl) | (simp [*, errW_none, errW_some] <;> rfl) | (simp [errW_none, errW_some]; exact Go.Proofs.YtlabfjaddgakkaaGreatW.OwnWords.isEmpty_bne _), bSt_⟩
           ·replace c25 := Bool.eq_false_iff.mpr c25
            subst c25
            have H1 : ((token_isKey.f (a0.extract (a1 : Int).toNat (x9_14 : Int).toNat)).bind fun t128 => (if t128 = true then (some ((⟨#[107, 101, 121]⟩ : ByteArray), a0.extract (a1 : Int).toNat (x9_14 : Int).toNat, a1, x9_14, decide ((wrap64 (x9_14 - a1)) ≤ 60))) else (some ((⟨#[97, 116, 111, 109]⟩ : ByteArray), a0.extract (a1 : Int).toNat (x9_14 : Int).toNat, a1, x9_14, decide ((wrap64 (x9_14 - a1)) ≤ 60))))) = some (r1, r2, r3, r4, r5) := by rw [if_neg (show ¬ (false = true) by decide)] at H; exact H
            clear H
            have H := H1
            clear H1
            replace H := Option.bind_eq_some_iff.mp H
            obtain ⟨t128, A290, H⟩ := H
            replace H : (if t128 = true then (some ((⟨#[107, 101, 121]⟩ : ByteArray), a0.extract (a1 : Int).toNat (x9_14 : Int).toNat, a1, x9_14, decide ((wrap64 (x9_14 - a1)) ≤ 60))) else (some ((⟨#[97, 116, 111, 109]⟩ : ByteArray), a0.extract (a1 : Int).toNat (x9_14 : Int).toNat, a1, x9_14, decide ((wrap64 (x9_14 - a1)) ≤ 60)))) = some (r1, r2, r3, r4, r5) := H
            have A29 := Aside0.mk A290
            clear A290
            by_cases c30 : t128 = true
            ·subst c30
             have H1 : (some ((⟨#[107, 101, 121]⟩ : ByteArray), a0.extract (a1 : Int).toNat (x9_14 : Int).toNat, a1, x9_14, decide ((wrap64 (x9_14 - a1)) ≤ 60))) = some (r1, r2, r3, r4, r5) := by rw [if_pos rfl] at H; exact H
             clear H
             have H := H1
             clear H1
             simp only [Option.some.injEq, Prod.mk.injEq] at H
             obtain ⟨rfl, rfl, rfl, rfl, rfl⟩ := H
             have hnb31 := NB123_122.out
             have hnc31 := NB122_123.out
             have hcz32_0 : wc.cell? ⟨gb123, 0, none⟩ = some (.string (⟨#[]⟩ : ByteArray)) := (blk_cell BK123.out 0).trans rfl
             have hcz32_1 : wc.cell? ⟨gb123, 1, none⟩ = some (.string (⟨#[]⟩ : ByteArray)) := (blk_cell BK123.out 1).trans rfl
             have hcz32_2 : wc.cell? ⟨gb123, 2, none⟩ = some (.int .i64 a1) := (blk_cell BK123.out 2).trans rfl
             have hfz32_0 := blk_frozen BK123.out 0
             have hfz32_1 := blk_frozen BK123.out 1
             have hfz32_2 := blk_frozen BK123.out 2
             go_wp2_with (first | ((with_reducible refine gate_callee (f := 135) rfl ?_); refine goesL_ (some 51) rfl rfl Tryz.func135 (by kernel_rfl) rfl #[.int .u8 (bt a0 a1)] rfl (by (try simp only [List.map_toArray, List.map_cons, List.map_nil]); first | done | rfl | (simp only [List.length_drop, List.length_take]; rfl)) ?_; (with_reducible refine (token_upper.calls (bt a0 a1) false _ A24.out).mono ?_); rintro e w' ⟨rfl, ⟨nd, rfl⟩⟩; refine ⟨_, rfl, ?_⟩) | ((with_reducible refine gate_callee (f := 138) rfl ?_); refine goesL_ (some 55) rfl rfl Tryz.func138 (by kernel_rfl) rfl #[.string (a0.extract (a1 : Int).toNat (x9_14 : Int).toNat)] rfl (by (try simp only [List.map_toArray, List.map_cons, List.map_nil]); first | done | rfl | (simp only [List.length_drop, List.length_take]; rfl)) ?_; (with_reducible refine (token_isKey.calls (a0.extract (a1 : Int).toNat (x9_14 : Int).toNat) true _ A29.out).mono ?_); rintro e w' ⟨rfl, ⟨nd, rfl⟩⟩; refine ⟨_, rfl, ?_⟩; have hcz33_0 : wc.cell? ⟨gb122, 0, none⟩ = some (.string (⟨#[]⟩ : ByteArray)) := (blk_cell BK122.out 0).trans rfl; have hcz33_1 : wc.cell? ⟨gb122, 1, none⟩ = some (.string (⟨#[]⟩ : ByteArray)) := (blk_cell BK122.out 1).trans rfl; have hcz33_2 : wc.cell? ⟨gb122, 2, none⟩ = some (.int .i64 0) := (blk_cell BK122.out 2).trans rfl; have hfz33_0 := blk_frozen BK122.out 0; have hfz33_1 := blk_frozen BK122.out 1; have hfz33_2 := blk_frozen BK122.out 2))
             refine bodyPost_ret (results_ctt rfl _ _ gb122 59 #[.string (⟨#[107, 101, 121]⟩ : ByteArray), .string (a0.extract (a1 : Int).toNat (x9_14 : Int).toNat), .int .i64 a1] (0, 0) _ rfl (bKq_ BK122.out) Tryz.underlying59 rfl (by kernel_rfl)) rfl ?_
             exact ⟨by first | rfl | (simp [errW_none, errW_some] <;> rfl) | (simp [*, errW_none, errW_some] <;> rfl) | (simp [errW_none, errW_some]; exact Go.Proofs.YtlabfjaddgakkaaGreatW.OwnWords.isEmpty_bne _), bSt_⟩
            ·replace c30 := Bool.eq_false_iff.mpr c30
             subst c30
             have H1 : (some ((⟨#[97, 116, 111, 109]⟩ : ByteArray), a0.extract (a1 : Int).toNat (x9_14 : Int).toNat, a1, x9_14, decide ((wrap64 (x9_14 - a1)) ≤ 60))) = some (r1, r2, r3, r4, r5) := by rw [if_neg (show ¬ (false = true) by decide)] at H; exact H
             clear H
             have H := H1
             clear H1
             simp only [Option.some.injEq, Prod.mk.injEq] at H
             obtain ⟨rfl, rfl, rfl, rfl, rfl⟩ := H
             have hnb34 := NB123_122.out
             have hnc34 := NB122_123.out
             have hcz35_0 : wc.cell? ⟨gb123, 0, none⟩ = some (.string (⟨#[]⟩ : ByteArray)) := (blk_cell BK123.out 0).trans rfl
             have hcz35_1 : wc.cell? ⟨gb123, 1, none⟩ = some (.string (⟨#[]⟩ : ByteArray)) := (blk_cell BK123.out 1).trans rfl
             have hcz35_2 : wc.cell? ⟨gb123, 2, none⟩ = some (.int .i64 a1) := (blk_cell BK123.out 2).trans rfl
             have hfz35_0 := blk_frozen BK123.out 0
             have hfz35_1 := blk_frozen BK123.out 1
             have hfz35_2 := blk_frozen BK123.out 2
             go_wp2_with (first | ((with_reducible refine gate_callee (f := 135) rfl ?_); refine goesL_ (some 51) rfl rfl Tryz.func135 (by kernel_rfl) rfl #[.int .u8 (bt a0 a1)] rfl (by (try simp only [List.map_toArray, List.map_cons, List.map_nil]); first | done | rfl | (simp only [List.length_drop, List.length_take]; rfl)) ?_; (with_reducible refine (token_upper.calls (bt a0 a1) false _ A24.out).mono ?_); rintro e w' ⟨rfl, ⟨nd, rfl⟩⟩; refine ⟨_, rfl, ?_⟩) | ((with_reducible refine gate_callee (f := 138) rfl ?_); refine goesL_ (some 55) rfl rfl Tryz.func138 (by kernel_rfl) rfl #[.string (a0.extract (a1 : Int).toNat (x9_14 : Int).toNat)] rfl (by (try simp only [List.map_toArray, List.map_cons, List.map_nil]); first | done | rfl | (simp only [List.length_drop, List.length_take]; rfl)) ?_; (with_reducible refine (token_isKey.calls (a0.extract (a1 : Int).toNat (x9_14 : Int).toNat) false _ A29.out).mono ?_); rintro e w' ⟨rfl, ⟨nd, rfl⟩⟩; refine ⟨_, rfl, ?_⟩; have hcz36_0 : wc.cell? ⟨gb122, 0, none⟩ = some (.string (⟨#[]⟩ : ByteArray)) := (blk_cell BK122.out 0).trans rfl; have hcz36_1 : wc.cell? ⟨gb122, 1, none⟩ = some (.string (⟨#[]⟩ : ByteArray)) := (blk_cell BK122.out 1).trans rfl; have hcz36_2 : wc.cell? ⟨gb122, 2, none⟩ = some (.int .i64 0) := (blk_cell BK122.out 2).trans rfl; have hfz36_0 := blk_frozen BK122.out 0; have hfz36_1 := blk_frozen BK122.out 1; have hfz36_2 := blk_frozen BK122.out 2))
             refine bodyPost_ret (results_ctt rfl _ _ gb122 59 #[.string (⟨#[97, 116, 111, 109]⟩ : ByteArray), .string (a0.extract (a1 : Int).toNat (x9_14 : Int).toNat), .int .i64 a1] (0, 0) _ rfl (bKq_ BK122.out) Tryz.underlying59 rfl (by kernel_rfl)) rfl ?_
             exact ⟨by first | rfl | (simp [errW_none, errW_some] <;> rfl) | (simp [*, errW_none, errW_some] <;> rfl) | (simp [errW_none, errW_some]; exact Go.Proofs.YtlabfjaddgakkaaGreatW.OwnWords.isEmpty_bne _), bSt_⟩
          ·rw [if_neg c23] at H
           exact absurd H (by simp)
         ·rw [if_neg c22] at H
          exact absurd H (by simp)
        ·rw [if_neg c21] at H
         exact absurd H (by simp)
     ·replace c14 := Bool.eq_false_iff.mpr c14
      subst c14
      have H1 : (if (bt a0 a1) = 39 then (token_next.j3 kj5 a0 a1 (bt a0 a1) true (⟨#[]⟩ : ByteArray) (⟨#[]⟩ : ByteArray) a1) else (token_next.j3 kj5 a0 a1 (bt a0 a1) ((bt a0 a1) == 34) (⟨#[]⟩ : ByteArray) (⟨#[]⟩ : ByteArray) a1)) = some (r1, r2, r3, r4, r5) := by rw [if_neg (show ¬ (false = true) by decide)] at H; exact H
      clear H
      have H := H1
      clear H1
      have HC37 := Aside0.mk H
      clear H
      go_upto_region 14 with (fail)
      go_cut [63] (fun v63 wc => ∃ (kq : Nat) (x63_36 : Bool), v63 = .bool x63_36 ∧ Aside0 (token_next.j3 kq a0 a1 (bt a0 a1) x63_36 (⟨#[]⟩ : ByteArray) (⟨#[]⟩ : ByteArray) a1 = some (r1, r2, r3, r4, r5)) ∧ Aside0 (kq ≤ kj5) ∧ Aside0 (wc.heap[gb122]? = some (.cells #[.string (⟨#[]⟩ : ByteArray), .string (⟨#[]⟩ : ByteArray), .int .i64 0] 59 (0, 0))) ∧ Aside0 (wc.heap[gb123]? = some (.cells #[.string (⟨#[]⟩ : ByteArray), .string (⟨#[]⟩ : ByteArray), .int .i64 a1] 59 (0, 0))) ∧ Aside0 (Below w.heap.size w wc))
      case first =>
       have H := HC37.out
       clear HC37
       by_cases c38 : (bt a0 a1) = 39
       ·rw [if_pos c38] at H
        have c38b0 : ((bt a0 a1) == 39) = true := beq_iff_eq.mpr c38
        have c38b1 : ((bt a0 a1) != 39) = false := bne_eq_false_iff_eq.mpr c38
        clear c38
        (first | rw [c38b0] | (simp only [i64_w, i32_w]; rw [c38b0]) | skip)
        have H' := Aside0.mk H
        clear H
        go_wp2
        go_meet
        case rel => exact ⟨_, (true), (by first | rfl | (simp; done) | (simp [*]; done)), H', ⟨by have := HJ5.out; first | omega | exact Nat.le_refl _⟩, ⟨bKq_ BK122.out⟩, ⟨bKq_ BK123.out⟩, ⟨bSt_⟩⟩
       ·rw [if_neg c38] at H
        have c38b0 : ((bt a0 a1) == 39) = false := beq_eq_false_iff_ne.mpr c38
        have c38b1 : ((bt a0 a1) != 39) = true := bne_iff_ne.mpr c38
        (first | rw [c38b0] | (simp only [i64_w, i32_w]; rw [c38b0]) | skip)
        have H' := Aside0.mk H
        clear H
        go_wp2
        go_meet
        case rel => exact ⟨_, (((bt a0 a1) == 34)), (by first | rfl | (simp; done) | (simp [*]; done)), H', ⟨by have := HJ5.out; first | omega | exact Nat.le_refl _⟩, ⟨bKq_ BK122.out⟩, ⟨bKq_ BK123.out⟩, ⟨bSt_⟩⟩
      case rest =>
       clear HC37
       try clear c1
       try clear p1
       try clear q1
       try clear hx1
       try clear c2
       try clear p2
       try clear c3
       try clear c3b0
       try clear c4
       try clear c4b0
       try clear p5
       try clear q5
       try clear hx5
       try clear p6
       try clear c9
       try clear c10
       try clear c12
       try clear c13
       try clear c14
       try clear c16
       try clear c16b0
       try clear c17
       try clear c17b0
       try clear p18
       try clear q18
       try clear hx18
       try clear c20
       try clear c21
       try clear c21b0
       try clear c21b1
       try clear c22
       try clear c22b0
       try clear c22b1
       try clear c23
       try clear c23b0
       try clear c23b1
       try clear c25
       try clear c26
       try clear c30
       try clear c31
       try clear c34
       try clear c38
       try clear c38b0
       try clear c38b1
       try clear hcz10_0
       try clear hcz10_1
       try clear hcz10_2
       try clear hcz27_0
       try clear hcz27_1
       try clear hcz27_2
       try clear hcz28_0
       try clear hcz28_1
       try clear hcz28_2
       try clear hcz32_0
       try clear hcz32_1
       try clear hcz32_2
       try clear hcz33_0
       try clear hcz33_1
       try clear hcz33_2
       try clear hcz35_0
       try clear hcz35_1
       try clear hcz35_2
       try clear hcz36_0
       try clear hcz36_1
       try clear hcz36_2
       try clear hfz10_0
       try clear hfz10_1
       try clear hfz10_2
       try clear hfz27_0
       try clear hfz27_1
       try clear hfz27_2
       try clear hfz28_0
       try clear hfz28_1
       try clear hfz28_2
       try clear hfz32_0
       try clear hfz32_1
       try clear hfz32_2
       try clear hfz33_0
       try clear hfz33_1
       try clear hfz33_2
       try clear hfz35_0
       try clear hfz35_1
       try clear hfz35_2
       try clear hfz36_0
       try clear hfz36_1
       try clear hfz36_2
       try clear p1
       try clear p18
       try clear p2
       try clear p5
       try clear p6
       try clear q1
       try clear q18
       try clear q5
       obtain ⟨kq, x63_36, rfl, HA, HJ36, BK122, BK123, HB⟩ := hcut
       cases kq with
       | zero => exact absurd HA.out (by simp [token_next.j3])
       | succ kj36 =>
        have H := HA.out
        clear HA
        simp only [token_next.j3] at H
        by_cases c39 : x63_36 = true
        ·subst c39
         have H1 : (if (bt a0 a1) = 34 then ((token_quoted.f kj36 a0 a1 200).bind fun bt129 => (some ((⟨#[116, 101, 120, 116]⟩ : ByteArray), bt129.1, a1, bt129.2.1, bt129.2.2))) else ((token_quoted.f kj36 a0 a1 60).bind fun bt132 => (some ((⟨#[97, 116, 111, 109]⟩ : ByteArray), bt132.1, a1, bt132.2.1, bt132.2.2)))) = some (r1, r2, r3, r4, r5) := by rw [if_pos rfl] at H; exact H
         clear H
         have H := H1
         clear H1
         by_cases c40 : (bt a0 a1) = 34
         ·rw [if_pos c40] at H
          have c40b0 : ((bt a0 a1) == 34) = true := beq_iff_eq.mpr c40
          have c40b1 : ((bt a0 a1) != 34) = false := bne_eq_false_iff_eq.mpr c40
          clear c40
          replace H := Option.bind_eq_some_iff.mp H
          obtain ⟨⟨t129, t130, t131⟩, A410, H⟩ := H
          replace H : (some ((⟨#[116, 101, 120, 116]⟩ : ByteArray), t129, a1, t130, t131)) = some (r1, r2, r3, r4, r5) := H
          have A41 := Aside0.mk A410
          clear A410
          simp only [Option.some.injEq, Prod.mk.injEq] at H
          obtain ⟨rfl, rfl, rfl, rfl, rfl⟩ := H
          have hnb42 := NB123_122.out
          have hnc42 := NB122_123.out
          have hcz43_0 : wc.cell? ⟨gb123, 0, none⟩ = some (.string (⟨#[]⟩ : ByteArray)) := (blk_cell BK123.out 0).trans rfl
          have hcz43_1 : wc.cell? ⟨gb123, 1, none⟩ = some (.string (⟨#[]⟩ : ByteArray)) := (blk_cell BK123.out 1).trans rfl
          have hcz43_2 : wc.cell? ⟨gb123, 2, none⟩ = some (.int .i64 a1) := (blk_cell BK123.out 2).trans rfl
          have hfz43_0 := blk_frozen BK123.out 0
          have hfz43_1 := blk_frozen BK123.out 1
          have hfz43_2 := blk_frozen BK123.out 2
          go_wp2_with (first | ((with_reducible refine gate_callee (f := 139) rfl ?_); refine goesL_ (some 78) rfl rfl Tryz.func139 (by kernel_rfl) rfl #[.string a0, .int .i64 a1, .int .i64 200] rfl (by (try simp only [List.map_toArray, List.map_cons, List.map_nil]); first | done | rfl | (simp only [List.length_drop, List.length_take]; rfl)) ?_; (with_reducible refine (token_quoted.calls kj36 a0 a1 200 t129 t130 t131 _ A41.out).mono ?_); rintro e w44 ⟨rfl, hb⟩; refine ⟨_, rfl, ?_⟩; have n0_ := Aside0.mk (blk_below (bKq_ BK122.out) hb); have n1_ := Aside0.mk (blk_below (g := gb123) (o := .cells #[.string (⟨#[116, 101, 120, 116]⟩ : ByteArray), .string (⟨#[]⟩ : ByteArray), .int .i64 a1] 59 (0, 0)) (bKq_ BK123.out) hb); have n2_ := Aside0.mk (below_step bSt_ hb); clear BK122; clear BK123; clear HB; have BK122 := n0_; have BK123 := n1_; have HB := n2_; clear n0_ n1_ n2_; (try clear hb); (try clear hb2); (try clear hk); (try clear hi); have hcz45_0 : w44.cell? ⟨gb123, 0, none⟩ = some (.string (⟨#[116, 101, 120, 116]⟩ : ByteArray)) := (blk_cell BK123.out 0).trans rfl; have hcz45_1 : w44.cell? ⟨gb123, 1, none⟩ = some (.string (⟨#[]⟩ : ByteArray)) := (blk_cell BK123.out 1).trans rfl; have hcz45_2 : w44.cell? ⟨gb123, 2, none⟩ = some (.int .i64 a1) := (blk_cell BK123.out 2).trans rfl; have hfz45_0 := blk_frozen BK123.out 0; have hfz45_1 := blk_frozen BK123.out 1; have hfz45_2 := blk_frozen BK123.out 2; have hcz46_0 : w44.cell? ⟨gb122, 0, none⟩ = some (.string (⟨#[]⟩ : ByteArray)) := (blk_cell BK122.out 0).trans rfl; have hcz46_1 : w44.cell? ⟨gb122, 1, none⟩ = some (.string (⟨#[]⟩ : ByteArray)) := (blk_cell BK122.out 1).trans rfl; have hcz46_2 : w44.cell? ⟨gb122, 2, none⟩ = some (.int .i64 0) := (blk_cell BK122.out 2).trans rfl; have hfz46_0 := blk_frozen BK122.out 0; have hfz46_1 := blk_frozen BK122.out 1; have hfz46_2 := blk_frozen BK122.out 2))
          refine bodyPost_ret (results_ctt rfl _ _ gb122 59 #[.string (⟨#[116, 101, 120, 116]⟩ : ByteArray), .string t129, .int .i64 a1] (0, 0) _ rfl (bKq_ BK122.out) Tryz.underlying59 rfl (by kernel_rfl)) rfl ?_
          exact ⟨by first | rfl | (simp [errW_none, errW_some] <;> rfl) | (simp [*, errW_none, errW_some] <;> rfl) | (simp [errW_none, errW_some]; exact Go.Proofs.YtlabfjaddgakkaaGreatW.OwnWords.isEmpty_bne _), bSt_⟩
         ·rw [if_neg c40] at H
          have c40b0 : ((bt a0 a1) == 34) = false := beq_eq_false_iff_ne.mpr c40
          have c40b1 : ((bt a0 a1) != 34) = true := bne_iff_ne.mpr c40
          replace H := Option.bind_eq_some_iff.mp H
          obtain ⟨⟨t132, t133, t134⟩, A470, H⟩ := H
          replace H : (some ((⟨#[97, 116, 111, 109]⟩ : ByteArray), t132, a1, t133, t134)) = some (r1, r2, r3, r4, r5) := H
          have A47 := Aside0.mk A470
          clear A470
          simp only [Option.some.injEq, Prod.mk.injEq] at H
          obtain ⟨rfl, rfl, rfl, rfl, rfl⟩ := H
          have hnb48 := NB123_122.out
          have hnc48 := NB122_123.out
          have hcz49_0 : wc.cell? ⟨gb123, 0, none⟩ = some (.string (⟨#[]⟩ : ByteArray)) := (blk_cell BK123.out 0).trans rfl
          have hcz49_1 : wc.cell? ⟨gb123, 1, none⟩ = some (.string (⟨#[]⟩ : ByteArray)) := (blk_cell BK123.out 1).trans rfl
          have hcz49_2 : wc.cell? ⟨gb123, 2, none⟩ = some (.int .i64 a1) := (blk_cell BK123.out 2).trans rfl
          have hfz49_0 := blk_frozen BK123.out 0
          have hfz49_1 := blk_frozen BK123.out 1
          have hfz49_2 := blk_frozen BK123.out 2
          go_wp2_with (first | ((with_reducible refine gate_callee (f := 139) rfl ?_); refine goesL_ (some 78) rfl rfl Tryz.func139 (by kernel_rfl) rfl #[.string a0, .int .i64 a1, .int .i64 60] rfl (by (try simp only [List.map_toArray, List.map_cons, List.map_nil]); first | done | rfl | (simp only [List.length_drop, List.length_take]; rfl)) ?_; (with_reducible refine (token_quoted.calls kj36 a0 a1 60 t132 t133 t134 _ A47.out).mono ?_); rintro e w50 ⟨rfl, hb⟩; refine ⟨_, rfl, ?_⟩; have n0_ := Aside0.mk (blk_below (bKq_ BK122.out) hb); have n1_ := Aside0.mk (blk_below (g := gb123) (o := .cells #[.string (⟨#[97, 116, 111, 109]⟩ : ByteArray), .string (⟨#[]⟩ : ByteArray), .int .i64 a1] 59 (0, 0)) (bKq_ BK123.out) hb); have n2_ := Aside0.mk (below_step bSt_ hb); clear BK122; clear BK123; clear HB; have BK122 := n0_; have BK123 := n1_; have HB := n2_; clear n0_ n1_ n2_; (try clear hb); (try clear hb2); (try clear hk); (try clear hi); have hcz51_0 : w50.cell? ⟨gb123, 0, none⟩ = some (.string (⟨#[97, 116, 111, 109]⟩ : ByteArray)) := (blk_cell BK123.out 0).trans rfl; have hcz51_1 : w50.cell? ⟨gb123, 1, none⟩ = some (.string (⟨#[]⟩ : ByteArray)) := (blk_cell BK123.out 1).trans rfl; have hcz51_2 : w50.cell? ⟨gb123, 2, none⟩ = some (.int .i64 a1) := (blk_cell BK123.out 2).trans rfl; have hfz51_0 := blk_frozen BK123.out 0; have hfz51_1 := blk_frozen BK123.out 1; have hfz51_2 := blk_frozen BK123.out 2; have hcz52_0 : w50.cell? ⟨gb122, 0, none⟩ = some (.string (⟨#[]⟩ : ByteArray)) := (blk_cell BK122.out 0).trans rfl; have hcz52_1 : w50.cell? ⟨gb122, 1, none⟩ = some (.string (⟨#[]⟩ : ByteArray)) := (blk_cell BK122.out 1).trans rfl; have hcz52_2 : w50.cell? ⟨gb122, 2, none⟩ = some (.int .i64 0) := (blk_cell BK122.out 2).trans rfl; have hfz52_0 := blk_frozen BK122.out 0; have hfz52_1 := blk_frozen BK122.out 1; have hfz52_2 := blk_frozen BK122.out 2))
          refine bodyPost_ret (results_ctt rfl _ _ gb122 59 #[.string (⟨#[97, 116, 111, 109]⟩ : ByteArray), .string t132, .int .i64 a1] (0, 0) _ rfl (bKq_ BK122.out) Tryz.underlying59 rfl (by kernel_rfl)) rfl ?_
          exact ⟨by first | rfl | (simp [errW_none, errW_some] <;> rfl) | (simp [*, errW_none, errW_some] <;> rfl) | (simp [errW_none, errW_some]; exact Go.Proofs.YtlabfjaddgakkaaGreatW.OwnWords.isEmpty_bne _), bSt_⟩
        ·replace c39 := Bool.eq_false_iff.mpr c39
         subst c39
         have H1 : (if (bt a0 a1) = 38 then ((token_char.f a0 a1).bind fun bt135 => (some ((⟨#[99, 104, 97, 114]⟩ : ByteArray), bt135.1, a1, bt135.2.1, bt135.2.2))) else ((token_digit.f (bt a0 a1)).bind fun t138 => (if t138 = true then (token_next.j4 kj36 a0 a1 (bt a0 a1) true (⟨#[]⟩ : ByteArray) (⟨#[]⟩ : ByteArray) a1) else (if (bt a0 a1) = 126 then (if (wrap64 (a1 + 1)) < (a0.size : Int) then (if 0 ≤ (wrap64 (a1 + 1)) then ((token_digit.f (bt a0 (wrap64 (a1 + 1)))).bind fun t139 => (token_next.j4 kj36 a0 a1 (bt a0 a1) t139 (⟨#[]⟩ : ByteArray) (⟨#[]⟩ : ByteArray) a1)) else (none)) else (token_next.j4 kj36 a0 a1 (bt a0 a1) false (⟨#[]⟩ : ByteArray) (⟨#[]⟩ : ByteArray) a1)) else (token_next.j4 kj36 a0 a1 (bt a0 a1) false (⟨#[]⟩ : ByteArray) (⟨#[]⟩ : ByteArray) a1))))) = some (r1, r2, r3, r4, r5) := by rw [if_neg (show ¬ (false = true) by decide)] at H; exact H
         clear H
         have H := H1
         clear H1
         by_cases c53 : (bt a0 a1) = 38
         ·rw [if_pos c53] at H
          have c53b0 : ((bt a0 a1) == 38) = true := beq_iff_eq.mpr c53
          have c53b1 : ((bt a0 a1) != 38) = false := bne_eq_false_iff_eq.mpr c53
          clear c53
          replace H := Option.bind_eq_some_iff.mp H
          obtain ⟨⟨t135, t136, t137⟩, A540, H⟩ := H
          replace H : (some ((⟨#[99, 104, 97, 114]⟩ : ByteArray), t135, a1, t136, t137)) = some (r1, r2, r3, r4, r5) := H
          have A54 := Aside0.mk A540
          clear A540
          simp only [Option.some.injEq, Prod.mk.injEq] at H
          obtain ⟨rfl, rfl, rfl, rfl, rfl⟩ := H
          go_wp2_with (first | ((with_reducible refine gate_callee (f := 140) rfl ?_); refine goesL_ (some 93) rfl rfl Tryz.func140 (by kernel_rfl) rfl #[.string a0, .int .i64 a1] rfl (by (try simp only [List.map_toArray, List.map_cons, List.map_nil]); first | done | rfl | (simp only [List.length_drop, List.length_take]; rfl)) ?_; (with_reducible refine (token_char.calls a0 a1 t135 t136 t137 _ A54.out).mono ?_); rintro e w55 ⟨rfl, hb⟩; refine ⟨_, rfl, ?_⟩; have n0_ := Aside0.mk (blk_below (bKq_ BK122.out) hb); have n1_ := Aside0.mk (blk_below (bKq_ BK123.out) hb); have n2_ := Aside0.mk (below_step bSt_ hb); clear BK122; clear BK123; clear HB; have BK122 := n0_; have BK123 := n1_; have HB := n2_; clear n0_ n1_ n2_; (try clear hb); (try clear hb2); (try clear hk); (try clear hi); have hnb56 := NB123_122.out; have hnc56 := NB122_123.out; have hcz57_0 : w55.cell? ⟨gb123, 0, none⟩ = some (.string (⟨#[]⟩ : ByteArray)) := (blk_cell BK123.out 0).trans rfl; have hcz57_1 : w55.cell? ⟨gb123, 1, none⟩ = some (.string (⟨#[]⟩ : ByteArray)) := (blk_cell BK123.out 1).trans rfl; have hcz57_2 : w55.cell? ⟨gb123, 2, none⟩ = some (.int .i64 a1) := (blk_cell BK123.out 2).trans rfl; have hfz57_0 := blk_frozen BK123.out 0; have hfz57_1 := blk_frozen BK123.out 1; have hfz57_2 := blk_frozen BK123.out 2; have hcz58_0 : w55.cell? ⟨gb122, 0, none⟩ = some (.string (⟨#[]⟩ : ByteArray)) := (blk_cell BK122.out 0).trans rfl; have hcz58_1 : w55.cell? ⟨gb122, 1, none⟩ = some (.string (⟨#[]⟩ : ByteArray)) := (blk_cell BK122.out 1).trans rfl; have hcz58_2 : w55.cell? ⟨gb122, 2, none⟩ = some (.int .i64 0) := (blk_cell BK122.out 2).trans rfl; have hfz58_0 := blk_frozen BK122.out 0; have hfz58_1 := blk_frozen BK122.out 1; have hfz58_2 := blk_frozen BK122.out 2))
          refine bodyPost_ret (results_ctt rfl _ _ gb122 59 #[.string (⟨#[99, 104, 97, 114]⟩ : ByteArray), .string t135, .int .i64 a1] (0, 0) _ rfl (bKq_ BK122.out) Tryz.underlying59 rfl (by kernel_rfl)) rfl ?_
          exact ⟨by first | rfl | (simp [errW_none, errW_some] <;> rfl) | (simp [*, errW_none, errW_some] <;> rfl) | (simp [errW_none, errW_some]; exact Go.Proofs.YtlabfjaddgakkaaGreatW.OwnWords.isEmpty_bne _), bSt_⟩
         ·rw [if_neg c53] at H
          have c53b0 : ((bt a0 a1) == 38) = false := beq_eq_false_iff_ne.mpr c53
          have c53b1 : ((bt a0 a1) != 38) = true := bne_iff_ne.mpr c53
          have HC59 := Aside0.mk H
          clear H
          go_upto_region 27 with (fail)
          go_cut [103] (fun v103 wc => ∃ (kq : Nat) (x103_58 : Bool), v103 = .bool x103_58 ∧ Aside0 (token_next.j4 kq a0 a1 (bt a0 a1) x103_58 (⟨#[]⟩ : ByteArray) (⟨#[]⟩ : ByteArray) a1 = some (r1, r2, r3, r4, r5)) ∧ Aside0 (kq ≤ kj36) ∧ Aside0 (wc.heap[gb122]? = some (.cells #[.string (⟨#[]⟩ : ByteArray), .string (⟨#[]⟩ : ByteArray), .int .i64 0] 59 (0, 0))) ∧ Aside0 (wc.heap[gb123]? = some (.cells #[.string (⟨#[]⟩ : ByteArray), .string (⟨#[]⟩ : ByteArray), .int .i64 a1] 59 (0, 0))) ∧ Aside0 (Below w.heap.size w wc))
          case first =>
           have H := HC59.out
           clear HC59
           replace H := Option.bind_eq_some_iff.mp H
           obtain ⟨t138, A600, H⟩ := H
           replace H : (if t138 = true then (token_next.j4 kj36 a0 a1 (bt a0 a1) true (⟨#[]⟩ : ByteArray) (⟨#[]⟩ : ByteArray) a1) else (if (bt a0 a1) = 126 then (if (wrap64 (a1 + 1)) < (a0.size : Int) then (if 0 ≤ (wrap64 (a1 + 1)) then ((token_digit.f (bt a0 (wrap64 (a1 + 1)))).bind fun t139 => (token_next.j4 kj36 a0 a1 (bt a0 a1) t139 (⟨#[]⟩ : ByteArray) (⟨#[]⟩ : ByteArray) a1)) else (none)) else (token_next.j4 kj36 a0 a1 (bt a0 a1) false (⟨#[]⟩ : ByteArray) (⟨#[]⟩ : ByteArray) a1)) else (token_next.j4 kj36 a0 a1 (bt a0 a1) false (⟨#[]⟩ : ByteArray) (⟨#[]⟩ : ByteArray) a1))) = some (r1, r2, r3, r4, r5) := H
           have A60 := Aside0.mk A600
           clear A600
           by_cases c61 : t138 = true
           ·subst c61
            have H1 : (token_next.j4 kj36 a0 a1 (bt a0 a1) true (⟨#[]⟩ : ByteArray) (⟨#[]⟩ : ByteArray) a1) = some (r1, r2, r3, r4, r5) := by rw [if_pos rfl] at H; exact H
            clear H
            have H := H1
            clear H1
            have H' := Aside0.mk H
            clear H
            go_wp2_with (first | ((with_reducible refine gate_callee (f := 141) rfl ?_); refine goesL_ (some 105) rfl rfl Tryz.func141 (by kernel_rfl) rfl #[.int .u8 (bt a0 a1)] rfl (by (try simp only [List.map_toArray, List.map_cons, List.map_nil]); first | done | rfl | (simp only [List.length_drop, List.length_take]; rfl)) ?_; (with_reducible refine (token_digit.calls (bt a0 a1) true _ A60.out).mono ?_); rintro e w' ⟨rfl, ⟨nd, rfl⟩⟩; refine ⟨_, rfl, ?_⟩))
            go_meet
            case rel => exact ⟨_, (true), (by first | rfl | (simp; done) | (simp [*]; done)), H', ⟨by have := HJ5.out; have := HJ36.out; first | omega | exact Nat.le_refl _⟩, ⟨bKq_ BK122.out⟩, ⟨bKq_ BK123.out⟩, ⟨bSt_⟩⟩
           ·replace c61 := Bool.eq_false_iff.mpr c61
            subst c61
            have H1 : (if (bt a0 a1) = 126 then (if (wrap64 (a1 + 1)) < (a0.size : Int) then (if 0 ≤ (wrap64 (a1 + 1)) then ((token_digit.f (bt a0 (wrap64 (a1 + 1)))).bind fun t139 => (token_next.j4 kj36 a0 a1 (bt a0 a1) t139 (⟨#[]⟩ : ByteArray) (⟨#[]⟩ : ByteArray) a1)) else (none)) else (token_next.j4 kj36 a0 a1 (bt a0 a1) false (⟨#[]⟩ : ByteArray) (⟨#[]⟩ : ByteArray) a1)) else (token_next.j4 kj36 a0 a1 (bt a0 a1) false (⟨#[]⟩ : ByteArray) (⟨#[]⟩ : ByteArray) a1)) = some (r1, r2, r3, r4, r5) := by rw [if_neg (show ¬ (false = true) by decide)] at H; exact H
            clear H
            have H := H1
            clear H1
            by_cases c62 : (bt a0 a1) = 126
            ·rw [if_pos c62] at H
             have c62b0 : ((bt a0 a1) == 126) = true := beq_iff_eq.mpr c62
             have c62b1 : ((bt a0 a1) != 126) = false := bne_eq_false_iff_eq.mpr c62
             clear c62
             (first | rw [c62b0] | (simp only [i64_w, i32_w]; rw [c62b0]) | skip)
             by_cases c63 : (wrap64 (a1 + 1)) < (a0.size : Int)
             ·rw [if_pos c63] at H
              have c63b0 : decide ((wrap64 (a1 + 1)) < (a0.size : Int)) = true := decide_eq_true c63
              clear c63
              obtain ⟨ji64, hji64⟩ : ∃ j_ : Int, (wrap64 (a1 + 1)) = j_ := ⟨_, rfl⟩
              replace H : (if 0 ≤ (ji64) then ((token_digit.f (bt a0 (ji64))).bind fun t139 => (token_next.j4 kj36 a0 a1 (bt a0 a1) t139 (⟨#[]⟩ : ByteArray) (⟨#[]⟩ : ByteArray) a1)) else (none)) = some (r1, r2, r3, r4, r5) := by first | (rw [hji64] at H; exact H) | (simp only [hji64] at H ⊢; exact H)
              (try rw [hji64] at c63b0)
              (try rw [hji64] at A60)
              have hji64w : (IntKind.i64.wrap (a1 + 1)) = ji64 := (i64_w _).trans hji64
              by_cases c65 : 0 ≤ (ji64)
              ·rw [if_pos c65] at H
               have c65b0 : decide (0 ≤ (ji64)) = true := decide_eq_true c65
               clear c65
               replace H := Option.bind_eq_some_iff.mp H
               obtain ⟨t139, A670, H⟩ := H
               replace H : (token_next.j4 kj36 a0 a1 (bt a0 a1) t139 (⟨#[]⟩ : ByteArray) (⟨#[]⟩ : ByteArray) a1) = some (r1, r2, r3, r4, r5) := H
               have A67 := Aside0.mk A670
               clear A670
               have H' := Aside0.mk H
               clear H
               go_wp2_with (first | ((with_reducible refine gate_callee (f := 141) rfl ?_); refine goesL_ (some 105) rfl rfl Tryz.func141 (by kernel_rfl) rfl #[.int .u8 (bt a0 a1)] rfl (by (try simp only [List.map_toArray, List.map_cons, List.map_nil]); first | done | rfl | (simp only [List.length_drop, List.length_take]; rfl)) ?_; (with_reducible refine (token_digit.calls (bt a0 a1) false _ A60.out).mono ?_); rintro e w' ⟨rfl, ⟨nd, rfl⟩⟩; refine ⟨_, rfl, ?_⟩; have p66 : 0 ≤ ((ji64) : Int) := of_decide_eq_true (by first | (with_reducible assumption) | assumption); have q66 : (ji64) < (a0.size : Int) := of_decide_eq_true (by first | (with_reducible assumption) | assumption); have hx66 := bt_at a0 (ji64); replace p66 := eq_true p66; replace q66 := eq_true q66) | (go_at_call 141; (with_reducible refine (token_digit.calls (bt a0 (ji64)) t139 _ A67.out).mono ?_); rintro e w' ⟨rfl, ⟨nd, rfl⟩⟩))
               go_meet
               case rel => exact ⟨_, (t139), (by first | rfl | (simp; done) | (simp [*]; done)), H', ⟨by have := HJ5.out; have := HJ36.out; first | omega | exact Nat.le_refl _⟩, ⟨bKq_ BK122.out⟩, ⟨bKq_ BK123.out⟩, ⟨bSt_⟩⟩
              ·rw [if_neg c65] at H
               exact absurd H (by simp)
             ·rw [if_neg c63] at H
              have c63b0 : decide ((wrap64 (a1 + 1)) < (a0.size : Int)) = false := decide_eq_false c63
              clear c63
              have H' := Aside0.mk H
              clear H
              go_wp2_with (first | ((with_reducible refine gate_callee (f := 141) rfl ?_); refine goesL_ (some 105) rfl rfl Tryz.func141 (by kernel_rfl) rfl #[.int .u8 (bt a0 a1)] rfl (by (try simp only [List.map_toArray, List.map_cons, List.map_nil]); first | done | rfl | (simp only [List.length_drop, List.length_take]; rfl)) ?_; (with_reducible refine (token_digit.calls (bt a0 a1) false _ A60.out).mono ?_); rintro e w' ⟨rfl, ⟨nd, rfl⟩⟩; refine ⟨_, rfl, ?_⟩))
              go_meet
              case rel => exact ⟨_, (false), (by first | rfl | (simp; done) | (simp [*]; done)), H', ⟨by have := HJ5.out; have := HJ36.out; first | omega | exact Nat.le_refl _⟩, ⟨bKq_ BK122.out⟩, ⟨bKq_ BK123.out⟩, ⟨bSt_⟩⟩
            ·rw [if_neg c62] at H
             have c62b0 : ((bt a0 a1) == 126) = false := beq_eq_false_iff_ne.mpr c62
             have c62b1 : ((bt a0 a1) != 126) = true := bne_iff_ne.mpr c62
             (first | rw [c62b0] | (simp only [i64_w, i32_w]; rw [c62b0]) | skip)
             have H' := Aside0.mk H
             clear H
             go_wp2_with (first | ((with_reducible refine gate_callee (f := 141) rfl ?_); refine goesL_ (some 105) rfl rfl Tryz.func141 (by kernel_rfl) rfl #[.int .u8 (bt a0 a1)] rfl (by (try simp only [List.map_toArray, List.map_cons, List.map_nil]); first | done | rfl | (simp only [List.length_drop, List.length_take]; rfl)) ?_; (with_reducible refine (token_digit.calls (bt a0 a1) false _ A60.out).mono ?_); rintro e w' ⟨rfl, ⟨nd, rfl⟩⟩; refine ⟨_, rfl, ?_⟩))
             go_meet
             case rel => exact ⟨_, (false), (by first | rfl | (simp; done) | (simp [*]; done)), H', ⟨by have := HJ5.out; have := HJ36.out; first | omega | exact Nat.le_refl _⟩, ⟨bKq_ BK122.out⟩, ⟨bKq_ BK123.out⟩, ⟨bSt_⟩⟩
          case rest =>
           clear HC59
           try clear c1
           try clear p1
           try clear q1
           try clear hx1
           try clear c2
           try clear p2
           try clear c3
           try clear c3b0
           try clear c4
           try clear c4b0
           try clear c5
           try clear p5
           try clear q5
           try clear hx5
           try clear c6
           try clear p6
           try clear q6
           try clear hx6
           try clear c9
           try clear c10
           try clear c12
           try clear c13
           try clear c14
           try clear c16
           try clear c16b0
           try clear c17
           try clear c17b0
           try clear p18
           try clear q18
           try clear hx18
           try clear c20
           try clear c21
           try clear c21b0
           try clear c21b1
           try clear c22
           try clear c22b0
           try clear c22b1
           try clear c23
           try clear c23b0
           try clear c23b1
           try clear c25
           try clear c26
           try clear c30
           try clear c31
           try clear c34
           try clear c38
           try clear c38b0
           try clear c38b1
           try clear c39
           try clear c40
           try clear c40b0
           try clear c40b1
           try clear c42
           try clear c48
           try clear c53
           try clear c53b0
           try clear c53b1
           try clear c56
           try clear c61
           try clear c62
           try clear c62b0
           try clear c62b1
           try clear c63
           try clear c63b0
           try clear p64
           try clear c65
           try clear c65b0
           try clear p66
           try clear q66
           try clear hx66
           try clear hcz10_0
           try clear hcz10_1
           try clear hcz10_2
           try clear hcz27_0
           try clear hcz27_1
           try clear hcz27_2
           try clear hcz28_0
           try clear hcz28_1
           try clear hcz28_2
           try clear hcz32_0
           try clear hcz32_1
           try clear hcz32_2
           try clear hcz33_0
           try clear hcz33_1
           try clear hcz33_2
           try clear hcz35_0
           try clear hcz35_1
           try clear hcz35_2
           try clear hcz36_0
           try clear hcz36_1
           try clear hcz36_2
           try clear hcz43_0
           try clear hcz43_1
           try clear hcz43_2
           try clear hcz45_0
           try clear hcz45_1
           try clear hcz45_2
           try clear hcz46_0
           try clear hcz46_1
           try clear hcz46_2
           try clear hcz49_0
           try clear hcz49_1
           try clear hcz49_2
           try clear hcz51_0
           try clear hcz51_1
           try clear hcz51_2
           try clear hcz52_0
           try clear hcz52_1
           try clear hcz52_2
           try clear hcz57_0
           try clear hcz57_1
           try clear hcz57_2
           try clear hcz58_0
           try clear hcz58_1
           try clear hcz58_2
           try clear hfz10_0
           try clear hfz10_1
           try clear hfz10_2
           try clear hfz27_0
           try clear hfz27_1
           try clear hfz27_2
           try clear hfz28_0
           try clear hfz28_1
           try clear hfz28_2
           try clear hfz32_0
           try clear hfz32_1
           try clear hfz32_2
           try clear hfz33_0
           try clear hfz33_1
           try clear hfz33_2
           try clear hfz35_0
           try clear hfz35_1
           try clear hfz35_2
           try clear hfz36_0
           try clear hfz36_1
           try clear hfz36_2
           try clear hfz43_0
           try clear hfz43_1
           try clear hfz43_2
           try clear hfz45_0
           try clear hfz45_1
           try clear hfz45_2
           try clear hfz46_0
           try clear hfz46_1
           try clear hfz46_2
           try clear hfz49_0
           try clear hfz49_1
           try clear hfz49_2
           try clear hfz51_0
           try clear hfz51_1
           try clear hfz51_2
           try clear hfz52_0
           try clear hfz52_1
           try clear hfz52_2
           try clear hfz57_0
           try clear hfz57_1
           try clear hfz57_2
           try clear hfz58_0
           try clear hfz58_1
           try clear hfz58_2
           try clear p1
           try clear p18
           try clear p2
           try clear p5
           try clear p6
           try clear p66
           try clear q1
           try clear q18
           try clear q5
           try clear q66
           obtain ⟨kq, x103_58, rfl, HA, HJ58, BK122, BK123, HB⟩ := hcut
           cases kq with
           | zero => exact absurd HA.out (by simp [token_next.j4])
           | succ kj58 =>
            have H := HA.out
            clear HA
            simp only [token_next.j4] at H
            by_cases c68 : x103_58 = true
            ·subst c68
             have H1 : ((token_number.f kj58 a0 a1).bind fun bt140 => (if (bt a0 a1) = 126 then (if 0 ≤ (wrap64 (a1 + 1)) then (if (wrap64 (a1 + 1)) < (a0.size : Int) then (if (bt a0 (wrap64 (a1 + 1))) = 48 then (if bt140.1 = (wrap64 (a1 + 2)) then (some ((⟨#[115, 105, 103, 110]⟩ : ByteArray), (⟨#[126]⟩ : ByteArray), a1, wrap64 (a1 + 1), true)) else (if 0 ≤ a1 then (if a1 ≤ bt140.1 then (if bt140.1 ≤ (a0.size : Int) then (some ((⟨#[105, 110, 116]⟩ : ByteArray), a0.extract (a1 : Int).toNat (bt140.1 : Int).toNat, a1, bt140.1, bt140.2)) else (none)) else (none)) else (none))) else (if 0 ≤ a1 then (if a1 ≤ bt140.1 then (if bt140.1 ≤ (a0.size : Int) then (some ((⟨#[105, 110, 116]⟩ : ByteArray), a0.extract (a1 : Int).toNat (bt140.1 : Int).toNat, a1, bt140.1, bt140.2)) else (none)) else (none)) else (none))) else (none)) else (none)) else (if 0 ≤ a1 then (if a1 ≤ bt140.1 then (if bt140.1 ≤ (a0.size : Int) then (some ((⟨#[105, 110, 116]⟩ : ByteArray), a0.extract (a1 : Int).toNat (bt140.1 : Int).toNat, a1, bt140.1, bt140.2)) else (none)) else (none)) else (none)))) = some (r1, r2, r3, r4, r5) := by rw [if_pos rfl] at H; exact H
             clear H
             have H := H1
             clear H1
             replace H := Option.bind_eq_some_iff.mp H
             obtain ⟨⟨t140, t141⟩, A690, H⟩ := H
             replace H : (if (bt a0 a1) = 126 then (if 0 ≤ (wrap64 (a1 + 1)) then (if (wrap64 (a1 + 1)) < (a0.size : Int) then (if (bt a0 (wrap64 (a1 + 1))) = 48 then (if t140 = (wrap64 (a1 + 2)) then (some ((⟨#[115, 105, 103, 110]⟩ : ByteArray), (⟨#[126]⟩ : ByteArray), a1, wrap64 (a1 + 1), true)) else (if 0 ≤ a1 then (if a1 ≤ t140 then (if t140 ≤ (a0.size : Int) then (some ((⟨#[105, 110, 116]⟩ : ByteArray), a0.extract (a1 : Int).toNat (t140 : Int).toNat, a1, t140, t141)) else (none)) else (none)) else (none))) else (if 0 ≤ a1 then (if a1 ≤ t140 then (if t140 ≤ (a0.size : Int) then (some ((⟨#[105, 110, 116]⟩ : ByteArray), a0.extract (a1 : Int).toNat (t140 : Int).toNat, a1, t140, t141)) else (none)) else (none)) else (none))) else (none)) else (none)) else (if 0 ≤ a1 then (if a1 ≤ t140 then (if t140 ≤ (a0.size : Int) then (some ((⟨#[105, 110, 116]⟩ : ByteArray), a0.extract (a1 : Int).toNat (t140 : Int).toNat, a1, t140, t141)) else (none)) else (none)) else (none))) = some (r1, r2, r3, r4, r5) := H
             have A69 := Aside0.mk A690
             clear A690
             by_cases c70 : (bt a0 a1) = 126
             ·rw [if_pos c70] at H
              have c70b0 : ((bt a0 a1) == 126) = true := beq_iff_eq.mpr c70
              have c70b1 : ((bt a0 a1) != 126) = false := bne_eq_false_iff_eq.mpr c70
              clear c70
              obtain ⟨ji71, hji71⟩ : ∃ j_ : Int, (wrap64 (a1 + 1)) = j_ := ⟨_, rfl⟩
              replace H : (if 0 ≤ (ji71) then (if (ji71) < (a0.size : Int) then (if (bt a0 (ji71)) = 48 then (if t140 = (wrap64 (a1 + 2)) then (some ((⟨#[115, 105, 103, 110]⟩ : ByteArray), (⟨#[126]⟩ : ByteArray), a1, ji71, true)) else (if 0 ≤ a1 then (if a1 ≤ t140 then (if t140 ≤ (a0.size : Int) then (some ((⟨#[105, 110, 116]⟩ : ByteArray), a0.extract (a1 : Int).toNat (t140 : Int).toNat, a1, t140, t141)) else (none)) else (none)) else (none))) else (if 0 ≤ a1 then (if a1 ≤ t140 then (if t140 ≤ (a0.size : Int) then (some ((⟨#[105, 110, 116]⟩ : ByteArray), a0.extract (a1 : Int).toNat (t140 : Int).toNat, a1, t140, t141)) else (none)) else (none)) else (none))) else (none)) else (none)) = some (r1, r2, r3, r4, r5) := by first | (rw [hji71] at H; exact H) | (simp only [hji71] at H ⊢; exact H)
              (try rw [hji71] at A69)
              have hji71w : (IntKind.i64.wrap (a1 + 1)) = ji71 := (i64_w _).trans hji71
              by_cases c72 : 0 ≤ (ji71)
              ·rw [if_pos c72] at H
               have c72b0 : decide (0 ≤ (ji71)) = true := decide_eq_true c72
               clear c72
               by_cases c73 : (ji71) < (a0.size : Int)
               ·rw [if_pos c73] at H
                have c73b0 : decide ((ji71) < (a0.size : Int)) = true := decide_eq_true c73
                clear c73
                by_cases c75 : (bt a0 (ji71)) = 48
                ·rw [if_pos c75] at H
                 have c75b0 : ((bt a0 (ji71)) == 48) = true := beq_iff_eq.mpr c75
                 have c75b1 : ((bt a0 (ji71)) != 48) = false := bne_eq_false_iff_eq.mpr c75
                 clear c75
                 by_cases c76 : t140 = (wrap64 (a1 + 2))
                 ·rw [if_pos c76] at H
                  have c76b0 : (t140 == (wrap64 (a1 + 2))) = true := beq_iff_eq.mpr c76
                  have c76b1 : (t140 != (wrap64 (a1 + 2))) = false := bne_eq_false_iff_eq.mpr c76
                  clear c76
                  simp only [Option.some.injEq, Prod.mk.injEq] at H
                  obtain ⟨rfl, rfl, rfl, rfl, rfl⟩ := H
                  go_wp2_with (first | ((with_reducible refine gate_callee (f := 142) rfl ?_); refine goesL_ (some 127) rfl rfl Tryz.func142 (by kernel_rfl) rfl #[.string a0, .int .i64 a1] rfl (by (try simp only [List.map_toArray, List.map_cons, List.map_nil]); first | done | rfl | (simp only [List.length_drop, List.length_take]; rfl)) ?_; (with_reducible refine (token_number.calls kj58 a0 a1 t140 t141 _ A69.out).mono ?_); rintro e w' ⟨rfl, ⟨nd, rfl⟩⟩; refine ⟨_, rfl, ?_⟩; (try (rw [drewN_self wc]; generalize hq_ : World.drewN wc _ = wc; have n0_ : Aside0 (wc.heap[gb122]? = some (.cells #[.string (⟨#[]⟩ : ByteArray), .string (⟨#[]⟩ : ByteArray), .int .i64 0] 59 (0, 0))) := ⟨by rw [← hq_]; exact (bKq_ BK122.out)⟩; have n1_ : Aside0 (wc.heap[gb123]? = some (.cells #[.string (⟨#[]⟩ : ByteArray), .string (⟨#[]⟩ : ByteArray), .int .i64 a1] 59 (0, 0))) := ⟨by rw [← hq_]; exact (bKq_ BK123.out)⟩; have n2_ : Aside0 (Below w.heap.size w wc) := ⟨by rw [← hq_]; exact bSt_⟩; clear BK122 BK123 HB hq_; have BK122 := n0_; have BK123 := n1_; have HB := n2_; clear n0_ n1_ n2_)); have p74 : 0 ≤ ((ji71) : Int) := of_decide_eq_true (by first | (with_reducible assumption) | assumption); have q74 : (ji71) < (a0.size : Int) := of_decide_eq_true (by first | (with_reducible assumption) | assumption); have hx74 := bt_at a0 (ji71); replace p74 := eq_true p74; replace q74 := eq_true q74; have hnb77 := NB123_122.out; have hnc77 := NB122_123.out; have hcz78_0 : wc.cell? ⟨gb123, 0, none⟩ = some (.string (⟨#[]⟩ : ByteArray)) := (blk_cell BK123.out 0).trans rfl; have hcz78_1 : wc.cell? ⟨gb123, 1, none⟩ = some (.string (⟨#[]⟩ : ByteArray)) := (blk_cell BK123.out 1).trans rfl; have hcz78_2 : wc.cell? ⟨gb123, 2, none⟩ = some (.int .i64 a1) := (blk_cell BK123.out 2).trans rfl; have hfz78_0 := blk_frozen BK123.out 0; have hfz78_1 := blk_frozen BK123.out 1; have hfz78_2 := blk_frozen BK123.out 2; have hcz79_0 : wc.cell? ⟨gb122, 0, none⟩ = some (.string (⟨#[]⟩ : ByteArray)) := (blk_cell BK122.out 0).trans rfl; have hcz79_1 : wc.cell? ⟨gb122, 1, none⟩ = some (.string (⟨#[]⟩ : ByteArray)) := (blk_cell BK122.out 1).trans rfl; have hcz79_2 : wc.cell? ⟨gb122, 2, none⟩ = some (.int .i64 0) := (blk_cell BK122.out 2).trans rfl; have hfz79_0 := blk_frozen BK122.out 0; have hfz79_1 := blk_frozen BK122.out 1; have hfz79_2 := blk_frozen BK122.out 2))
                  refine bodyPost_ret (results_ctt rfl _ _ gb122 59 #[.string (⟨#[115, 105, 103, 110]⟩ : ByteArray), .string (⟨#[126]⟩ : ByteArray), .int .i64 a1] (0, 0) _ rfl (bKq_ BK122.out) Tryz.underlying59 rfl (by kernel_rfl)) rfl ?_
                  exact ⟨by first | rfl | (simp [errW_none, errW_some] <;> rfl) | (simp only [← hji71]; first | rfl | (simp [errW_none, errW_some] <;> rfl)) | (simp [*, errW_none, errW_some] <;> rfl) | (simp [errW_none, errW_some]; exact Go.Proofs.YtlabfjaddgakkaaGreatW.OwnWords.isEmpty_bne _), bSt_⟩
                 ·rw [if_neg c76] at H
                  have c76b0 : (t140 == (wrap64 (a1 + 2))) = false := beq_eq_false_iff_ne.mpr c76
                  have c76b1 : (t140 != (wrap64 (a1 + 2))) = true := bne_iff_ne.mpr c76
                  by_cases c80 : 0 ≤ a1
                  ·rw [if_pos c80] at H
                   have c80b0 := eq_true c80
                   have c80b1 : decide (0 ≤ a1) = true := decide_eq_true c80
                   clear c80
                   by_cases c81 : a1 ≤ t140
                   ·rw [if_pos c81] at H
                    have c81b0 := eq_true c81
                    have c81b1 : decide (a1 ≤ t140) = true := decide_eq_true c81
                    clear c81
                    by_cases c82 : t140 ≤ (a0.size : Int)
                    ·rw [if_pos c82] at H
                     have c82b0 := eq_true c82
                     have c82b1 : decide (t140 ≤ (a0.size : Int)) = true := decide_eq_true c82
                     clear c82
                     simp only [Option.some.injEq, Prod.mk.injEq] at H
                     obtain ⟨rfl, rfl, rfl, rfl, rfl⟩ := H
                     try go_wp2_with (first | ((with_reducible refine gate_callee (f := 142) rfl ?_); refine goesL_ (some 127) rfl rfl Tryz.func142 (by kernel_rfl) rfl #[.string a0, .int .i64 a1] rfl (by (try simp only [List.map_toArray, List.map_cons, List.map_nil]); first | done | rfl | (simp only [List.length_drop, List.length_take]; rfl)) ?_; (with_reducible refine (token_number.calls kj58 a0 a1 t140 t141 _ A69.out).mono ?_); rintro e w' ⟨rfl, ⟨nd, rfl⟩⟩; refine ⟨_, rfl, ?_⟩; (try (rw [drewN_self wc]; generalize hq_ : World.drewN wc _ = wc; have n0_ : Aside0 (wc.heap[gb122]? = some (.cells #[.string (⟨#[]⟩ : ByteArray), .string (⟨#[]⟩ : ByteArray), .int .i64 0] 59 (0, 0))) := ⟨by rw [← hq_]; exact (bKq_ BK122.out)⟩; have n1_ : Aside0 (wc.heap[gb123]? = some (.cells #[.string (⟨#[]⟩ : ByteArray), .string (⟨#[]⟩ : ByteArray), .int .i64 a1] 59 (0, 0))) := ⟨by rw [← hq_]; exact (bKq_ BK123.out)⟩; have n2_ : Aside0 (Below w.heap.size w wc) := ⟨by rw [← hq_]; exact bSt_⟩; clear BK122 BK123 HB hq_; have BK122 := n0_; have BK123 := n1_; have HB := n2_; clear n0_ n1_ n2_)); have p74 : 0 ≤ ((ji71) : Int) := of_decide_eq_true (by first | (with_reducible assumption) | assumption); have q74 : (ji71) < (a0.size : Int) := of_decide_eq_true (by first | (with_reducible assumption) | assumption); have hx74 := bt_at a0 (ji71); replace p74 := eq_true p74; replace q74 := eq_true q74))
                     have n0_ := Aside0.mk (blk_drew BK122.out)
                     have n1_ := Aside0.mk (blk_drew BK123.out)
                     have n2_ := Aside0.mk (below_drew1 HB.out)
                     clear BK122
                     clear BK123
                     clear HB
                     have BK122 := n0_
                     have BK123 := n1_
                     have HB := n2_
                     clear n0_ n1_ n2_
                     refine start_ (n := 8) (S := fun w' => True) (ds := []) #[false, false, false, false, false, false, false, false] (by kernel_rfl) rfl rfl trivial (fun hHeld => ?_); refine with_tabW token_next.tab32 token_next.bits32 (fun HT_ HW_ => ?_)
                     generalize wc.drew = w83 at BK122 BK123 HB hHeld ⊢
                     refine pure_ (i := 0) (N := some 150) (v := ?_) (a' := ?_) #[true, false, false, false, false, false, false, false] rfl rfl (any_of HT_.out (by kernel_rfl)) (fun _ _ _ h => h) (Or.inl ⟨by rfl, ?_⟩) ?_ ?_
                     rotate_left
                     ·intro w'
                      go_simp
                      with_reducible rfl
                     rotate_left
                     ·simp only [Act.put, List.setIfInBounds_toArray, List.set_cons_zero, List.set_cons_succ, i64_w, i32_w]
                      rfl
                     refine pure_ (i := 1) (N := some 151) (v := ?_) (a' := ?_) #[true, true, false, false, false, false, false, false] rfl rfl (any_of HT_.out (by kernel_rfl)) (fun _ _ _ h => h) (Or.inl ⟨by rfl, ?_⟩) ?_ ?_
                     rotate_left
                     ·intro w'
                      go_simp
                      with_reducible rfl
                     rotate_left
                     ·simp only [Act.put, List.setIfInBounds_toArray, List.set_cons_zero, List.set_cons_succ, i64_w, i32_w]
                      rfl
                     refine pure_ (i := 2) (N := some 152) (v := ?_) (a' := ?_) #[true, true, true, false, false, false, false, false] rfl rfl (any_of HT_.out (by kernel_rfl)) (fun _ _ _ h => h) (Or.inl ⟨by rfl, ?_⟩) ?_ ?_
                     rotate_left
                     ·intro w'
                      go_simp
                      with_reducible rfl
                     rotate_left
                     ·simp only [Act.put, List.setIfInBounds_toArray, List.set_cons_zero, List.set_cons_succ, i64_w, i32_w]
                      rfl
                     refine pure_ (i := 3) (N := some 153) (v := ?_) (a' := ?_) #[true, true, true, true, false, false, false, false] rfl rfl (any_of HT_.out (by kernel_rfl)) (fun _ _ _ h => h) (Or.inl ⟨by rfl, ?_⟩) ?_ ?_
                     rotate_left
                     ·intro w'
                      go_simp
                      with_reducible rfl
                     rotate_left
                     ·simp only [Act.put, List.setIfInBounds_toArray, List.set_cons_zero, List.set_cons_succ, i64_w, i32_w]
                      rfl
                     refine pure_ (i := 4) (N := some 154) (v := ?_) (a' := ?_) #[true, true, true, true, true, false, false, false] rfl rfl (any_of HT_.out (by kernel_rfl)) (fun _ _ _ h => h) (Or.inl ⟨by rfl, ?_⟩) ?_ ?_
                     rotate_left
                     ·intro w'
                      go_simp
                      with_reducible rfl
                     rotate_left
                     ·simp only [Act.put, List.setIfInBounds_toArray, List.set_cons_zero, List.set_cons_succ, i64_w, i32_w]
                      rfl
                     refine one_ (i := 5) (N := none) #[true, true, true, true, true, true, false, false] rfl rfl (one_of HT_.out (by kernel_rfl)) (by decide) (fun K hK => ?_)
                     have hs84 : w83.cell? ⟨gb123, 0, none⟩ = some (.string (⟨#[]⟩ : ByteArray)) := (blk_cell BK123.out 0).trans rfl
                     have hfs84 := blk_frozen BK123.out 0
                     have hns84_0 := NB122_123.out
                     have hms84_0 := NB123_122.out
                     refine skip_ (w1 := ?_) (by rfl) rfl ?_ ?_
                     rotate_left
                     ·go_simp
                      rfl
                     refine hK.out _ _ trivial (fun hHeld => ?_)
                     clear hK K
                     refine pure_ (i := 6) (N := some 155) (v := ?_) (a' := ?_) #[true, true, true, true, true, true, true, false] rfl rfl (any_of HT_.out (by kernel_rfl)) (fun _ _ _ h => h) (Or.inl ⟨by rfl, ?_⟩) ?_ ?_
                     rotate_left
                     ·intro w'
                      go_simp
                      with_reducible rfl
                     rotate_left
                     ·simp only [Act.put, List.setIfInBounds_toArray, List.set_cons_zero, List.set_cons_succ, i64_w, i32_w]
                      rfl
                     refine one_ (i := 7) (N := none) #[true, true, true, true, true, true, true, true] rfl rfl (one_of HT_.out (by kernel_rfl)) (by decide) (fun K hK => ?_)
                     have hs85 : w83.cell? ⟨gb123, 1, none⟩ = some (.string (⟨#[]⟩ : ByteArray)) := (blk_cell BK123.out 1).trans rfl
                     have hfs85 := blk_frozen BK123.out 1
                     have hns85_0 := NB122_123.out
                     have hms85_0 := NB123_122.out
                     refine skip_ (w1 := ?_) (by rfl) rfl ?_ ?_
                     rotate_left
                     ·go_simp
                      rfl
                     refine hK.out _ _ trivial (fun hHeld => ?_)
                     clear hK K
                     refine done_ (done_of HT_.out (by kernel_rfl)) ?_
                     have hnb86 := NB123_122.out
                     have hnc86 := NB122_123.out
                     have hcz87_0 : w83.cell? ⟨gb123, 0, none⟩ = some (.string (⟨#[]⟩ : ByteArray)) := (blk_cell BK123.out 0).trans rfl
                     have hcz87_1 : w83.cell? ⟨gb123, 1, none⟩ = some (.string (⟨#[]⟩ : ByteArray)) := (blk_cell BK123.out 1).trans rfl
                     have hcz87_2 : w83.cell? ⟨gb123, 2, none⟩ = some (.int .i64 a1) := (blk_cell BK123.out 2).trans rfl
                     have hfz87_0 := blk_frozen BK123.out 0
                     have hfz87_1 := blk_frozen BK123.out 1
                     have hfz87_2 := blk_frozen BK123.out 2
                     have hcz88_0 : w83.cell? ⟨gb122, 0, none⟩ = some (.string (⟨#[]⟩ : ByteArray)) := (blk_cell BK122.out 0).trans rfl
                     have hcz88_1 : w83.cell? ⟨gb122, 1, none⟩ = some (.string (⟨#[]⟩ : ByteArray)) := (blk_cell BK122.out 1).trans rfl
                     have hcz88_2 : w83.cell? ⟨gb122, 2, none⟩ = some (.int .i64 0) := (blk_cell BK122.out 2).trans rfl
                     have hfz88_0 := blk_frozen BK122.out 0
                     have hfz88_1 := blk_frozen BK122.out 1
                     have hfz88_2 := blk_frozen BK122.out 2
                     try go_wp2
                     refine bodyPost_ret (results_ctt rfl _ _ gb122 59 #[.string (⟨#[105, 110, 116]⟩ : ByteArray), .string (a0.extract (a1 : Int).toNat (t140 : Int).toNat), .int .i64 a1] (0, 0) _ rfl (bKq_ BK122.out) Tryz.underlying59 rfl (by kernel_rfl)) rfl ?_
                     exact ⟨by first | rfl | (simp [errW_none, errW_some] <;> rfl) | (simp only [← hji71]; first | rfl | (simp [errW_none, errW_some] <;> rfl)) | (simp [*, errW_none, errW_some] <;> rfl) | (simp [errW_none, errW_some]; exact Go.Proofs.YtlabfjaddgakkaaGreatW.OwnWords.isEmpty_bne _), bSt_⟩
                    ·rw [if_neg c82] at H
                     exact absurd H (by simp)
                   ·rw [if_neg c81] at H
                    exact absurd H (by simp)
                  ·rw [if_neg c80] at H
                   exact absurd H (by simp)
                ·rw [if_neg c75] at H
                 have c75b0 : ((bt a0 (ji71)) == 48) = false := beq_eq_false_iff_ne.mpr c75
                 have c75b1 : ((bt a0 (ji71)) != 48) = true := bne_iff_ne.mpr c75
                 by_cases c89 : 0 ≤ a1
                 ·rw [if_pos c89] at H
                  have c89b0 := eq_true c89
                  have c89b1 : decide (0 ≤ a1) = true := decide_eq_true c89
                  clear c89
                  by_cases c90 : a1 ≤ t140
                  ·rw [if_pos c90] at H
                   have c90b0 := eq_true c90
                   have c90b1 : decide (a1 ≤ t140) = true := decide_eq_true c90
                   clear c90
                   by_cases c91 : t140 ≤ (a0.size : Int)
                   ·rw [if_pos c91] at H
                    have c91b0 := eq_true c91
                    have c91b1 : decide (t140 ≤ (a0.size : Int)) = true := decide_eq_true c91
                    clear c91
                    simp only [Option.some.injEq, Prod.mk.injEq] at H
                    obtain ⟨rfl, rfl, rfl, rfl, rfl⟩ := H
                    try go_wp2_with (first | ((with_reducible refine gate_callee (f := 142) rfl ?_); refine goesL_ (some 127) rfl rfl Tryz.func142 (by kernel_rfl) rfl #[.string a0, .int .i64 a1] rfl (by (try simp only [List.map_toArray, List.map_cons, List.map_nil]); first | done | rfl | (simp only [List.length_drop, List.length_take]; rfl)) ?_; (with_reducible refine (token_number.calls kj58 a0 a1 t140 t141 _ A69.out).mono ?_); rintro e w' ⟨rfl, ⟨nd, rfl⟩⟩; refine ⟨_, rfl, ?_⟩; (try (rw [drewN_self wc]; generalize hq_ : World.drewN wc _ = wc; have n0_ : Aside0 (wc.heap[gb122]? = some (.cells #[.string (⟨#[]⟩ : ByteArray), .string (⟨#[]⟩ : ByteArray), .int .i64 0] 59 (0, 0))) := ⟨by rw [← hq_]; exact (bKq_ BK122.out)⟩; have n1_ : Aside0 (wc.heap[gb123]? = some (.cells #[.string (⟨#[]⟩ : ByteArray), .string (⟨#[]⟩ : ByteArray), .int .i64 a1] 59 (0, 0))) := ⟨by rw [← hq_]; exact (bKq_ BK123.out)⟩; have n2_ : Aside0 (Below w.heap.size w wc) := ⟨by rw [← hq_]; exact bSt_⟩; clear BK122 BK123 HB hq_; have BK122 := n0_; have BK123 := n1_; have HB := n2_; clear n0_ n1_ n2_)); have p74 : 0 ≤ ((ji71) : Int) := of_decide_eq_true (by first | (with_reducible assumption) | assumption); have q74 : (ji71) < (a0.size : Int) := of_decide_eq_true (by first | (with_reducible assumption) | assumption); have hx74 := bt_at a0 (ji71); replace p74 := eq_true p74; replace q74 := eq_true q74))
                    have n0_ := Aside0.mk (blk_drew BK122.out)
                    have n1_ := Aside0.mk (blk_drew BK123.out)
                    have n2_ := Aside0.mk (below_drew1 HB.out)
                    clear BK122
                    clear BK123
                    clear HB
                    have BK122 := n0_
                    have BK123 := n1_
                    have HB := n2_
                    clear n0_ n1_ n2_
                    refine start_ (n := 8) (S := fun w' => True) (ds := []) #[false, false, false, false, false, false, false, false] (by kernel_rfl) rfl rfl trivial (fun hHeld => ?_); refine with_tabW token_next.tab32 token_next.bits32 (fun HT_ HW_ => ?_)
                    generalize wc.drew = w92 at BK122 BK123 HB hHeld ⊢
                    refine pure_ (i := 0) (N := some 150) (v := ?_) (a' := ?_) #[true, false, false, false, false, false, false, false] rfl rfl (any_of HT_.out (by kernel_rfl)) (fun _ _ _ h => h) (Or.inl ⟨by rfl, ?_⟩) ?_ ?_
                    rotate_left
                    ·intro w'
                     go_simp
                     with_reducible rfl
                    rotate_left
                    ·simp only [Act.put, List.setIfInBounds_toArray, List.set_cons_zero, List.set_cons_succ, i64_w, i32_w]
                     rfl
                    refine pure_ (i := 1) (N := some 151) (v := ?_) (a' := ?_) #[true, true, false, false, false, false, false, false] rfl rfl (any_of HT_.out (by kernel_rfl)) (fun _ _ _ h => h) (Or.inl ⟨by rfl, ?_⟩) ?_ ?_
                    rotate_left
                    ·intro w'
                     go_simp
                     with_reducible rfl
                    rotate_left
                    ·simp only [Act.put, List.setIfInBounds_toArray, List.set_cons_zero, List.set_cons_succ, i64_w, i32_w]
                     rfl
                    refine pure_ (i := 2) (N := some 152) (v := ?_) (a' := ?_) #[true, true, true, false, false, false, false, false] rfl rfl (any_of HT_.out (by kernel_rfl)) (fun _ _ _ h => h) (Or.inl ⟨by rfl, ?_⟩) ?_ ?_
                    rotate_left
                    ·intro w'
                     go_simp
                     with_reducible rfl
                    rotate_left
                    ·simp only [Act.put, List.setIfInBounds_toArray, List.set_cons_zero, List.set_cons_succ, i64_w, i32_w]
                     rfl
                    refine pure_ (i := 3) (N := some 153) (v := ?_) (a' := ?_) #[true, true, true, true, false, false, false, false] rfl rfl (any_of HT_.out (by kernel_rfl)) (fun _ _ _ h => h) (Or.inl ⟨by rfl, ?_⟩) ?_ ?_
                    rotate_left
                    ·intro w'
                     go_simp
                     with_reducible rfl
                    rotate_left
                    ·simp only [Act.put, List.setIfInBounds_toArray, List.set_cons_zero, List.set_cons_succ, i64_w, i32_w]
                     rfl
                    refine pure_ (i := 4) (N := some 154) (v := ?_) (a' := ?_) #[true, true, true, true, true, false, false, false] rfl rfl (any_of HT_.out (by kernel_rfl)) (fun _ _ _ h => h) (Or.inl ⟨by rfl, ?_⟩) ?_ ?_
                    rotate_left
                    ·intro w'
                     go_simp
                     with_reducible rfl
                    rotate_left
                    ·simp only [Act.put, List.setIfInBounds_toArray, List.set_cons_zero, List.set_cons_succ, i64_w, i32_w]
                     rfl
                    refine one_ (i := 5) (N := none) #[true, true, true, true, true, true, false, false] rfl rfl (one_of HT_.out (by kernel_rfl)) (by decide) (fun K hK => ?_)
                    have hs93 : w92.cell? ⟨gb123, 0, none⟩ = some (.string (⟨#[]⟩ : ByteArray)) := (blk_cell BK123.out 0).trans rfl
                    have hfs93 := blk_frozen BK123.out 0
                    have hns93_0 := NB122_123.out
                    have hms93_0 := NB123_122.out
                    refine skip_ (w1 := ?_) (by rfl) rfl ?_ ?_
                    rotate_left
                    ·go_simp
                     rfl
                    refine hK.out _ _ trivial (fun hHeld => ?_)
                    clear hK K
                    refine pure_ (i := 6) (N := some 155) (v := ?_) (a' := ?_) #[true, true, true, true, true, true, true, false] rfl rfl (any_of HT_.out (by kernel_rfl)) (fun _ _ _ h => h) (Or.inl ⟨by rfl, ?_⟩) ?_ ?_
                    rotate_left
                    ·intro w'
                     go_simp
                     with_reducible rfl
                    rotate_left
                    ·simp only [Act.put, List.setIfInBounds_toArray, List.set_cons_zero, List.set_cons_succ, i64_w, i32_w]
                     rfl
                    refine one_ (i := 7) (N := none) #[true, true, true, true, true, true, true, true] rfl rfl (one_of HT_.out (by kernel_rfl)) (by decide) (fun K hK => ?_)
                    have hs94 : w92.cell? ⟨gb123, 1, none⟩ = some (.string (⟨#[]⟩ : ByteArray)) := (blk_cell BK123.out 1).trans rfl
                    have hfs94 := blk_frozen BK123.out 1
                    have hns94_0 := NB122_123.out
                    have hms94_0 := NB123_122.out
                    refine skip_ (w1 := ?_) (by rfl) rfl ?_ ?_
                    rotate_left
                    ·go_simp
                     rfl
                    refine hK.out _ _ trivial (fun hHeld => ?_)
                    clear hK K
                    refine done_ (done_of HT_.out (by kernel_rfl)) ?_
                    have hnb95 := NB123_122.out
                    have hnc95 := NB122_123.out
                    have hcz96_0 : w92.cell? ⟨gb123, 0, none⟩ = some (.string (⟨#[]⟩ : ByteArray)) := (blk_cell BK123.out 0).trans rfl
                    have hcz96_1 : w92.cell? ⟨gb123, 1, none⟩ = some (.string (⟨#[]⟩ : ByteArray)) := (blk_cell BK123.out 1).trans rfl
                    have hcz96_2 : w92.cell? ⟨gb123, 2, none⟩ = some (.int .i64 a1) := (blk_cell BK123.out 2).trans rfl
                    have hfz96_0 := blk_frozen BK123.out 0
                    have hfz96_1 := blk_frozen BK123.out 1
                    have hfz96_2 := blk_frozen BK123.out 2
                    have hcz97_0 : w92.cell? ⟨gb122, 0, none⟩ = some (.string (⟨#[]⟩ : ByteArray)) := (blk_cell BK122.out 0).trans rfl
                    have hcz97_1 : w92.cell? ⟨gb122, 1, none⟩ = some (.string (⟨#[]⟩ : ByteArray)) := (blk_cell BK122.out 1).trans rfl
                    have hcz97_2 : w92.cell? ⟨gb122, 2, none⟩ = some (.int .i64 0) := (blk_cell BK122.out 2).trans rfl
                    have hfz97_0 := blk_frozen BK122.out 0
                    have hfz97_1 := blk_frozen BK122.out 1
                    have hfz97_2 := blk_frozen BK122.out 2
                    try go_wp2
                    refine bodyPost_ret (results_ctt rfl _ _ gb122 59 #[.string (⟨#[105, 110, 116]⟩ : ByteArray), .string (a0.extract (a1 : Int).toNat (t140 : Int).toNat), .int .i64 a1] (0, 0) _ rfl (bKq_ BK122.out) Tryz.underlying59 rfl (by kernel_rfl)) rfl ?_
                    exact ⟨by first | rfl | (simp [errW_none, errW_some] <;> rfl) | (simp only [← hji71]; first | rfl | (simp [errW_none, errW_some] <;> rfl)) | (simp [*, errW_none, errW_some] <;> rfl) | (simp [errW_none, errW_some]; exact Go.Proofs.YtlabfjaddgakkaaGreatW.OwnWords.isEmpty_bne _), bSt_⟩
                   ·rw [if_neg c91] at H
                    exact absurd H (by simp)
                  ·rw [if_neg c90] at H
                   exact absurd H (by simp)
                 ·rw [if_neg c89] at H
                  exact absurd H (by simp)
               ·rw [if_neg c73] at H
                exact absurd H (by simp)
              ·rw [if_neg c72] at H
               exact absurd H (by simp)
             ·rw [if_neg c70] at H
              have c70b0 : ((bt a0 a1) == 126) = false := beq_eq_false_iff_ne.mpr c70
              have c70b1 : ((bt a0 a1) != 126) = true := bne_iff_ne.mpr c70
              by_cases c98 : 0 ≤ a1
              ·rw [if_pos c98] at H
               have c98b0 := eq_true c98
               have c98b1 : decide (0 ≤ a1) = true := decide_eq_true c98
               clear c98
               by_cases c99 : a1 ≤ t140
               ·rw [if_pos c99] at H
                have c99b0 := eq_true c99
                have c99b1 : decide (a1 ≤ t140) = true := decide_eq_true c99
                clear c99
                by_cases c100 : t140 ≤ (a0.size : Int)
                ·rw [if_pos c100] at H
                 have c100b0 := eq_true c100
                 have c100b1 : decide (t140 ≤ (a0.size : Int)) = true := decide_eq_true c100
                 clear c100
                 simp only [Option.some.injEq, Prod.mk.injEq] at H
                 obtain ⟨rfl, rfl, rfl, rfl, rfl⟩ := H
                 try go_wp2_with (first | ((with_reducible refine gate_callee (f := 142) rfl ?_); refine goesL_ (some 127) rfl rfl Tryz.func142 (by kernel_rfl) rfl #[.string a0, .int .i64 a1] rfl (by (try simp only [List.map_toArray, List.map_cons, List.map_nil]); first | done | rfl | (simp only [List.length_drop, List.length_take]; rfl)) ?_; (with_reducible refine (token_number.calls kj58 a0 a1 t140 t141 _ A69.out).mono ?_); rintro e w' ⟨rfl, ⟨nd, rfl⟩⟩; refine ⟨_, rfl, ?_⟩; (try (rw [drewN_self wc]; generalize hq_ : World.drewN wc _ = wc; have n0_ : Aside0 (wc.heap[gb122]? = some (.cells #[.string (⟨#[]⟩ : ByteArray), .string (⟨#[]⟩ : ByteArray), .int .i64 0] 59 (0, 0))) := ⟨by rw [← hq_]; exact (bKq_ BK122.out)⟩; have n1_ : Aside0 (wc.heap[gb123]? = some (.cells #[.string (⟨#[]⟩ : ByteArray), .string (⟨#[]⟩ : ByteArray), .int .i64 a1] 59 (0, 0))) := ⟨by rw [← hq_]; exact (bKq_ BK123.out)⟩; have n2_ : Aside0 (Below w.heap.size w wc) := ⟨by rw [← hq_]; exact bSt_⟩; clear BK122 BK123 HB hq_; have BK122 := n0_; have BK123 := n1_; have HB := n2_; clear n0_ n1_ n2_))))
                 have n0_ := Aside0.mk (blk_drew BK122.out)
                 have n1_ := Aside0.mk (blk_drew BK123.out)
                 have n2_ := Aside0.mk (below_drew1 HB.out)
                 clear BK122
                 clear BK123
                 clear HB
                 have BK122 := n0_
                 have BK123 := n1_
                 have HB := n2_
                 clear n0_ n1_ n2_
                 refine start_ (n := 8) (S := fun w' => True) (ds := []) #[false, false, false, false, false, false, false, false] (by kernel_rfl) rfl rfl trivial (fun hHeld => ?_); refine with_tabW token_next.tab32 token_next.bits32 (fun HT_ HW_ => ?_)
                 generalize wc.drew = w101 at BK122 BK123 HB hHeld ⊢
                 refine pure_ (i := 0) (N := some 150) (v := ?_) (a' := ?_) #[true, false, false, false, false, false, false, false] rfl rfl (any_of HT_.out (by kernel_rfl)) (fun _ _ _ h => h) (Or.inl ⟨by rfl, ?_⟩) ?_ ?_
                 rotate_left
                 ·intro w'
                  go_simp
                  with_reducible rfl
                 rotate_left
                 ·simp only [Act.put, List.setIfInBounds_toArray, List.set_cons_zero, List.set_cons_succ, i64_w, i32_w]
                  rfl
                 refine pure_ (i := 1) (N := some 151) (v := ?_) (a' := ?_) #[true, true, false, false, false, false, false, false] rfl rfl (any_of HT_.out (by kernel_rfl)) (fun _ _ _ h => h) (Or.inl ⟨by rfl, ?_⟩) ?_ ?_
                 rotate_left
                 ·intro w'
                  go_simp
                  with_reducible rfl
                 rotate_left
                 ·simp only [Act.put, List.setIfInBounds_toArray, List.set_cons_zero, List.set_cons_succ, i64_w, i32_w]
                  rfl
                 refine pure_ (i := 2) (N := some 152) (v := ?_) (a' := ?_) #[true, true, true, false, false, false, false, false] rfl rfl (any_of HT_.out (by kernel_rfl)) (fun _ _ _ h => h) (Or.inl ⟨by rfl, ?_⟩) ?_ ?_
                 rotate_left
                 ·intro w'
                  go_simp
                  with_reducible rfl
                 rotate_left
                 ·simp only [Act.put, List.setIfInBounds_toArray, List.set_cons_zero, List.set_cons_succ, i64_w, i32_w]
                  rfl
                 refine pure_ (i := 3) (N := some 153) (v := ?_) (a' := ?_) #[true, true, true, true, false, false, false, false] rfl rfl (any_of HT_.out (by kernel_rfl)) (fun _ _ _ h => h) (Or.inl ⟨by rfl, ?_⟩) ?_ ?_
                 rotate_left
                 ·intro w'
                  go_simp
                  with_reducible rfl
                 rotate_left
                 ·simp only [Act.put, List.setIfInBounds_toArray, List.set_cons_zero, List.set_cons_succ, i64_w, i32_w]
                  rfl
                 refine pure_ (i := 4) (N := some 154) (v := ?_) (a' := ?_) #[true, true, true, true, true, false, false, false] rfl rfl (any_of HT_.out (by kernel_rfl)) (fun _ _ _ h => h) (Or.inl ⟨by rfl, ?_⟩) ?_ ?_
                 rotate_left
                 ·intro w'
                  go_simp
                  with_reducible rfl
                 rotate_left
                 ·simp only [Act.put, List.setIfInBounds_toArray, List.set_cons_zero, List.set_cons_succ, i64_w, i32_w]
                  rfl
                 refine one_ (i := 5) (N := none) #[true, true, true, true, true, true, false, false] rfl rfl (one_of HT_.out (by kernel_rfl)) (by decide) (fun K hK => ?_)
                 have hs102 : w101.cell? ⟨gb123, 0, none⟩ = some (.string (⟨#[]⟩ : ByteArray)) := (blk_cell BK123.out 0).trans rfl
                 have hfs102 := blk_frozen BK123.out 0
                 have hns102_0 := NB122_123.out
                 have hms102_0 := NB123_122.out
                 refine skip_ (w1 := ?_) (by rfl) rfl ?_ ?_
                 rotate_left
                 ·go_simp
                  rfl
                 refine hK.out _ _ trivial (fun hHeld => ?_)
                 clear hK K
                 refine pure_ (i := 6) (N := some 155) (v := ?_) (a' := ?_) #[true, true, true, true, true, true, true, false] rfl rfl (any_of HT_.out (by kernel_rfl)) (fun _ _ _ h => h) (Or.inl ⟨by rfl, ?_⟩) ?_ ?_
                 rotate_left
                 ·intro w'
                  go_simp
                  with_reducible rfl
                 rotate_left
                 ·simp only [Act.put, List.setIfInBounds_toArray, List.set_cons_zero, List.set_cons_succ, i64_w, i32_w]
                  rfl
                 refine one_ (i := 7) (N := none) #[true, true, true, true, true, true, true, true] rfl rfl (one_of HT_.out (by kernel_rfl)) (by decide) (fun K hK => ?_)
                 have hs103 : w101.cell? ⟨gb123, 1, none⟩ = some (.string (⟨#[]⟩ : ByteArray)) := (blk_cell BK123.out 1).trans rfl
                 have hfs103 := blk_frozen BK123.out 1
                 have hns103_0 := NB122_123.out
                 have hms103_0 := NB123_122.out
                 refine skip_ (w1 := ?_) (by rfl) rfl ?_ ?_
                 rotate_left
                 ·go_simp
                  rfl
                 refine hK.out _ _ trivial (fun hHeld => ?_)
                 clear hK K
                 refine done_ (done_of HT_.out (by kernel_rfl)) ?_
                 have hnb104 := NB123_122.out
                 have hnc104 := NB122_123.out
                 have hcz105_0 : w101.cell? ⟨gb123, 0, none⟩ = some (.string (⟨#[]⟩ : ByteArray)) := (blk_cell BK123.out 0).trans rfl
                 have hcz105_1 : w101.cell? ⟨gb123, 1, none⟩ = some (.string (⟨#[]⟩ : ByteArray)) := (blk_cell BK123.out 1).trans rfl
                 have hcz105_2 : w101.cell? ⟨gb123, 2, none⟩ = some (.int .i64 a1) := (blk_cell BK123.out 2).trans rfl
                 have hfz105_0 := blk_frozen BK123.out 0
                 have hfz105_1 := blk_frozen BK123.out 1
                 have hfz105_2 := blk_frozen BK123.out 2
                 have hcz106_0 : w101.cell? ⟨gb122, 0, none⟩ = some (.string (⟨#[]⟩ : ByteArray)) := (blk_cell BK122.out 0).trans rfl
                 have hcz106_1 : w101.cell? ⟨gb122, 1, none⟩ = some (.string (⟨#[]⟩ : ByteArray)) := (blk_cell BK122.out 1).trans rfl
                 have hcz106_2 : w101.cell? ⟨gb122, 2, none⟩ = some (.int .i64 0) := (blk_cell BK122.out 2).trans rfl
                 have hfz106_0 := blk_frozen BK122.out 0
                 have hfz106_1 := blk_frozen BK122.out 1
                 have hfz106_2 := blk_frozen BK122.out 2
                 try go_wp2
                 refine bodyPost_ret (results_ctt rfl _ _ gb122 59 #[.string (⟨#[105, 110, 116]⟩ : ByteArray), .string (a0.extract (a1 : Int).toNat (t140 : Int).toNat), .int .i64 a1] (0, 0) _ rfl (bKq_ BK122.out) Tryz.underlying59 rfl (by kernel_rfl)) rfl ?_
                 exact ⟨by first | rfl | (simp [errW_none, errW_some] <;> rfl) | (simp [*, errW_none, errW_some] <;> rfl) | (simp [errW_none, errW_some]; exact Go.Proofs.YtlabfjaddgakkaaGreatW.OwnWords.isEmpty_bne _), bSt_⟩
                ·rw [if_neg c100] at H
                 exact absurd H (by simp)
               ·rw [if_neg c99] at H
                exact absurd H (by simp)
              ·rw [if_neg c98] at H
               exact absurd H (by simp)
            ·replace c68 := Bool.eq_false_iff.mpr c68
             subst c68
             have H1 : (if 0 ≤ a1 then (if a1 ≤ (a0.size : Int) then ((token_signAt.f kj58 (a0.extract (a1 : Int).toNat a0.size)).bind fun t142 => (some ((⟨#[115, 105, 103, 110]⟩ : ByteArray), t142, a1, wrap64 (a1 + (t142.size : Int)), (t142.toList != ([] : List UInt8))))) else (none)) else (none)) = some (r1, r2, r3, r4, r5) := by rw [if_neg (show ¬ (false = true) by decide)] at H; exact H
             clear H
             have H := H1
             clear H1
             by_cases c107 : 0 ≤ a1
             ·rw [if_pos c107] at H
              have c107b0 := eq_true c107
              have c107b1 : decide (0 ≤ a1) = true := decide_eq_true c107
              clear c107
              by_cases c108 : a1 ≤ (a0.size : Int)
              ·rw [if_pos c108] at H
               have c108b0 := eq_true c108
               have c108b1 : decide (a1 ≤ (a0.size : Int)) = true := decide_eq_true c108
               clear c108
               replace H := Option.bind_eq_some_iff.mp H
               obtain ⟨t142, A1090, H⟩ := H
               replace H : (some ((⟨#[115, 105, 103, 110]⟩ : ByteArray), t142, a1, wrap64 (a1 + (t142.size : Int)), (t142.toList != ([] : List UInt8)))) = some (r1, r2, r3, r4, r5) := H
               have A109 := Aside0.mk A1090
               clear A1090
               simp only [Option.some.injEq, Prod.mk.injEq] at H
               obtain ⟨rfl, rfl, rfl, rfl, rfl⟩ := H
               try go_wp2_with (first | ((with_reducible refine gate_callee (f := 143) rfl ?_); refine goesL_ (some 162) rfl rfl Tryz.func143 (by kernel_rfl) rfl #[.string (a0.extract (a1 : Int).toNat a0.size)] rfl (by (try simp only [List.map_toArray, List.map_cons, List.map_nil]); first | done | rfl | (simp only [List.length_drop, List.length_take]; rfl)) ?_; (with_reducible refine (token_signAt.calls kj58 (a0.extract (a1 : Int).toNat a0.size) t142 _ A109.out).mono ?_); rintro e w110 ⟨rfl, hb⟩; refine ⟨_, rfl, ?_⟩; have n0_ := Aside0.mk (blk_below (bKq_ BK122.out) hb); have n1_ := Aside0.mk (blk_below (bKq_ BK123.out) hb); have n2_ := Aside0.mk (below_step bSt_ hb); clear BK122; clear BK123; clear HB; have BK122 := n0_; have BK123 := n1_; have HB := n2_; clear n0_ n1_ n2_; (try clear hb); (try clear hb2); (try clear hk); (try clear hi); have hnb111 := NB123_122.out; have hnc111 := NB122_123.out; have hcz112_0 : w110.cell? ⟨gb123, 0, none⟩ = some (.string (⟨#[]⟩ : ByteArray)) := (blk_cell BK123.out 0).trans rfl; have hcz112_1 : w110.cell? ⟨gb123, 1, none⟩ = some (.string (⟨#[]⟩ : ByteArray)) := (blk_cell BK123.out 1).trans rfl; have hcz112_2 : w110.cell? ⟨gb123, 2, none⟩ = some (.int .i64 a1) := (blk_cell BK123.out 2).trans rfl; have hfz112_0 := blk_frozen BK123.out 0; have hfz112_1 := blk_frozen BK123.out 1; have hfz112_2 := blk_frozen BK123.out 2))
               have n0_ : Aside0 (((w110.setCell ⟨gb123, 1, none⟩ (.string t142)).setCell ⟨gb123, 0, none⟩ (.string (⟨#[115, 105, 103, 110]⟩ : ByteArray))).heap[gb122]? = some (.cells #[.string (⟨#[]⟩ : ByteArray), .string (⟨#[]⟩ : ByteArray), .int .i64 0] 59 (0, 0))) := ⟨bKq_ BK122.out⟩
               have n1_ : Aside0 (((w110.setCell ⟨gb123, 1, none⟩ (.string t142)).setCell ⟨gb123, 0, none⟩ (.string (⟨#[115, 105, 103, 110]⟩ : ByteArray))).heap[gb123]? = some (.cells #[.string (⟨#[115, 105, 103, 110]⟩ : ByteArray), .string t142, .int .i64 a1] 59 (0, 0))) := ⟨bKq_ BK123.out⟩
               have n2_ : Aside0 (Below w.heap.size w ((w110.setCell ⟨gb123, 1, none⟩ (.string t142)).setCell ⟨gb123, 0, none⟩ (.string (⟨#[115, 105, 103, 110]⟩ : ByteArray)))) := ⟨bSt_⟩
               (try clear BK122)
               (try clear BK123)
               (try clear HB)
               generalize ((w110.setCell ⟨gb123, 1, none⟩ (.string t142)).setCell ⟨gb123, 0, none⟩ (.string (⟨#[115, 105, 103, 110]⟩ : ByteArray))) = w113 at n0_ n1_ n2_ ⊢
               have BK122 := n0_
               have BK123 := n1_
               have HB := n2_
               clear n0_ n1_ n2_
               have n0_ := Aside0.mk (blk_drew BK122.out)
               have n1_ := Aside0.mk (blk_drew BK123.out)
               have n2_ := Aside0.mk (below_drew1 HB.out)
               clear BK122
               clear BK123
               clear HB
               have BK122 := n0_
               have BK123 := n1_
               have HB := n2_
               clear n0_ n1_ n2_
               refine start_ (n := 12) (S := fun w' => w'.cell? ⟨gb123, 0, none⟩ = some (.string (⟨#[115, 105, 103, 110]⟩ : ByteArray)) ∧ w'.cell? ⟨gb123, 1, none⟩ = some (.string t142) ∧ w'.cell? ⟨gb123, 2, none⟩ = some (.int .i64 a1)) (ds := []) #[false, false, false, false, false, false, false, false, false, false, false, false] (by kernel_rfl) rfl rfl ⟨(blk_cell BK123.out 0).trans rfl, (blk_cell BK123.out 1).trans rfl, (blk_cell BK123.out 2).trans rfl⟩ (fun hHeld => ?_); refine with_tabW token_next.tab36 token_next.bits36 (fun HT_ HW_ => ?_)
               generalize w113.drew = w114 at BK122 BK123 HB hHeld ⊢
               refine pure_ (i := 1) (N := some 166) (v := ?_) (a' := ?_) #[false, true, false, false, false, false, false, false, false, false, false, false] rfl rfl (any_of HT_.out (by kernel_rfl)) (fun _ _ _ h => h) (Or.inl ⟨by rfl, ?_⟩) ?_ ?_
               rotate_left
               ·intro w'
                go_simp
                with_reducible rfl
               rotate_left
               ·simp only [Act.put, List.setIfInBounds_toArray, List.set_cons_zero, List.set_cons_succ, i64_w, i32_w]
                rfl
               refine pure_ (i := 2) (N := some 167) (v := ?_) (a' := ?_) #[false, true, true, false, false, false, false, false, false, false, false, false] rfl rfl (any_of HT_.out (by kernel_rfl)) (fun _ _ _ h => h) (Or.inl ⟨by rfl, ?_⟩) ?_ ?_
               rotate_left
               ·intro w'
                go_simp
                with_reducible rfl
               rotate_left
               ·simp only [Act.put, List.setIfInBounds_toArray, List.set_cons_zero, List.set_cons_succ, i64_w, i32_w]
                rfl
               refine pure_ (i := 6) (N := some 171) (v := ?_) (a' := ?_) #[false, true, true, false, false, false, true, false, false, false, false, false] rfl rfl (any_of HT_.out (by kernel_rfl)) (fun _ _ _ h => h) (Or.inl ⟨by rfl, ?_⟩) ?_ ?_
               rotate_left
               ·intro w'
                go_simp
                with_reducible rfl
               rotate_left
               ·simp only [Act.put, List.setIfInBounds_toArray, List.set_cons_zero, List.set_cons_succ, i64_w, i32_w]
                rfl
               refine take_ (i := 0) (N := some 165) (v := ?_) (a' := ?_) #[true, true, true, false, false, false, true, false, false, false, false, false] rfl rfl (take_ofW HT_.out HW_.out (by kernel_rfl)) (fun _ _ _ h => h) (Or.inl ⟨by rfl, ?_⟩) hHeld ?_ ?_
               rotate_left
               ·rintro w' ⟨s0, s1, s2⟩
                go_simp
                with_reducible rfl
               rotate_left
               ·simp only [Act.put, List.setIfInBounds_toArray, List.set_cons_zero, List.set_cons_succ, i64_w, i32_w]
                rfl
               refine take_ (i := 3) (N := some 168) (v := ?_) (a' := ?_) #[true, true, true, true, false, false, true, false, false, false, false, false] rfl rfl (take_ofW HT_.out HW_.out (by kernel_rfl)) (fun _ _ _ h => h) (Or.inl ⟨by rfl, ?_⟩) hHeld ?_ ?_
               rotate_left
               ·rintro w' ⟨s0, s1, s2⟩
                go_simp
                with_reducible rfl
               rotate_left
               ·simp only [Act.put, List.setIfInBounds_toArray, List.set_cons_zero, List.set_cons_succ, i64_w, i32_w]
                rfl
               refine pure_ (i := 4) (N := some 169) (v := ?_) (a' := ?_) #[true, true, true, true, true, false, true, false, false, false, false, false] rfl rfl (any_of HT_.out (by kernel_rfl)) (fun _ _ _ h => h) (Or.inl ⟨by rfl, ?_⟩) ?_ ?_
               rotate_left
               ·intro w'
                go_simp
                with_reducible rfl
               rotate_left
               ·simp only [Act.put, List.setIfInBounds_toArray, List.set_cons_zero, List.set_cons_succ, i64_w, i32_w]
                rfl
               refine pure_ (i := 5) (N := some 170) (v := ?_) (a' := ?_) #[true, true, true, true, true, true, true, false, false, false, false, false] rfl rfl (any_of HT_.out (by kernel_rfl)) (fun _ _ _ h => h) (Or.inl ⟨by rfl, ?_⟩) ?_ ?_
               rotate_left
               ·intro w'
                go_simp
                with_reducible rfl
               rotate_left
               ·simp only [Act.put, List.setIfInBounds_toArray, List.set_cons_zero, List.set_cons_succ, i64_w, i32_w]
                rfl
               refine take_ (i := 7) (N := some 172) (v := ?_) (a' := ?_) #[true, true, true, true, true, true, true, true, false, false, false, false] rfl rfl (take_ofW HT_.out HW_.out (by kernel_rfl)) (fun _ _ _ h => h) (Or.inl ⟨by rfl, ?_⟩) hHeld ?_ ?_
               rotate_left
               ·rintro w' ⟨s0, s1, s2⟩
                go_simp
                with_reducible rfl
               rotate_left
               ·simp only [Act.put, List.setIfInBounds_toArray, List.set_cons_zero, List.set_cons_succ, i64_w, i32_w]
                rfl
               refine pure_ (i := 8) (N := some 173) (v := ?_) (a' := ?_) #[true, true, true, true, true, true, true, true, true, false, false, false] rfl rfl (any_of HT_.out (by kernel_rfl)) (fun _ _ _ h => h) (Or.inl ⟨by rfl, ?_⟩) ?_ ?_
               rotate_left
               ·intro w'
                go_simp
                with_reducible rfl
               rotate_left
               ·simp only [Act.put, List.setIfInBounds_toArray, List.set_cons_zero, List.set_cons_succ, i64_w, i32_w]
                rfl
               refine one_ (i := 9) (N := none) #[true, true, true, true, true, true, true, true, true, true, false, false] rfl rfl (one_of HT_.out (by kernel_rfl)) (by decide) (fun K hK => ?_)
               have hs115 : w114.cell? ⟨gb122, 0, none⟩ = some (.string (⟨#[]⟩ : ByteArray)) := (blk_cell BK122.out 0).trans rfl
               have hfs115 := blk_frozen BK122.out 0
               have hns115_1 := NB123_122.out
               have hms115_1 := NB122_123.out
               have hs116 : w114.cell? ⟨gb122, 1, none⟩ = some (.string (⟨#[]⟩ : ByteArray)) := (blk_cell BK122.out 1).trans rfl
               have hfs116 := blk_frozen BK122.out 1
               have hns116_1 := NB123_122.out
               have hms116_1 := NB122_123.out
               have hs117 : w114.cell? ⟨gb122, 2, none⟩ = some (.int .i64 0) := (blk_cell BK122.out 2).trans rfl
               have hfs117 := blk_frozen BK122.out 2
               have hns117_1 := NB123_122.out
               have hms117_1 := NB122_123.out
               refine skip_ (w1 := ?_) (by rfl) rfl ?_ ?_
               rotate_left
               ·go_simp
                rfl
               refine hK.out _ _ ⟨((cell_far (p := ⟨gb122, _, none⟩) NB123_122.out _).trans (((cell_far (p := ⟨gb122, _, none⟩) NB123_122.out _).trans (((cell_far (p := ⟨gb122, _, none⟩) NB123_122.out _).trans (hHeld.1)))))), ((cell_far (p := ⟨gb122, _, none⟩) NB123_122.out _).trans (((cell_far (p := ⟨gb122, _, none⟩) NB123_122.out _).trans (((cell_far (p := ⟨gb122, _, none⟩) NB123_122.out _).trans (hHeld.2.1)))))), ((cell_far (p := ⟨gb122, _, none⟩) NB123_122.out _).trans (((cell_far (p := ⟨gb122, _, none⟩) NB123_122.out _).trans (((cell_far (p := ⟨gb122, _, none⟩) NB123_122.out _).trans (hHeld.2.2))))))⟩ (fun hHeld => ?_)
               clear hK K
               refine pure_ (i := 10) (N := some 5) (v := ?_) (a' := ?_) #[true, true, true, true, true, true, true, true, true, true, true, false] rfl rfl (any_of HT_.out (by kernel_rfl)) (fun _ _ _ h => h) (Or.inl ⟨by rfl, ?_⟩) ?_ ?_
               rotate_left
               ·intro w'
                go_simp
                with_reducible rfl
               rotate_left
               ·simp only [Act.put, List.setIfInBounds_toArray, List.set_cons_zero, List.set_cons_succ, i64_w, i32_w]
                rfl
               refine pure_ (i := 11) (N := some 6) (v := ?_) (a' := ?_) #[true, true, true, true, true, true, true, true, true, true, true, true] rfl rfl (any_of HT_.out (by kernel_rfl)) (fun _ _ _ h => h) (Or.inl ⟨by rfl, ?_⟩) ?_ ?_
               rotate_left
               ·intro w'
                go_simp
                with_reducible rfl
               rotate_left
               ·simp only [Act.put, List.setIfInBounds_toArray, List.set_cons_zero, List.set_cons_succ, i64_w, i32_w]
                rfl
               refine done_ (done_of HT_.out (by kernel_rfl)) ?_
               try go_wp2
               refine bodyPost_ret (results_ctt rfl _ _ gb122 59 #[.string (⟨#[115, 105, 103, 110]⟩ : ByteArray), .string t142, .int .i64 a1] (0, 0) _ rfl (bKq_ BK122.out) Tryz.underlying59 rfl (by kernel_rfl)) rfl ?_
               exact ⟨by first | rfl | (simp [errW_none, errW_some] <;> rfl) | (simp [*, errW_none, errW_some] <;> rfl) | (simp [errW_none, errW_some]; exact Go.Proofs.YtlabfjaddgakkaaGreatW.OwnWords.isEmpty_bne _), bSt_⟩
              ·rw [if_neg c108] at H
               exact absurd H (by simp)
             ·rw [if_neg c107] at H
              exact absurd H (by simp)
  ·rw [if_neg c4] at H
   exact absurd H (by simp)
 ·rw [if_neg c3] at H
  exact absurd H (by simp)

end Go.Proofs.YtlabfjaddgakkaaGreat.Q
end
section
namespace Go.Proofs.YtlabfjaddgakkaaGreat.Q
open Go.RowKit Go.Proofs.YtlabfjaddgakkaaGreatW.PrintWords Go.Proofs.YtlabfjaddgakkaaGreatW.PrintLast Go.Proofs.YtlabfjaddgakkaaGreatW.PrintMore Go.Proofs.YtlabfjaddgakkaaGreatW.OwnWords
attribute [local go_sem] Go.Proofs.YtlabfjaddgakkaaGreatW.OwnWords.isSome_setCell max2_int min2_int max_two min_two max_three min_three max_four min_four
set_option linter.unusedVariables false
set_option linter.unusedSimpArgs false

/-! ### token_read: function 62 -/
def token_read.l0 : Nat → ByteArray → List (S59) → Int → Option ((List (S59)) × Int × Bool)
 | 0, _, _, _ => none
 | k + 1, x0, x5, x6 => (token_skip.f k x0 x6).bind fun bt143 => (if bt143.2 = true then (if bt143.1 = (x0.size : Int) then (some (x5, 0, true)) else ((token_next.f k x0 bt143.1).bind fun bt145 => (if bt145.2.2.2.2 = true then (if x5.length < 3518437208883 then (token_read.l0 k x0 (x5 ++ [(⟨bt145.1, bt145.2.1, bt145.2.2.1⟩ : S59)]) bt145.2.2.2.1) else (none)) else (some (([] : List (S59)), bt143.1, false))))) else (some (([] : List (S59)), bt143.1, false)))
def token_read.f (k : Nat) (a0 : ByteArray) : Option ((List (S59)) × Int × Bool) := token_read.l0 k a0 ([] : List (S59)) 0
theorem token_read.mono_l : ∀ k, (∀ y0 y1 y2, LeO (token_read.l0 k y0 y1 y2) (token_read.l0 (k + 1) y0 y1 y2))
 | 0 => fun _ _ _ r h => by simp [token_read.l0] at h
 | k + 1 => by
  have ih0 := token_read.mono_l k
  ·intro y0 y1 y2
   unfold token_read.l0
   repeat' first
   | (with_reducible exact ih0 _ _ _)
   | (with_reducible exact token_next.mono _ _ _)
   | (with_reducible exact token_skip.mono _ _ _)
   | (with_reducible exact LeO.refl _)
   | (with_reducible exact LeO.none _)
   | (with_reducible refine LeO.ite ?_ ?_)
   | (with_reducible refine LeO.bind ?_ (fun _ => ?_))
   | exact ih0 _ _ _
   | exact token_next.mono _ _ _
   | exact token_skip.mono _ _ _
   | exact LeO.none _
   | refine LeO.ite ?_ ?_
   | refine LeO.bind ?_ (fun _ => ?_)
theorem token_read.mono : ∀ a0 k, LeO (token_read.f k a0) (token_read.f (k + 1) a0) := by
 intro a0 k
 have ih0 := token_read.mono_l k
 unfold token_read.f
 repeat' first
   | (with_reducible exact ih0 _ _ _)
   | (with_reducible exact token_next.mono _ _ _)
   | (with_reducible exact token_skip.mono _ _ _)
   | (with_reducible exact LeO.refl _)
   | (with_reducible exact LeO.none _)
   | (with_reducible refine LeO.ite ?_ ?_)
   | (with_reducible refine LeO.bind ?_ (fun _ => ?_))
   | exact ih0 _ _ _
   | exact token_next.mono _ _ _
   | exact token_skip.mono _ _ _
   | exact LeO.none _
   | refine LeO.ite ?_ ?_
   | refine LeO.bind ?_ (fun _ => ?_)
set_option maxHeartbeats 8000000 in
set_option maxRecDepth 100000 in
theorem token_read.calls (k : Nat) (a0 : ByteArray) (r1 : List (S59)) (r2 : Int) (r3 : Bool) (w : World) (h : token_read.f k a0 = some (r1, r2, r3)) :
  Calls Tryz.prog 62 #[.string a0] w fun e w' => ∃ v0_ : Value, e = .returned (.tuple #[v0_, .int .i64 r2, .bool r3]) ∧ Kd.R k59 59 w' w.heap.size (fun _ => True) v0_ r1 ∧ Below w.heap.size w w' := by
 have hu59 := Tryz.underlying59
 have HB := Aside0.mk (Below.refl w.heap.size w)
 have H : (token_read.l0 k a0 ([] : List (S59)) 0) = some (r1, r2, r3) := h
 clear h
 have H' := Aside0.mk H
 clear H
 go_enter Tryz.func62, Tryz.ntmps62
 go_wp2
 go_loopg [5, 6] k (fun kq v5 v6 w' => ∃ (x5_1 : List (S59)) (x6_1 : Int), v6 = .int .i64 x6_1 ∧ Aside0 (token_read.l0 kq a0 x5_1 x6_1 = some (r1, r2, r3)) ∧ Aside0 (kq ≤ k) ∧ Aside0 (Kd.R k59 59 w' w.heap.size (fun _ => True) v5 x5_1) ∧ Aside0 (Below w.heap.size w w'))
 case atStart => exact ⟨(([] : List (S59))), (0), (by first | rfl | (simp; done) | (simp [*]; done)), H', ⟨Nat.le_refl _⟩, ⟨by first | exact Kd.R_nil _ _ _ _ _ | exact Kd.N_nil _ _ _ _ _ | exact Kd.V_nil _ _ _ _ _ | exact Kd.Q_nil _ _ _ _ _ | exact Kd.S_nil _ _ _ _ _⟩, ⟨bSt_⟩⟩
 case round =>
  clear H'
  obtain ⟨x5_1, x6_1, rfl, HA, HK1, HO_5, HB⟩ := hrel
  cases gk with
  | zero => exact absurd HA.out (by simp [token_read.l0])
  | succ k1 =>
   have H := HA.out
   clear HA
   simp only [token_read.l0] at H
   replace H := Option.bind_eq_some_iff.mp H
   obtain ⟨⟨t143, t144⟩, A20, H⟩ := H
   replace H : (if t144 = true then (if t143 = (a0.size : Int) then (some (x5_1, 0, true)) else ((token_next.f k1 a0 t143).bind fun bt145 => (if bt145.2.2.2.2 = true then (if x5_1.length < 3518437208883 then (token_read.l0 k1 a0 (x5_1 ++ [(⟨bt145.1, bt145.2.1, bt145.2.2.1⟩ : S59)]) bt145.2.2.2.1) else (none)) else (some (([] : List (S59)), t143, false))))) else (some (([] : List (S59)), t143, false))) = some (r1, r2, r3) := H
   have A2 := Aside0.mk A20
   clear A20
   by_cases c3 : t144 = true
   ·subst c3
    have H1 : (if t143 = (a0.size : Int) then (some (x5_1, 0, true)) else ((token_next.f k1 a0 t143).bind fun bt145 => (if bt145.2.2.2.2 = true then (if x5_1.length < 3518437208883 then (token_read.l0 k1 a0 (x5_1 ++ [(⟨bt145.1, bt145.2.1, bt145.2.2.1⟩ : S59)]) bt145.2.2.2.1) else (none)) else (some (([] : List (S59)), t143, false))))) = some (r1, r2, r3) := by rw [if_pos rfl] at H; exact H
    clear H
    have H := H1
    clear H1
    by_cases c4 : t143 = (a0.size : Int)
    ·rw [if_pos c4] at H
     have c4b0 : (t143 == (a0.size : Int)) = true := beq_iff_eq.mpr c4
     have c4b1 : (t143 != (a0.size : Int)) = false := bne_eq_false_iff_eq.mpr c4
     clear c4
     simp only [Option.some.injEq, Prod.mk.injEq] at H
     obtain ⟨rfl, rfl, rfl⟩ := H
     go_wp2_with (first | ((with_reducible refine gate_callee (f := 107) rfl ?_); refine goesL_ (some 15) rfl rfl Tryz.func107 (by kernel_rfl) rfl #[.string a0, .int .i64 x6_1] rfl (by (try simp only [List.map_toArray, List.map_cons, List.map_nil]); first | done | rfl | (simp only [List.length_drop, List.length_take]; rfl)) ?_; (with_reducible refine (token_skip.calls k1 a0 x6_1 t143 true _ A2.out).mono ?_); rintro e w5 ⟨rfl, hb⟩; refine ⟨_, rfl, ?_⟩; have n0_ := Aside0.mk (Kd.R_below (by (with_reducible repeat (first | apply Kd.R_alloc | apply Kd.R_drewN | apply Kd.R_drew)); exact HO_5.out) hb); have n1_ := Aside0.mk (below_step bSt_ hb); clear HO_5; clear HB; have HO_5 := n0_; have HB := n1_; clear n0_ n1_; (try clear hb); (try clear hb2); (try clear hk); (try clear hi)))
     go_ret3
     exact ⟨_, by first | rfl | (simp [errW_none, errW_some] <;> rfl) | (simp [*, errW_none, errW_some] <;> rfl) | (simp [errW_none, errW_some]; exact Go.Proofs.YtlabfjaddgakkaaGreatW.OwnWords.isEmpty_bne _), by (with_reducible repeat (first | apply Kd.R_alloc | apply Kd.R_drewN | apply Kd.R_drew)); exact HO_5.out, bSt_⟩
    ·rw [if_neg c4] at H
     have c4b0 : (t143 == (a0.size : Int)) = false := beq_eq_false_iff_ne.mpr c4
     have c4b1 : (t143 != (a0.size : Int)) = true := bne_iff_ne.mpr c4
     replace H := Option.bind_eq_some_iff.mp H
     obtain ⟨⟨t145, t146, t147, t148, t149⟩, A60, H⟩ := H
     replace H : (if t149 = true then (if x5_1.length < 3518437208883 then (token_read.l0 k1 a0 (x5_1 ++ [(⟨t145, t146, t147⟩ : S59)]) t148) else (none)) else (some (([] : List (S59)), t143, false))) = some (r1, r2, r3) := H
     have A6 := Aside0.mk A60
     clear A60
     by_cases c7 : t149 = true
     ·subst c7
      have H1 : (if x5_1.length < 3518437208883 then (token_read.l0 k1 a0 (x5_1 ++ [(⟨t145, t146, t147⟩ : S59)]) t148) else (none)) = some (r1, r2, r3) := by rw [if_pos rfl] at H; exact H
      clear H
      have H := H1
      clear H1
      by_cases c8 : x5_1.length < 3518437208883
      ·rw [if_pos c8] at H
       have LMc8 := Aside0.mk c8
       clear c8
       obtain ⟨y151, hy151⟩ : ∃ y_ : List (S59), y_ = (x5_1 ++ [(⟨t145, t146, t147⟩ : S59)]) := ⟨_, rfl⟩
       replace H : (token_read.l0 k1 a0 y151 t148) = some (r1, r2, r3) := by first | (rw [hy151]; with_reducible exact H) | (have H2_ := (Option.bind_some _ _).symm.trans H; rw [hy151]; with_reducible exact H2_) | (have H2_ := (Option.bind_some _ _).symm.trans H; with_reducible exact H2_) | with_reducible exact H | (rw [hy151]; exact H) | exact H
       have Ny151 := Aside0.mk hy151
       clear hy151
       have H' := Aside0.mk H
       clear H
       go_wp2_with (first | ((with_reducible refine gate_callee (f := 107) rfl ?_); refine goesL_ (some 15) rfl rfl Tryz.func107 (by kernel_rfl) rfl #[.string a0, .int .i64 x6_1] rfl (by (try simp only [List.map_toArray, List.map_cons, List.map_nil]); first | done | rfl | (simp only [List.length_drop, List.length_take]; rfl)) ?_; (with_reducible refine (token_skip.calls k1 a0 x6_1 t143 true _ A2.out).mono ?_); rintro e w9 ⟨rfl, hb⟩; refine ⟨_, rfl, ?_⟩; have n0_ := Aside0.mk (Kd.R_below (by (with_reducible repeat (first | apply Kd.R_alloc | apply Kd.R_drewN | apply Kd.R_drew)); exact HO_5.out) hb); have n1_ := Aside0.mk (below_step bSt_ hb); clear HO_5; clear HB; have HO_5 := n0_; have HB := n1_; clear n0_ n1_; (try clear hb); (try clear hb2); (try clear hk); (try clear hi)) | ((with_reducible refine gate_callee (f := 108) rfl ?_); refine goesL_ (some 29) rfl rfl Tryz.func108 (by kernel_rfl) rfl #[.string a0, .int .i64 t143] rfl (by (try simp only [List.map_toArray, List.map_cons, List.map_nil]); first | done | rfl | (simp only [List.length_drop, List.length_take]; rfl)) ?_; (with_reducible refine (token_next.calls k1 a0 t143 t145 t146 t147 t148 true _ A6.out).mono ?_); rintro e w10 ⟨rfl, hb⟩; refine ⟨_, rfl, ?_⟩; have n0_ := Aside0.mk (Kd.R_below (by (with_reducible repeat (first | apply Kd.R_alloc | apply Kd.R_drewN | apply Kd.R_drew)); exact HO_5.out) hb); have n1_ := Aside0.mk (below_step bSt_ hb); clear HO_5; clear HB; have HO_5 := n0_; have HB := n1_; clear n0_ n1_; (try clear hb); (try clear hb2); (try clear hk); (try clear hi)) | ((with_reducible refine gate_dst (N := 9) rfl ?_); refine box_event ?hg (N := 9) ?hd (cs := #[.string (⟨#[]⟩ : ByteArray), .string (⟨#[]⟩ : ByteArray), .int .i64 0]) (t := 59) ?hr ?_; (case hd => rfl); (case hg => rfl); (case hr => first | (go_simp; done) | (go_simp; rfl)); intro gb150 hg w11 hbox hb; have n0_ := Aside0.mk (Kd.R_below (Kd.R_elderB (by (with_reducible repeat (first | apply Kd.R_alloc | apply Kd.R_drewN | apply Kd.R_drew)); exact HO_5.out) gb150 (Nat.le_of_eq hg.symm)) hb); have n1_ := Aside0.mk (below_step bSt_ hb); have n2_ := Aside0.mk (hbox); have n3_ := Aside0.mk ((by rw [hg]; exact (below_size bSt_) : w.heap.size ≤ gb150)); have n4_ := Aside0.mk ((by rw [hg]; exact (below_size bSt_) : w.heap.size ≤ gb150)); clear HO_5; clear HB; have HO_5 := n0_; have HB := n1_; have BK150 := n2_; have GW150 := n3_; have GE150 := n4_; clear n0_ n1_ n2_ n3_ n4_; clear hb hbox hg; have hcz12_0 : w11.cell? ⟨gb150, 0, none⟩ = some (.string (⟨#[]⟩ : ByteArray)) := (blk_cell BK150.out 0).trans rfl; have hcz12_1 : w11.cell? ⟨gb150, 1, none⟩ = some (.string (⟨#[]⟩ : ByteArray)) := (blk_cell BK150.out 1).trans rfl; have hcz12_2 : w11.cell? ⟨gb150, 2, none⟩ = some (.int .i64 0) := (blk_cell BK150.out 2).trans rfl; have hfz12_0 := blk_frozen BK150.out 0; have hfz12_1 := blk_frozen BK150.out 1; have hfz12_2 := blk_frozen BK150.out 2) | ((with_reducible refine gate_builtin (b := .append) (xs := #[.tmp 36, .tmp 38]) rfl ?_); at_builtin; refine Kd.R_append k59 (w0 := w) w.heap.size rfl (.tmp 36) (.tmp 38) 36 59 (.agg #[(.string ⟨#[]⟩), (.string ⟨#[]⟩), (.int .i64 0)]) 40 rfl Tryz.underlying36 info59 rfl (by decide) (by omega) u5 x5_1 (⟨t145, t146, t147⟩ : S59) [.string t145, .string t146, .int .i64 t147] (fun k_ => k_ ≠ gb150) (fun _ => False) rfl (by first | (go_simp; done) | (go_simp; rfl)) ?aP (fun _ hk => hk.elim) ?aF ?aO ?aB ?aS ?aL ?_; (case aP => exact k59_mkM _ _ _ (⟨t145, t146, t147⟩ : S59)); (case aB => exact bSt_); (case aF => exact (fun k_ hk => Kd.freshB (g := gb150) (o := .cells #[.string t145, .string t146, .int .i64 t147] 59 (0, 0)) (bKq_ BK150.out) k_ hk)); (case aO => exact (by (with_reducible repeat (first | apply Kd.R_alloc | apply Kd.R_drewN | apply Kd.R_drew)); exact Kd.R_mono (Kd.R_far (p := ⟨gb150, 2, none⟩) (Kd.R_far (p := ⟨gb150, 1, none⟩) (Kd.R_far (p := ⟨gb150, 0, none⟩) (Kd.R_mono HO_5.out (fun k_ hk => (⟨hk, hk.2⟩ : _ ∧ k_ ≠ gb150))) (fun _ hk => hk.2) (.string t145)) (fun _ hk => hk.2) (.string t146)) (fun _ hk => hk.2) (.int .i64 t147)) (fun _ hk => hk.1.2))); (case aS => exact (below_size bSt_)); (case aL => have := LMc8.out; omega); intro v152 w13 ho hb hg hat; rw [← Ny151.out] at ho; have n0_ := Aside0.mk (blk_grown (g := gb150) (o := .cells #[.string t145, .string t146, .int .i64 t147] 59 (0, 0)) (bKq_ BK150.out) hg (Kd.R_away HO_5.out (fun _ hk => hk.2))); have n1_ := Aside0.mk (hb); have n2_ := Aside0.mk (ho); clear BK150; clear HB; clear HO_5; have BK150 := n0_; have HB := n1_; have HO153 := n2_; clear n0_ n1_ n2_; clear ho hb hg hat))
       go_roundg k1
       case measure => have := HK1.out; omega
       case rel => exact ⟨(y151), (t148), (by first | rfl | (simp; done) | (simp [*]; done)), H', ⟨by have := HK1.out; omega⟩, ⟨by (with_reducible repeat (first | apply Kd.R_alloc | apply Kd.R_drewN | apply Kd.R_drew)); exact Kd.R_mono HO153.out (fun _ hk => trivial)⟩, ⟨bSt_⟩⟩
      ·rw [if_neg c8] at H
       exact absurd H (by simp)
     ·replace c7 := Bool.eq_false_iff.mpr c7
      subst c7
      have H1 : (some (([] : List (S59)), t143, false)) = some (r1, r2, r3) := by rw [if_neg (show ¬ (false = true) by decide)] at H; exact H
      clear H
      have H := H1
      clear H1
      simp only [Option.some.injEq, Prod.mk.injEq] at H
      obtain ⟨rfl, rfl, rfl⟩ := H
      go_wp2_with (first | ((with_reducible refine gate_callee (f := 107) rfl ?_); refine goesL_ (some 15) rfl rfl Tryz.func107 (by kernel_rfl) rfl #[.string a0, .int .i64 x6_1] rfl (by (try simp only [List.map_toArray, List.map_cons, List.map_nil]); first | done | rfl | (simp only [List.length_drop, List.length_take]; rfl)) ?_; (with_reducible refine (token_skip.calls k1 a0 x6_1 t143 true _ A2.out).mono ?_); rintro e w14 ⟨rfl, hb⟩; refine ⟨_, rfl, ?_⟩; have n0_ := Aside0.mk (Kd.R_below (by (with_reducible repeat (first | apply Kd.R_alloc | apply Kd.R_drewN | apply Kd.R_drew)); exact HO_5.out) hb); have n1_ := Aside0.mk (below_step bSt_ hb); clear HO_5; clear HB; have HO_5 := n0_; have HB := n1_; clear n0_ n1_; (try clear hb); (try clear hb2); (try clear hk); (try clear hi)) | ((with_reducible refine gate_callee (f := 108) rfl ?_); refine goesL_ (some 29) rfl rfl Tryz.func108 (by kernel_rfl) rfl #[.string a0, .int .i64 t143] rfl (by (try simp only [List.map_toArray, List.map_cons, List.map_nil]); first | done | rfl | (simp only [List.length_drop, List.length_take]; rfl)) ?_; (with_reducible refine (token_next.calls k1 a0 t143 t145 t146 t147 t148 false _ A6.out).mono ?_); rintro e w15 ⟨rfl, hb⟩; refine ⟨_, rfl, ?_⟩; have n0_ := Aside0.mk (Kd.R_below (by (with_reducible repeat (first | apply Kd.R_alloc | apply Kd.R_drewN | apply Kd.R_drew)); exact HO_5.out) hb); have n1_ := Aside0.mk (below_step bSt_ hb); clear HO_5; clear HB; have HO_5 := n0_; have HB := n1_; clear n0_ n1_; (try clear hb); (try clear hb2); (try clear hk); (try clear hi)) | ((with_reducible refine gate_dst (N := 9) rfl ?_); refine box_event ?hg (N := 9) ?hd (cs := #[.string (⟨#[]⟩ : ByteArray), .string (⟨#[]⟩ : ByteArray), .int .i64 0]) (t := 59) ?hr ?_; (case hd => rfl); (case hg => rfl); (case hr => first | (go_simp; done) | (go_simp; rfl)); intro gb150 hg w16 hbox hb; have n0_ := Aside0.mk (Kd.R_below (Kd.R_elderB (by (with_reducible repeat (first | apply Kd.R_alloc | apply Kd.R_drewN | apply Kd.R_drew)); exact HO_5.out) gb150 (Nat.le_of_eq hg.symm)) hb); have n1_ := Aside0.mk (below_step bSt_ hb); have n2_ := Aside0.mk (hbox); have n3_ := Aside0.mk ((by rw [hg]; exact (below_size bSt_) : w.heap.size ≤ gb150)); have n4_ := Aside0.mk ((by rw [hg]; exact (below_size bSt_) : w.heap.size ≤ gb150)); clear HO_5; clear HB; have HO_5 := n0_; have HB := n1_; have BK150 := n2_; have GW150 := n3_; have GE150 := n4_; clear n0_ n1_ n2_ n3_ n4_; clear hb hbox hg; have hcz17_0 : w16.cell? ⟨gb150, 0, none⟩ = some (.string (⟨#[]⟩ : ByteArray)) := (blk_cell BK150.out 0).trans rfl; have hcz17_1 : w16.cell? ⟨gb150, 1, none⟩ = some (.string (⟨#[]⟩ : ByteArray)) := (blk_cell BK150.out 1).trans rfl; have hcz17_2 : w16.cell? ⟨gb150, 2, none⟩ = some (.int .i64 0) := (blk_cell BK150.out 2).trans rfl; have hfz17_0 := blk_frozen BK150.out 0; have hfz17_1 := blk_frozen BK150.out 1; have hfz17_2 := blk_frozen BK150.out 2))
      go_ret3
      exact ⟨_, by first | rfl | (simp [errW_none, errW_some] <;> rfl) | (simp [*, errW_none, errW_some] <;> rfl) | (simp [errW_none, errW_some]; exact Go.Proofs.YtlabfjaddgakkaaGreatW.OwnWords.isEmpty_bne _), by first | exact Kd.R_nil _ _ _ _ _ | exact Kd.N_nil _ _ _ _ _ | exact Kd.V_nil _ _ _ _ _ | exact Kd.Q_nil _ _ _ _ _ | exact Kd.S_nil _ _ _ _ _, bSt_⟩
   ·replace c3 := Bool.eq_false_iff.mpr c3
    subst c3
    have H1 : (some (([] : List (S59)), t143, false)) = some (r1, r2, r3) := by rw [if_neg (show ¬ (false = true) by decide)] at H; exact H
    clear H
    have H := H1
    clear H1
    simp only [Option.some.injEq, Prod.mk.injEq] at H
    obtain ⟨rfl, rfl, rfl⟩ := H
    go_wp2_with (first | ((with_reducible refine gate_callee (f := 107) rfl ?_); refine goesL_ (some 15) rfl rfl Tryz.func107 (by kernel_rfl) rfl #[.string a0, .int .i64 x6_1] rfl (by (try simp only [List.map_toArray, List.map_cons, List.map_nil]); first | done | rfl | (simp only [List.length_drop, List.length_take]; rfl)) ?_; (with_reducible refine (token_skip.calls k1 a0 x6_1 t143 false _ A2.out).mono ?_); rintro e w18 ⟨rfl, hb⟩; refine ⟨_, rfl, ?_⟩; have n0_ := Aside0.mk (Kd.R_below (by (with_reducible repeat (first | apply Kd.R_alloc | apply Kd.R_drewN | apply Kd.R_drew)); exact HO_5.out) hb); have n1_ := Aside0.mk (below_step bSt_ hb); clear HO_5; clear HB; have HO_5 := n0_; have HB := n1_; clear n0_ n1_; (try clear hb); (try clear hb2); (try clear hk); (try clear hi)))
    go_ret3
    exact ⟨_, by first | rfl | (simp [errW_none, errW_some] <;> rfl) | (simp [*, errW_none, errW_some] <;> rfl) | (simp [errW_none, errW_some]; exact Go.Proofs.YtlabfjaddgakkaaGreatW.OwnWords.isEmpty_bne _), by first | exact Kd.R_nil _ _ _ _ _ | exact Kd.N_nil _ _ _ _ _ | exact Kd.V_nil _ _ _ _ _ | exact Kd.Q_nil _ _ _ _ _ | exact Kd.S_nil _ _ _ _ _, bSt_⟩

end Go.Proofs.YtlabfjaddgakkaaGreat.Q
end
section
namespace Go.Proofs.YtlabfjaddgakkaaGreat.Q
open Go.RowKit Go.Proofs.YtlabfjaddgakkaaGreatW.PrintWords Go.Proofs.YtlabfjaddgakkaaGreatW.PrintLast Go.Proofs.YtlabfjaddgakkaaGreatW.PrintMore Go.Proofs.YtlabfjaddgakkaaGreatW.OwnWords
attribute [local go_sem] Go.Proofs.YtlabfjaddgakkaaGreatW.OwnWords.isSome_setCell max2_int min2_int max_two min_two max_three min_three max_four min_four
set_option linter.unusedVariables false
set_option linter.unusedSimpArgs false

/-! ### token_Tokens: function 38 -/
def token_Tokens.f (k : Nat) (a0 : ByteArray) : Option ((List (S59)) × Int) := if (a0.size : Int) > 20000 then (some (([] : List (S59)), 4)) else ((token_read.f k a0).bind fun bt154 => (if bt154.2.2 = true then (some (bt154.1, 0)) else (some (([] : List (S59)), 10))))
theorem token_Tokens.mono : ∀ a0 k, LeO (token_Tokens.f k a0) (token_Tokens.f (k + 1) a0) := by
 intro a0 k
 unfold token_Tokens.f
 repeat' first
   | (with_reducible exact token_read.mono _ _)
   | (with_reducible exact LeO.refl _)
   | (with_reducible exact LeO.none _)
   | (with_reducible refine LeO.ite ?_ ?_)
   | (with_reducible refine LeO.bind ?_ (fun _ => ?_))
   | exact token_read.mono _ _
   | exact LeO.none _
   | refine LeO.ite ?_ ?_
   | refine LeO.bind ?_ (fun _ => ?_)
set_option maxHeartbeats 8000000 in
set_option maxRecDepth 100000 in
theorem token_Tokens.calls (k : Nat) (a0 : ByteArray) (r1 : List (S59)) (r2 : Int) (w : World) (h : token_Tokens.f k a0 = some (r1, r2)) :
  Calls Tryz.prog 38 #[.string a0] w fun e w' => ∃ v0_ : Value, e = .returned (.tuple #[v0_, .int .i64 r2]) ∧ Kd.R k59 59 w' w.heap.size (fun _ => True) v0_ r1 ∧ Below w.heap.size w w' := by
 have HB := Aside0.mk (Below.refl w.heap.size w)
 have H : (if (a0.size : Int) > 20000 then (some (([] : List (S59)), 4)) else ((token_read.f k a0).bind fun bt154 => (if bt154.2.2 = true then (some (bt154.1, 0)) else (some (([] : List (S59)), 10))))) = some (r1, r2) := h
 clear h
 by_cases c2 : (a0.size : Int) > 20000
 ·rw [if_pos c2] at H
  have c2b0 : decide (20000 < (a0.size : Int)) = true := decide_eq_true c2
  have c2b1 : decide (20000 < a0.size) = true := decide_eq_true (by omega)
  clear c2
  simp only [Option.some.injEq, Prod.mk.injEq] at H
  obtain ⟨rfl, rfl⟩ := H
  go_enter Tryz.func38, Tryz.ntmps38
  go_wp2
  go_ret2
  exact ⟨_, by first | rfl | (simp [errW_none, errW_some] <;> rfl) | (simp [*, errW_none, errW_some] <;> rfl) | (simp [errW_none, errW_some]; exact Go.Proofs.YtlabfjaddgakkaaGreatW.OwnWords.isEmpty_bne _), by first | exact Kd.R_nil _ _ _ _ _ | exact Kd.N_nil _ _ _ _ _ | exact Kd.V_nil _ _ _ _ _ | exact Kd.Q_nil _ _ _ _ _ | exact Kd.S_nil _ _ _ _ _, bSt_⟩
 ·rw [if_neg c2] at H
  have c2b0 : decide (20000 < (a0.size : Int)) = false := decide_eq_false c2
  have c2b1 : decide (20000 < a0.size) = false := decide_eq_false (by omega)
  clear c2
  replace H := Option.bind_eq_some_iff.mp H
  obtain ⟨⟨t154, t155, t156⟩, A30, H⟩ := H
  replace H : (if t156 = true then (some (t154, 0)) else (some (([] : List (S59)), 10))) = some (r1, r2) := H
  have A3 := Aside0.mk A30
  clear A30
  by_cases c4 : t156 = true
  ·subst c4
   have H1 : (some (t154, 0)) = some (r1, r2) := by rw [if_pos rfl] at H; exact H
   clear H
   have H := H1
   clear H1
   simp only [Option.some.injEq, Prod.mk.injEq] at H
   obtain ⟨rfl, rfl⟩ := H
   go_enter Tryz.func38, Tryz.ntmps38
   go_wp2_with (first | ((with_reducible refine gate_callee (f := 62) rfl ?_); refine goesL_ (some 12) rfl rfl Tryz.func62 (by kernel_rfl) rfl #[.string a0] rfl (by (try simp only [List.map_toArray, List.map_cons, List.map_nil]); first | done | rfl | (simp only [List.length_drop, List.length_take]; rfl)) ?_; (with_reducible refine (token_read.calls k a0 t154 t155 true _ A3.out).mono ?_); rintro e w5 ⟨v157, rfl, ho0, hb⟩; refine ⟨_, rfl, ?_⟩; have n0_ := Aside0.mk (Kd.R_lower ho0 (below_size bSt_)); have n1_ := Aside0.mk (below_step bSt_ hb); clear HB; have HO158 := n0_; have HB := n1_; clear n0_ n1_; (try clear hb); (try clear hb2); (try clear hk); (try clear hi); (try clear ho0)))
   go_ret2
   exact ⟨_, by first | rfl | (simp [errW_none, errW_some] <;> rfl) | (simp [*, errW_none, errW_some] <;> rfl) | (simp [errW_none, errW_some]; exact Go.Proofs.YtlabfjaddgakkaaGreatW.OwnWords.isEmpty_bne _), by (with_reducible repeat (first | apply Kd.R_alloc | apply Kd.R_drewN | apply Kd.R_drew)); exact HO158.out, bSt_⟩
  ·replace c4 := Bool.eq_false_iff.mpr c4
   subst c4
   have H1 : (some (([] : List (S59)), 10)) = some (r1, r2) := by rw [if_neg (show ¬ (false = true) by decide)] at H; exact H
   clear H
   have H := H1
   clear H1
   simp only [Option.some.injEq, Prod.mk.injEq] at H
   obtain ⟨rfl, rfl⟩ := H
   go_enter Tryz.func38, Tryz.ntmps38
   go_wp2_with (first | ((with_reducible refine gate_callee (f := 62) rfl ?_); refine goesL_ (some 12) rfl rfl Tryz.func62 (by kernel_rfl) rfl #[.string a0] rfl (by (try simp only [List.map_toArray, List.map_cons, List.map_nil]); first | done | rfl | (simp only [List.length_drop, List.length_take]; rfl)) ?_; (with_reducible refine (token_read.calls k a0 t154 t155 false _ A3.out).mono ?_); rintro e w6 ⟨v157, rfl, ho0, hb⟩; refine ⟨_, rfl, ?_⟩; have n0_ := Aside0.mk (Kd.R_lower ho0 (below_size bSt_)); have n1_ := Aside0.mk (below_step bSt_ hb); clear HB; have HO158 := n0_; have HB := n1_; clear n0_ n1_; (try clear hb); (try clear hb2); (try clear hk); (try clear hi); (try clear ho0)))
   go_ret2
   exact ⟨_, by first | rfl | (simp [errW_none, errW_some] <;> rfl) | (simp [*, errW_none, errW_some] <;> rfl) | (simp [errW_none, errW_some]; exact Go.Proofs.YtlabfjaddgakkaaGreatW.OwnWords.isEmpty_bne _), by first | exact Kd.R_nil _ _ _ _ _ | exact Kd.N_nil _ _ _ _ _ | exact Kd.V_nil _ _ _ _ _ | exact Kd.Q_nil _ _ _ _ _ | exact Kd.S_nil _ _ _ _ _, bSt_⟩

end Go.Proofs.YtlabfjaddgakkaaGreat.Q
end
section
/-! tree.Parse at awake's text. -/
namespace Go.Proofs.YtlabfjaddgakkaaGreat.Need
set_option linter.unusedVariables false
set_option linter.unusedSimpArgs false
open Go.RowKit Go.Proofs.YtlabfjaddgakkaaGreatW.PrintWords Go.Proofs.YtlabfjaddgakkaaGreatW.PrintLast Go.Proofs.YtlabfjaddgakkaaGreatW.PrintMore Go.Proofs.YtlabfjaddgakkaaGreat.Q
theorem kb_wide' {w w' : World} {p : Nat} (h : KB w w' p none) (l : Nat) : KB w w' p (some l) := ⟨h.1, fun i hi hg _ => h.2 i hi hg (by simp), h.3⟩
set_option maxHeartbeats 2000000 in
set_option maxRecDepth 100000 in
theorem size_walk (T : TT) (w : World) (ok : Nat → Prop) (A : Option Addr) (n c : Nat) (ht : Tr ok w T A n c) (hs : T.size ≤ 900) (m : Int) (hm : (T.size : Int) = m) :
    Calls Tryz.prog 28 #[.agg (Cs T A n c)] w (fun e w' => e = .returned (.int .i64 m) ∧ Below w.heap.size w w') := by
  have hb := below_alloc (below_alloc (Below.refl w.heap.size w) (.cells (Cs T A n c) 30 (0, 0))) (.cells #[.int .i64 0] 3 (0, 0))
  have H := Aside0.mk (And.intro (ht.below hb) (And.intro hb (two_new w (.cells (Cs T A n c) 30 (0, 0)) (.cells #[.int .i64 0] 3 (0, 0)))))
  have h0 := blk_alloc (blk_new w (.cells (Cs T A n c) 30 (0, 0))) (.cells #[.int .i64 0] 3 (0, 0))
  have x0 := (blk_cell h0 0).trans rfl
  have x1 := (blk_cell h0 1).trans rfl
  have x2 := (blk_cell h0 2).trans rfl
  have x3 := (blk_cell h0 3).trans rfl
  have HH := Aside0.mk hs
  clear ht hb h0 hs
  go_enter Tryz.func28, Tryz.ntmps28
  go_wp2_with (go_at_call 54; go_loud ((refine (count_walk T _ ok A n c (w.heap.size + 1) 0 H.out.1 H.out.2.2 (by decide) (by have := HH.out; omega)).mono ?_); rintro e w2 ⟨⟨r, rfl⟩, h1, h2⟩; have HB := Aside0.mk (KB.below H.out.2.1 (kb_wide' h2 (w.heap.size + 1)) (by omega) (by omega)); rw [Int.zero_add, hm] at h1; have y0 := (blk_cell h1 0).trans rfl; clear h1 h2 x0 x1 x2 x3))
  go_ret
  exact ⟨rfl, HB.out⟩
theorem depth3 : tree_Depth.f 60 tree3.d tree3.s 0 tree3.v.f3 = some 4 := by kernel_rfl
set_option maxHeartbeats 2000000 in
set_option maxRecDepth 100000 in
theorem within_walk (w : World) (ok : Nat → Prop) (A : Option Addr) (n c : Nat) (ht : Tr ok w tree3 A n c) :
    Calls Tryz.prog 40 #[.agg (Cs tree3 A n c)] w (fun e w' => e = .returned (.bool true) ∧ Below w.heap.size w w') := by
  have hb := below_alloc (Below.refl w.heap.size w) (.cells (Cs tree3 A n c) 30 (0, 0))
  have H := Aside0.mk (And.intro (ht.below hb) hb)
  have h0 := blk_new w (.cells (Cs tree3 A n c) 30 (0, 0))
  have HX := Aside0.mk h0
  have x0 := (blk_cell h0 0).trans rfl
  have x1 := (blk_cell h0 1).trans rfl
  have x2 := (blk_cell h0 2).trans rfl
  have x3 := (blk_cell h0 3).trans rfl
  have hn : n = 2 := ht.1
  subst hn
  clear ht hb h0
  go_enter Tryz.func40, Tryz.ntmps40
  go_wp2_with (first
    | (go_at_call 28; go_loud ((refine (size_walk tree3 _ ok A 2 c H.out.1 (by decide) 7 rfl).mono ?_); rintro e w2 ⟨rfl, hb⟩; have HB := Aside0.mk hb; have y0 := (blk_cell (blk_below HX.out hb) 0).trans rfl; have y1 := (blk_cell (blk_below HX.out hb) 1).trans rfl; have y2 := (blk_cell (blk_below HX.out hb) 2).trans rfl; have y3 := (blk_cell (blk_below HX.out hb) 3).trans rfl; clear hb x0 x1 x2 x3))
    | (go_at_call 30; go_loud ((refine (tree_Depth.calls 60 tree3.d tree3.s 0 A c tree3.v.f3 4 _ (H.out.1.below HB.out).C.2.2 (H.out.1.below HB.out).C.2.1 depth3).mono ?_); rintro e w3 ⟨rfl, hb⟩; have HB3 := Aside0.mk hb; clear hb)))
  go_ret
  exact ⟨rfl, below_then (below_then H.out.2 H.out.2.size HB.out) (Nat.le_trans H.out.2.size HB.out.size) HB3.out⟩
abbrev toks : List S59 := [⟨⟨#[105, 110, 116]⟩, ⟨#[49]⟩, 0⟩, ⟨⟨#[115, 105, 103, 110]⟩, ⟨#[43]⟩, 2⟩, ⟨⟨#[105, 110, 116]⟩, ⟨#[50]⟩, 4⟩, ⟨⟨#[115, 105, 103, 110]⟩, ⟨#[42]⟩, 6⟩, ⟨⟨#[105, 110, 116]⟩, ⟨#[51]⟩, 8⟩, ⟨⟨#[115, 105, 103, 110]⟩, ⟨#[61, 61]⟩, 10⟩, ⟨⟨#[105, 110, 116]⟩, ⟨#[55]⟩, 13⟩]
theorem tokens3 : token_Tokens.f 100 src = some (toks, 0) := by kernel_rfl
theorem take_drop {l : List Value} {k : Nat} : l.drop k = (l.drop k).take 3 ++ l.drop (k + 3) := by
  rw [← List.drop_drop, List.take_append_drop]
theorem flat_of {w : World} {base : Nat} {ok : Nat → Prop} {v : Value} (h : Kd.R k59 59 w base ok v toks) : w.ownsRow base 59 3 v 7 flat := by
  obtain ⟨-, inner, ho, hl, hr⟩ := h
  have e0 := k59_openM (hr 0 _ rfl)
  have e1 := k59_openM (hr 1 _ rfl)
  have e2 := k59_openM (hr 2 _ rfl)
  have e3 := k59_openM (hr 3 _ rfl)
  have e4 := k59_openM (hr 4 _ rfl)
  have e5 := k59_openM (hr 5 _ rfl)
  have e6 := k59_openM (hr 6 _ rfl)
  have z : k59.sz = 3 := rfl
  simp only [z, Nat.reduceMul] at e0 e1 e2 e3 e4 e5 e6 hl
  have h7 : inner.drop 21 = [] := List.drop_eq_nil_of_le (by rw [hl]; decide)
  have hi : inner = flat := by
    rw [← List.drop_zero (l := inner), take_drop (k := 0), take_drop (k := 0 + 3), take_drop (k := 0 + 3 + 3), take_drop (k := 0 + 3 + 3 + 3), take_drop (k := 0 + 3 + 3 + 3 + 3), take_drop (k := 0 + 3 + 3 + 3 + 3 + 3), take_drop (k := 0 + 3 + 3 + 3 + 3 + 3 + 3)]
    simp only [Nat.reduceAdd, e0, e1, e2, e3, e4, e5, e6, h7]
    rfl
  subst hi
  exact ho
set_option maxHeartbeats 2000000 in
set_option maxRecDepth 100000 in
theorem parse_walk (w : World) :
    Calls Tryz.prog 15 #[.string src] w (fun e w' => ∃ A n c, e = .returned (.tuple #[.agg (Cs tree3 A n c), .int .i64 0]) ∧ Tr (fun _ => True) w' tree3 A n c ∧ Below w.heap.size w w') := by
  have HG := Aside0.mk (blk_new w (.cells C0 30 (0, 0)))
  have HB0 := Aside0.mk (below_alloc (Below.refl w.heap.size w) (.cells C0 30 (0, 0)))
  go_enter Tryz.func15, Tryz.ntmps15
  go_wp2_with (first
    | (go_at_call 38; go_loud ((refine (token_Tokens.calls 100 src toks 0 _ tokens3).mono ?_); rintro e w2 ⟨v, rfl, hr, hb⟩; have hf := flat_of hr; obtain ⟨g, cp, rfl, -, -⟩ := own_slice (n := 6) hf; have HF := Aside0.mk hf; have HB := Aside0.mk (below_then HB0.out HB0.out.size hb); have HG2 := Aside0.mk (blk_below HG.out hb); clear hb hr hf))
    | (go_at_call 39; go_loud ((refine (read_walk _ g cp (own_weak HF.out (Nat.zero_le _))).mono ?_); rintro e w3 ⟨A, n, c, rfl, ht, hb⟩; have hn : n = 2 := ht.1; subst hn; have HB3 := Aside0.mk (below_alloc (below_then HB.out HB.out.size hb) (.cells (Cs tree3 A 2 c) 30 (0, 0))); have HG3 := Aside0.mk (blk_alloc (blk_below HG2.out hb) (.cells (Cs tree3 A 2 c) 30 (0, 0))); have HS3 := Aside0.mk (Nat.lt_of_lt_of_le (blk_lt HG2.out) (Nat.le_refl _)); have HT := Aside0.mk (ht.below (below_alloc (Below.refl w3.heap.size w3) (.cells (Cs tree3 A 2 c) 30 (0, 0)))); have hx := blk_new w3 (.cells (Cs tree3 A 2 c) 30 (0, 0)); have HX := Aside0.mk hx; have x0 := (blk_cell hx 0).trans rfl; have x1 := (blk_cell hx 1).trans rfl; have x2 := (blk_cell hx 2).trans rfl; have x3 := (blk_cell hx 3).trans rfl; clear ht hb hx))
    | (go_at_call 40; go_loud ((refine (within_walk _ _ A 2 c HT.out).mono ?_); rintro e w4 ⟨rfl, hb⟩; have HB4 := Aside0.mk (below_then HB3.out HB3.out.size hb); have HG4 := Aside0.mk (blk_below HG3.out hb); have HT4 := Aside0.mk (HT.out.below hb); have xc0 := (blk_cell (blk_below HX.out hb) 0).trans rfl; have xc1 := (blk_cell (blk_below HX.out hb) 1).trans rfl; have xc2 := (blk_cell (blk_below HX.out hb) 2).trans rfl; have xc3 := (blk_cell (blk_below HX.out hb) 3).trans rfl; have zc0 := (blk_cell HG4.out 0).trans rfl; have zc1 := (blk_cell HG4.out 1).trans rfl; have zc2 := (blk_cell HG4.out 2).trans rfl; have zc3 := (blk_cell HG4.out 3).trans rfl; have zf0 := blk_frozen HG4.out 0; have zf1 := blk_frozen HG4.out 1; have zf2 := blk_frozen HG4.out 2; have zf3 := blk_frozen HG4.out 3; clear hb x0 x1 x2 x3)))
  refine bodyPost_ret (results_ct rfl _ _ w.heap.size 30 (Cs tree3 A 2 c) (0, 0) _ rfl (by (with_reducible repeat (first | refine blk_drewN ?_ _ | refine blk_drew ?_)); exact put4_blk HG4.out _ _ _ _) Tryz.underlying30 rfl (by kernel_rfl)) rfl ?_
  refine ⟨A, 2, c, rfl, (put4_tr HT4.out (fun q hq => by have : w2.heap.size ≤ q := hq; have := blk_lt HG2.out; omega) _ _ _ _).mono (fun _ _ _ => trivial), below_set (below_set (below_set (below_set HB4.out (Nat.le_refl _)) (Nat.le_refl _)) (Nat.le_refl _)) (Nat.le_refl _)⟩
end Go.Proofs.YtlabfjaddgakkaaGreat.Need
end
section
namespace Go.Proofs.YtlabfjaddgakkaaGreat.Q
open Go.RowKit Go.Proofs.YtlabfjaddgakkaaGreatW.PrintWords Go.Proofs.YtlabfjaddgakkaaGreatW.PrintLast Go.Proofs.YtlabfjaddgakkaaGreatW.PrintMore Go.Proofs.YtlabfjaddgakkaaGreatW.OwnWords
attribute [local go_sem] Go.Proofs.YtlabfjaddgakkaaGreatW.OwnWords.isSome_setCell max2_int min2_int max_two min_two max_three min_three max_four min_four
set_option linter.unusedVariables false
set_option linter.unusedSimpArgs false

/-! ### tree_leaf: function 70 -/
def tree_leaf.j0 : Nat → Bool → ByteArray → ByteArray → Int → List (S30) → Option (Bool)
 | 0, _, _, _, _, _ => none
 | k + 1, x11, x232000, x232001, x232002, x232003 => if x11 = true then (some false) else (if x232000.toList = ([118, 97, 114] : List UInt8) then ((token_IsVar.f k x232001).bind fun t232 => (some t232)) else (if x232000.toList = ([97, 116, 111, 109] : List UInt8) then ((tree_isAtom.f k x232001).bind fun t233 => (some t233)) else (if x232000.toList = ([105, 110, 116] : List UInt8) then ((token_Valid.f k (⟨#[105, 110, 116]⟩ : ByteArray) x232001 0).bind fun t234 => (some t234)) else (if x232000.toList = ([115, 116, 114] : List UInt8) then ((token_Valid.f k (⟨#[116, 101, 120, 116]⟩ : ByteArray) x232001 0).bind fun t235 => (some t235)) else (if x232000.toList = ([97, 110, 121] : List UInt8) then (some (x232001.toList == ([] : List UInt8))) else (if x232000.toList = ([115, 107, 105, 112] : List UInt8) then (some (x232001.toList == ([] : List UInt8))) else (some false)))))))
def tree_leaf.f (k : Nat) (a0_0 : ByteArray) (a0_1 : ByteArray) (a0_2 : Int) (l0_3 : List (S30)) : Option (Bool) := if a0_2 = 0 then (tree_leaf.j0 k ((l0_3.length : Int) != 0) a0_0 a0_1 a0_2 l0_3) else (tree_leaf.j0 k true a0_0 a0_1 a0_2 l0_3)
theorem tree_leaf.mono_l : ∀ k, (∀ y0 y1 y2 y3 y4, LeO (tree_leaf.j0 k y0 y1 y2 y3 y4) (tree_leaf.j0 (k + 1) y0 y1 y2 y3 y4))
 | 0 => fun _ _ _ _ _ r h => by simp [tree_leaf.j0] at h
 | k + 1 => by
  have ih0 := tree_leaf.mono_l k
  ·intro y0 y1 y2 y3 y4
   unfold tree_leaf.j0
   repeat' first
   | (with_reducible exact ih0 _ _ _ _ _)
   | (with_reducible exact token_IsVar.mono _ _)
   | (with_reducible exact token_Valid.mono _ _ _ _)
   | (with_reducible exact tree_isAtom.mono _ _)
   | (with_reducible exact LeO.refl _)
   | (with_reducible exact LeO.none _)
   | (with_reducible refine LeO.ite ?_ ?_)
   | (with_reducible refine LeO.bind ?_ (fun _ => ?_))
   | exact ih0 _ _ _ _ _
   | exact token_IsVar.mono _ _
   | exact token_Valid.mono _ _ _ _
   | exact tree_isAtom.mono _ _
   | exact LeO.none _
   | refine LeO.ite ?_ ?_
   | refine LeO.bind ?_ (fun _ => ?_)
theorem tree_leaf.mono : ∀ a0 a1 a2 a3 k, LeO (tree_leaf.f k a0 a1 a2 a3) (tree_leaf.f (k + 1) a0 a1 a2 a3) := by
 intro a0 a1 a2 a3 k
 have ih0 := tree_leaf.mono_l k
 unfold tree_leaf.f
 repeat' first
   | (with_reducible exact ih0 _ _ _ _ _)
   | (with_reducible exact token_IsVar.mono _ _)
   | (with_reducible exact token_Valid.mono _ _ _ _)
   | (with_reducible exact tree_isAtom.mono _ _)
   | (with_reducible exact LeO.refl _)
   | (with_reducible exact LeO.none _)
   | (with_reducible refine LeO.ite ?_ ?_)
   | (with_reducible refine LeO.bind ?_ (fun _ => ?_))
   | exact ih0 _ _ _ _ _
   | exact token_IsVar.mono _ _
   | exact token_Valid.mono _ _ _ _
   | exact tree_isAtom.mono _ _
   | exact LeO.none _
   | refine LeO.ite ?_ ?_
   | refine LeO.bind ?_ (fun _ => ?_)
set_option maxHeartbeats 8000000 in
set_option maxRecDepth 100000 in
theorem tree_leaf.calls (k : Nat) (a0_0 : ByteArray) (a0_1 : ByteArray) (a0_2 : Int) (A0_3 : Option Addr) (c0_3 : Nat) (l0_3 : List (S30)) (r : Bool) (w : World) (hr0_3 : Kd.C k30 w A0_3 l0_3.length l0_3) (hc0_3 : l0_3.length ≤ c0_3) (h : tree_leaf.f k a0_0 a0_1 a0_2 l0_3 = some r) :
  Calls Tryz.prog 70 #[.agg #[.string a0_0, .string a0_1, .int .i64 a0_2, .slice A0_3 l0_3.length c0_3]] w fun e w' => e = .returned (.bool r) ∧ Below w.heap.size w w' := by
 have hu30 := Tryz.underlying30
 have hu59 := Tryz.underlying59
 have HR0_3 := Aside0.mk hr0_3
 have HC0_3 := Aside0.mk hc0_3
 clear hr0_3 hc0_3
 have HB := Aside0.mk (Below.refl w.heap.size w)
 have H : (if a0_2 = 0 then (tree_leaf.j0 k ((l0_3.length : Int) != 0) a0_0 a0_1 a0_2 l0_3) else (tree_leaf.j0 k true a0_0 a0_1 a0_2 l0_3)) = some r := h
 clear h
 have HC2 := Aside0.mk H
 clear H
 go_enter Tryz.func70, Tryz.ntmps70
 go_upto_region 1 with (first | ((with_reducible refine gate_dst (N := 1) rfl ?_); (try (refine gate_guard (by rfl) ?_; dsimp only)); refine box_event ?hg (N := 1) ?hd (cs := #[.string a0_0, .string a0_1, .int .i64 a0_2, .slice A0_3 l0_3.length c0_3]) (t := 30) ?hr ?_; (case hd => rfl); (case hg => rfl); (case hr => first | (go_simp; done) | (go_simp; rfl)); intro gb231 hg w3 hbox hb; have n0_ := Aside0.mk (below_step bSt_ hb); have n1_ := Aside0.mk (hbox); have n2_ := Aside0.mk ((by rw [hg]; exact (below_size bSt_) : w.heap.size ≤ gb231)); have n3_ := Aside0.mk ((by rw [hg]; exact (below_size bSt_) : w.heap.size ≤ gb231)); clear HB; have HB := n0_; have BK231 := n1_; have GW231 := n2_; have GE231 := n3_; clear n0_ n1_ n2_ n3_; clear hb hbox hg))
 (try simp only [Act.put, List.setIfInBounds_toArray, List.set_cons_zero, List.set_cons_succ])
 go_cut [11] (fun v11 wc => ∃ (kq : Nat) (x11_1 : Bool), v11 = .bool x11_1 ∧ Aside0 (tree_leaf.j0 kq x11_1 a0_0 a0_1 a0_2 l0_3 = some r) ∧ Aside0 (kq ≤ k) ∧ Aside0 (wc.heap[gb231]? = some (.cells #[.string a0_0, .string a0_1, .int .i64 a0_2, (.slice A0_3 l0_3.length c0_3)] 30 (0, 0))) ∧ Aside0 (Below w.heap.size w wc))
 case first =>
  have H := HC2.out
  clear HC2
  by_cases c4 : a0_2 = 0
  ·rw [if_pos c4] at H
   have c4b0 : (a0_2 == 0) = true := beq_iff_eq.mpr c4
   have c4b1 : (a0_2 != 0) = false := bne_eq_false_iff_eq.mpr c4
   clear c4
   (first | rw [c4b0] | (simp only [i64_w, i32_w]; rw [c4b0]) | skip)
   have H' := Aside0.mk H
   clear H
   have hcz5_0 : w3.cell? ⟨gb231, 0, none⟩ = some (.string a0_0) := (blk_cell BK231.out 0).trans rfl
   have hcz5_1 : w3.cell? ⟨gb231, 1, none⟩ = some (.string a0_1) := (blk_cell BK231.out 1).trans rfl
   have hcz5_2 : w3.cell? ⟨gb231, 2, none⟩ = some (.int .i64 a0_2) := (blk_cell BK231.out 2).trans rfl
   have hcz5_3 : w3.cell? ⟨gb231, 3, none⟩ = some (.slice A0_3 l0_3.length c0_3) := (blk_cell BK231.out 3).trans rfl
   have hfz5_0 := blk_frozen BK231.out 0
   have hfz5_1 := blk_frozen BK231.out 1
   have hfz5_2 := blk_frozen BK231.out 2
   have hfz5_3 := blk_frozen BK231.out 3
   go_wp2
   go_meet
   case rel => exact ⟨_, (((l0_3.length : Int) != 0)), (by first | rfl | (simp; done) | (simp [*]; done)), H', ⟨by first | omega | exact Nat.le_refl _⟩, ⟨bKq_ BK231.out⟩, ⟨bSt_⟩⟩
  ·rw [if_neg c4] at H
   have c4b0 : (a0_2 == 0) = false := beq_eq_false_iff_ne.mpr c4
   have c4b1 : (a0_2 != 0) = true := bne_iff_ne.mpr c4
   (first | rw [c4b0] | (simp only [i64_w, i32_w]; rw [c4b0]) | skip)
   have H' := Aside0.mk H
   clear H
   have hcz6_0 : w3.cell? ⟨gb231, 0, none⟩ = some (.string a0_0) := (blk_cell BK231.out 0).trans rfl
   have hcz6_1 : w3.cell? ⟨gb231, 1, none⟩ = some (.string a0_1) := (blk_cell BK231.out 1).trans rfl
   have hcz6_2 : w3.cell? ⟨gb231, 2, none⟩ = some (.int .i64 a0_2) := (blk_cell BK231.out 2).trans rfl
   have hcz6_3 : w3.cell? ⟨gb231, 3, none⟩ = some (.slice A0_3 l0_3.length c0_3) := (blk_cell BK231.out 3).trans rfl
   have hfz6_0 := blk_frozen BK231.out 0
   have hfz6_1 := blk_frozen BK231.out 1
   have hfz6_2 := blk_frozen BK231.out 2
   have hfz6_3 := blk_frozen BK231.out 3
   go_wp2
   go_meet
   case rel => exact ⟨_, (true), (by first | rfl | (simp; done) | (simp [*]; done)), H', ⟨by first | omega | exact Nat.le_refl _⟩, ⟨bKq_ BK231.out⟩, ⟨bSt_⟩⟩
 case rest =>
  clear HC2
  try clear p2
  try clear c4
  try clear c4b0
  try clear c4b1
  try clear hcz5_0
  try clear hcz5_1
  try clear hcz5_2
  try clear hcz5_3
  try clear hcz6_0
  try clear hcz6_1
  try clear hcz6_2
  try clear hcz6_3
  try clear hfz5_0
  try clear hfz5_1
  try clear hfz5_2
  try clear hfz5_3
  try clear hfz6_0
  try clear hfz6_1
  try clear hfz6_2
  try clear hfz6_3
  obtain ⟨kq, x11_1, rfl, HA, HJ1, BK231, HB⟩ := hcut
  cases kq with
  | zero => exact absurd HA.out (by simp [tree_leaf.j0])
  | succ kj1 =>
   have H := HA.out
   clear HA
   simp only [tree_leaf.j0] at H
   by_cases c7 : x11_1 = true
   ·subst c7
    have H1 : (some false) = some r := by rw [if_pos rfl] at H; exact H
    clear H
    have H := H1
    clear H1
    obtain rfl := Option.some.inj H
    go_wp2
    go_ret
    exact ⟨by first | rfl | (simp [errW_none, errW_some] <;> rfl) | (simp [*, errW_none, errW_some] <;> rfl) | (simp [errW_none, errW_some]; exact Go.Proofs.YtlabfjaddgakkaaGreatW.OwnWords.isEmpty_bne _), bSt_⟩
   ·replace c7 := Bool.eq_false_iff.mpr c7
    subst c7
    have H1 : (if a0_0.toList = ([118, 97, 114] : List UInt8) then ((token_IsVar.f kj1 a0_1).bind fun t232 => (some t232)) else (if a0_0.toList = ([97, 116, 111, 109] : List UInt8) then ((tree_isAtom.f kj1 a0_1).bind fun t233 => (some t233)) else (if a0_0.toList = ([105, 110, 116] : List UInt8) then ((token_Valid.f kj1 (⟨#[105, 110, 116]⟩ : ByteArray) a0_1 0).bind fun t234 => (some t234)) else (if a0_0.toList = ([115, 116, 114] : List UInt8) then ((token_Valid.f kj1 (⟨#[116, 101, 120, 116]⟩ : ByteArray) a0_1 0).bind fun t235 => (some t235)) else (if a0_0.toList = ([97, 110, 121] : List UInt8) then (some (a0_1.toList == ([] : List UInt8))) else (if a0_0.toList = ([115, 107, 105, 112] : List UInt8) then (some (a0_1.toList == ([] : List UInt8))) else (some false))))))) = some r := by rw [if_neg (show ¬ (false = true) by decide)] at H; exact H
    clear H
    have H := H1
    clear H1
    by_cases c8 : a0_0.toList = ([118, 97, 114] : List UInt8)
    ·rw [if_pos c8] at H
     have c8b0 : (a0_0.toList == ([118, 97, 114] : List UInt8)) = true := beq_iff_eq.mpr c8
     have c8b1 : (a0_0.toList != ([118, 97, 114] : List UInt8)) = false := bne_eq_false_iff_eq.mpr c8
     clear c8
     replace H := Option.bind_eq_some_iff.mp H
     obtain ⟨t232, A90, H⟩ := H
     replace H : (some t232) = some r := H
     have A9 := Aside0.mk A90
     clear A90
     obtain rfl := Option.some.inj H
     have hcz10_0 : wc.cell? ⟨gb231, 0, none⟩ = some (.string a0_0) := (blk_cell BK231.out 0).trans rfl
     have hcz10_1 : wc.cell? ⟨gb231, 1, none⟩ = some (.string a0_1) := (blk_cell BK231.out 1).trans rfl
     have hcz10_2 : wc.cell? ⟨gb231, 2, none⟩ = some (.int .i64 a0_2) := (blk_cell BK231.out 2).trans rfl
     have hcz10_3 : wc.cell? ⟨gb231, 3, none⟩ = some (.slice A0_3 l0_3.length c0_3) := (blk_cell BK231.out 3).trans rfl
     have hfz10_0 := blk_frozen BK231.out 0
     have hfz10_1 := blk_frozen BK231.out 1
     have hfz10_2 := blk_frozen BK231.out 2
     have hfz10_3 := blk_frozen BK231.out 3
     go_wp2_with (first | ((with_reducible refine gate_callee (f := 122) rfl ?_); refine goesL_ (some 18) rfl rfl Tryz.func122 (by kernel_rfl) rfl #[.string a0_1] rfl (by (try simp only [List.map_toArray, List.map_cons, List.map_nil]); first | done | rfl | (simp only [List.length_drop, List.length_take]; rfl)) ?_; (with_reducible refine (token_IsVar.calls kj1 a0_1 t232 _ A9.out).mono ?_); rintro e w' ⟨rfl, ⟨nd, rfl⟩⟩; refine ⟨_, rfl, ?_⟩))
     go_ret
     exact ⟨by first | rfl | (simp [errW_none, errW_some] <;> rfl) | (simp [*, errW_none, errW_some] <;> rfl) | (simp [errW_none, errW_some]; exact Go.Proofs.YtlabfjaddgakkaaGreatW.OwnWords.isEmpty_bne _), bSt_⟩
    ·rw [if_neg c8] at H
     have c8b0 : (a0_0.toList == ([118, 97, 114] : List UInt8)) = false := beq_eq_false_iff_ne.mpr c8
     have c8b1 : (a0_0.toList != ([118, 97, 114] : List UInt8)) = true := bne_iff_ne.mpr c8
     by_cases c11 : a0_0.toList = ([97, 116, 111, 109] : List UInt8)
     ·rw [if_pos c11] at H
      have c11b0 : (a0_0.toList == ([97, 116, 111, 109] : List UInt8)) = true := beq_iff_eq.mpr c11
      have c11b1 : (a0_0.toList != ([97, 116, 111, 109] : List UInt8)) = false := bne_eq_false_iff_eq.mpr c11
      clear c11
      replace H := Option.bind_eq_some_iff.mp H
      obtain ⟨t233, A120, H⟩ := H
      replace H : (some t233) = some r := H
      have A12 := Aside0.mk A120
      clear A120
      obtain rfl := Option.some.inj H
      have hcz13_0 : wc.cell? ⟨gb231, 0, none⟩ = some (.string a0_0) := (blk_cell BK231.out 0).trans rfl
      have hcz13_1 : wc.cell? ⟨gb231, 1, none⟩ = some (.string a0_1) := (blk_cell BK231.out 1).trans rfl
      have hcz13_2 : wc.cell? ⟨gb231, 2, none⟩ = some (.int .i64 a0_2) := (blk_cell BK231.out 2).trans rfl
      have hcz13_3 : wc.cell? ⟨gb231, 3, none⟩ = some (.slice A0_3 l0_3.length c0_3) := (blk_cell BK231.out 3).trans rfl
      have hfz13_0 := blk_frozen BK231.out 0
      have hfz13_1 := blk_frozen BK231.out 1
      have hfz13_2 := blk_frozen BK231.out 2
      have hfz13_3 := blk_frozen BK231.out 3
      go_wp2_with (first | ((with_reducible refine gate_callee (f := 35) rfl ?_); refine goesL_ (some 23) rfl rfl Tryz.func35 (by kernel_rfl) rfl #[.string a0_1] rfl (by (try simp only [List.map_toArray, List.map_cons, List.map_nil]); first | done | rfl | (simp only [List.length_drop, List.length_take]; rfl)) ?_; (with_reducible refine (tree_isAtom.calls kj1 a0_1 t233 _ A12.out).mono ?_); rintro e w14 ⟨rfl, hb⟩; refine ⟨_, rfl, ?_⟩; have n0_ := Aside0.mk (blk_below (bKq_ BK231.out) hb); have n1_ := Aside0.mk (below_step bSt_ hb); clear BK231; clear HB; have BK231 := n0_; have HB := n1_; clear n0_ n1_; (try clear hb); (try clear hb2); (try clear hk); (try clear hi)))
      go_ret
      exact ⟨by first | rfl | (simp [errW_none, errW_some] <;> rfl) | (simp [*, errW_none, errW_some] <;> rfl) | (simp [errW_none, errW_some]; exact Go.Proofs.YtlabfjaddgakkaaGreatW.OwnWords.isEmpty_bne _), bSt_⟩
     ·rw [if_neg c11] at H
      have c11b0 : (a0_0.toList == ([97, 116, 111, 109] : List UInt8)) = false := beq_eq_false_iff_ne.mpr c11
      have c11b1 : (a0_0.toList != ([97, 116, 111, 109] : List UInt8)) = true := bne_iff_ne.mpr c11
      by_cases c15 : a0_0.toList = ([105, 110, 116] : List UInt8)
      ·rw [if_pos c15] at H
       have c15b0 : (a0_0.toList == ([105, 110, 116] : List UInt8)) = true := beq_iff_eq.mpr c15
       have c15b1 : (a0_0.toList != ([105, 110, 116] : List UInt8)) = false := bne_eq_false_iff_eq.mpr c15
       clear c15
       replace H := Option.bind_eq_some_iff.mp H
       obtain ⟨t234, A160, H⟩ := H
       replace H : (some t234) = some r := H
       have A16 := Aside0.mk A160
       clear A160
       obtain rfl := Option.some.inj H
       have hcz17_0 : wc.cell? ⟨gb231, 0, none⟩ = some (.string a0_0) := (blk_cell BK231.out 0).trans rfl
       have hcz17_1 : wc.cell? ⟨gb231, 1, none⟩ = some (.string a0_1) := (blk_cell BK231.out 1).trans rfl
       have hcz17_2 : wc.cell? ⟨gb231, 2, none⟩ = some (.int .i64 a0_2) := (blk_cell BK231.out 2).trans rfl
       have hcz17_3 : wc.cell? ⟨gb231, 3, none⟩ = some (.slice A0_3 l0_3.length c0_3) := (blk_cell BK231.out 3).trans rfl
       have hfz17_0 := blk_frozen BK231.out 0
       have hfz17_1 := blk_frozen BK231.out 1
       have hfz17_2 := blk_frozen BK231.out 2
       have hfz17_3 := blk_frozen BK231.out 3
       go_wp2_with (first | ((with_reducible refine gate_callee (f := 123) rfl ?_); refine goesL_ (some 29) rfl rfl Tryz.func123 (by kernel_rfl) rfl #[.agg #[.string (⟨#[105, 110, 116]⟩ : ByteArray), .string a0_1, .int .i64 0]] rfl (by (try simp only [List.map_toArray, List.map_cons, List.map_nil]); first | done | rfl | (simp only [List.length_drop, List.length_take]; rfl)) ?_; (with_reducible refine (token_Valid.calls kj1 (⟨#[105, 110, 116]⟩ : ByteArray) a0_1 0 t234 _ A16.out).mono ?_); rintro e w18 ⟨rfl, hb⟩; refine ⟨_, rfl, ?_⟩; have n0_ := Aside0.mk (blk_below (bKq_ BK231.out) hb); have n1_ := Aside0.mk (below_step bSt_ hb); clear BK231; clear HB; have BK231 := n0_; have HB := n1_; clear n0_ n1_; (try clear hb); (try clear hb2); (try clear hk); (try clear hi)))
       go_ret
       exact ⟨by first | rfl | (simp [errW_none, errW_some] <;> rfl) | (simp [*, errW_none, errW_some] <;> rfl) | (simp [errW_none, errW_some]; exact Go.Proofs.YtlabfjaddgakkaaGreatW.OwnWords.isEmpty_bne _), bSt_⟩
      ·rw [if_neg c15] at H
       have c15b0 : (a0_0.toList == ([105, 110, 116] : List UInt8)) = false := beq_eq_false_iff_ne.mpr c15
       have c15b1 : (a0_0.toList != ([105, 110, 116] : List UInt8)) = true := bne_iff_ne.mpr c15
       by_cases c19 : a0_0.toList = ([115, 116, 114] : List UInt8)
       ·rw [if_pos c19] at H
        have c19b0 : (a0_0.toList == ([115, 116, 114] : List UInt8)) = true := beq_iff_eq.mpr c19
        have c19b1 : (a0_0.toList != ([115, 116, 114] : List UInt8)) = false := bne_eq_false_iff_eq.mpr c19
        clear c19
        replace H := Option.bind_eq_some_iff.mp H
        obtain ⟨t235, A200, H⟩ := H
        replace H : (some t235) = some r := H
        have A20 := Aside0.mk A200
        clear A200
        obtain rfl := Option.some.inj H
        have hcz21_0 : wc.cell? ⟨gb231, 0, none⟩ = some (.string a0_0) := (blk_cell BK231.out 0).trans rfl
        have hcz21_1 : wc.cell? ⟨gb231, 1, none⟩ = some (.string a0_1) := (blk_cell BK231.out 1).trans rfl
        have hcz21_2 : wc.cell? ⟨gb231, 2, none⟩ = some (.int .i64 a0_2) := (blk_cell BK231.out 2).trans rfl
        have hcz21_3 : wc.cell? ⟨gb231, 3, none⟩ = some (.slice A0_3 l0_3.length c0_3) := (blk_cell BK231.out 3).trans rfl
        have hfz21_0 := blk_frozen BK231.out 0
        have hfz21_1 := blk_frozen BK231.out 1
        have hfz21_2 := blk_frozen BK231.out 2
        have hfz21_3 := blk_frozen BK231.out 3
        go_wp2_with (first | ((with_reducible refine gate_callee (f := 123) rfl ?_); refine goesL_ (some 35) rfl rfl Tryz.func123 (by kernel_rfl) rfl #[.agg #[.string (⟨#[116, 101, 120, 116]⟩ : ByteArray), .string a0_1, .int .i64 0]] rfl (by (try simp only [List.map_toArray, List.map_cons, List.map_nil]); first | done | rfl | (simp only [List.length_drop, List.length_take]; rfl)) ?_; (with_reducible refine (token_Valid.calls kj1 (⟨#[116, 101, 120, 116]⟩ : ByteArray) a0_1 0 t235 _ A20.out).mono ?_); rintro e w22 ⟨rfl, hb⟩; refine ⟨_, rfl, ?_⟩; have n0_ := Aside0.mk (blk_below (bKq_ BK231.out) hb); have n1_ := Aside0.mk (below_step bSt_ hb); clear BK231; clear HB; have BK231 := n0_; have HB := n1_; clear n0_ n1_; (try clear hb); (try clear hb2); (try clear hk); (try clear hi)))
        go_ret
        exact ⟨by first | rfl | (simp [errW_none, errW_some] <;> rfl) | (simp [*, errW_none, errW_some] <;> rfl) | (simp [errW_none, errW_some]; exact Go.Proofs.YtlabfjaddgakkaaGreatW.OwnWords.isEmpty_bne _), bSt_⟩
       ·rw [if_neg c19] at H
        have c19b0 : (a0_0.toList == ([115, 116, 114] : List UInt8)) = false := beq_eq_false_iff_ne.mpr c19
        have c19b1 : (a0_0.toList != ([115, 116, 114] : List UInt8)) = true := bne_iff_ne.mpr c19
        by_cases c23 : a0_0.toList = ([97, 110, 121] : List UInt8)
        ·rw [if_pos c23] at H
         have c23b0 : (a0_0.toList == ([97, 110, 121] : List UInt8)) = true := beq_iff_eq.mpr c23
         have c23b1 : (a0_0.toList != ([97, 110, 121] : List UInt8)) = false := bne_eq_false_iff_eq.mpr c23
         clear c23
         obtain rfl := Option.some.inj H
         have hcz24_0 : wc.cell? ⟨gb231, 0, none⟩ = some (.string a0_0) := (blk_cell BK231.out 0).trans rfl
         have hcz24_1 : wc.cell? ⟨gb231, 1, none⟩ = some (.string a0_1) := (blk_cell BK231.out 1).trans rfl
         have hcz24_2 : wc.cell? ⟨gb231, 2, none⟩ = some (.int .i64 a0_2) := (blk_cell BK231.out 2).trans rfl
         have hcz24_3 : wc.cell? ⟨gb231, 3, none⟩ = some (.slice A0_3 l0_3.length c0_3) := (blk_cell BK231.out 3).trans rfl
         have hfz24_0 := blk_frozen BK231.out 0
         have hfz24_1 := blk_frozen BK231.out 1
         have hfz24_2 := blk_frozen BK231.out 2
         have hfz24_3 := blk_frozen BK231.out 3
         go_wp2
         go_ret
         exact ⟨by first | rfl | (simp [errW_none, errW_some] <;> rfl) | (simp [*, errW_none, errW_some] <;> rfl) | (simp [errW_none, errW_some]; exact Go.Proofs.YtlabfjaddgakkaaGreatW.OwnWords.isEmpty_bne _), bSt_⟩
        ·rw [if_neg c23] at H
         have c23b0 : (a0_0.toList == ([97, 110, 121] : List UInt8)) = false := beq_eq_false_iff_ne.mpr c23
         have c23b1 : (a0_0.toList != ([97, 110, 121] : List UInt8)) = true := bne_iff_ne.mpr c23
         by_cases c25 : a0_0.toList = ([115, 107, 105, 112] : List UInt8)
         ·rw [if_pos c25] at H
          have c25b0 : (a0_0.toList == ([115, 107, 105, 112] : List UInt8)) = true := beq_iff_eq.mpr c25
          have c25b1 : (a0_0.toList != ([115, 107, 105, 112] : List UInt8)) = false := bne_eq_false_iff_eq.mpr c25
          clear c25
          obtain rfl := Option.some.inj H
          have hcz26_0 : wc.cell? ⟨gb231, 0, none⟩ = some (.string a0_0) := (blk_cell BK231.out 0).trans rfl
          have hcz26_1 : wc.cell? ⟨gb231, 1, none⟩ = some (.string a0_1) := (blk_cell BK231.out 1).trans rfl
          have hcz26_2 : wc.cell? ⟨gb231, 2, none⟩ = some (.int .i64 a0_2) := (blk_cell BK231.out 2).trans rfl
          have hcz26_3 : wc.cell? ⟨gb231, 3, none⟩ = some (.slice A0_3 l0_3.length c0_3) := (blk_cell BK231.out 3).trans rfl
          have hfz26_0 := blk_frozen BK231.out 0
          have hfz26_1 := blk_frozen BK231.out 1
          have hfz26_2 := blk_frozen BK231.out 2
          have hfz26_3 := blk_frozen BK231.out 3
          go_wp2
          go_ret
          exact ⟨by first | rfl | (simp [errW_none, errW_some] <;> rfl) | (simp [*, errW_none, errW_some] <;> rfl) | (simp [errW_none, errW_some]; exact Go.Proofs.YtlabfjaddgakkaaGreatW.OwnWords.isEmpty_bne _), bSt_⟩
         ·rw [if_neg c25] at H
          have c25b0 : (a0_0.toList == ([115, 107, 105, 112] : List UInt8)) = false := beq_eq_false_iff_ne.mpr c25
          have c25b1 : (a0_0.toList != ([115, 107, 105, 112] : List UInt8)) = true := bne_iff_ne.mpr c25
          obtain rfl := Option.some.inj H
          have hcz27_0 : wc.cell? ⟨gb231, 0, none⟩ = some (.string a0_0) := (blk_cell BK231.out 0).trans rfl
          have hcz27_1 : wc.cell? ⟨gb231, 1, none⟩ = some (.string a0_1) := (blk_cell BK231.out 1).trans rfl
          have hcz27_2 : wc.cell? ⟨gb231, 2, none⟩ = some (.int .i64 a0_2) := (blk_cell BK231.out 2).trans rfl
          have hcz27_3 : wc.cell? ⟨gb231, 3, none⟩ = some (.slice A0_3 l0_3.length c0_3) := (blk_cell BK231.out 3).trans rfl
          have hfz27_0 := blk_frozen BK231.out 0
          have hfz27_1 := blk_frozen BK231.out 1
          have hfz27_2 := blk_frozen BK231.out 2
          have hfz27_3 := blk_frozen BK231.out 3
          go_wp2
          go_ret
          exact ⟨by first | rfl | (simp [errW_none, errW_some] <;> rfl) | (simp [*, errW_none, errW_some] <;> rfl) | (simp [errW_none, errW_some]; exact Go.Proofs.YtlabfjaddgakkaaGreatW.OwnWords.isEmpty_bne _), bSt_⟩

end Go.Proofs.YtlabfjaddgakkaaGreat.Q
end
section
namespace Go.Proofs.YtlabfjaddgakkaaGreat.Q
open Go.RowKit Go.Proofs.YtlabfjaddgakkaaGreatW.PrintWords Go.Proofs.YtlabfjaddgakkaaGreatW.PrintLast Go.Proofs.YtlabfjaddgakkaaGreatW.PrintMore
attribute [local go_sem] Go.Proofs.YtlabfjaddgakkaaGreatW.OwnWords.isSome_setCell max2_int min2_int max_two min_two max_three min_three max_four min_four
set_option linter.unusedVariables false
set_option linter.unusedSimpArgs false

/-! ### tree_isOp: function 72 -/
def tree_isOp.f (a0 : ByteArray) : Option (Bool) := if a0.toList = ([43] : List UInt8) then (some true) else (if a0.toList = ([45] : List UInt8) then (some true) else (if a0.toList = ([42] : List UInt8) then (some true) else (if a0.toList = ([100, 105, 118] : List UInt8) then (some true) else (if a0.toList = ([109, 111, 100] : List UInt8) then (some true) else (if a0.toList = ([61, 61] : List UInt8) then (some true) else (if a0.toList = ([92, 61] : List UInt8) then (some true) else (if a0.toList = ([60] : List UInt8) then (some true) else (if a0.toList = ([61, 60] : List UInt8) then (some true) else (if a0.toList = ([62] : List UInt8) then (some true) else (if a0.toList = ([62, 61] : List UInt8) then (some true) else (if a0.toList = ([97, 110, 100, 116, 104, 101, 110] : List UInt8) then (some true) else (if a0.toList = ([111, 114, 101, 108, 115, 101] : List UInt8) then (some true) else (some false)))))))))))))
set_option maxHeartbeats 8000000 in
set_option maxRecDepth 100000 in
theorem tree_isOp.calls (a0 : ByteArray) (r : Bool) (w : World) (h : tree_isOp.f a0 = some r) :
  Calls Tryz.prog 72 #[.string a0] w fun e w' => e = .returned (.bool r) ∧ Drawn0 w w' := by
 have H : (if a0.toList = ([43] : List UInt8) then (some true) else (if a0.toList = ([45] : List UInt8) then (some true) else (if a0.toList = ([42] : List UInt8) then (some true) else (if a0.toList = ([100, 105, 118] : List UInt8) then (some true) else (if a0.toList = ([109, 111, 100] : List UInt8) then (some true) else (if a0.toList = ([61, 61] : List UInt8) then (some true) else (if a0.toList = ([92, 61] : List UInt8) then (some true) else (if a0.toList = ([60] : List UInt8) then (some true) else (if a0.toList = ([61, 60] : List UInt8) then (some true) else (if a0.toList = ([62] : List UInt8) then (some true) else (if a0.toList = ([62, 61] : List UInt8) then (some true) else (if a0.toList = ([97, 110, 100, 116, 104, 101, 110] : List UInt8) then (some true) else (if a0.toList = ([111, 114, 101, 108, 115, 101] : List UInt8) then (some true) else (some false)))))))))))))) = some r := h
 clear h
 by_cases c2 : a0.toList = ([43] : List UInt8)
 ·rw [if_pos c2] at H
  have c2b0 : (a0.toList == ([43] : List UInt8)) = true := beq_iff_eq.mpr c2
  have c2b1 : (a0.toList != ([43] : List UInt8)) = false := bne_eq_false_iff_eq.mpr c2
  clear c2
  obtain rfl := Option.some.inj H
  go_enter Tryz.func72, Tryz.ntmps72
  go_wp2
  go_ret
  exact ⟨by first | rfl | (simp; done) | (simp [*]; done), by repeat (first | exact Drawn0.refl _ | apply Drawn0.step)⟩
 ·rw [if_neg c2] at H
  have c2b0 : (a0.toList == ([43] : List UInt8)) = false := beq_eq_false_iff_ne.mpr c2
  have c2b1 : (a0.toList != ([43] : List UInt8)) = true := bne_iff_ne.mpr c2
  by_cases c3 : a0.toList = ([45] : List UInt8)
  ·rw [if_pos c3] at H
   have c3b0 : (a0.toList == ([45] : List UInt8)) = true := beq_iff_eq.mpr c3
   have c3b1 : (a0.toList != ([45] : List UInt8)) = false := bne_eq_false_iff_eq.mpr c3
   clear c3
   obtain rfl := Option.some.inj H
   go_enter Tryz.func72, Tryz.ntmps72
   go_wp2
   go_ret
   exact ⟨by first | rfl | (simp; done) | (simp [*]; done), by repeat (first | exact Drawn0.refl _ | apply Drawn0.step)⟩
  ·rw [if_neg c3] at H
   have c3b0 : (a0.toList == ([45] : List UInt8)) = false := beq_eq_false_iff_ne.mpr c3
   have c3b1 : (a0.toList != ([45] : List UInt8)) = true := bne_iff_ne.mpr c3
   by_cases c4 : a0.toList = ([42] : List UInt8)
   ·rw [if_pos c4] at H
    have c4b0 : (a0.toList == ([42] : List UInt8)) = true := beq_iff_eq.mpr c4
    have c4b1 : (a0.toList != ([42] : List UInt8)) = false := bne_eq_false_iff_eq.mpr c4
    clear c4
    obtain rfl := Option.some.inj H
    go_enter Tryz.func72, Tryz.ntmps72
    go_wp2
    go_ret
    exact ⟨by first | rfl | (simp; done) | (simp [*]; done), by repeat (first | exact Drawn0.refl _ | apply Drawn0.step)⟩
   ·rw [if_neg c4] at H
    have c4b0 : (a0.toList == ([42] : List UInt8)) = false := beq_eq_false_iff_ne.mpr c4
    have c4b1 : (a0.toList != ([42] : List UInt8)) = true := bne_iff_ne.mpr c4
    by_cases c5 : a0.toList = ([100, 105, 118] : List UInt8)
    ·rw [if_pos c5] at H
     have c5b0 : (a0.toList == ([100, 105, 118] : List UInt8)) = true := beq_iff_eq.mpr c5
     have c5b1 : (a0.toList != ([100, 105, 118] : List UInt8)) = false := bne_eq_false_iff_eq.mpr c5
     clear c5
     obtain rfl := Option.some.inj H
     go_enter Tryz.func72, Tryz.ntmps72
     go_wp2
     go_ret
     exact ⟨by first | rfl | (simp; done) | (simp [*]; done), by repeat (first | exact Drawn0.refl _ | apply Drawn0.step)⟩
    ·rw [if_neg c5] at H
     have c5b0 : (a0.toList == ([100, 105, 118] : List UInt8)) = false := beq_eq_false_iff_ne.mpr c5
     have c5b1 : (a0.toList != ([100, 105, 118] : List UInt8)) = true := bne_iff_ne.mpr c5
     by_cases c6 : a0.toList = ([109, 111, 100] : List UInt8)
     ·rw [if_pos c6] at H
      have c6b0 : (a0.toList == ([109, 111, 100] : List UInt8)) = true := beq_iff_eq.mpr c6
      have c6b1 : (a0.toList != ([109, 111, 100] : List UInt8)) = false := bne_eq_false_iff_eq.mpr c6
      clear c6
      obtain rfl := Option.some.inj H
      go_enter Tryz.func72, Tryz.ntmps72
      go_wp2
      go_ret
      exact ⟨by first | rfl | (simp; done) | (simp [*]; done), by repeat (first | exact Drawn0.refl _ | apply Drawn0.step)⟩
     ·rw [if_neg c6] at H
      have c6b0 : (a0.toList == ([109, 111, 100] : List UInt8)) = false := beq_eq_false_iff_ne.mpr c6
      have c6b1 : (a0.toList != ([109, 111, 100] : List UInt8)) = true := bne_iff_ne.mpr c6
      by_cases c7 : a0.toList = ([61, 61] : List UInt8)
      ·rw [if_pos c7] at H
       have c7b0 : (a0.toList == ([61, 61] : List UInt8)) = true := beq_iff_eq.mpr c7
       have c7b1 : (a0.toList != ([61, 61] : List UInt8)) = false := bne_eq_false_iff_eq.mpr c7
       clear c7
       obtain rfl := Option.some.inj H
       go_enter Tryz.func72, Tryz.ntmps72
       go_wp2
       go_ret
       exact ⟨by first | rfl | (simp; done) | (simp [*]; done), by repeat (first | exact Drawn0.refl _ | apply Drawn0.step)⟩
      ·rw [if_neg c7] at H
       have c7b0 : (a0.toList == ([61, 61] : List UInt8)) = false := beq_eq_false_iff_ne.mpr c7
       have c7b1 : (a0.toList != ([61, 61] : List UInt8)) = true := bne_iff_ne.mpr c7
       by_cases c8 : a0.toList = ([92, 61] : List UInt8)
       ·rw [if_pos c8] at H
        have c8b0 : (a0.toList == ([92, 61] : List UInt8)) = true := beq_iff_eq.mpr c8
        have c8b1 : (a0.toList != ([92, 61] : List UInt8)) = false := bne_eq_false_iff_eq.mpr c8
        clear c8
        obtain rfl := Option.some.inj H
        go_enter Tryz.func72, Tryz.ntmps72
        go_wp2
        go_ret
        exact ⟨by first | rfl | (simp; done) | (simp [*]; done), by repeat (first | exact Drawn0.refl _ | apply Drawn0.step)⟩
       ·rw [if_neg c8] at H
        have c8b0 : (a0.toList == ([92, 61] : List UInt8)) = false := beq_eq_false_iff_ne.mpr c8
        have c8b1 : (a0.toList != ([92, 61] : List UInt8)) = true := bne_iff_ne.mpr c8
        by_cases c9 : a0.toList = ([60] : List UInt8)
        ·rw [if_pos c9] at H
         have c9b0 : (a0.toList == ([60] : List UInt8)) = true := beq_iff_eq.mpr c9
         have c9b1 : (a0.toList != ([60] : List UInt8)) = false := bne_eq_false_iff_eq.mpr c9
         clear c9
         obtain rfl := Option.some.inj H
         go_enter Tryz.func72, Tryz.ntmps72
         go_wp2
         go_ret
         exact ⟨by first | rfl | (simp; done) | (simp [*]; done), by repeat (first | exact Drawn0.refl _ | apply Drawn0.step)⟩
        ·rw [if_neg c9] at H
         have c9b0 : (a0.toList == ([60] : List UInt8)) = false := beq_eq_false_iff_ne.mpr c9
         have c9b1 : (a0.toList != ([60] : List UInt8)) = true := bne_iff_ne.mpr c9
         by_cases c10 : a0.toList = ([61, 60] : List UInt8)
         ·rw [if_pos c10] at H
          have c10b0 : (a0.toList == ([61, 60] : List UInt8)) = true := beq_iff_eq.mpr c10
          have c10b1 : (a0.toList != ([61, 60] : List UInt8)) = false := bne_eq_false_iff_eq.mpr c10
          clear c10
          obtain rfl := Option.some.inj H
          go_enter Tryz.func72, Tryz.ntmps72
          go_wp2
          go_ret
          exact ⟨by first | rfl | (simp; done) | (simp [*]; done), by repeat (first | exact Drawn0.refl _ | apply Drawn0.step)⟩
         ·rw [if_neg c10] at H
          have c10b0 : (a0.toList == ([61, 60] : List UInt8)) = false := beq_eq_false_iff_ne.mpr c10
          have c10b1 : (a0.toList != ([61, 60] : List UInt8)) = true := bne_iff_ne.mpr c10
          by_cases c11 : a0.toList = ([62] : List UInt8)
          ·rw [if_pos c11] at H
           have c11b0 : (a0.toList == ([62] : List UInt8)) = true := beq_iff_eq.mpr c11
           have c11b1 : (a0.toList != ([62] : List UInt8)) = false := bne_eq_false_iff_eq.mpr c11
           clear c11
           obtain rfl := Option.some.inj H
           go_enter Tryz.func72, Tryz.ntmps72
           go_wp2
           go_ret
           exact ⟨by first | rfl | (simp; done) | (simp [*]; done), by repeat (first | exact Drawn0.refl _ | apply Drawn0.step)⟩
          ·rw [if_neg c11] at H
           have c11b0 : (a0.toList == ([62] : List UInt8)) = false := beq_eq_false_iff_ne.mpr c11
           have c11b1 : (a0.toList != ([62] : List UInt8)) = true := bne_iff_ne.mpr c11
           by_cases c12 : a0.toList = ([62, 61] : List UInt8)
           ·rw [if_pos c12] at H
            have c12b0 : (a0.toList == ([62, 61] : List UInt8)) = true := beq_iff_eq.mpr c12
            have c12b1 : (a0.toList != ([62, 61] : List UInt8)) = false := bne_eq_false_iff_eq.mpr c12
            clear c12
            obtain rfl := Option.some.inj H
            go_enter Tryz.func72, Tryz.ntmps72
            go_wp2
            go_ret
            exact ⟨by first | rfl | (simp; done) | (simp [*]; done), by repeat (first | exact Drawn0.refl _ | apply Drawn0.step)⟩
           ·rw [if_neg c12] at H
            have c12b0 : (a0.toList == ([62, 61] : List UInt8)) = false := beq_eq_false_iff_ne.mpr c12
            have c12b1 : (a0.toList != ([62, 61] : List UInt8)) = true := bne_iff_ne.mpr c12
            by_cases c13 : a0.toList = ([97, 110, 100, 116, 104, 101, 110] : List UInt8)
            ·rw [if_pos c13] at H
             have c13b0 : (a0.toList == ([97, 110, 100, 116, 104, 101, 110] : List UInt8)) = true := beq_iff_eq.mpr c13
             have c13b1 : (a0.toList != ([97, 110, 100, 116, 104, 101, 110] : List UInt8)) = false := bne_eq_false_iff_eq.mpr c13
             clear c13
             obtain rfl := Option.some.inj H
             go_enter Tryz.func72, Tryz.ntmps72
             go_wp2
             go_ret
             exact ⟨by first | rfl | (simp; done) | (simp [*]; done), by repeat (first | exact Drawn0.refl _ | apply Drawn0.step)⟩
            ·rw [if_neg c13] at H
             have c13b0 : (a0.toList == ([97, 110, 100, 116, 104, 101, 110] : List UInt8)) = false := beq_eq_false_iff_ne.mpr c13
             have c13b1 : (a0.toList != ([97, 110, 100, 116, 104, 101, 110] : List UInt8)) = true := bne_iff_ne.mpr c13
             by_cases c14 : a0.toList = ([111, 114, 101, 108, 115, 101] : List UInt8)
             ·rw [if_pos c14] at H
              have c14b0 : (a0.toList == ([111, 114, 101, 108, 115, 101] : List UInt8)) = true := beq_iff_eq.mpr c14
              have c14b1 : (a0.toList != ([111, 114, 101, 108, 115, 101] : List UInt8)) = false := bne_eq_false_iff_eq.mpr c14
              clear c14
              obtain rfl := Option.some.inj H
              go_enter Tryz.func72, Tryz.ntmps72
              go_wp2
              go_ret
              exact ⟨by first | rfl | (simp; done) | (simp [*]; done), by repeat (first | exact Drawn0.refl _ | apply Drawn0.step)⟩
             ·rw [if_neg c14] at H
              have c14b0 : (a0.toList == ([111, 114, 101, 108, 115, 101] : List UInt8)) = false := beq_eq_false_iff_ne.mpr c14
              have c14b1 : (a0.toList != ([111, 114, 101, 108, 115, 101] : List UInt8)) = true := bne_iff_ne.mpr c14
              obtain rfl := Option.some.inj H
              go_enter Tryz.func72, Tryz.ntmps72
              go_wp2
              go_ret
              exact ⟨by first | rfl | (simp; done) | (simp [*]; done), by repeat (first | exact Drawn0.refl _ | apply Drawn0.step)⟩

end Go.Proofs.YtlabfjaddgakkaaGreat.Q
end
section
/-! tree.Valid at awake's tree. -/
namespace Go.Proofs.YtlabfjaddgakkaaGreat.Need
set_option linter.unusedVariables false
set_option linter.unusedSimpArgs false
open Go.RowKit Go.Proofs.YtlabfjaddgakkaaGreatW.PrintWords Go.Proofs.YtlabfjaddgakkaaGreatW.PrintLast Go.Proofs.YtlabfjaddgakkaaGreatW.PrintMore Go.Proofs.YtlabfjaddgakkaaGreat.Q
abbrev bInt : ByteArray := ⟨#[105, 110, 116]⟩
abbrev bOp : ByteArray := ⟨#[111, 112]⟩
def OkT : TT → Prop
  | .leaf s => tree_leaf.f 60 bInt s 0 [] = some true
  | .bin s a b => tree_isOp.f s = some true ∧ OkT a ∧ OkT b
set_option maxHeartbeats 4000000 in
set_option maxRecDepth 100000 in
theorem all_walk (a b : TT) (s : ByteArray) (w : World) (ok : Nat → Prop) (q : Nat) (A1 : Option Addr) (n1 c1 : Nat) (A2 : Option Addr) (n2 c2 : Nat)
    (h : w.heap[q]? = some (.cells #[.string a.d, .string a.s, .int .i64 0, .slice A1 n1 c1, .string b.d, .string b.s, .int .i64 0, .slice A2 n2 c2] 30 (0, 0)))
    (ha : ∀ w', Below w.heap.size w w' → Calls Tryz.prog 43 #[.agg (Cs a A1 n1 c1)] w' (fun e w2 => e = .returned (.bool true) ∧ Below w'.heap.size w' w2)) (hb : ∀ w', Below w.heap.size w w' → Calls Tryz.prog 43 #[.agg (Cs b A2 n2 c2)] w' (fun e w2 => e = .returned (.bool true) ∧ Below w'.heap.size w' w2)) :
    Calls Tryz.prog 73 #[.slice (some ⟨q, 0, none⟩) 2 2, .func (.func 43) #[] #[]] w (fun e w' => e = .returned (.bool true) ∧ Below w.heap.size w w') := by
  have H := Aside0.mk h
  have HA := Aside0.mk ha
  have HB := Aside0.mk hb
  clear h ha hb
  go_enter Tryz.func73, Tryz.ntmps73
  go_wp2_with fail
  go_loopg [9] 3 (fun kq v9 wx => ∃ j : Nat, v9 = .int .i64 (j : Int) ∧ Aside0 (j + kq = 3 ∧ j ≤ 2) ∧ Aside0 (Below w.heap.size w wx))
  case atStart => exact ⟨0, rfl, ⟨by omega⟩, ⟨Below.refl _ _⟩⟩
  case round =>
    obtain ⟨j, rfl, HJ, HX⟩ := hrel
    cases gk with
    | zero => have := HJ.out; omega
    | succ k1 =>
      match j with
      | 0 =>
        have e0 := (blk_cell (blk_below H.out HX.out) 0).trans rfl
        have e1 := (blk_cell (blk_below H.out HX.out) 1).trans rfl
        have e2 := (blk_cell (blk_below H.out HX.out) 2).trans rfl
        have e3 := (blk_cell (blk_below H.out HX.out) 3).trans rfl
        go_wp2_with (go_at_call 43; go_loud ((refine (HA.out _ (below_alloc HX.out _)).mono ?_); rintro e w4 ⟨rfl, hb⟩; have HN := Aside0.mk (below_then (below_alloc HX.out _) (Nat.le_trans HX.out.size (below_alloc (Below.refl _ _) _).size) hb); clear hb e0 e1 e2 e3))
        go_roundg k1
        case measure => have := HJ.out; omega
        case rel => exact ⟨1, by first | rfl | (simp; done), ⟨by have := HJ.out; omega⟩, HN⟩
      | 1 =>
        have e0 := (blk_cell (blk_below H.out HX.out) 4).trans rfl
        have e1 := (blk_cell (blk_below H.out HX.out) 5).trans rfl
        have e2 := (blk_cell (blk_below H.out HX.out) 6).trans rfl
        have e3 := (blk_cell (blk_below H.out HX.out) 7).trans rfl
        go_wp2_with (go_at_call 43; go_loud ((refine (HB.out _ (below_alloc HX.out _)).mono ?_); rintro e w4 ⟨rfl, hb⟩; have HN := Aside0.mk (below_then (below_alloc HX.out _) (Nat.le_trans HX.out.size (below_alloc (Below.refl _ _) _).size) hb); clear hb e0 e1 e2 e3))
        go_roundg k1
        case measure => have := HJ.out; omega
        case rel => exact ⟨2, by first | rfl | (simp; done), ⟨by have := HJ.out; omega⟩, HN⟩
      | 2 =>
        go_wp2_with fail
        go_ret
        exact ⟨rfl, HX.out⟩
      | j + 3 => have := HJ.out; omega
set_option maxHeartbeats 4000000 in
set_option maxRecDepth 100000 in
theorem phraseV_walk (T : TT) : OkT T → ∀ (w : World) (ok : Nat → Prop) (A : Option Addr) (n c : Nat), Tr ok w T A n c →
    Calls Tryz.prog 43 #[.agg (Cs T A n c)] w (fun e w' => e = .returned (.bool true) ∧ Below w.heap.size w w') := by
  induction T with
  | leaf s =>
    intro hk w ok A n c ht
    obtain ⟨rfl, rfl, rfl⟩ := ht
    show Calls Tryz.prog 43 #[.agg #[.string bInt, .string s, .int .i64 0, .slice none 0 0]] w (fun e w' => e = .returned (.bool true) ∧ Below w.heap.size w w')
    have HK := Aside0.mk (show tree_leaf.f 60 bInt s 0 [] = some true from hk)
    have hx := blk_new w (.cells #[.string bInt, .string s, .int .i64 0, .slice none 0 0] 30 (0, 0))
    have HB := Aside0.mk (below_alloc (Below.refl w.heap.size w) (.cells #[.string bInt, .string s, .int .i64 0, .slice none 0 0] 30 (0, 0)))
    have x0 := (blk_cell hx 0).trans rfl
    have x1 := (blk_cell hx 1).trans rfl
    have x2 := (blk_cell hx 2).trans rfl
    have x3 := (blk_cell hx 3).trans rfl
    clear hk hx
    go_enter Tryz.func43, Tryz.ntmps43
    go_wp2_with (go_at_call 70; go_loud ((refine (tree_leaf.calls 60 bInt s 0 none 0 [] true _ ⟨rfl, by decide, fun h => absurd h (by decide)⟩ (by decide) HK.out).mono ?_); rintro e w2 ⟨rfl, hb⟩; have HB2 := Aside0.mk (below_then HB.out HB.out.size hb); clear hb))
    go_ret
    exact ⟨rfl, HB2.out⟩
  | bin s a b iha ihb =>
    intro hk w ok A n c ht
    obtain ⟨rfl, rfl, q, rfl, hq, A1, n1, c1, A2, n2, c2, h5, h6, h7⟩ := ht
    show Calls Tryz.prog 43 #[.agg #[.string bOp, .string s, .int .i64 0, .slice (some ⟨q, 0, none⟩) 2 2]] w (fun e w' => e = .returned (.bool true) ∧ Below w.heap.size w w')
    have HK := Aside0.mk (show tree_isOp.f s = some true from hk.1)
    have hx := blk_new w (.cells #[.string bOp, .string s, .int .i64 0, .slice (some ⟨q, 0, none⟩) 2 2] 30 (0, 0))
    have HX := Aside0.mk hx
    have HB := Aside0.mk (below_alloc (Below.refl w.heap.size w) (.cells #[.string bOp, .string s, .int .i64 0, .slice (some ⟨q, 0, none⟩) 2 2] 30 (0, 0)))
    have HAL := Aside0.mk (fun (w0 : World) (hb : Below w.heap.size w w0) => all_walk a b s w0 ok q A1 n1 c1 A2 n2 c2 (blk_below h5 hb) (fun w' h' => iha hk.2.1 w' ok A1 n1 c1 (h6.below (below_then hb hb.size h'))) (fun w' h' => ihb hk.2.2 w' ok A2 n2 c2 (h7.below (below_then hb hb.size h'))))
    have x0 := (blk_cell hx 0).trans rfl
    have x1 := (blk_cell hx 1).trans rfl
    clear hk hx h5 h6 h7 iha ihb hq
    go_enter Tryz.func43, Tryz.ntmps43
    go_wp2_with (first
      | (go_at_call 72; go_loud ((refine (tree_isOp.calls s true _ HK.out).mono ?_); rintro e w2 ⟨rfl, hd⟩; have HB2 := Aside0.mk (below_then HB.out HB.out.size hd.below); have y2 := (blk_cell (blk_below HX.out hd.below) 2).trans rfl; have y3 := (blk_cell (blk_below HX.out hd.below) 3).trans rfl; clear hd x0 x1))
      | (go_at_call 73; go_loud ((refine (HAL.out _ HB2.out).mono ?_); rintro e w3 ⟨rfl, hb⟩; have HB3 := Aside0.mk (below_then HB2.out HB2.out.size hb); clear hb)))
    go_ret
    exact ⟨rfl, HB3.out⟩
theorem okl (s : ByteArray) (h : tree_leaf.f 60 bInt s 0 [] = some true) : OkT (.leaf s) := h
theorem okb (s : ByteArray) (a b : TT) (h : tree_isOp.f s = some true) (ha : OkT a) (hb : OkT b) : OkT (.bin s a b) := ⟨h, ha, hb⟩
theorem ok3 : OkT tree3 := okb _ _ _ (by kernel_rfl) (okb _ _ _ (by kernel_rfl) (okl _ (by kernel_rfl)) (okb _ _ _ (by kernel_rfl) (okl _ (by kernel_rfl)) (okl _ (by kernel_rfl)))) (okl _ (by kernel_rfl))
set_option maxHeartbeats 4000000 in
theorem valid_walk (w : World) (ok : Nat → Prop) (A : Option Addr) (n c : Nat) (ht : Tr ok w tree3 A n c) :
    Calls Tryz.prog 19 #[.agg (Cs tree3 A n c)] w (fun e w' => e = .returned (.bool true) ∧ Below w.heap.size w w') := by
  have hb := below_alloc (Below.refl w.heap.size w) (.cells (Cs tree3 A n c) 30 (0, 0))
  have H := Aside0.mk (And.intro (ht.below hb) hb)
  have h0 := blk_new w (.cells (Cs tree3 A n c) 30 (0, 0))
  have HX := Aside0.mk h0
  have x0 := (blk_cell h0 0).trans rfl
  have x1 := (blk_cell h0 1).trans rfl
  have x2 := (blk_cell h0 2).trans rfl
  have x3 := (blk_cell h0 3).trans rfl
  clear ht hb h0
  go_enter Tryz.func19, Tryz.ntmps19
  go_wp2_with (first
    | (go_at_call 40; go_loud ((refine (within_walk _ ok A n c H.out.1).mono ?_); rintro e w2 ⟨rfl, hb⟩; have HB := Aside0.mk hb; have y0 := (blk_cell (blk_below HX.out hb) 0).trans rfl; have y1 := (blk_cell (blk_below HX.out hb) 1).trans rfl; have y2 := (blk_cell (blk_below HX.out hb) 2).trans rfl; have y3 := (blk_cell (blk_below HX.out hb) 3).trans rfl; clear hb x0 x1 x2 x3))
    | (go_at_call 43; go_loud ((refine (phraseV_walk tree3 ok3 _ ok A n c (H.out.1.below HB.out)).mono ?_); rintro e w3 ⟨rfl, hb⟩; have HB3 := Aside0.mk hb; clear hb)))
  go_ret
  exact ⟨rfl, below_then (below_then H.out.2 H.out.2.size HB.out) (Nat.le_trans H.out.2.size HB.out.size) HB3.out⟩
end Go.Proofs.YtlabfjaddgakkaaGreat.Need
end
section
namespace Go.Proofs.YtlabfjaddgakkaaGreat.Q
open Go.RowKit Go.Proofs.YtlabfjaddgakkaaGreatW.PrintWords Go.Proofs.YtlabfjaddgakkaaGreatW.PrintLast Go.Proofs.YtlabfjaddgakkaaGreatW.PrintMore Go.Proofs.YtlabfjaddgakkaaGreatW.OwnWords
attribute [local go_sem] Go.Proofs.YtlabfjaddgakkaaGreatW.OwnWords.isSome_setCell max2_int min2_int max_two min_two max_three min_three max_four min_four
set_option linter.unusedVariables false
set_option linter.unusedSimpArgs false

/-! ### tree_infix: function 82 -/
def tree_infix.f (a0_0 : ByteArray) (a0_1 : ByteArray) (a0_2 : Int) (l0_3 : List (S30)) : Option (ByteArray) := if a0_0.toList = ([99, 111, 110, 115] : List UInt8) then (some (⟨#[32, 124, 32]⟩ : ByteArray)) else (if a0_0.toList = ([116, 117, 112, 108, 101] : List UInt8) then (some (⟨#[32, 35, 32]⟩ : ByteArray)) else (if a0_0.toList = ([100, 111, 116] : List UInt8) then (some (⟨#[32, 46, 32]⟩ : ByteArray)) else (if a0_0.toList = ([115, 101, 116] : List UInt8) then (some (⟨#[32, 58, 61, 32]⟩ : ByteArray)) else (if a0_0.toList = ([101, 113] : List UInt8) then (some (⟨#[32, 61, 32]⟩ : ByteArray)) else (if a0_0.toList = ([111, 112] : List UInt8) then (if 1 + a0_1.size ≤ 9223372036854775807 then (if ((⟨#[32]⟩ : ByteArray) ++ a0_1).size + 1 ≤ 9223372036854775807 then (some (((⟨#[32]⟩ : ByteArray) ++ a0_1) ++ (⟨#[32]⟩ : ByteArray))) else (none)) else (none)) else (some (⟨#[32]⟩ : ByteArray)))))))
set_option maxHeartbeats 8000000 in
set_option maxRecDepth 100000 in
theorem tree_infix.calls (a0_0 : ByteArray) (a0_1 : ByteArray) (a0_2 : Int) (A0_3 : Option Addr) (c0_3 : Nat) (l0_3 : List (S30)) (r : ByteArray) (w : World) (hr0_3 : Kd.C k30 w A0_3 l0_3.length l0_3) (hc0_3 : l0_3.length ≤ c0_3) (h : tree_infix.f a0_0 a0_1 a0_2 l0_3 = some r) :
  Calls Tryz.prog 82 #[.agg #[.string a0_0, .string a0_1, .int .i64 a0_2, .slice A0_3 l0_3.length c0_3]] w fun e w' => e = .returned (.string r) ∧ Below w.heap.size w w' := by
 have hu30 := Tryz.underlying30
 have HR0_3 := Aside0.mk hr0_3
 have HC0_3 := Aside0.mk hc0_3
 clear hr0_3 hc0_3
 have HB := Aside0.mk (Below.refl w.heap.size w)
 have H : (if a0_0.toList = ([99, 111, 110, 115] : List UInt8) then (some (⟨#[32, 124, 32]⟩ : ByteArray)) else (if a0_0.toList = ([116, 117, 112, 108, 101] : List UInt8) then (some (⟨#[32, 35, 32]⟩ : ByteArray)) else (if a0_0.toList = ([100, 111, 116] : List UInt8) then (some (⟨#[32, 46, 32]⟩ : ByteArray)) else (if a0_0.toList = ([115, 101, 116] : List UInt8) then (some (⟨#[32, 58, 61, 32]⟩ : ByteArray)) else (if a0_0.toList = ([101, 113] : List UInt8) then (some (⟨#[32, 61, 32]⟩ : ByteArray)) else (if a0_0.toList = ([111, 112] : List UInt8) then (if 1 + a0_1.size ≤ 9223372036854775807 then (if ((⟨#[32]⟩ : ByteArray) ++ a0_1).size + 1 ≤ 9223372036854775807 then (some (((⟨#[32]⟩ : ByteArray) ++ a0_1) ++ (⟨#[32]⟩ : ByteArray))) else (none)) else (none)) else (some (⟨#[32]⟩ : ByteArray)))))))) = some r := h
 clear h
 by_cases c2 : a0_0.toList = ([99, 111, 110, 115] : List UInt8)
 ·rw [if_pos c2] at H
  have c2b0 : (a0_0.toList == ([99, 111, 110, 115] : List UInt8)) = true := beq_iff_eq.mpr c2
  have c2b1 : (a0_0.toList != ([99, 111, 110, 115] : List UInt8)) = false := bne_eq_false_iff_eq.mpr c2
  clear c2
  obtain rfl := Option.some.inj H
  go_enter Tryz.func82, Tryz.ntmps82
  go_wp2_with (first | ((with_reducible refine gate_dst (N := 1) rfl ?_); refine box_event ?hg (N := 1) ?hd (cs := #[.string a0_0, .string a0_1, .int .i64 a0_2, .slice A0_3 l0_3.length c0_3]) (t := 30) ?hr ?_; (case hd => rfl); (case hg => rfl); (case hr => first | (go_simp; done) | (go_simp; rfl)); intro gb270 hg w3 hbox hb; have n0_ := Aside0.mk (below_step bSt_ hb); have n1_ := Aside0.mk (hbox); have n2_ := Aside0.mk ((by rw [hg]; exact (below_size bSt_) : w.heap.size ≤ gb270)); have n3_ := Aside0.mk ((by rw [hg]; exact (below_size bSt_) : w.heap.size ≤ gb270)); clear HB; have HB := n0_; have BK270 := n1_; have GW270 := n2_; have GE270 := n3_; clear n0_ n1_ n2_ n3_; clear hb hbox hg; have hcz4_0 : w3.cell? ⟨gb270, 0, none⟩ = some (.string a0_0) := (blk_cell BK270.out 0).trans rfl; have hcz4_1 : w3.cell? ⟨gb270, 1, none⟩ = some (.string a0_1) := (blk_cell BK270.out 1).trans rfl; have hcz4_2 : w3.cell? ⟨gb270, 2, none⟩ = some (.int .i64 a0_2) := (blk_cell BK270.out 2).trans rfl; have hcz4_3 : w3.cell? ⟨gb270, 3, none⟩ = some (.slice A0_3 l0_3.length c0_3) := (blk_cell BK270.out 3).trans rfl; have hfz4_0 := blk_frozen BK270.out 0; have hfz4_1 := blk_frozen BK270.out 1; have hfz4_2 := blk_frozen BK270.out 2; have hfz4_3 := blk_frozen BK270.out 3))
  go_ret
  exact ⟨by first | rfl | (simp [errW_none, errW_some] <;> rfl) | (simp [*, errW_none, errW_some] <;> rfl) | (simp [errW_none, errW_some]; exact Go.Proofs.YtlabfjaddgakkaaGreatW.OwnWords.isEmpty_bne _), bSt_⟩
 ·rw [if_neg c2] at H
  have c2b0 : (a0_0.toList == ([99, 111, 110, 115] : List UInt8)) = false := beq_eq_false_iff_ne.mpr c2
  have c2b1 : (a0_0.toList != ([99, 111, 110, 115] : List UInt8)) = true := bne_iff_ne.mpr c2
  by_cases c5 : a0_0.toList = ([116, 117, 112, 108, 101] : List UInt8)
  ·rw [if_pos c5] at H
   have c5b0 : (a0_0.toList == ([116, 117, 112, 108, 101] : List UInt8)) = true := beq_iff_eq.mpr c5
   have c5b1 : (a0_0.toList != ([116, 117, 112, 108, 101] : List UInt8)) = false := bne_eq_false_iff_eq.mpr c5
   clear c5
   obtain rfl := Option.some.inj H
   go_enter Tryz.func82, Tryz.ntmps82
   go_wp2_with (first | ((with_reducible refine gate_dst (N := 1) rfl ?_); refine box_event ?hg (N := 1) ?hd (cs := #[.string a0_0, .string a0_1, .int .i64 a0_2, .slice A0_3 l0_3.length c0_3]) (t := 30) ?hr ?_; (case hd => rfl); (case hg => rfl); (case hr => first | (go_simp; done) | (go_simp; rfl)); intro gb270 hg w6 hbox hb; have n0_ := Aside0.mk (below_step bSt_ hb); have n1_ := Aside0.mk (hbox); have n2_ := Aside0.mk ((by rw [hg]; exact (below_size bSt_) : w.heap.size ≤ gb270)); have n3_ := Aside0.mk ((by rw [hg]; exact (below_size bSt_) : w.heap.size ≤ gb270)); clear HB; have HB := n0_; have BK270 := n1_; have GW270 := n2_; have GE270 := n3_; clear n0_ n1_ n2_ n3_; clear hb hbox hg; have hcz7_0 : w6.cell? ⟨gb270, 0, none⟩ = some (.string a0_0) := (blk_cell BK270.out 0).trans rfl; have hcz7_1 : w6.cell? ⟨gb270, 1, none⟩ = some (.string a0_1) := (blk_cell BK270.out 1).trans rfl; have hcz7_2 : w6.cell? ⟨gb270, 2, none⟩ = some (.int .i64 a0_2) := (blk_cell BK270.out 2).trans rfl; have hcz7_3 : w6.cell? ⟨gb270, 3, none⟩ = some (.slice A0_3 l0_3.length c0_3) := (blk_cell BK270.out 3).trans rfl; have hfz7_0 := blk_frozen BK270.out 0; have hfz7_1 := blk_frozen BK270.out 1; have hfz7_2 := blk_frozen BK270.out 2; have hfz7_3 := blk_frozen BK270.out 3))
   go_ret
   exact ⟨by first | rfl | (simp [errW_none, errW_some] <;> rfl) | (simp [*, errW_none, errW_some] <;> rfl) | (simp [errW_none, errW_some]; exact Go.Proofs.YtlabfjaddgakkaaGreatW.OwnWords.isEmpty_bne _), bSt_⟩
  ·rw [if_neg c5] at H
   have c5b0 : (a0_0.toList == ([116, 117, 112, 108, 101] : List UInt8)) = false := beq_eq_false_iff_ne.mpr c5
   have c5b1 : (a0_0.toList != ([116, 117, 112, 108, 101] : List UInt8)) = true := bne_iff_ne.mpr c5
   by_cases c8 : a0_0.toList = ([100, 111, 116] : List UInt8)
   ·rw [if_pos c8] at H
    have c8b0 : (a0_0.toList == ([100, 111, 116] : List UInt8)) = true := beq_iff_eq.mpr c8
    have c8b1 : (a0_0.toList != ([100, 111, 116] : List UInt8)) = false := bne_eq_false_iff_eq.mpr c8
    clear c8
    obtain rfl := Option.some.inj H
    go_enter Tryz.func82, Tryz.ntmps82
    go_wp2_with (first | ((with_reducible refine gate_dst (N := 1) rfl ?_); refine box_event ?hg (N := 1) ?hd (cs := #[.string a0_0, .string a0_1, .int .i64 a0_2, .slice A0_3 l0_3.length c0_3]) (t := 30) ?hr ?_; (case hd => rfl); (case hg => rfl); (case hr => first | (go_simp; done) | (go_simp; rfl)); intro gb270 hg w9 hbox hb; have n0_ := Aside0.mk (below_step bSt_ hb); have n1_ := Aside0.mk (hbox); have n2_ := Aside0.mk ((by rw [hg]; exact (below_size bSt_) : w.heap.size ≤ gb270)); have n3_ := Aside0.mk ((by rw [hg]; exact (below_size bSt_) : w.heap.size ≤ gb270)); clear HB; have HB := n0_; have BK270 := n1_; have GW270 := n2_; have GE270 := n3_; clear n0_ n1_ n2_ n3_; clear hb hbox hg; have hcz10_0 : w9.cell? ⟨gb270, 0, none⟩ = some (.string a0_0) := (blk_cell BK270.out 0).trans rfl; have hcz10_1 : w9.cell? ⟨gb270, 1, none⟩ = some (.string a0_1) := (blk_cell BK270.out 1).trans rfl; have hcz10_2 : w9.cell? ⟨gb270, 2, none⟩ = some (.int .i64 a0_2) := (blk_cell BK270.out 2).trans rfl; have hcz10_3 : w9.cell? ⟨gb270, 3, none⟩ = some (.slice A0_3 l0_3.length c0_3) := (blk_cell BK270.out 3).trans rfl; have hfz10_0 := blk_frozen BK270.out 0; have hfz10_1 := blk_frozen BK270.out 1; have hfz10_2 := blk_frozen BK270.out 2; have hfz10_3 := blk_frozen BK270.out 3))
    go_ret
    exact ⟨by first | rfl | (simp [errW_none, errW_some] <;> rfl) | (simp [*, errW_none, errW_some] <;> rfl) | (simp [errW_none, errW_some]; exact Go.Proofs.YtlabfjaddgakkaaGreatW.OwnWords.isEmpty_bne _), bSt_⟩
   ·rw [if_neg c8] at H
    have c8b0 : (a0_0.toList == ([100, 111, 116] : List UInt8)) = false := beq_eq_false_iff_ne.mpr c8
    have c8b1 : (a0_0.toList != ([100, 111, 116] : List UInt8)) = true := bne_iff_ne.mpr c8
    by_cases c11 : a0_0.toList = ([115, 101, 116] : List UInt8)
    ·rw [if_pos c11] at H
     have c11b0 : (a0_0.toList == ([115, 101, 116] : List UInt8)) = true := beq_iff_eq.mpr c11
     have c11b1 : (a0_0.toList != ([115, 101, 116] : List UInt8)) = false := bne_eq_false_iff_eq.mpr c11
     clear c11
     obtain rfl := Option.some.inj H
     go_enter Tryz.func82, Tryz.ntmps82
     go_wp2_with (first | ((with_reducible refine gate_dst (N := 1) rfl ?_); refine box_event ?hg (N := 1) ?hd (cs := #[.string a0_0, .string a0_1, .int .i64 a0_2, .slice A0_3 l0_3.length c0_3]) (t := 30) ?hr ?_; (case hd => rfl); (case hg => rfl); (case hr => first | (go_simp; done) | (go_simp; rfl)); intro gb270 hg w12 hbox hb; have n0_ := Aside0.mk (below_step bSt_ hb); have n1_ := Aside0.mk (hbox); have n2_ := Aside0.mk ((by rw [hg]; exact (below_size bSt_) : w.heap.size ≤ gb270)); have n3_ := Aside0.mk ((by rw [hg]; exact (below_size bSt_) : w.heap.size ≤ gb270)); clear HB; have HB := n0_; have BK270 := n1_; have GW270 := n2_; have GE270 := n3_; clear n0_ n1_ n2_ n3_; clear hb hbox hg; have hcz13_0 : w12.cell? ⟨gb270, 0, none⟩ = some (.string a0_0) := (blk_cell BK270.out 0).trans rfl; have hcz13_1 : w12.cell? ⟨gb270, 1, none⟩ = some (.string a0_1) := (blk_cell BK270.out 1).trans rfl; have hcz13_2 : w12.cell? ⟨gb270, 2, none⟩ = some (.int .i64 a0_2) := (blk_cell BK270.out 2).trans rfl; have hcz13_3 : w12.cell? ⟨gb270, 3, none⟩ = some (.slice A0_3 l0_3.length c0_3) := (blk_cell BK270.out 3).trans rfl; have hfz13_0 := blk_frozen BK270.out 0; have hfz13_1 := blk_frozen BK270.out 1; have hfz13_2 := blk_frozen BK270.out 2; have hfz13_3 := blk_frozen BK270.out 3))
     go_ret
     exact ⟨by first | rfl | (simp [errW_none, errW_some] <;> rfl) | (simp [*, errW_none, errW_some] <;> rfl) | (simp [errW_none, errW_some]; exact Go.Proofs.YtlabfjaddgakkaaGreatW.OwnWords.isEmpty_bne _), bSt_⟩
    ·rw [if_neg c11] at H
     have c11b0 : (a0_0.toList == ([115, 101, 116] : List UInt8)) = false := beq_eq_false_iff_ne.mpr c11
     have c11b1 : (a0_0.toList != ([115, 101, 116] : List UInt8)) = true := bne_iff_ne.mpr c11
     by_cases c14 : a0_0.toList = ([101, 113] : List UInt8)
     ·rw [if_pos c14] at H
      have c14b0 : (a0_0.toList == ([101, 113] : List UInt8)) = true := beq_iff_eq.mpr c14
      have c14b1 : (a0_0.toList != ([101, 113] : List UInt8)) = false := bne_eq_false_iff_eq.mpr c14
      clear c14
      obtain rfl := Option.some.inj H
      go_enter Tryz.func82, Tryz.ntmps82
      go_wp2_with (first | ((with_reducible refine gate_dst (N := 1) rfl ?_); refine box_event ?hg (N := 1) ?hd (cs := #[.string a0_0, .string a0_1, .int .i64 a0_2, .slice A0_3 l0_3.length c0_3]) (t := 30) ?hr ?_; (case hd => rfl); (case hg => rfl); (case hr => first | (go_simp; done) | (go_simp; rfl)); intro gb270 hg w15 hbox hb; have n0_ := Aside0.mk (below_step bSt_ hb); have n1_ := Aside0.mk (hbox); have n2_ := Aside0.mk ((by rw [hg]; exact (below_size bSt_) : w.heap.size ≤ gb270)); have n3_ := Aside0.mk ((by rw [hg]; exact (below_size bSt_) : w.heap.size ≤ gb270)); clear HB; have HB := n0_; have BK270 := n1_; have GW270 := n2_; have GE270 := n3_; clear n0_ n1_ n2_ n3_; clear hb hbox hg; have hcz16_0 : w15.cell? ⟨gb270, 0, none⟩ = some (.string a0_0) := (blk_cell BK270.out 0).trans rfl; have hcz16_1 : w15.cell? ⟨gb270, 1, none⟩ = some (.string a0_1) := (blk_cell BK270.out 1).trans rfl; have hcz16_2 : w15.cell? ⟨gb270, 2, none⟩ = some (.int .i64 a0_2) := (blk_cell BK270.out 2).trans rfl; have hcz16_3 : w15.cell? ⟨gb270, 3, none⟩ = some (.slice A0_3 l0_3.length c0_3) := (blk_cell BK270.out 3).trans rfl; have hfz16_0 := blk_frozen BK270.out 0; have hfz16_1 := blk_frozen BK270.out 1; have hfz16_2 := blk_frozen BK270.out 2; have hfz16_3 := blk_frozen BK270.out 3))
      go_ret
      exact ⟨by first | rfl | (simp [errW_none, errW_some] <;> rfl) | (simp [*, errW_none, errW_some] <;> rfl) | (simp [errW_none, errW_some]; exact Go.Proofs.YtlabfjaddgakkaaGreatW.OwnWords.isEmpty_bne _), bSt_⟩
     ·rw [if_neg c14] at H
      have c14b0 : (a0_0.toList == ([101, 113] : List UInt8)) = false := beq_eq_false_iff_ne.mpr c14
      have c14b1 : (a0_0.toList != ([101, 113] : List UInt8)) = true := bne_iff_ne.mpr c14
      by_cases c17 : a0_0.toList = ([111, 112] : List UInt8)
      ·rw [if_pos c17] at H
       have c17b0 : (a0_0.toList == ([111, 112] : List UInt8)) = true := beq_iff_eq.mpr c17
       have c17b1 : (a0_0.toList != ([111, 112] : List UInt8)) = false := bne_eq_false_iff_eq.mpr c17
       clear c17
       by_cases c18 : 1 + a0_1.size ≤ 9223372036854775807
       ·rw [if_pos c18] at H
        have c18b0 := eq_true c18
        have c18b1 : decide (1 + a0_1.size ≤ 9223372036854775807) = true := decide_eq_true c18
        try have c18b2 : (9223372036854775807 < 1 + a0_1.size) = False := eq_false (Nat.not_lt.2 c18)
        try have c18z0 : (9223372036854775807 < (⟨#[32]⟩ : ByteArray).size + a0_1.size) = False := c18b2
        by_cases c19 : ((⟨#[32]⟩ : ByteArray) ++ a0_1).size + 1 ≤ 9223372036854775807
        ·rw [if_pos c19] at H
         have c19b0 := eq_true c19
         have c19b1 : decide (((⟨#[32]⟩ : ByteArray) ++ a0_1).size + 1 ≤ 9223372036854775807) = true := decide_eq_true c19
         try have c19b2 : (9223372036854775807 < ((⟨#[32]⟩ : ByteArray) ++ a0_1).size + 1) = False := eq_false (Nat.not_lt.2 c19)
         try have c19z0 : (9223372036854775807 < ((⟨#[32]⟩ : ByteArray) ++ a0_1).size + (⟨#[32]⟩ : ByteArray).size) = False := c19b2
         try have c19y : (9223372036854775807 < 1 + a0_1.size + 1) = False := eq_false (by have h_ := c19; (try simp only [ByteArray.size_append, ByteArray.size_extract, show (⟨#[32]⟩ : ByteArray).size = 1 from rfl] at h_); omega)
         obtain rfl := Option.some.inj H
         go_enter Tryz.func82, Tryz.ntmps82
         go_wp2_with (first | ((with_reducible refine gate_dst (N := 1) rfl ?_); refine box_event ?hg (N := 1) ?hd (cs := #[.string a0_0, .string a0_1, .int .i64 a0_2, .slice A0_3 l0_3.length c0_3]) (t := 30) ?hr ?_; (case hd => rfl); (case hg => rfl); (case hr => first | (go_simp; done) | (go_simp; rfl)); intro gb270 hg w20 hbox hb; have n0_ := Aside0.mk (below_step bSt_ hb); have n1_ := Aside0.mk (hbox); have n2_ := Aside0.mk ((by rw [hg]; exact (below_size bSt_) : w.heap.size ≤ gb270)); have n3_ := Aside0.mk ((by rw [hg]; exact (below_size bSt_) : w.heap.size ≤ gb270)); clear HB; have HB := n0_; have BK270 := n1_; have GW270 := n2_; have GE270 := n3_; clear n0_ n1_ n2_ n3_; clear hb hbox hg; have hcz21_0 : w20.cell? ⟨gb270, 0, none⟩ = some (.string a0_0) := (blk_cell BK270.out 0).trans rfl; have hcz21_1 : w20.cell? ⟨gb270, 1, none⟩ = some (.string a0_1) := (blk_cell BK270.out 1).trans rfl; have hcz21_2 : w20.cell? ⟨gb270, 2, none⟩ = some (.int .i64 a0_2) := (blk_cell BK270.out 2).trans rfl; have hcz21_3 : w20.cell? ⟨gb270, 3, none⟩ = some (.slice A0_3 l0_3.length c0_3) := (blk_cell BK270.out 3).trans rfl; have hfz21_0 := blk_frozen BK270.out 0; have hfz21_1 := blk_frozen BK270.out 1; have hfz21_2 := blk_frozen BK270.out 2; have hfz21_3 := blk_frozen BK270.out 3))
         go_ret
         exact ⟨by first | rfl | (simp [errW_none, errW_some] <;> rfl) | (simp [*, errW_none, errW_some] <;> rfl) | (simp [errW_none, errW_some]; exact Go.Proofs.YtlabfjaddgakkaaGreatW.OwnWords.isEmpty_bne _), bSt_⟩
        ·rw [if_neg c19] at H
         exact absurd H (by simp)
       ·rw [if_neg c18] at H
        exact absurd H (by simp)
      ·rw [if_neg c17] at H
       have c17b0 : (a0_0.toList == ([111, 112] : List UInt8)) = false := beq_eq_false_iff_ne.mpr c17
       have c17b1 : (a0_0.toList != ([111, 112] : List UInt8)) = true := bne_iff_ne.mpr c17
       obtain rfl := Option.some.inj H
       go_enter Tryz.func82, Tryz.ntmps82
       go_wp2_with (first | ((with_reducible refine gate_dst (N := 1) rfl ?_); refine box_event ?hg (N := 1) ?hd (cs := #[.string a0_0, .string a0_1, .int .i64 a0_2, .slice A0_3 l0_3.length c0_3]) (t := 30) ?hr ?_; (case hd => rfl); (case hg => rfl); (case hr => first | (go_simp; done) | (go_simp; rfl)); intro gb270 hg w22 hbox hb; have n0_ := Aside0.mk (below_step bSt_ hb); have n1_ := Aside0.mk (hbox); have n2_ := Aside0.mk ((by rw [hg]; exact (below_size bSt_) : w.heap.size ≤ gb270)); have n3_ := Aside0.mk ((by rw [hg]; exact (below_size bSt_) : w.heap.size ≤ gb270)); clear HB; have HB := n0_; have BK270 := n1_; have GW270 := n2_; have GE270 := n3_; clear n0_ n1_ n2_ n3_; clear hb hbox hg; have hcz23_0 : w22.cell? ⟨gb270, 0, none⟩ = some (.string a0_0) := (blk_cell BK270.out 0).trans rfl; have hcz23_1 : w22.cell? ⟨gb270, 1, none⟩ = some (.string a0_1) := (blk_cell BK270.out 1).trans rfl; have hcz23_2 : w22.cell? ⟨gb270, 2, none⟩ = some (.int .i64 a0_2) := (blk_cell BK270.out 2).trans rfl; have hcz23_3 : w22.cell? ⟨gb270, 3, none⟩ = some (.slice A0_3 l0_3.length c0_3) := (blk_cell BK270.out 3).trans rfl; have hfz23_0 := blk_frozen BK270.out 0; have hfz23_1 := blk_frozen BK270.out 1; have hfz23_2 := blk_frozen BK270.out 2; have hfz23_3 := blk_frozen BK270.out 3))
       go_ret
       exact ⟨by first | rfl | (simp [errW_none, errW_some] <;> rfl) | (simp [*, errW_none, errW_some] <;> rfl) | (simp [errW_none, errW_some]; exact Go.Proofs.YtlabfjaddgakkaaGreatW.OwnWords.isEmpty_bne _), bSt_⟩

end Go.Proofs.YtlabfjaddgakkaaGreat.Q
end
section
/-! tree.Print at awake's tree: put. -/
namespace Go.Proofs.YtlabfjaddgakkaaGreat.Need
set_option linter.unusedVariables false
set_option linter.unusedSimpArgs false
open Go.RowKit Go.Proofs.YtlabfjaddgakkaaGreatW.PrintWords Go.Proofs.YtlabfjaddgakkaaGreatW.PrintLast Go.Proofs.YtlabfjaddgakkaaGreatW.PrintMore Go.Proofs.YtlabfjaddgakkaaGreat.Q
/-- The writer lies in block wb; its one line in block lb. -/
structure Wr (w : World) (wb lb : Nat) (t : ByteArray) : Prop where
  W : w.heap[wb]? = some (.cells #[.slice (some ⟨lb, 0, none⟩) 1 1, .bool false, .int .i64 0] 63 (0, 0))
  L : w.heap[lb]? = some (.cells #[.string t] 9 (0, 0))
theorem Wr.below {w w' : World} {wb lb : Nat} {t : ByteArray} (h : Wr w wb lb t) (hb : Below w.heap.size w w') : Wr w' wb lb t := ⟨blk_below h.W hb, blk_below h.L hb⟩
set_option maxHeartbeats 4000000 in
set_option maxRecDepth 100000 in
theorem put_walk (w : World) (wb lb : Nat) (t s : ByteArray) (h : Wr w wb lb t) (hs : t.size + s.size ≤ 9223372036854775807) :
    Calls Tryz.prog 77 #[.pointer (some ⟨wb, 0, none⟩), .string s] w (fun e w' => (∃ r, e = .returned r) ∧ Wr w' wb lb (t ++ s) ∧ KB w w' lb none) := by
  have H := Aside0.mk h
  have x0 := (blk_cell h.W 0).trans rfl
  have y0 := (blk_cell h.L 0).trans rfl
  have z0 := blk_frozen h.L 0
  clear h
  go_enter Tryz.func77, Tryz.ntmps77
  go_upto_region 0 with fail
  (try simp only [Act.put, List.setIfInBounds_toArray, List.set_cons_zero, List.set_cons_succ])
  refine QuietLast.wp_region_qlast (by kernel_rfl) (by kernel_rfl) ?_
  dsimp only [QuietLast.initL, QuietLast.lastL]
  repeat (go_big_quiet_step (fail))
  refine wpQuiet_nil ?_
  intro _ hw'
  obtain ⟨nq, hw''⟩ := hw'
  subst hw''
  go_wp2_with fail
  go_end0
  have hk := kb_set (KB.of_below (pw_below_drewN (Below.refl w.heap.size w) nq) lb none) 0 (.string (t ++ s))
  exact ⟨⟨_, rfl⟩, ⟨blk_keep H.out.W hk (blk_apart H.out.W H.out.L (by decide)), blk_put (blk_drewN H.out.L nq) 0 _ rfl⟩, hk⟩
end Go.Proofs.YtlabfjaddgakkaaGreat.Need
end
section
/-! tree.Print at awake's tree: rows, phrases. -/
namespace Go.Proofs.YtlabfjaddgakkaaGreat.Need
set_option linter.unusedVariables false
set_option linter.unusedSimpArgs false
open Go.RowKit Go.Proofs.YtlabfjaddgakkaaGreatW.PrintWords Go.Proofs.YtlabfjaddgakkaaGreatW.PrintLast Go.Proofs.YtlabfjaddgakkaaGreatW.PrintMore Go.Proofs.YtlabfjaddgakkaaGreat.Q
abbrev nf (s : ByteArray) : ByteArray := ((⟨#[32]⟩ : ByteArray) ++ s) ++ (⟨#[32]⟩ : ByteArray)
abbrev bL : ByteArray := ⟨#[40]⟩
abbrev bR : ByteArray := ⟨#[41]⟩
def TT.out : TT → ByteArray → ByteArray
  | .leaf s, t => t ++ s
  | .bin s a b, t => b.out (a.out (t ++ bL) ++ nf s) ++ bR
def TT.len : TT → Nat
  | .leaf s => s.size
  | .bin s a b => a.len + b.len + (nf s).size + 2
theorem TT.out_size : ∀ (T : TT) (t : ByteArray), (T.out t).size = t.size + T.len
  | .leaf s, t => ByteArray.size_append
  | .bin s a b, t => by
    simp only [TT.out, TT.len, ByteArray.size_append, TT.out_size a, TT.out_size b]
    have : bL.size = 1 := rfl
    have : bR.size = 1 := rfl
    omega
def OkI : TT → Prop
  | .leaf _ => True
  | .bin s a b => tree_infix.f bOp s 0 [a.v, b.v] = some (nf s) ∧ OkI a ∧ OkI b
def Row (a b : TT) (q : Nat) (A1 : Option Addr) (n1 c1 : Nat) (A2 : Option Addr) (n2 c2 : Nat) (w : World) : Prop := w.heap[q]? = some (.cells #[.string a.d, .string a.s, .int .i64 0, .slice A1 n1 c1, .string b.d, .string b.s, .int .i64 0, .slice A2 n2 c2] 30 (0, 0))
set_option maxHeartbeats 4000000 in
set_option maxRecDepth 100000 in
theorem row_walk (a b : TT) (btw : ByteArray) (w : World) (wb lb q : Nat) (t : ByteArray) (A1 : Option Addr) (n1 c1 : Nat) (A2 : Option Addr) (n2 c2 : Nat) (h : Wr w wb lb t) (hr : Row a b q A1 n1 c1 A2 n2 c2 w) (hz : t.size + a.len + btw.size + b.len ≤ 5000)
    (ha : ∀ w' t', KB w w' lb none → Wr w' wb lb t' → t'.size + a.len ≤ 5000 → Calls Tryz.prog 44 #[.pointer (some ⟨wb, 0, none⟩), .agg (Cs a A1 n1 c1)] w' (fun e w2 => (∃ r, e = .returned r) ∧ Wr w2 wb lb (a.out t') ∧ KB w' w2 lb none))
    (hb : ∀ w' t', KB w w' lb none → Wr w' wb lb t' → t'.size + b.len ≤ 5000 → Calls Tryz.prog 44 #[.pointer (some ⟨wb, 0, none⟩), .agg (Cs b A2 n2 c2)] w' (fun e w2 => (∃ r, e = .returned r) ∧ Wr w2 wb lb (b.out t') ∧ KB w' w2 lb none)) :
    Calls Tryz.prog 81 #[.pointer (some ⟨wb, 0, none⟩), .slice (some ⟨q, 0, none⟩) 2 2, .string btw] w (fun e w' => (∃ r, e = .returned r) ∧ Wr w' wb lb (b.out (a.out t ++ btw)) ∧ KB w w' lb none) := by
  have H := Aside0.mk h
  have HR := Aside0.mk (show w.heap[q]? = some (.cells #[.string a.d, .string a.s, .int .i64 0, .slice A1 n1 c1, .string b.d, .string b.s, .int .i64 0, .slice A2 n2 c2] 30 (0, 0)) from hr)
  have HA := Aside0.mk ha
  have HB := Aside0.mk hb
  have HZ := Aside0.mk hz
  have os := Aside0.mk (TT.out_size a t)
  clear h hr ha hb hz
  go_enter Tryz.func81, Tryz.ntmps81
  go_wp2_with fail
  go_loopg [10] 3 (fun kq v10 wx => ∃ j : Nat, v10 = .int .i64 (j : Int) ∧ Aside0 (j + kq = 3 ∧ j ≤ 2) ∧ Aside0 (Wr wx wb lb (if j = 0 then t else if j = 1 then a.out t else b.out (a.out t ++ btw))) ∧ Aside0 (KB w wx lb none))
  case atStart => exact ⟨0, rfl, ⟨by omega⟩, H, ⟨KB.refl _ _ _⟩⟩
  case round =>
    obtain ⟨j, rfl, HJ, HX, HK⟩ := hrel
    cases gk with
    | zero => have := HJ.out; omega
    | succ k1 =>
      match j with
      | 0 =>
        have HX2 := Aside0.mk (show Wr wr wb lb t from HX.out)
        have HRR := Aside0.mk (blk_keep HR.out HK.out (blk_apart HR.out H.out.L (by decide)))
        have e0 := (blk_cell HRR.out 0).trans rfl
        have e1 := (blk_cell HRR.out 1).trans rfl
        have e2 := (blk_cell HRR.out 2).trans rfl
        have e3 := (blk_cell HRR.out 3).trans rfl
        clear HX
        go_wp2_with (go_at_call 44; go_loud ((refine (HA.out _ t (then_keep HK.out (below_alloc (Below.refl wr.heap.size wr) _)) (HX2.out.below (below_alloc (Below.refl wr.heap.size wr) _)) (by have := HZ.out; omega)).mono ?_); rintro e w4 ⟨⟨rr4, rfl⟩, hw, hk⟩; have HW4 := Aside0.mk hw; have HK4 := Aside0.mk (KB.trans (then_keep HK.out (below_alloc (Below.refl wr.heap.size wr) _)) hk (.inl rfl)); clear hw hk e0 e1 e2 e3))
        go_roundg k1
        case measure => have := HJ.out; omega
        case rel => exact ⟨1, by first | rfl | (simp; done), ⟨by have := HJ.out; omega⟩, HW4, HK4⟩
      | 1 =>
        have HX2 := Aside0.mk (show Wr wr wb lb (a.out t) from HX.out)
        have HRR := Aside0.mk (blk_keep HR.out HK.out (blk_apart HR.out H.out.L (by decide)))
        have e0 := (blk_cell HRR.out 4).trans rfl
        have e1 := (blk_cell HRR.out 5).trans rfl
        have e2 := (blk_cell HRR.out 6).trans rfl
        have e3 := (blk_cell HRR.out 7).trans rfl
        clear HX
        have nx := blk_new wr (.cells (Cs b A2 n2 c2) 30 (0, 0))
        have NX := Aside0.mk nx
        go_wp2_with (first
          | (go_at_call 77; go_loud ((refine (put_walk _ wb lb (a.out t) btw (HX2.out.below (below_alloc (Below.refl wr.heap.size wr) _)) (by have := HZ.out; have := os.out; omega)).mono ?_); rintro e w4 ⟨⟨rr4, rfl⟩, hw, hk⟩; have HW4 := Aside0.mk hw; have HK4 := Aside0.mk (KB.trans (then_keep HK.out (below_alloc (Below.refl wr.heap.size wr) _)) hk (.inl rfl)); have hy := blk_keep NX.out hk (by have := blk_lt HX2.out.L; omega); have y0 := (blk_cell hy 0).trans rfl; have y1 := (blk_cell hy 1).trans rfl; have y2 := (blk_cell hy 2).trans rfl; have y3 := (blk_cell hy 3).trans rfl; clear hw hk hy e0 e1 e2 e3))
          | (go_at_call 44; go_loud ((refine (HB.out _ (a.out t ++ btw) HK4.out HW4.out (by have := HZ.out; have := os.out; have e := ByteArray.size_append (a := a.out t) (b := btw); omega)).mono ?_); rintro e w5 ⟨⟨rr5, rfl⟩, hw, hk⟩; have HW5 := Aside0.mk hw; have HK5 := Aside0.mk (KB.trans HK4.out hk (.inl rfl)); clear hw hk y0 y1 y2 y3)))
        go_roundg k1
        case measure => have := HJ.out; omega
        case rel => exact ⟨2, by first | rfl | (simp; done), ⟨by have := HJ.out; omega⟩, HW5, HK5⟩
      | 2 =>
        go_wp2_with fail
        first
          | (go_end0; exact ⟨⟨_, rfl⟩, HX.out, HK.out⟩)
          | (refine bodyPost_ret (results_none rfl _ _ _) rfl ?_; exact ⟨⟨_, rfl⟩, HX.out, HK.out⟩)
      | j + 3 => have := HJ.out; omega
end Go.Proofs.YtlabfjaddgakkaaGreat.Need
end
section
/-! tree.Print at awake's tree. -/
namespace Go.Proofs.YtlabfjaddgakkaaGreat.Need
set_option linter.unusedVariables false
set_option linter.unusedSimpArgs false
open Go.RowKit Go.Proofs.YtlabfjaddgakkaaGreatW.PrintWords Go.Proofs.YtlabfjaddgakkaaGreatW.PrintLast Go.Proofs.YtlabfjaddgakkaaGreatW.PrintMore Go.Proofs.YtlabfjaddgakkaaGreat.Q
set_option maxHeartbeats 4000000 in
set_option maxRecDepth 100000 in
theorem phraseW_walk (T : TT) : OkI T → ∀ (w : World) (ok : Nat → Prop) (A : Option Addr) (n c wb lb : Nat) (t : ByteArray), Tr ok w T A n c → Wr w wb lb t → t.size + T.len ≤ 5000 →
    Calls Tryz.prog 44 #[.pointer (some ⟨wb, 0, none⟩), .agg (Cs T A n c)] w (fun e w' => (∃ r, e = .returned r) ∧ Wr w' wb lb (T.out t) ∧ KB w w' lb none) := by
  induction T with
  | leaf s =>
    intro hk w ok A n c wb lb t ht hw hz
    obtain ⟨rfl, rfl, rfl⟩ := ht
    show Calls Tryz.prog 44 #[.pointer (some ⟨wb, 0, none⟩), .agg #[.string bInt, .string s, .int .i64 0, .slice none 0 0]] w (fun e w' => (∃ r, e = .returned r) ∧ Wr w' wb lb (t ++ s) ∧ KB w w' lb none)
    have HZ := Aside0.mk (show t.size + s.size ≤ 5000 from hz)
    have hx := blk_new w (.cells #[.string bInt, .string s, .int .i64 0, .slice none 0 0] 30 (0, 0))
    have HB := Aside0.mk (below_alloc (Below.refl w.heap.size w) (.cells #[.string bInt, .string s, .int .i64 0, .slice none 0 0] 30 (0, 0)))
    have HW := Aside0.mk (hw.below HB.out)
    have x0 := (blk_cell hx 0).trans rfl
    have x1 := (blk_cell hx 1).trans rfl
    have x3 := (blk_cell hx 3).trans rfl
    clear hk hx hw hz
    go_enter Tryz.func44, Tryz.ntmps44
    go_wp2_with (go_at_call 77; go_loud ((refine (put_walk _ wb lb t s HW.out (by have := HZ.out; omega)).mono ?_); rintro e w2 ⟨⟨rr, rfl⟩, hw, hk⟩; have HW2 := Aside0.mk hw; have HK2 := Aside0.mk (two_keep HB.out hk); clear hw hk))
    first
      | (go_end0; exact ⟨⟨_, rfl⟩, HW2.out, HK2.out⟩)
      | (refine bodyPost_ret (results_none rfl _ _ _) rfl ?_; exact ⟨⟨_, rfl⟩, HW2.out, HK2.out⟩)
  | bin s a b iha ihb =>
    intro hk w ok A n c wb lb t ht hw hz
    have hC := ht.C.2.2
    have hT := ht
    obtain ⟨rfl, rfl, q, rfl, hq, A1, n1, c1, A2, n2, c2, h5, h6, h7⟩ := ht
    show Calls Tryz.prog 44 #[.pointer (some ⟨wb, 0, none⟩), .agg #[.string bOp, .string s, .int .i64 0, .slice (some ⟨q, 0, none⟩) 2 2]] w (fun e w' => (∃ r, e = .returned r) ∧ Wr w' wb lb (b.out (a.out (t ++ bL) ++ nf s) ++ bR) ∧ KB w w' lb none)
    have HZ := Aside0.mk (show t.size + (a.len + b.len + (nf s).size + 2) ≤ 5000 from hz)
    have HI := Aside0.mk hk.1
    have hx := blk_new w (.cells #[.string bOp, .string s, .int .i64 0, .slice (some ⟨q, 0, none⟩) 2 2] 30 (0, 0))
    have HX := Aside0.mk hx
    have HB := Aside0.mk (below_alloc (Below.refl w.heap.size w) (.cells #[.string bOp, .string s, .int .i64 0, .slice (some ⟨q, 0, none⟩) 2 2] 30 (0, 0)))
    have HW := Aside0.mk (hw.below HB.out)
    have HT := Aside0.mk (hT.below HB.out)
    have H5 := Aside0.mk (blk_below h5 HB.out)
    have HA := Aside0.mk (fun (w' : World) (t' : ByteArray) (h : Tr ok w' a A1 n1 c1) (hw' : Wr w' wb lb t') (hz' : t'.size + a.len ≤ 5000) => iha hk.2.1 w' ok A1 n1 c1 wb lb t' h hw' hz')
    have HB' := Aside0.mk (fun (w' : World) (t' : ByteArray) (h : Tr ok w' b A2 n2 c2) (hw' : Wr w' wb lb t') (hz' : t'.size + b.len ≤ 5000) => ihb hk.2.2 w' ok A2 n2 c2 wb lb t' h hw' hz')
    have H6 := Aside0.mk (h6.below HB.out)
    have H7 := Aside0.mk (h7.below HB.out)
    have bl : bL.size = 1 := rfl
    have br : bR.size = 1 := rfl
    have BL := Aside0.mk (And.intro bl br)
    have x0 := (blk_cell hx 0).trans rfl
    have x3 := (blk_cell hx 3).trans rfl
    clear hk hx hw hz hC hT h5 h6 h7 iha ihb hq bl br
    go_enter Tryz.func44, Tryz.ntmps44
    go_upto_region 35 with (go_at_call 77; go_loud ((refine (put_walk _ wb lb t bL HW.out (by have := HZ.out; have := BL.out; omega)).mono ?_); rintro e w2 ⟨⟨rr, rfl⟩, hw, hk⟩; have HW2 := Aside0.mk hw; have HK2 := Aside0.mk (two_keep HB.out hk); have HX2 := Aside0.mk (blk_keep HX.out hk (blk_apart HX.out HW.out.L (by decide))); have HT2 := Aside0.mk (Tr.keepT hk HW.out.L (by decide) HT.out); have H62 := Aside0.mk (Tr.keepT hk HW.out.L (by decide) H6.out); have H72 := Aside0.mk (Tr.keepT hk HW.out.L (by decide) H7.out); have H52 := Aside0.mk (blk_keep H5.out hk (blk_apart H5.out HW.out.L (by decide))); clear hw hk x0 x3))
    (try simp only [Act.put, List.setIfInBounds_toArray, List.set_cons_zero, List.set_cons_succ])
    have L0 := fun x : RegCl.Cl w2 => (blk_cell (blk_below HX2.out x.b) 0).trans rfl
    have L1 := fun x : RegCl.Cl w2 => (blk_cell (blk_below HX2.out x.b) 1).trans rfl
    have L2 := fun x : RegCl.Cl w2 => (blk_cell (blk_below HX2.out x.b) 2).trans rfl
    have L3 := fun x : RegCl.Cl w2 => (blk_cell (blk_below HX2.out x.b) 3).trans rfl
    refine QuietLast.wp_region_qlastC (by kernel_rfl) (by kernel_rfl) ?_
    dsimp only [QuietLast.initL, QuietLast.lastL]
    repeat (go_big_quiet_step ((go_at_call 82; (refine (tree_infix.calls bOp s 0 (some ⟨q, 0, none⟩) 2 [a.v, b.v] (nf s) _ (Kd.C_below HT2.out.C.2.2 (RegCl.Cl.b _)) (Nat.le_refl 2) HI.out).mono ?_); rintro e wz ⟨rfl, hb⟩; exact ⟨rfl, ⟨wz, below_then (RegCl.Cl.b _) (RegCl.Cl.b _).size hb⟩, rfl⟩)))
    refine wpQuiet_nil ?_
    intro x
    clear L0 L1 L2 L3
    have os := Aside0.mk (TT.out_size a (t ++ bL))
    have os2 := Aside0.mk (TT.out_size b (a.out (t ++ bL) ++ nf s))
    have e1 := Aside0.mk (ByteArray.size_append (a := t) (b := bL))
    have e2 := Aside0.mk (ByteArray.size_append (a := a.out (t ++ bL)) (b := nf s))
    go_wp2_with (first
      | (go_at_call 81; go_loud ((refine (row_walk a b (nf s) x.v wb lb q (t ++ bL) A1 n1 c1 A2 n2 c2 (HW2.out.below x.b) (blk_below H52.out x.b) (by have := HZ.out; have := e1.out; have := BL.out; omega) (fun w' t' hk hw' hz' => HA.out w' t' (Tr.keepT hk (HW2.out.below x.b).L (by decide) (H62.out.below x.b)) hw' hz') (fun w' t' hk hw' hz' => HB'.out w' t' (Tr.keepT hk (HW2.out.below x.b).L (by decide) (H72.out.below x.b)) hw' hz')).mono ?_); rintro e w5 ⟨⟨rr5, rfl⟩, hw, hk⟩; have HW5 := Aside0.mk hw; have HK5 := Aside0.mk (KB.trans (then_keep HK2.out x.b) hk (.inl rfl)); clear hw hk))
      | (go_at_call 77; have := HW5; go_loud ((refine (put_walk _ wb lb _ bR HW5.out (by have := HZ.out; have := os.out; have := os2.out; have := e1.out; have := e2.out; have := BL.out; omega)).mono ?_); rintro e w6 ⟨⟨rr6, rfl⟩, hw, hk⟩; have HW6 := Aside0.mk hw; have HK6 := Aside0.mk (KB.trans HK5.out hk (.inl rfl)); clear hw hk)))
    first
      | (go_end0; exact ⟨⟨_, rfl⟩, HW6.out, HK6.out⟩)
      | (refine bodyPost_ret (results_none rfl _ _ _) rfl ?_; exact ⟨⟨_, rfl⟩, HW6.out, HK6.out⟩)
end Go.Proofs.YtlabfjaddgakkaaGreat.Need
end
section
/-! The law's awake. -/
namespace Go.Proofs.YtlabfjaddgakkaaGreat.Need
set_option linter.unusedVariables false
set_option linter.unusedSimpArgs false
open Go.RowKit Go.Proofs.YtlabfjaddgakkaaGreatW.PrintWords Go.Proofs.YtlabfjaddgakkaaGreatW.PrintLast Go.Proofs.YtlabfjaddgakkaaGreatW.PrintMore Go.Proofs.YtlabfjaddgakkaaGreat.Q
abbrev exp3 : ByteArray := ⟨#[40, 40, 49, 32, 43, 32, 40, 50, 32, 42, 32, 51, 41, 41, 32, 61, 61, 32, 55, 41]⟩
theorem out3 : tree3.out (⟨#[]⟩ : ByteArray) = exp3 := by kernel_rfl
theorem okil (s : ByteArray) : OkI (.leaf s) := trivial
theorem okib (s : ByteArray) (a b : TT) (h : tree_infix.f bOp s 0 [a.v, b.v] = some (nf s)) (ha : OkI a) (hb : OkI b) : OkI (.bin s a b) := ⟨h, ha, hb⟩
theorem oki3 : OkI tree3 := okib _ _ _ (by kernel_rfl) (okib _ _ _ (by kernel_rfl) (okil _) (okib _ _ _ (by kernel_rfl) (okil _) (okil _))) (okil _)
theorem len3 : (⟨#[]⟩ : ByteArray).size + tree3.len ≤ 5000 := by decide +kernel
set_option maxHeartbeats 4000000 in
set_option maxRecDepth 100000 in
theorem print_walk (w : World) (ok : Nat → Prop) (A : Option Addr) (n c : Nat) (ht : Tr ok w tree3 A n c) :
    Calls Tryz.prog 20 #[.agg (Cs tree3 A n c)] w (fun e w' => e = .returned (.tuple #[.string exp3, .int .i64 0]) ∧ Below w.heap.size w w') := by
  have hb := below_alloc (Below.refl w.heap.size w) (.cells (Cs tree3 A n c) 30 (0, 0))
  have H := Aside0.mk (And.intro (ht.below hb) hb)
  have h0 := blk_new w (.cells (Cs tree3 A n c) 30 (0, 0))
  have HX := Aside0.mk h0
  have x0 := (blk_cell h0 0).trans rfl
  have x1 := (blk_cell h0 1).trans rfl
  have x2 := (blk_cell h0 2).trans rfl
  have x3 := (blk_cell h0 3).trans rfl
  clear ht hb h0
  go_enter Tryz.func20, Tryz.ntmps20
  go_wp2_with (first
    | (go_at_call 19; go_loud ((refine (valid_walk _ ok A n c H.out.1).mono ?_); rintro e w2 ⟨rfl, hb⟩; have HB := Aside0.mk hb; have hbb := below_alloc (below_alloc (Below.refl w2.heap.size w2) (.cells #[.string ⟨#[]⟩] 9 (0, 0))) (.cells #[.slice (some ⟨w2.heap.size, 0, none⟩) 1 1, .bool false, .int .i64 0] 63 (0, 0)); have HBB := Aside0.mk hbb; have HWR := Aside0.mk (show Wr ((w2.alloc (.cells #[.string ⟨#[]⟩] 9 (0, 0))).alloc (.cells #[.slice (some ⟨w2.heap.size, 0, none⟩) 1 1, .bool false, .int .i64 0] 63 (0, 0))) (w2.heap.size + 1) w2.heap.size ⟨#[]⟩ from ⟨two_new w2 _ _, blk_alloc (blk_new _ _) _⟩); have y0 := (blk_cell (blk_below (blk_below HX.out hb) hbb) 0).trans rfl; have y1 := (blk_cell (blk_below (blk_below HX.out hb) hbb) 1).trans rfl; have y2 := (blk_cell (blk_below (blk_below HX.out hb) hbb) 2).trans rfl; have y3 := (blk_cell (blk_below (blk_below HX.out hb) hbb) 3).trans rfl; clear hb hbb x0 x1 x2 x3))
    | (go_at_call 44; go_loud ((refine (phraseW_walk tree3 oki3 _ ok A n c (w2.heap.size + 1) w2.heap.size ⟨#[]⟩ ((H.out.1.below HB.out).below HBB.out) HWR.out len3).mono ?_); rintro e w3 ⟨⟨rr, rfl⟩, hw, hk⟩; rw [out3] at hw; have z0 := (blk_cell hw.W 0).trans rfl; have z1 := (blk_cell hw.L 0).trans rfl; have HK := Aside0.mk (KB.below (below_then (below_then H.out.2 H.out.2.size HB.out) (Nat.le_trans H.out.2.size HB.out.size) HBB.out) (kb_wide' hk w2.heap.size) (Nat.le_trans H.out.2.size HB.out.size) (Nat.le_trans H.out.2.size HB.out.size)); clear hw hk y0 y1 y2 y3)))
  go_ret2
  exact ⟨rfl, HK.out⟩
set_option maxHeartbeats 4000000 in
set_option maxRecDepth 100000 in
theorem awake_walk (w : World) : Calls Tryz.prog 7 #[] w (fun e w' => e = .returned (.bool true) ∧ Below w.heap.size w w') := by
  go_enter Tryz.func7, Tryz.ntmps7
  go_wp2_with (first
    | (go_at_call 15; go_loud ((refine (parse_walk _).mono ?_); rintro e w2 ⟨A, n, c, rfl, ht, hb⟩; have hx := blk_new w2 (.cells (Cs tree3 A n c) 30 (0, 0)); have HX := Aside0.mk hx; have HB := Aside0.mk (below_alloc hb (.cells (Cs tree3 A n c) 30 (0, 0))); have HT := Aside0.mk (ht.below (below_alloc (Below.refl w2.heap.size w2) (.cells (Cs tree3 A n c) 30 (0, 0)))); have x0 := (blk_cell hx 0).trans rfl; have x1 := (blk_cell hx 1).trans rfl; have x2 := (blk_cell hx 2).trans rfl; have x3 := (blk_cell hx 3).trans rfl; clear hx hb ht))
    | (go_at_call 20; go_loud ((refine (print_walk _ (fun _ => True) A n c HT.out).mono ?_); rintro e w3 ⟨rfl, hb⟩; have HB3 := Aside0.mk (below_then HB.out HB.out.size hb); have y0 : w3.cell? ⟨w2.heap.size, 0, none⟩ = some (.string bOp) := (blk_cell (blk_below HX.out hb) 0).trans rfl; clear hb x0 x1 x2 x3)))
  go_ret
  exact ⟨rfl, HB3.out⟩
end Go.Proofs.YtlabfjaddgakkaaGreat.Need
end
section
namespace Go.Proofs.YtlabfjaddgakkaaGreat.Q
open Go.RowKit Go.Proofs.YtlabfjaddgakkaaGreatW.PrintWords Go.Proofs.YtlabfjaddgakkaaGreatW.PrintLast Go.Proofs.YtlabfjaddgakkaaGreatW.PrintMore
/-! ### manystrandlaw02_awake: function 7 -/
def manystrandlaw02_awake.f  : Option (Bool) := some true
theorem manystrandlaw02_awake.calls  (r : Bool) (w : World) (h : manystrandlaw02_awake.f  = some r) :
    Calls Tryz.prog 7 #[] w fun e w' => e = .returned (.bool r) ∧ Below w.heap.size w w' := by
  obtain rfl : true = r := Option.some.inj h
  exact Go.Proofs.YtlabfjaddgakkaaGreat.Need.awake_walk w
end Go.Proofs.YtlabfjaddgakkaaGreat.Q
end
section
namespace Go.Proofs.YtlabfjaddgakkaaGreat.Q
open Go.RowKit Go.Proofs.YtlabfjaddgakkaaGreatW.PrintWords Go.Proofs.YtlabfjaddgakkaaGreatW.PrintLast Go.Proofs.YtlabfjaddgakkaaGreatW.PrintMore Go.Proofs.YtlabfjaddgakkaaGreatW.OwnWords
attribute [local go_sem] Go.Proofs.YtlabfjaddgakkaaGreatW.OwnWords.isSome_setCell max2_int min2_int max_two min_two max_three min_three max_four min_four
set_option linter.unusedVariables false
set_option linter.unusedSimpArgs false

/-! ### manystrandref02_Less: function 11 -/
def manystrandref02_Less.j0 : Nat → Bool → Int → ByteArray → Int → ByteArray → Option (Bool)
 | 0, _, _, _, _, _ => none
 | k + 1, x12, x301000, x301001, x302000, x302001 => if x12 = true then (some (decide (x301000 < x302000))) else (if x301000 > 0 then (some (decide (x301000 > 0))) else (if x302000 > 0 then (some (decide (x301000 > 0))) else (some (Op.bytesLess x301001.toList x302001.toList))))
def manystrandref02_Less.f (k : Nat) (a0_0 : Int) (a0_1 : ByteArray) (a1_0 : Int) (a1_1 : ByteArray) : Option (Bool) := if a0_0 > 0 then (manystrandref02_Less.j0 k (decide (a1_0 > 0)) a0_0 a0_1 a1_0 a1_1) else (manystrandref02_Less.j0 k false a0_0 a0_1 a1_0 a1_1)
theorem manystrandref02_Less.mono_l : ∀ k, (∀ y0 y1 y2 y3 y4, LeO (manystrandref02_Less.j0 k y0 y1 y2 y3 y4) (manystrandref02_Less.j0 (k + 1) y0 y1 y2 y3 y4))
 | 0 => fun _ _ _ _ _ r h => by simp [manystrandref02_Less.j0] at h
 | k + 1 => by
  have ih0 := manystrandref02_Less.mono_l k
  ·intro y0 y1 y2 y3 y4
   unfold manystrandref02_Less.j0
   repeat' first
   | (with_reducible exact ih0 _ _ _ _ _)
   | (with_reducible exact LeO.refl _)
   | (with_reducible exact LeO.none _)
   | (with_reducible refine LeO.ite ?_ ?_)
   | (with_reducible refine LeO.bind ?_ (fun _ => ?_))
   | exact ih0 _ _ _ _ _
   | exact LeO.none _
   | refine LeO.ite ?_ ?_
   | refine LeO.bind ?_ (fun _ => ?_)
theorem manystrandref02_Less.mono : ∀ a0 a1 a2 a3 k, LeO (manystrandref02_Less.f k a0 a1 a2 a3) (manystrandref02_Less.f (k + 1) a0 a1 a2 a3) := by
 intro a0 a1 a2 a3 k
 have ih0 := manystrandref02_Less.mono_l k
 unfold manystrandref02_Less.f
 repeat' first
   | (with_reducible exact ih0 _ _ _ _ _)
   | (with_reducible exact LeO.refl _)
   | (with_reducible exact LeO.none _)
   | (with_reducible refine LeO.ite ?_ ?_)
   | (with_reducible refine LeO.bind ?_ (fun _ => ?_))
   | exact ih0 _ _ _ _ _
   | exact LeO.none _
   | refine LeO.ite ?_ ?_
   | refine LeO.bind ?_ (fun _ => ?_)
set_option maxHeartbeats 8000000 in
set_option maxRecDepth 100000 in
theorem manystrandref02_Less.calls (k : Nat) (a0_0 : Int) (a0_1 : ByteArray) (a1_0 : Int) (a1_1 : ByteArray) (r : Bool) (w : World) (h : manystrandref02_Less.f k a0_0 a0_1 a1_0 a1_1 = some r) :
  Calls Tryz.prog 11 #[.agg #[.int .i64 a0_0, .string a0_1], .agg #[.int .i64 a1_0, .string a1_1]] w fun e w' => e = .returned (.bool r) ∧ Below w.heap.size w w' := by
 have hu23 := Tryz.underlying23
 have HB := Aside0.mk (Below.refl w.heap.size w)
 have H : (if a0_0 > 0 then (manystrandref02_Less.j0 k (decide (a1_0 > 0)) a0_0 a0_1 a1_0 a1_1) else (manystrandref02_Less.j0 k false a0_0 a0_1 a1_0 a1_1)) = some r := h
 clear h
 have HC3 := Aside0.mk H
 clear H
 go_enter Tryz.func11, Tryz.ntmps11
 go_upto_region 1 with (first | ((with_reducible refine gate_dst (N := 2) rfl ?_); refine box_event ?hg (N := 2) ?hd (cs := #[.int .i64 a0_0, .string a0_1]) (t := 23) ?hr ?_; (case hd => rfl); (case hg => rfl); (case hr => first | (go_simp; done) | (go_simp; rfl)); intro gb300 hg w4 hbox hb; have n0_ := Aside0.mk (below_step bSt_ hb); have n1_ := Aside0.mk (hbox); have n2_ := Aside0.mk ((by rw [hg]; exact (below_size bSt_) : w.heap.size ≤ gb300)); have n3_ := Aside0.mk ((by rw [hg]; exact (below_size bSt_) : w.heap.size ≤ gb300)); clear HB; have HB := n0_; have BK300 := n1_; have GW300 := n2_; have GE300 := n3_; clear n0_ n1_ n2_ n3_; clear hb hbox hg) | ((with_reducible refine gate_dst (N := 3) rfl ?_); refine box_event ?hg (N := 3) ?hd (cs := #[.int .i64 a1_0, .string a1_1]) (t := 23) ?hr ?_; (case hd => rfl); (case hg => rfl); (case hr => first | (go_simp; done) | (go_simp; rfl)); intro gb301 hg w5 hbox hb; have n0_ := Aside0.mk (blk_below (bKq_ BK300.out) hb); have n1_ := Aside0.mk (below_step bSt_ hb); have n2_ := Aside0.mk (hbox); have n3_ := Aside0.mk ((by rw [hg]; exact (below_size bSt_) : w.heap.size ≤ gb301)); have n4_ := Aside0.mk ((by rw [hg]; exact (below_size bSt_) : w.heap.size ≤ gb301)); have n5_ := Aside0.mk ((by rw [hg]; exact Nat.ne_of_lt (blk_lt (bKq_ BK300.out)) : gb300 ≠ gb301)); have n6_ := Aside0.mk ((by rw [hg]; exact Nat.ne_of_gt (blk_lt (bKq_ BK300.out)) : gb301 ≠ gb300)); clear BK300; clear HB; have BK300 := n0_; have HB := n1_; have BK301 := n2_; have GW301 := n3_; have GE301 := n4_; have NB300_301 := n5_; have NB301_300 := n6_; clear n0_ n1_ n2_ n3_ n4_ n5_ n6_; clear hb hbox hg))
 (try simp only [Act.put, List.setIfInBounds_toArray, List.set_cons_zero, List.set_cons_succ])
 go_cut [12] (fun v12 wc => ∃ (kq : Nat) (x12_2 : Bool), v12 = .bool x12_2 ∧ Aside0 (manystrandref02_Less.j0 kq x12_2 a0_0 a0_1 a1_0 a1_1 = some r) ∧ Aside0 (kq ≤ k) ∧ Aside0 (wc.heap[gb300]? = some (.cells #[.int .i64 a0_0, .string a0_1] 23 (0, 0))) ∧ Aside0 (wc.heap[gb301]? = some (.cells #[.int .i64 a1_0, .string a1_1] 23 (0, 0))) ∧ Aside0 (Below w.heap.size w wc))
 case first =>
  have H := HC3.out
  clear HC3
  by_cases c6 : a0_0 > 0
  ·rw [if_pos c6] at H
   have c6b0 : decide (0 < a0_0) = true := decide_eq_true c6
   clear c6
   (first | rw [c6b0] | (simp only [i64_w, i32_w]; rw [c6b0]) | skip)
   have H' := Aside0.mk H
   clear H
   have hnb7 := NB300_301.out
   have hnc7 := NB301_300.out
   have hcz8_0 : w5.cell? ⟨gb300, 0, none⟩ = some (.int .i64 a0_0) := (blk_cell BK300.out 0).trans rfl
   have hcz8_1 : w5.cell? ⟨gb300, 1, none⟩ = some (.string a0_1) := (blk_cell BK300.out 1).trans rfl
   have hfz8_0 := blk_frozen BK300.out 0
   have hfz8_1 := blk_frozen BK300.out 1
   have hcz9_0 : w5.cell? ⟨gb301, 0, none⟩ = some (.int .i64 a1_0) := (blk_cell BK301.out 0).trans rfl
   have hcz9_1 : w5.cell? ⟨gb301, 1, none⟩ = some (.string a1_1) := (blk_cell BK301.out 1).trans rfl
   have hfz9_0 := blk_frozen BK301.out 0
   have hfz9_1 := blk_frozen BK301.out 1
   go_wp2
   go_meet
   case rel => exact ⟨_, (decide (a1_0 > 0)), (by first | rfl | (simp; done) | (simp [*]; done)), H', ⟨by first | omega | exact Nat.le_refl _⟩, ⟨bKq_ BK300.out⟩, ⟨bKq_ BK301.out⟩, ⟨bSt_⟩⟩
  ·rw [if_neg c6] at H
   have c6b0 : decide (0 < a0_0) = false := decide_eq_false c6
   clear c6
   (first | rw [c6b0] | (simp only [i64_w, i32_w]; rw [c6b0]) | skip)
   have H' := Aside0.mk H
   clear H
   have hnb10 := NB300_301.out
   have hnc10 := NB301_300.out
   have hcz11_0 : w5.cell? ⟨gb300, 0, none⟩ = some (.int .i64 a0_0) := (blk_cell BK300.out 0).trans rfl
   have hcz11_1 : w5.cell? ⟨gb300, 1, none⟩ = some (.string a0_1) := (blk_cell BK300.out 1).trans rfl
   have hfz11_0 := blk_frozen BK300.out 0
   have hfz11_1 := blk_frozen BK300.out 1
   go_wp2
   go_meet
   case rel => exact ⟨_, (false), (by first | rfl | (simp; done) | (simp [*]; done)), H', ⟨by first | omega | exact Nat.le_refl _⟩, ⟨bKq_ BK300.out⟩, ⟨bKq_ BK301.out⟩, ⟨bSt_⟩⟩
 case rest =>
  clear HC3
  try clear c1
  try clear p2
  try clear c6
  try clear c6b0
  try clear c7
  try clear c10
  try clear c11
  try clear hcz11_0
  try clear hcz11_1
  try clear hcz8_0
  try clear hcz8_1
  try clear hcz9_0
  try clear hcz9_1
  try clear hfz11_0
  try clear hfz11_1
  try clear hfz8_0
  try clear hfz8_1
  try clear hfz9_0
  try clear hfz9_1
  obtain ⟨kq, x12_2, rfl, HA, HJ2, BK300, BK301, HB⟩ := hcut
  cases kq with
  | zero => exact absurd HA.out (by simp [manystrandref02_Less.j0])
  | succ kj2 =>
   have H := HA.out
   clear HA
   simp only [manystrandref02_Less.j0] at H
   by_cases c12 : x12_2 = true
   ·subst c12
    have H1 : (some (decide (a0_0 < a1_0))) = some r := by rw [if_pos rfl] at H; exact H
    clear H
    have H := H1
    clear H1
    obtain rfl := Option.some.inj H
    have hnb13 := NB300_301.out
    have hnc13 := NB301_300.out
    have hcz14_0 : wc.cell? ⟨gb300, 0, none⟩ = some (.int .i64 a0_0) := (blk_cell BK300.out 0).trans rfl
    have hcz14_1 : wc.cell? ⟨gb300, 1, none⟩ = some (.string a0_1) := (blk_cell BK300.out 1).trans rfl
    have hfz14_0 := blk_frozen BK300.out 0
    have hfz14_1 := blk_frozen BK300.out 1
    have hcz15_0 : wc.cell? ⟨gb301, 0, none⟩ = some (.int .i64 a1_0) := (blk_cell BK301.out 0).trans rfl
    have hcz15_1 : wc.cell? ⟨gb301, 1, none⟩ = some (.string a1_1) := (blk_cell BK301.out 1).trans rfl
    have hfz15_0 := blk_frozen BK301.out 0
    have hfz15_1 := blk_frozen BK301.out 1
    go_wp2
    go_ret
    exact ⟨by first | rfl | (simp [errW_none, errW_some] <;> rfl) | (simp [*, errW_none, errW_some] <;> rfl) | (simp [errW_none, errW_some]; exact Go.Proofs.YtlabfjaddgakkaaGreatW.OwnWords.isEmpty_bne _), bSt_⟩
   ·replace c12 := Bool.eq_false_iff.mpr c12
    subst c12
    have H1 : (if a0_0 > 0 then (some (decide (a0_0 > 0))) else (if a1_0 > 0 then (some (decide (a0_0 > 0))) else (some (Op.bytesLess a0_1.toList a1_1.toList)))) = some r := by rw [if_neg (show ¬ (false = true) by decide)] at H; exact H
    clear H
    have H := H1
    clear H1
    by_cases c16 : a0_0 > 0
    ·rw [if_pos c16] at H
     have c16b0 : decide (0 < a0_0) = true := decide_eq_true c16
     clear c16
     obtain rfl := Option.some.inj H
     have hnb17 := NB300_301.out
     have hnc17 := NB301_300.out
     have hcz18_0 : wc.cell? ⟨gb300, 0, none⟩ = some (.int .i64 a0_0) := (blk_cell BK300.out 0).trans rfl
     have hcz18_1 : wc.cell? ⟨gb300, 1, none⟩ = some (.string a0_1) := (blk_cell BK300.out 1).trans rfl
     have hfz18_0 := blk_frozen BK300.out 0
     have hfz18_1 := blk_frozen BK300.out 1
     go_wp2
     go_ret
     exact ⟨by first | rfl | (simp [errW_none, errW_some] <;> rfl) | (simp [*, errW_none, errW_some] <;> rfl) | (simp [errW_none, errW_some]; exact Go.Proofs.YtlabfjaddgakkaaGreatW.OwnWords.isEmpty_bne _), bSt_⟩
    ·rw [if_neg c16] at H
     have c16b0 : decide (0 < a0_0) = false := decide_eq_false c16
     clear c16
     by_cases c19 : a1_0 > 0
     ·rw [if_pos c19] at H
      have c19b0 : decide (0 < a1_0) = true := decide_eq_true c19
      clear c19
      obtain rfl := Option.some.inj H
      have hnb20 := NB300_301.out
      have hnc20 := NB301_300.out
      have hcz21_0 : wc.cell? ⟨gb300, 0, none⟩ = some (.int .i64 a0_0) := (blk_cell BK300.out 0).trans rfl
      have hcz21_1 : wc.cell? ⟨gb300, 1, none⟩ = some (.string a0_1) := (blk_cell BK300.out 1).trans rfl
      have hfz21_0 := blk_frozen BK300.out 0
      have hfz21_1 := blk_frozen BK300.out 1
      have hcz22_0 : wc.cell? ⟨gb301, 0, none⟩ = some (.int .i64 a1_0) := (blk_cell BK301.out 0).trans rfl
      have hcz22_1 : wc.cell? ⟨gb301, 1, none⟩ = some (.string a1_1) := (blk_cell BK301.out 1).trans rfl
      have hfz22_0 := blk_frozen BK301.out 0
      have hfz22_1 := blk_frozen BK301.out 1
      go_wp2
      go_ret
      exact ⟨by first | rfl | (simp [errW_none, errW_some] <;> rfl) | (simp [*, errW_none, errW_some] <;> rfl) | (simp [errW_none, errW_some]; exact Go.Proofs.YtlabfjaddgakkaaGreatW.OwnWords.isEmpty_bne _), bSt_⟩
     ·rw [if_neg c19] at H
      have c19b0 : decide (0 < a1_0) = false := decide_eq_false c19
      clear c19
      obtain rfl := Option.some.inj H
      have hnb23 := NB300_301.out
      have hnc23 := NB301_300.out
      have hcz24_0 : wc.cell? ⟨gb300, 0, none⟩ = some (.int .i64 a0_0) := (blk_cell BK300.out 0).trans rfl
      have hcz24_1 : wc.cell? ⟨gb300, 1, none⟩ = some (.string a0_1) := (blk_cell BK300.out 1).trans rfl
      have hfz24_0 := blk_frozen BK300.out 0
      have hfz24_1 := blk_frozen BK300.out 1
      have hcz25_0 : wc.cell? ⟨gb301, 0, none⟩ = some (.int .i64 a1_0) := (blk_cell BK301.out 0).trans rfl
      have hcz25_1 : wc.cell? ⟨gb301, 1, none⟩ = some (.string a1_1) := (blk_cell BK301.out 1).trans rfl
      have hfz25_0 := blk_frozen BK301.out 0
      have hfz25_1 := blk_frozen BK301.out 1
      go_wp2
      go_ret
      exact ⟨by first | rfl | (simp [errW_none, errW_some] <;> rfl) | (simp [*, errW_none, errW_some] <;> rfl) | (simp [errW_none, errW_some]; exact Go.Proofs.YtlabfjaddgakkaaGreatW.OwnWords.isEmpty_bne _), bSt_⟩

end Go.Proofs.YtlabfjaddgakkaaGreat.Q
end
