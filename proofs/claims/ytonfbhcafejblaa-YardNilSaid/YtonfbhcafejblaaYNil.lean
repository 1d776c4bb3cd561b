import Derived.Test.YtonfbhcafejblaaYAwake
/-! A yard that is none: each of its functions ends at once. (Written by yard_nil.py.) -/
namespace Go.Proofs.Ytonfbhcafejblaa.Yd
set_option linter.unusedVariables false
set_option linter.unusedSimpArgs false
open Go.RowKit Go.Proofs.YtonfbhcafejblaaW.PrintWords Go.Proofs.YtonfbhcafejblaaW.PrintLast Go.Proofs.YtonfbhcafejblaaW.PrintMore Go.Proofs.Ytonfbhcafejblaa.Q
attribute [local go_sem] Go.Proofs.YtonfbhcafejblaaW.OwnWords.isSome_setCell max2_int min2_int
/-- A call ends with r; what was there stays. -/
def NilEnd (w : World) (r : Value) (e : Ending) (w' : World) : Prop := e = .returned r ∧ Below w.heap.size w w'
set_option maxHeartbeats 2000000 in
set_option maxRecDepth 100000 in
theorem nil_find (n : Int) (S : Value) (w : World) : Calls Try.prog 31 #[Value.pointer none, .int .i64 n, S] w (NilEnd w (.tuple #[.pointer none, .int .i64 7])) := by
  go_enter Try.func31, Try.ntmps31
  go_wp2_with (first | (go_at_call 29; (refine (none_nil _).mono ?_); rintro e w2 ⟨rfl, rfl⟩))
  go_ret2
  refine ⟨rfl, ?_⟩
  first
    | exact Below.refl _ _
    | exact below_alloc (Below.refl _ _) _
    | exact HB.out
    | exact below_then (below_alloc (Below.refl _ _) _) (by simp) HB.out
    | exact below_then (below_alloc (below_alloc (Below.refl _ _) _) _) (by simp; omega) HB.out
set_option maxHeartbeats 2000000 in
set_option maxRecDepth 100000 in
theorem nil_entry (n : Int) (f0 : Int) (f1 : ByteArray) (w : World) : Calls Try.prog 35 #[Value.pointer none, .int .i64 n, .agg #[.int .i64 f0, .string f1]] w (NilEnd w (.tuple #[.pointer none, .bool false, .int .i64 7])) := by
  go_enter Try.func35, Try.ntmps35
  go_wp2_with (first | (go_at_call 29; (refine (none_nil _).mono ?_); rintro e w2 ⟨rfl, rfl⟩) | (go_at_call 31; (refine (nil_find _ _ _).mono ?_); rintro e w3 ⟨rfl, hb⟩; have HB := Aside0.mk hb; clear hb))
  go_ret3
  refine ⟨rfl, ?_⟩
  first
    | exact Below.refl _ _
    | exact below_alloc (Below.refl _ _) _
    | exact HB.out
    | exact below_then (below_alloc (Below.refl _ _) _) (by simp) HB.out
    | exact below_then (below_alloc (below_alloc (Below.refl _ _) _) _) (by simp; omega) HB.out
set_option maxHeartbeats 2000000 in
set_option maxRecDepth 100000 in
theorem nil_make (s : ByteArray) (a : Int) (b : Int) (w : World) : Calls Try.prog 7 #[Value.pointer none, .string s, .int .i64 a, .int .i64 b] w (NilEnd w (.tuple #[.int .i64 0, .int .i64 7])) := by
  go_enter Try.func7, Try.ntmps7
  go_wp2_with (first | (go_at_call 29; (refine (none_nil _).mono ?_); rintro e w2 ⟨rfl, rfl⟩) | (go_at_call 31; (refine (nil_find _ _ _).mono ?_); rintro e w3 ⟨rfl, hb⟩; have HB := Aside0.mk hb; clear hb) | (go_at_call 35; (refine (nil_entry _ _ _ _).mono ?_); rintro e w3 ⟨rfl, hb⟩; have HB := Aside0.mk hb; clear hb))
  go_ret2
  refine ⟨rfl, ?_⟩
  first
    | exact Below.refl _ _
    | exact below_alloc (Below.refl _ _) _
    | exact HB.out
    | exact below_then (below_alloc (Below.refl _ _) _) (by simp) HB.out
    | exact below_then (below_alloc (below_alloc (Below.refl _ _) _) _) (by simp; omega) HB.out
set_option maxHeartbeats 2000000 in
set_option maxRecDepth 100000 in
theorem nil_row (a : Int) (b : Int) (c : Int) (d : Int) (w : World) : Calls Try.prog 15 #[Value.pointer none, .int .i64 a, .int .i64 b, .int .i64 c, .int .i64 d] w (NilEnd w (.tuple #[.int .i64 0, .int .i64 7])) := by
  go_enter Try.func15, Try.ntmps15
  go_wp2_with (first | (go_at_call 29; (refine (none_nil _).mono ?_); rintro e w2 ⟨rfl, rfl⟩) | (go_at_call 31; (refine (nil_find _ _ _).mono ?_); rintro e w3 ⟨rfl, hb⟩; have HB := Aside0.mk hb; clear hb) | (go_at_call 35; (refine (nil_entry _ _ _ _).mono ?_); rintro e w3 ⟨rfl, hb⟩; have HB := Aside0.mk hb; clear hb))
  go_ret2
  refine ⟨rfl, ?_⟩
  first
    | exact Below.refl _ _
    | exact below_alloc (Below.refl _ _) _
    | exact HB.out
    | exact below_then (below_alloc (Below.refl _ _) _) (by simp) HB.out
    | exact below_then (below_alloc (below_alloc (Below.refl _ _) _) _) (by simp; omega) HB.out
set_option maxHeartbeats 2000000 in
set_option maxRecDepth 100000 in
theorem nil_get (n : Int) (w : World) : Calls Try.prog 16 #[Value.pointer none, .int .i64 n] w (NilEnd w (.tuple #[.int .i64 0, .int .i64 7])) := by
  go_enter Try.func16, Try.ntmps16
  go_wp2_with (first | (go_at_call 29; (refine (none_nil _).mono ?_); rintro e w2 ⟨rfl, rfl⟩) | (go_at_call 31; (refine (nil_find _ _ _).mono ?_); rintro e w3 ⟨rfl, hb⟩; have HB := Aside0.mk hb; clear hb) | (go_at_call 35; (refine (nil_entry _ _ _ _).mono ?_); rintro e w3 ⟨rfl, hb⟩; have HB := Aside0.mk hb; clear hb))
  go_ret2
  refine ⟨rfl, ?_⟩
  first
    | exact Below.refl _ _
    | exact below_alloc (Below.refl _ _) _
    | exact HB.out
    | exact below_then (below_alloc (Below.refl _ _) _) (by simp) HB.out
    | exact below_then (below_alloc (below_alloc (Below.refl _ _) _) _) (by simp; omega) HB.out
set_option maxHeartbeats 2000000 in
set_option maxRecDepth 100000 in
theorem nil_set (n : Int) (a : Int) (w : World) : Calls Try.prog 17 #[Value.pointer none, .int .i64 n, .int .i64 a] w (NilEnd w (.tuple #[.int .i64 0, .int .i64 7])) := by
  go_enter Try.func17, Try.ntmps17
  go_wp2_with (first | (go_at_call 29; (refine (none_nil _).mono ?_); rintro e w2 ⟨rfl, rfl⟩) | (go_at_call 31; (refine (nil_find _ _ _).mono ?_); rintro e w3 ⟨rfl, hb⟩; have HB := Aside0.mk hb; clear hb) | (go_at_call 35; (refine (nil_entry _ _ _ _).mono ?_); rintro e w3 ⟨rfl, hb⟩; have HB := Aside0.mk hb; clear hb))
  go_ret2
  refine ⟨rfl, ?_⟩
  first
    | exact Below.refl _ _
    | exact below_alloc (Below.refl _ _) _
    | exact HB.out
    | exact below_then (below_alloc (Below.refl _ _) _) (by simp) HB.out
    | exact below_then (below_alloc (below_alloc (Below.refl _ _) _) _) (by simp; omega) HB.out
set_option maxHeartbeats 2000000 in
set_option maxRecDepth 100000 in
theorem nil_at (n : Int) (f0 : Int) (f1 : ByteArray) (w : World) : Calls Try.prog 18 #[Value.pointer none, .int .i64 n, .agg #[.int .i64 f0, .string f1]] w (NilEnd w (.tuple #[.int .i64 0, .int .i64 7])) := by
  go_enter Try.func18, Try.ntmps18
  go_wp2_with (first | (go_at_call 29; (refine (none_nil _).mono ?_); rintro e w2 ⟨rfl, rfl⟩) | (go_at_call 31; (refine (nil_find _ _ _).mono ?_); rintro e w3 ⟨rfl, hb⟩; have HB := Aside0.mk hb; clear hb) | (go_at_call 35; (refine (nil_entry _ _ _ _).mono ?_); rintro e w3 ⟨rfl, hb⟩; have HB := Aside0.mk hb; clear hb))
  go_ret2
  refine ⟨rfl, ?_⟩
  first
    | exact Below.refl _ _
    | exact below_alloc (Below.refl _ _) _
    | exact HB.out
    | exact below_then (below_alloc (Below.refl _ _) _) (by simp) HB.out
    | exact below_then (below_alloc (below_alloc (Below.refl _ _) _) _) (by simp; omega) HB.out
set_option maxHeartbeats 2000000 in
set_option maxRecDepth 100000 in
theorem nil_put (n : Int) (f0 : Int) (f1 : ByteArray) (a : Int) (w : World) : Calls Try.prog 19 #[Value.pointer none, .int .i64 n, .agg #[.int .i64 f0, .string f1], .int .i64 a] w (NilEnd w (.tuple #[.int .i64 0, .int .i64 7])) := by
  go_enter Try.func19, Try.ntmps19
  go_wp2_with (first | (go_at_call 29; (refine (none_nil _).mono ?_); rintro e w2 ⟨rfl, rfl⟩) | (go_at_call 31; (refine (nil_find _ _ _).mono ?_); rintro e w3 ⟨rfl, hb⟩; have HB := Aside0.mk hb; clear hb) | (go_at_call 35; (refine (nil_entry _ _ _ _).mono ?_); rintro e w3 ⟨rfl, hb⟩; have HB := Aside0.mk hb; clear hb))
  go_ret2
  refine ⟨rfl, ?_⟩
  first
    | exact Below.refl _ _
    | exact below_alloc (Below.refl _ _) _
    | exact HB.out
    | exact below_then (below_alloc (Below.refl _ _) _) (by simp) HB.out
    | exact below_then (below_alloc (below_alloc (Below.refl _ _) _) _) (by simp; omega) HB.out
set_option maxHeartbeats 2000000 in
set_option maxRecDepth 100000 in
theorem nil_remove (n : Int) (f0 : Int) (f1 : ByteArray) (w : World) : Calls Try.prog 20 #[Value.pointer none, .int .i64 n, .agg #[.int .i64 f0, .string f1]] w (NilEnd w (.tuple #[.int .i64 0, .int .i64 7])) := by
  go_enter Try.func20, Try.ntmps20
  go_wp2_with (first | (go_at_call 29; (refine (none_nil _).mono ?_); rintro e w2 ⟨rfl, rfl⟩) | (go_at_call 31; (refine (nil_find _ _ _).mono ?_); rintro e w3 ⟨rfl, hb⟩; have HB := Aside0.mk hb; clear hb) | (go_at_call 35; (refine (nil_entry _ _ _ _).mono ?_); rintro e w3 ⟨rfl, hb⟩; have HB := Aside0.mk hb; clear hb))
  go_ret2
  refine ⟨rfl, ?_⟩
  first
    | exact Below.refl _ _
    | exact below_alloc (Below.refl _ _) _
    | exact HB.out
    | exact below_then (below_alloc (Below.refl _ _) _) (by simp) HB.out
    | exact below_then (below_alloc (below_alloc (Below.refl _ _) _) _) (by simp; omega) HB.out
set_option maxHeartbeats 2000000 in
set_option maxRecDepth 100000 in
theorem nil_keys (n : Int) (w : World) : Calls Try.prog 21 #[Value.pointer none, .int .i64 n] w (NilEnd w (.tuple #[.slice none 0 0, .int .i64 7])) := by
  go_enter Try.func21, Try.ntmps21
  go_wp2_with (first | (go_at_call 29; (refine (none_nil _).mono ?_); rintro e w2 ⟨rfl, rfl⟩) | (go_at_call 31; (refine (nil_find _ _ _).mono ?_); rintro e w3 ⟨rfl, hb⟩; have HB := Aside0.mk hb; clear hb) | (go_at_call 35; (refine (nil_entry _ _ _ _).mono ?_); rintro e w3 ⟨rfl, hb⟩; have HB := Aside0.mk hb; clear hb))
  go_ret2
  refine ⟨rfl, ?_⟩
  first
    | exact Below.refl _ _
    | exact below_alloc (Below.refl _ _) _
    | exact HB.out
    | exact below_then (below_alloc (Below.refl _ _) _) (by simp) HB.out
    | exact below_then (below_alloc (below_alloc (Below.refl _ _) _) _) (by simp; omega) HB.out
set_option maxHeartbeats 2000000 in
set_option maxRecDepth 100000 in
theorem nil_take (n : Int) (a : Int) (w : World) : Calls Try.prog 9 #[Value.pointer none, .int .i64 n, .int .i64 a] w (NilEnd w (.tuple #[.bool false, .int .i64 7])) := by
  go_enter Try.func9, Try.ntmps9
  go_wp2_with (first | (go_at_call 29; (refine (none_nil _).mono ?_); rintro e w2 ⟨rfl, rfl⟩) | (go_at_call 31; (refine (nil_find _ _ _).mono ?_); rintro e w3 ⟨rfl, hb⟩; have HB := Aside0.mk hb; clear hb) | (go_at_call 35; (refine (nil_entry _ _ _ _).mono ?_); rintro e w3 ⟨rfl, hb⟩; have HB := Aside0.mk hb; clear hb))
  go_ret2
  refine ⟨rfl, ?_⟩
  first
    | exact Below.refl _ _
    | exact below_alloc (Below.refl _ _) _
    | exact HB.out
    | exact below_then (below_alloc (Below.refl _ _) _) (by simp) HB.out
    | exact below_then (below_alloc (below_alloc (Below.refl _ _) _) _) (by simp; omega) HB.out
set_option maxHeartbeats 2000000 in
set_option maxRecDepth 100000 in
theorem nil_give (n : Int) (a : Int) (w : World) : Calls Try.prog 8 #[Value.pointer none, .int .i64 n, .int .i64 a] w (NilEnd w (.tuple #[.int .i64 0, .int .i64 7])) := by
  go_enter Try.func8, Try.ntmps8
  go_wp2_with (first | (go_at_call 29; (refine (none_nil _).mono ?_); rintro e w2 ⟨rfl, rfl⟩) | (go_at_call 31; (refine (nil_find _ _ _).mono ?_); rintro e w3 ⟨rfl, hb⟩; have HB := Aside0.mk hb; clear hb) | (go_at_call 35; (refine (nil_entry _ _ _ _).mono ?_); rintro e w3 ⟨rfl, hb⟩; have HB := Aside0.mk hb; clear hb))
  go_ret2
  refine ⟨rfl, ?_⟩
  first
    | exact Below.refl _ _
    | exact below_alloc (Below.refl _ _) _
    | exact HB.out
    | exact below_then (below_alloc (Below.refl _ _) _) (by simp) HB.out
    | exact below_then (below_alloc (below_alloc (Below.refl _ _) _) _) (by simp; omega) HB.out
set_option maxHeartbeats 2000000 in
set_option maxRecDepth 100000 in
theorem nil_leave (a : Int) (w : World) : Calls Try.prog 22 #[Value.pointer none, .int .i64 a] w (NilEnd w (.tuple #[.slice none 0 0, .int .i64 7])) := by
  go_enter Try.func22, Try.ntmps22
  go_wp2_with (first | (go_at_call 29; (refine (none_nil _).mono ?_); rintro e w2 ⟨rfl, rfl⟩) | (go_at_call 31; (refine (nil_find _ _ _).mono ?_); rintro e w3 ⟨rfl, hb⟩; have HB := Aside0.mk hb; clear hb) | (go_at_call 35; (refine (nil_entry _ _ _ _).mono ?_); rintro e w3 ⟨rfl, hb⟩; have HB := Aside0.mk hb; clear hb))
  go_ret2
  refine ⟨rfl, ?_⟩
  first
    | exact Below.refl _ _
    | exact below_alloc (Below.refl _ _) _
    | exact HB.out
    | exact below_then (below_alloc (Below.refl _ _) _) (by simp) HB.out
    | exact below_then (below_alloc (below_alloc (Below.refl _ _) _) _) (by simp; omega) HB.out
set_option maxHeartbeats 2000000 in
set_option maxRecDepth 100000 in
theorem nil_owner (n : Int) (w : World) : Calls Try.prog 11 #[Value.pointer none, .int .i64 n] w (NilEnd w (.tuple #[.int .i64 0, .int .i64 0, .int .i64 7])) := by
  go_enter Try.func11, Try.ntmps11
  go_wp2_with (first | (go_at_call 29; (refine (none_nil _).mono ?_); rintro e w2 ⟨rfl, rfl⟩) | (go_at_call 31; (refine (nil_find _ _ _).mono ?_); rintro e w3 ⟨rfl, hb⟩; have HB := Aside0.mk hb; clear hb) | (go_at_call 35; (refine (nil_entry _ _ _ _).mono ?_); rintro e w3 ⟨rfl, hb⟩; have HB := Aside0.mk hb; clear hb))
  go_ret3
  refine ⟨rfl, ?_⟩
  first
    | exact Below.refl _ _
    | exact below_alloc (Below.refl _ _) _
    | exact HB.out
    | exact below_then (below_alloc (Below.refl _ _) _) (by simp) HB.out
    | exact below_then (below_alloc (below_alloc (Below.refl _ _) _) _) (by simp; omega) HB.out
set_option maxHeartbeats 2000000 in
set_option maxRecDepth 100000 in
theorem nil_waiting (n : Int) (w : World) : Calls Try.prog 12 #[Value.pointer none, .int .i64 n] w (NilEnd w (.tuple #[.slice none 0 0, .int .i64 7])) := by
  go_enter Try.func12, Try.ntmps12
  go_wp2_with (first | (go_at_call 29; (refine (none_nil _).mono ?_); rintro e w2 ⟨rfl, rfl⟩) | (go_at_call 31; (refine (nil_find _ _ _).mono ?_); rintro e w3 ⟨rfl, hb⟩; have HB := Aside0.mk hb; clear hb) | (go_at_call 35; (refine (nil_entry _ _ _ _).mono ?_); rintro e w3 ⟨rfl, hb⟩; have HB := Aside0.mk hb; clear hb))
  go_ret2
  refine ⟨rfl, ?_⟩
  first
    | exact Below.refl _ _
    | exact below_alloc (Below.refl _ _) _
    | exact HB.out
    | exact below_then (below_alloc (Below.refl _ _) _) (by simp) HB.out
    | exact below_then (below_alloc (below_alloc (Below.refl _ _) _) _) (by simp; omega) HB.out
set_option maxHeartbeats 2000000 in
set_option maxRecDepth 100000 in
theorem nil_clone (n : Int) (a : Int)  (w : World) : Calls Try.prog 23 #[Value.pointer none, .int .i64 n, .int .i64 a, .map none] w (NilEnd w (.tuple #[.int .i64 0, .int .i64 7])) := by
  go_enter Try.func23, Try.ntmps23
  go_wp2_with (first | (go_at_call 29; (refine (none_nil _).mono ?_); rintro e w2 ⟨rfl, rfl⟩) | (go_at_call 31; (refine (nil_find _ _ _).mono ?_); rintro e w3 ⟨rfl, hb⟩; have HB := Aside0.mk hb; clear hb) | (go_at_call 35; (refine (nil_entry _ _ _ _).mono ?_); rintro e w3 ⟨rfl, hb⟩; have HB := Aside0.mk hb; clear hb))
  go_ret2
  refine ⟨rfl, ?_⟩
  first
    | exact Below.refl _ _
    | exact below_alloc (Below.refl _ _) _
    | exact HB.out
    | exact below_then (below_alloc (Below.refl _ _) _) (by simp) HB.out
    | exact below_then (below_alloc (below_alloc (Below.refl _ _) _) _) (by simp; omega) HB.out
set_option maxHeartbeats 2000000 in
set_option maxRecDepth 100000 in
theorem nil_move (a : Int) (b : Int) (w : World) : Calls Try.prog 24 #[Value.pointer none, .int .i64 a, .int .i64 b] w (NilEnd w (.int .i64 7)) := by
  go_enter Try.func24, Try.ntmps24
  go_wp2_with (first | (go_at_call 29; (refine (none_nil _).mono ?_); rintro e w2 ⟨rfl, rfl⟩) | (go_at_call 31; (refine (nil_find _ _ _).mono ?_); rintro e w3 ⟨rfl, hb⟩; have HB := Aside0.mk hb; clear hb) | (go_at_call 35; (refine (nil_entry _ _ _ _).mono ?_); rintro e w3 ⟨rfl, hb⟩; have HB := Aside0.mk hb; clear hb))
  go_ret
  refine ⟨rfl, ?_⟩
  first
    | exact Below.refl _ _
    | exact below_alloc (Below.refl _ _) _
    | exact HB.out
    | exact below_then (below_alloc (Below.refl _ _) _) (by simp) HB.out
    | exact below_then (below_alloc (below_alloc (Below.refl _ _) _) _) (by simp; omega) HB.out
set_option maxHeartbeats 2000000 in
set_option maxRecDepth 100000 in
theorem nil_copy  (w : World) : Calls Try.prog 25 #[Value.pointer none] w (NilEnd w (.pointer none)) := by
  go_enter Try.func25, Try.ntmps25
  go_wp2_with (first | (go_at_call 29; (refine (none_nil _).mono ?_); rintro e w2 ⟨rfl, rfl⟩) | (go_at_call 31; (refine (nil_find _ _ _).mono ?_); rintro e w3 ⟨rfl, hb⟩; have HB := Aside0.mk hb; clear hb) | (go_at_call 35; (refine (nil_entry _ _ _ _).mono ?_); rintro e w3 ⟨rfl, hb⟩; have HB := Aside0.mk hb; clear hb))
  go_ret
  refine ⟨rfl, ?_⟩
  first
    | exact Below.refl _ _
    | exact below_alloc (Below.refl _ _) _
    | exact HB.out
    | exact below_then (below_alloc (Below.refl _ _) _) (by simp) HB.out
    | exact below_then (below_alloc (below_alloc (Below.refl _ _) _) _) (by simp; omega) HB.out
set_option maxHeartbeats 2000000 in
set_option maxRecDepth 100000 in
theorem nil_same (S : Value) (w : World) : Calls Try.prog 26 #[Value.pointer none, S] w (NilEnd w (.bool false)) := by
  go_enter Try.func26, Try.ntmps26
  go_wp2_with (first | (go_at_call 29; (refine (none_nil _).mono ?_); rintro e w2 ⟨rfl, rfl⟩) | (go_at_call 31; (refine (nil_find _ _ _).mono ?_); rintro e w3 ⟨rfl, hb⟩; have HB := Aside0.mk hb; clear hb) | (go_at_call 35; (refine (nil_entry _ _ _ _).mono ?_); rintro e w3 ⟨rfl, hb⟩; have HB := Aside0.mk hb; clear hb))
  go_ret
  refine ⟨rfl, ?_⟩
  first
    | exact Below.refl _ _
    | exact below_alloc (Below.refl _ _) _
    | exact HB.out
    | exact below_then (below_alloc (Below.refl _ _) _) (by simp) HB.out
    | exact below_then (below_alloc (below_alloc (Below.refl _ _) _) _) (by simp; omega) HB.out
set_option maxHeartbeats 2000000 in
set_option maxRecDepth 100000 in
theorem nil_count  (w : World) : Calls Try.prog 27 #[Value.pointer none] w (NilEnd w (.int .i64 0)) := by
  go_enter Try.func27, Try.ntmps27
  go_wp2_with (first | (go_at_call 29; (refine (none_nil _).mono ?_); rintro e w2 ⟨rfl, rfl⟩) | (go_at_call 31; (refine (nil_find _ _ _).mono ?_); rintro e w3 ⟨rfl, hb⟩; have HB := Aside0.mk hb; clear hb) | (go_at_call 35; (refine (nil_entry _ _ _ _).mono ?_); rintro e w3 ⟨rfl, hb⟩; have HB := Aside0.mk hb; clear hb))
  go_ret
  refine ⟨rfl, ?_⟩
  first
    | exact Below.refl _ _
    | exact below_alloc (Below.refl _ _) _
    | exact HB.out
    | exact below_then (below_alloc (Below.refl _ _) _) (by simp) HB.out
    | exact below_then (below_alloc (below_alloc (Below.refl _ _) _) _) (by simp; omega) HB.out
set_option maxHeartbeats 2000000 in
set_option maxRecDepth 100000 in
theorem nil_sort (n : Int) (w : World) : Calls Try.prog 28 #[Value.pointer none, .int .i64 n] w (NilEnd w (.string ⟨#[]⟩)) := by
  go_enter Try.func28, Try.ntmps28
  go_wp2_with (first | (go_at_call 29; (refine (none_nil _).mono ?_); rintro e w2 ⟨rfl, rfl⟩) | (go_at_call 31; (refine (nil_find _ _ _).mono ?_); rintro e w3 ⟨rfl, hb⟩; have HB := Aside0.mk hb; clear hb) | (go_at_call 35; (refine (nil_entry _ _ _ _).mono ?_); rintro e w3 ⟨rfl, hb⟩; have HB := Aside0.mk hb; clear hb))
  go_ret
  refine ⟨rfl, ?_⟩
  first
    | exact Below.refl _ _
    | exact below_alloc (Below.refl _ _) _
    | exact HB.out
    | exact below_then (below_alloc (Below.refl _ _) _) (by simp) HB.out
    | exact below_then (below_alloc (below_alloc (Below.refl _ _) _) _) (by simp; omega) HB.out
end Go.Proofs.Ytonfbhcafejblaa.Yd
