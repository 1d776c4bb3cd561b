import Derived.Test.YtelmcnngocklfaaNThread
import Derived.Test.YtelmcnngocklfaaNQl
/-! look at 'proc P thread skip'. -/
namespace Go.Proofs.Ytelmcnngocklfaa.Need
set_option linter.unusedVariables false
set_option linter.unusedSimpArgs false
open Go.RowKit Go.Proofs.YtelmcnngocklfaaW.PrintWords Go.Proofs.YtelmcnngocklfaaW.PrintLast Go.Proofs.YtelmcnngocklfaaW.PrintMore
theorem cell_keep {w w' : World} {p : Nat} {a : Addr} {v : Value} (h : w.cell? a = some v) (hk : KB w w' p none) (hne : a.block ≠ p) : w'.cell? a = some v :=
  (World.cell?_of_block (hk.2 a.block (World.block_lt_of_cell? w a h) hne (by simp))).trans h
theorem blk_keepr {w w' : World} {g p l : Nat} {o : Obj} (h : w.heap[g]? = some o) (hk : KB w w' p (some l)) (hne : g ≠ p) (hnl : g ≠ l) : w'.heap[g]? = some o := (hk.2 g (blk_lt h) hne (by intro e; injection e with e; exact hnl e)).trans h
theorem keep_setr {w w1 : World} {g : Nat} {row : Option Nat} (h : KB w w1 g row) (j : Nat) (u : Value) : KB w (w1.setCell ⟨g, j, none⟩ u) g row :=
  ⟨by simpa [World.setCell] using h.1, fun i hi hg hr => (Below.heap_setCell w1 ⟨g, j, none⟩ u i hg).trans (h.2 i hi hg hr), h.3⟩
theorem own_same {w : World} {B B' e e' size size' n n' k : Nat} {v v' : Value} {xs xs' : List Value} (h : w.ownsRow B e size v n xs) (h' : w.ownsRow B' e' size' v' n' xs') (hk : v.ownBlock = some k) (hk' : v'.ownBlock = some k) : e = e' := by
  obtain ⟨c, hc⟩ := own_typed h k hk
  obtain ⟨c', hc'⟩ := own_typed h' k hk'
  rw [hc] at hc'
  injection hc' with hc'
  injection hc' with _ h2 _
theorem keep_wide {w w' : World} {p : Nat} (h : KB w w' p none) (l : Nat) : KB w w' p (some l) := ⟨h.1, fun i hi hg _ => h.2 i hi hg (by simp), h.3⟩
theorem keep_last {w w1 w2 : World} {p l l' : Nat} (h : KB w w1 p (some l)) (k : KB w1 w2 l' none) (hl : l' = l ∨ w.heap.size ≤ l') : KB w w2 p (some l) :=
  ⟨Nat.le_trans h.1 k.1, fun i hi hg hr => (k.2 i (Nat.lt_of_lt_of_le hi h.1) (by rintro rfl; rcases hl with rfl | hl; exact hr rfl; omega) (by simp)).trans (h.2 i hi hg hr), k.3.1.trans h.3.1, k.3.2.1.trans h.3.2.1, k.3.2.2.trans h.3.2.2⟩
structure PAF (pb sb a3 g5 g6 g7 g8 g9 : Nat) (m : Option Nat) (nm lo us la : Value) (w w' : World) (b0 b1 b2 b3 b4 b5 b6 b7 b8 b9 b10 b11 b12 b13 b14 b15 b16 b17 b18 b19 : Bool) (v71 v72 v73 v74 v75 v76 v77 v78 v79 v80 v81 v82 v83 v84 v85 v86 v87 v88 v89 : Value) : Prop where
  h0 : b0 = true → v71 = .pointer (some ⟨pb, 0, none⟩)
  h1 : b1 = true → v72 = .pointer (some ⟨pb, 0, none⟩)
  h2 : b2 = true → v73 = .pointer (some ⟨pb, 0, none⟩)
  h3 : b3 = true → v74 = .pointer (some ⟨pb, 2, none⟩)
  h4 : b4 = true → v75 = .slice none 0 0
  h5 : b5 = true → v76 = .pointer (some ⟨pb, 0, none⟩)
  h6 : b6 = true → v77 = .pointer (some ⟨sb, 0, none⟩)
  h7 : b7 = true → v78 = .map m
  h8 : b8 = true → v79 = .pointer (some ⟨g6, 3, none⟩)
  h9 : b9 = true → v80 = .slice (some ⟨a3, 0, none⟩) 1 1
  h10 : b10 = true → v81 = .pointer (some ⟨a3, 0, none⟩)
  h11 : b11 = true → v82 = .string nP
  h12 : b12 = true → v83 = .int .i64 0
  h13 : b13 = true → v84 = .int .i64 (-1)
  h14 : b14 = true → v85 = .agg #[.int .i64 0, .int .i64 (-1)]
  h17 : b17 = true → v88 = .pointer (some ⟨pb, 0, none⟩)
  h18 : b18 = true → v89 = .pointer (some ⟨pb, 2, none⟩)
  h15 : b15 = true → ∃ g, v86 = .slice (some ⟨g, 0, none⟩) 1 1 ∧ w.heap.size ≤ g ∧ w'.heap[g]? = some (.cells #[.int .i64 0, .int .i64 (-1)] 86 (0, 0))
  h16 : b16 = true → w'.ownsRow w.heap.size 86 2 v87 1 [.int .i64 0, .int .i64 (-1)]
  P : w'.heap[pb]? = some (.cells #[nm, lo, if b19 = true then v87 else .slice none 0 0, us, la] 68 (0, 0))
  n19 : b19 = true → b4 = true ∧ b16 = true
  K : KB w w' pb none
  pl : pb < w.heap.size
def PAJ (pb sb a3 g5 g6 g7 g8 g9 : Nat) (m : Option Nat) (nm lo us la : Value) (w : World) (a0 : Act) (listed : Array Bool) (a' : Act) (w' : World) : Prop :=
  ∃ (b0 b1 b2 b3 b4 b5 b6 b7 b8 b9 b10 b11 b12 b13 b14 b15 b16 b17 b18 b19 : Bool) (v71 v72 v73 v74 v75 v76 v77 v78 v79 v80 v81 v82 v83 v84 v85 v86 v87 v88 v89 : Value), listed = #[b0, b1, b2, b3, b4, b5, b6, b7, b8, b9, b10, b11, b12, b13, b14, b15, b16, b17, b18, b19] ∧ a' = { a0 with tmps := ((((((((((((((((((a0.tmps.setIfInBounds 71 v71).setIfInBounds 72 v72).setIfInBounds 73 v73).setIfInBounds 74 v74).setIfInBounds 75 v75).setIfInBounds 76 v76).setIfInBounds 77 v77).setIfInBounds 78 v78).setIfInBounds 79 v79).setIfInBounds 80 v80).setIfInBounds 81 v81).setIfInBounds 82 v82).setIfInBounds 83 v83).setIfInBounds 84 v84).setIfInBounds 85 v85).setIfInBounds 86 v86).setIfInBounds 87 v87).setIfInBounds 88 v88).setIfInBounds 89 v89 } ∧ PAF pb sb a3 g5 g6 g7 g8 g9 m nm lo us la w w' b0 b1 b2 b3 b4 b5 b6 b7 b8 b9 b10 b11 b12 b13 b14 b15 b16 b17 b18 b19 v71 v72 v73 v74 v75 v76 v77 v78 v79 v80 v81 v82 v83 v84 v85 v86 v87 v88 v89
theorem PA_self (a : Act) : a = { a with tmps := ((((((((((((((((((a.tmps.setIfInBounds 71 (a.tmps.getD 71 undef)).setIfInBounds 72 (a.tmps.getD 72 undef)).setIfInBounds 73 (a.tmps.getD 73 undef)).setIfInBounds 74 (a.tmps.getD 74 undef)).setIfInBounds 75 (a.tmps.getD 75 undef)).setIfInBounds 76 (a.tmps.getD 76 undef)).setIfInBounds 77 (a.tmps.getD 77 undef)).setIfInBounds 78 (a.tmps.getD 78 undef)).setIfInBounds 79 (a.tmps.getD 79 undef)).setIfInBounds 80 (a.tmps.getD 80 undef)).setIfInBounds 81 (a.tmps.getD 81 undef)).setIfInBounds 82 (a.tmps.getD 82 undef)).setIfInBounds 83 (a.tmps.getD 83 undef)).setIfInBounds 84 (a.tmps.getD 84 undef)).setIfInBounds 85 (a.tmps.getD 85 undef)).setIfInBounds 86 (a.tmps.getD 86 undef)).setIfInBounds 87 (a.tmps.getD 87 undef)).setIfInBounds 88 (a.tmps.getD 88 undef)).setIfInBounds 89 (a.tmps.getD 89 undef) } := by
  simp only [set_self]
structure PLF (B pb lb lc : Nat) (nm lo pr us : Value) (w w' : World) (b0 b1 b2 b3 b4 b5 b6 b7 b8 b9 : Bool) (v90 v91 v92 v93 v94 v95 v96 v97 v98 : Value) : Prop where
  h0 : b0 = true → v90 = .pointer (some ⟨pb, 0, none⟩)
  h1 : b1 = true → v91 = .pointer (some ⟨pb, 0, none⟩)
  h2 : b2 = true → v92 = .pointer (some ⟨pb, 0, none⟩)
  h3 : b3 = true → v93 = .pointer (some ⟨pb, 4, none⟩)
  h4 : b4 = true → v94 = .slice (some ⟨lb, 0, none⟩) 1 lc
  h7 : b7 = true → v97 = .pointer (some ⟨pb, 0, none⟩)
  h8 : b8 = true → v98 = .pointer (some ⟨pb, 4, none⟩)
  h5 : b5 = true → ∃ g, v95 = .slice (some ⟨g, 0, none⟩) 1 1 ∧ w.heap.size ≤ g ∧ w'.heap[g]? = some (.cells #[.slice none 0 0] 29 (0, 0))
  h6 : b6 = true → w'.ownsRow B 29 1 v96 2 [.slice none 0 0, .slice none 0 0] ∧ (v96.ownBlock = some lb ∨ ∃ k, v96.ownBlock = some k ∧ w.heap.size ≤ k)
  L : b6 = false → w'.ownsRow B 29 1 (.slice (some ⟨lb, 0, none⟩) 1 lc) 1 [.slice none 0 0]
  P : w'.heap[pb]? = some (.cells #[nm, lo, pr, us, if b9 = true then v96 else .slice (some ⟨lb, 0, none⟩) 1 lc] 68 (0, 0))
  n9 : b9 = true → b4 = true ∧ b6 = true
  K : KB w w' pb (some lb)
  pl : pb < w.heap.size
  ll : lb < w.heap.size
  ne : pb ≠ lb
  hB : B ≤ w.heap.size
def PLJ (B pb lb lc : Nat) (nm lo pr us : Value) (w : World) (a0 : Act) (listed : Array Bool) (a' : Act) (w' : World) : Prop :=
  ∃ (b0 b1 b2 b3 b4 b5 b6 b7 b8 b9 : Bool) (v90 v91 v92 v93 v94 v95 v96 v97 v98 : Value), listed = #[b0, b1, b2, b3, b4, b5, b6, b7, b8, b9] ∧ a' = { a0 with tmps := ((((((((a0.tmps.setIfInBounds 90 v90).setIfInBounds 91 v91).setIfInBounds 92 v92).setIfInBounds 93 v93).setIfInBounds 94 v94).setIfInBounds 95 v95).setIfInBounds 96 v96).setIfInBounds 97 v97).setIfInBounds 98 v98 } ∧ PLF B pb lb lc nm lo pr us w w' b0 b1 b2 b3 b4 b5 b6 b7 b8 b9 v90 v91 v92 v93 v94 v95 v96 v97 v98
theorem PL_self (a : Act) : a = { a with tmps := ((((((((a.tmps.setIfInBounds 90 (a.tmps.getD 90 undef)).setIfInBounds 91 (a.tmps.getD 91 undef)).setIfInBounds 92 (a.tmps.getD 92 undef)).setIfInBounds 93 (a.tmps.getD 93 undef)).setIfInBounds 94 (a.tmps.getD 94 undef)).setIfInBounds 95 (a.tmps.getD 95 undef)).setIfInBounds 96 (a.tmps.getD 96 undef)).setIfInBounds 97 (a.tmps.getD 97 undef)).setIfInBounds 98 (a.tmps.getD 98 undef) } := by
  simp only [set_self]
set_option maxHeartbeats 8000000 in
set_option maxRecDepth 100000 in
theorem look_proc (w : World) (B pb lb lc sb a3 : Nat) (m : Option Nat) (nm lo : Value) {A4 : Option Addr} {q5 c4 c5 : Nat} {B3 B4 : Option Addr} {q6 d3 d4 d5 : Nat} (hk : Kid w q5 s2 B3 d3 B4 d4 (some ⟨q6, 0, none⟩) d5) {C3 C4 C5 : Option Addr} {e3 e4 e5 : Nat} (hk2 : Kid w q6 s3 C3 e3 C4 e4 C5 e5) (hb3 : w.cell? ⟨a3, 0, none⟩ = some (.string nP)) (hpb3 : a3 ≠ pb)
    (hp : w.heap[pb]? = some (.cells #[nm, lo, .slice none 0 0, .slice none 0 0, .slice (some ⟨lb, 0, none⟩) 1 lc] 68 (0, 0))) (hl : w.ownsRow B 29 1 (.slice (some ⟨lb, 0, none⟩) 1 lc) 1 [.slice none 0 0]) (hs : w.heap[sb]? = some (.cells #[.pointer none, .string nP, .int .i64 0] 111 (0, 0))) :
    Calls Try.prog 45 #[.pointer (some ⟨pb, 0, none⟩), ag nProc (some ⟨a3, 0, none⟩) 1 1 A4 c4 (some ⟨q5, 0, none⟩) 1 c5, .pointer (some ⟨sb, 0, none⟩), .map m, .int .i64 (-1)] w (fun e w' => (∃ r, e = .returned r) ∧ ∃ pr us lb' lc' v, w'.heap[pb]? = some (.cells #[nm, lo, pr, us, .slice (some ⟨lb', 0, none⟩) 2 lc'] 68 (0, 0)) ∧ w'.ownsRow w.heap.size 86 2 pr 1 [.int .i64 0, .int .i64 (-1)] ∧ w'.ownsRow w.heap.size 88 4 us 1 [.int .i64 0, .int .i64 (-1), .int .i64 0, .bool false] ∧ w'.ownsRow w.heap.size 3 1 v 1 [.int .i64 1] ∧ w'.ownsRow B 29 1 (.slice (some ⟨lb', 0, none⟩) 2 lc') 2 [.slice none 0 0, v] ∧ KB w w' pb (some lb)) := by
  obtain ⟨k0, k1, k2, k3, k4, hS⟩ := five w (.cells #[.pointer (some ⟨pb, 0, none⟩)] 60 (0, 0)) (.cells #[.string nProc, .string no, .int .i64 0, .slice (some ⟨a3, 0, none⟩) 1 1, .slice A4 0 c4, .slice (some ⟨q5, 0, none⟩) 1 c5] 26 (0, 0)) (.cells #[.pointer (some ⟨sb, 0, none⟩)] 100 (0, 0)) (.cells #[.map m] 81 (0, 0)) (.cells #[.int .i64 (-1)] 3 (0, 0))
  have K0 := Aside0.mk k0
  have K1 := Aside0.mk k1
  have K2 := Aside0.mk k2
  have K3 := Aside0.mk k3
  have K4 := Aside0.mk k4
  have HS := Aside0.mk hS
  have HK := Aside0.mk hk
  have HK2 := Aside0.mk hk2
  have HP := Aside0.mk hp
  have HL := Aside0.mk hl
  have HSB := Aside0.mk hs
  have H3w := Aside0.mk hb3
  have hBw : B ≤ w.heap.size := Nat.le_trans (hl.lt lb rfl).1 (Nat.le_of_lt (hl.lt lb rfl).2)
  have x0 := (blk_cell k0 0).trans rfl
  have x1 := (blk_cell k1 0).trans rfl
  have x13 := (blk_cell k1 3).trans rfl
  have xp := (blk_cell (blk_below hp hS) 2).trans rfl
  have xb := pw_cell_below hS hb3
  clear k0 k1 k2 k3 k4 hS hk hk2 hp hl hs hb3
  go_enter Try.func45, Try.ntmps45
  go_upto_region 14 with (go_at_call 54; go_loud ((refine (see_walk _ pb sb w.heap.size (w.heap.size + 1 + 1) (w.heap.size + 1 + 1 + 1) (w.heap.size + 1 + 1 + 1 + 1) (.map m) (-1) 0 false nP nm lo (.slice none 0 0) (.slice (some ⟨lb, 0, none⟩) 1 lc) _ 1 ?g0 ?g1 ?g2 ?g3 ?g4 ?g5 ?g6).mono ?_); (case g0 => exact blk_alloc (blk_below HP.out HS.out) _); (case g1 => exact blk_alloc (blk_below HSB.out HS.out) _); (case g2 => exact blk_alloc K0.out _); (case g3 => exact blk_alloc K2.out _); (case g4 => exact blk_alloc K3.out _); (case g5 => exact blk_alloc K4.out _); (case g6 => exact (blk_cell (five_new _ _ _ _ _ _ _) 0).trans rfl); rintro e w2 ⟨⟨rr, rfl⟩, us, h1, h2, h3⟩; have HUS := Aside0.mk (own_weak h2 (Nat.le_trans HS.out.size (below_alloc (Below.refl _ _) _).size)); have hsz12 := h3.1; have HP2 := Aside0.mk h1; have HK12 := Aside0.mk (two_keep (below_alloc HS.out _) h3); have J0 := Aside0.mk (blk_keep (blk_alloc K0.out _) h3 (blk_apart K0.out (blk_below HP.out HS.out) (by decide))); have J1 := Aside0.mk (blk_keep (blk_alloc K1.out _) h3 (blk_apart K1.out (blk_below HP.out HS.out) (by decide))); have J2 := Aside0.mk (blk_keep (blk_alloc K2.out _) h3 (blk_apart K2.out (blk_below HP.out HS.out) (by decide))); have J3 := Aside0.mk (blk_keep (blk_alloc K3.out _) h3 (blk_apart K3.out (blk_below HP.out HS.out) (by decide))); have J4 := Aside0.mk (blk_keep (blk_alloc K4.out _) h3 (blk_apart K4.out (blk_below HP.out HS.out) (by decide))); have HS2 := Aside0.mk (blk_keep HSB.out HK12.out (blk_apart HSB.out HP.out (by decide))); have H3 := Aside0.mk (cell_keep H3w.out HK12.out hpb3); clear h1 h2 h3 x0 x1 x13 xp xb))
  (try simp only [Act.put, List.setIfInBounds_toArray, List.set_cons_zero, List.set_cons_succ])
  clear K0 K1 K2 K3 K4
  have hb3ne : a3 ≠ pb := hpb3
  go_cut [] from 71 to 89 (fun wx => ∃ pr, Aside0 (wx.heap[pb]? = some (.cells #[nm, lo, pr, us, .slice (some ⟨lb, 0, none⟩) 1 lc] 68 (0, 0))) ∧ Aside0 (wx.ownsRow w2.heap.size 86 2 pr 1 [.int .i64 0, .int .i64 (-1)]) ∧ Aside0 (KB w2 wx pb none))
  case first => as_aux_lemma =>
    refine RegInv.wp_region_inv' rfl (by kernel_rfl) (PAJ pb sb a3 w.heap.size (w.heap.size + 1) (w.heap.size + 1 + 1) (w.heap.size + 1 + 1 + 1) (w.heap.size + 1 + 1 + 1 + 1) m nm lo us (.slice (some ⟨lb, 0, none⟩) 1 lc) w2) ?_ ?_ ?_
    · refine ⟨false, false, false, false, false, false, false, false, false, false, false, false, false, false, false, false, false, false, false, false, _, _, _, _, _, _, _, _, _, _, _, _, _, _, _, _, _, _, _, rfl, PA_self _, ?_⟩
      exact ⟨fun h => (by cases h), fun h => (by cases h), fun h => (by cases h), fun h => (by cases h), fun h => (by cases h), fun h => (by cases h), fun h => (by cases h), fun h => (by cases h), fun h => (by cases h), fun h => (by cases h), fun h => (by cases h), fun h => (by cases h), fun h => (by cases h), fun h => (by cases h), fun h => (by cases h), fun h => (by cases h), fun h => (by cases h), fun h => (by cases h), fun h => (by cases h), HP2.out, fun h => (by cases h), KB.start _ _ _ _, blk_lt HP2.out⟩
    · skip
      rintro listed a' w' i o ho hz hb hw ⟨b0, b1, b2, b3, b4, b5, b6, b7, b8, b9, b10, b11, b12, b13, b14, b15, b16, b17, b18, b19, v71, v72, v73, v74, v75, v76, v77, v78, v79, v80, v81, v82, v83, v84, v85, v86, v87, v88, v89, rfl, rfl, F9⟩
      match i, ho, hb, hw with
      | 0, ho, hb, hw =>
        obtain rfl : _ = o := Option.some.inj ho
        simp only [List.setIfInBounds_toArray, List.set_cons_zero, List.set_cons_succ]
        have y0 := (blk_cell (blk_keep J0.out F9.K (blk_apart J0.out HP2.out (by decide))) 0).trans rfl
        go_wp2
        exact ⟨true, b1, b2, b3, b4, b5, b6, b7, b8, b9, b10, b11, b12, b13, b14, b15, b16, b17, b18, b19, .pointer (some ⟨pb, 0, none⟩), v72, v73, v74, v75, v76, v77, v78, v79, v80, v81, v82, v83, v84, v85, v86, v87, v88, v89, rfl, by simp only [List.setIfInBounds_toArray, List.set_cons_zero, List.set_cons_succ, Bool.not_true], { F9 with h0 := fun _ => rfl }⟩
      | 1, ho, hb, hw =>
        obtain rfl : _ = o := Option.some.inj ho
        simp only [List.setIfInBounds_toArray, List.set_cons_zero, List.set_cons_succ]
        have y0 := (blk_cell (blk_keep J0.out F9.K (blk_apart J0.out HP2.out (by decide))) 0).trans rfl
        go_wp2
        exact ⟨b0, true, b2, b3, b4, b5, b6, b7, b8, b9, b10, b11, b12, b13, b14, b15, b16, b17, b18, b19, v71, .pointer (some ⟨pb, 0, none⟩), v73, v74, v75, v76, v77, v78, v79, v80, v81, v82, v83, v84, v85, v86, v87, v88, v89, rfl, by simp only [List.setIfInBounds_toArray, List.set_cons_zero, List.set_cons_succ, Bool.not_true], { F9 with h1 := fun _ => rfl }⟩
      | 2, ho, hb, hw =>
        obtain rfl : _ = o := Option.some.inj ho
        simp only [List.setIfInBounds_toArray, List.set_cons_zero, List.set_cons_succ]
        obtain rfl := F9.h1 (hw ⟨1, .data⟩ (by simp) rfl)
        go_wp2
        exact ⟨b0, b1, true, b3, b4, b5, b6, b7, b8, b9, b10, b11, b12, b13, b14, b15, b16, b17, b18, b19, v71, .pointer (some ⟨pb, 0, none⟩), .pointer (some ⟨pb, 0, none⟩), v74, v75, v76, v77, v78, v79, v80, v81, v82, v83, v84, v85, v86, v87, v88, v89, rfl, by simp only [List.setIfInBounds_toArray, List.set_cons_zero, List.set_cons_succ, Bool.not_true], { F9 with h2 := fun _ => rfl }⟩
      | 3, ho, hb, hw =>
        obtain rfl : _ = o := Option.some.inj ho
        simp only [List.setIfInBounds_toArray, List.set_cons_zero, List.set_cons_succ]
        obtain rfl := F9.h2 (hw ⟨2, .data⟩ (by simp) rfl)
        go_wp2
        exact ⟨b0, b1, b2, true, b4, b5, b6, b7, b8, b9, b10, b11, b12, b13, b14, b15, b16, b17, b18, b19, v71, v72, .pointer (some ⟨pb, 0, none⟩), .pointer (some ⟨pb, 2, none⟩), v75, v76, v77, v78, v79, v80, v81, v82, v83, v84, v85, v86, v87, v88, v89, rfl, by simp only [List.setIfInBounds_toArray, List.set_cons_zero, List.set_cons_succ, Bool.not_true], { F9 with h3 := fun _ => rfl }⟩
      | 4, ho, hb, hw =>
        obtain rfl : _ = o := Option.some.inj ho
        simp only [List.setIfInBounds_toArray, List.set_cons_zero, List.set_cons_succ]
        obtain rfl := F9.h3 (hw ⟨3, .data⟩ (by simp) rfl)
        obtain rfl : b4 = false := hb
        have q19 : b19 = false := by cases e : b19 <;> first | rfl | exact absurd (F9.n19 e).1 (by decide)
        subst q19
        have y0 := (blk_cell F9.P 2).trans rfl
        go_wp2
        exact ⟨b0, b1, b2, b3, true, b5, b6, b7, b8, b9, b10, b11, b12, b13, b14, b15, b16, b17, b18, false, v71, v72, v73, .pointer (some ⟨pb, 2, none⟩), .slice none 0 0, v76, v77, v78, v79, v80, v81, v82, v83, v84, v85, v86, v87, v88, v89, rfl, by simp only [List.setIfInBounds_toArray, List.set_cons_zero, List.set_cons_succ, Bool.not_true], { F9 with n19 := fun e => absurd e (by decide), h4 := fun _ => rfl }⟩
      | 5, ho, hb, hw =>
        obtain rfl : _ = o := Option.some.inj ho
        simp only [List.setIfInBounds_toArray, List.set_cons_zero, List.set_cons_succ]
        have y0 := (blk_cell (blk_keep J0.out F9.K (blk_apart J0.out HP2.out (by decide))) 0).trans rfl
        go_wp2
        exact ⟨b0, b1, b2, b3, b4, true, b6, b7, b8, b9, b10, b11, b12, b13, b14, b15, b16, b17, b18, b19, v71, v72, v73, v74, v75, .pointer (some ⟨pb, 0, none⟩), v77, v78, v79, v80, v81, v82, v83, v84, v85, v86, v87, v88, v89, rfl, by simp only [List.setIfInBounds_toArray, List.set_cons_zero, List.set_cons_succ, Bool.not_true], { F9 with h5 := fun _ => rfl }⟩
      | 6, ho, hb, hw =>
        obtain rfl : _ = o := Option.some.inj ho
        simp only [List.setIfInBounds_toArray, List.set_cons_zero, List.set_cons_succ]
        have y0 := (blk_cell (blk_keep J2.out F9.K (blk_apart J2.out HP2.out (by decide))) 0).trans rfl
        go_wp2
        exact ⟨b0, b1, b2, b3, b4, b5, true, b7, b8, b9, b10, b11, b12, b13, b14, b15, b16, b17, b18, b19, v71, v72, v73, v74, v75, v76, .pointer (some ⟨sb, 0, none⟩), v78, v79, v80, v81, v82, v83, v84, v85, v86, v87, v88, v89, rfl, by simp only [List.setIfInBounds_toArray, List.set_cons_zero, List.set_cons_succ, Bool.not_true], { F9 with h6 := fun _ => rfl }⟩
      | 7, ho, hb, hw =>
        obtain rfl : _ = o := Option.some.inj ho
        simp only [List.setIfInBounds_toArray, List.set_cons_zero, List.set_cons_succ]
        have y0 := (blk_cell (blk_keep J3.out F9.K (blk_apart J3.out HP2.out (by decide))) 0).trans rfl
        go_wp2
        exact ⟨b0, b1, b2, b3, b4, b5, b6, true, b8, b9, b10, b11, b12, b13, b14, b15, b16, b17, b18, b19, v71, v72, v73, v74, v75, v76, v77, .map m, v79, v80, v81, v82, v83, v84, v85, v86, v87, v88, v89, rfl, by simp only [List.setIfInBounds_toArray, List.set_cons_zero, List.set_cons_succ, Bool.not_true], { F9 with h7 := fun _ => rfl }⟩
      | 8, ho, hb, hw =>
        obtain rfl : _ = o := Option.some.inj ho
        simp only [List.setIfInBounds_toArray, List.set_cons_zero, List.set_cons_succ]
        go_wp2
        exact ⟨b0, b1, b2, b3, b4, b5, b6, b7, true, b9, b10, b11, b12, b13, b14, b15, b16, b17, b18, b19, v71, v72, v73, v74, v75, v76, v77, v78, .pointer (some ⟨w.heap.size + 1, 3, none⟩), v80, v81, v82, v83, v84, v85, v86, v87, v88, v89, rfl, by simp only [List.setIfInBounds_toArray, List.set_cons_zero, List.set_cons_succ, Bool.not_true], { F9 with h8 := fun _ => rfl }⟩
      | 9, ho, hb, hw =>
        obtain rfl : _ = o := Option.some.inj ho
        simp only [List.setIfInBounds_toArray, List.set_cons_zero, List.set_cons_succ]
        obtain rfl := F9.h8 (hw ⟨8, .data⟩ (by simp) rfl)
        have y3 := (blk_cell (blk_keep J1.out F9.K (blk_apart J1.out HP2.out (by decide))) 3).trans rfl
        go_wp2
        exact ⟨b0, b1, b2, b3, b4, b5, b6, b7, b8, true, b10, b11, b12, b13, b14, b15, b16, b17, b18, b19, v71, v72, v73, v74, v75, v76, v77, v78, .pointer (some ⟨w.heap.size + 1, 3, none⟩), .slice (some ⟨a3, 0, none⟩) 1 1, v81, v82, v83, v84, v85, v86, v87, v88, v89, rfl, by simp only [List.setIfInBounds_toArray, List.set_cons_zero, List.set_cons_succ, Bool.not_true], { F9 with h9 := fun _ => rfl }⟩
      | 10, ho, hb, hw =>
        obtain rfl : _ = o := Option.some.inj ho
        simp only [List.setIfInBounds_toArray, List.set_cons_zero, List.set_cons_succ]
        obtain rfl := F9.h9 (hw ⟨9, .data⟩ (by simp) rfl)
        go_wp2
        exact ⟨b0, b1, b2, b3, b4, b5, b6, b7, b8, b9, true, b11, b12, b13, b14, b15, b16, b17, b18, b19, v71, v72, v73, v74, v75, v76, v77, v78, v79, .slice (some ⟨a3, 0, none⟩) 1 1, .pointer (some ⟨a3, 0, none⟩), v82, v83, v84, v85, v86, v87, v88, v89, rfl, by simp only [List.setIfInBounds_toArray, List.set_cons_zero, List.set_cons_succ, Bool.not_true], { F9 with h10 := fun _ => rfl }⟩
      | 11, ho, hb, hw =>
        obtain rfl : _ = o := Option.some.inj ho
        simp only [List.setIfInBounds_toArray, List.set_cons_zero, List.set_cons_succ]
        obtain rfl := F9.h10 (hw ⟨10, .data⟩ (by simp) rfl)
        have y0 := cell_keep H3.out F9.K hb3ne
        go_wp2
        exact ⟨b0, b1, b2, b3, b4, b5, b6, b7, b8, b9, b10, true, b12, b13, b14, b15, b16, b17, b18, b19, v71, v72, v73, v74, v75, v76, v77, v78, v79, v80, .pointer (some ⟨a3, 0, none⟩), .string nP, v83, v84, v85, v86, v87, v88, v89, rfl, by simp only [List.setIfInBounds_toArray, List.set_cons_zero, List.set_cons_succ, Bool.not_true], { F9 with h11 := fun _ => rfl }⟩
      | 12, ho, hb, hw =>
        obtain rfl : _ = o := Option.some.inj ho
        simp only [List.setIfInBounds_toArray, List.set_cons_zero, List.set_cons_succ]
        obtain rfl := F9.h5 (hw ⟨5, .data⟩ (by simp) rfl)
        obtain rfl := F9.h6 (hw ⟨6, .data⟩ (by simp) rfl)
        obtain rfl := F9.h7 (hw ⟨7, .data⟩ (by simp) rfl)
        obtain rfl := F9.h11 (hw ⟨11, .data⟩ (by simp) rfl)
        go_wp2_with (go_at_call 55; (refine (find_walk w' _ _ sb nP (blk_keep HS2.out F9.K (blk_apart HS2.out HP2.out (by decide)))).mono ?_); rintro e w6 ⟨rfl, hbb⟩)
        exact ⟨b0, b1, b2, b3, b4, b5, b6, b7, b8, b9, b10, b11, true, b13, b14, b15, b16, b17, b18, b19, v71, v72, v73, v74, v75, .pointer (some ⟨pb, 0, none⟩), .pointer (some ⟨sb, 0, none⟩), .map m, v79, v80, v81, .string nP, .int .i64 0, v84, v85, v86, v87, v88, v89, rfl, by simp only [List.setIfInBounds_toArray, List.set_cons_zero, List.set_cons_succ, Bool.not_true], { F9 with h12 := fun _ => rfl, h15 := fun q => (F9.h15 q).imp (fun _ l => ⟨l.1, l.2.1, blk_below l.2.2 hbb⟩), h16 := fun q => own_below (F9.h16 q) hbb, P := blk_below F9.P hbb, K := KB.trans F9.K (KB.of_below hbb pb none) (.inl rfl) }⟩
      | 13, ho, hb, hw =>
        obtain rfl : _ = o := Option.some.inj ho
        simp only [List.setIfInBounds_toArray, List.set_cons_zero, List.set_cons_succ]
        have y0 := (blk_cell (blk_keep J4.out F9.K (blk_apart J4.out HP2.out (by decide))) 0).trans rfl
        go_wp2
        exact ⟨b0, b1, b2, b3, b4, b5, b6, b7, b8, b9, b10, b11, b12, true, b14, b15, b16, b17, b18, b19, v71, v72, v73, v74, v75, v76, v77, v78, v79, v80, v81, v82, v83, .int .i64 (-1), v85, v86, v87, v88, v89, rfl, by simp only [List.setIfInBounds_toArray, List.set_cons_zero, List.set_cons_succ, Bool.not_true], { F9 with h13 := fun _ => rfl }⟩
      | 14, ho, hb, hw =>
        obtain rfl : _ = o := Option.some.inj ho
        simp only [List.setIfInBounds_toArray, List.set_cons_zero, List.set_cons_succ]
        obtain rfl := F9.h12 (hw ⟨12, .data⟩ (by simp) rfl)
        obtain rfl := F9.h13 (hw ⟨13, .data⟩ (by simp) rfl)
        go_wp2
        exact ⟨b0, b1, b2, b3, b4, b5, b6, b7, b8, b9, b10, b11, b12, b13, true, b15, b16, b17, b18, b19, v71, v72, v73, v74, v75, v76, v77, v78, v79, v80, v81, v82, .int .i64 0, .int .i64 (-1), .agg #[.int .i64 0, .int .i64 (-1)], v86, v87, v88, v89, rfl, by simp only [List.setIfInBounds_toArray, List.set_cons_zero, List.set_cons_succ, Bool.not_true], { F9 with h14 := fun _ => rfl }⟩
      | 15, ho, hb, hw =>
        obtain rfl : _ = o := Option.some.inj ho
        simp only [List.setIfInBounds_toArray, List.set_cons_zero, List.set_cons_succ]
        obtain rfl := F9.h14 (hw ⟨14, .data⟩ (by simp) rfl)
        have hbb := below_alloc (Below.refl w'.heap.size w') (.cells #[.int .i64 0, .int .i64 (-1)] 86 (0, 0))
        have hsz := F9.K.1
        go_wp2
        exact ⟨b0, b1, b2, b3, b4, b5, b6, b7, b8, b9, b10, b11, b12, b13, b14, true, b16, b17, b18, b19, v71, v72, v73, v74, v75, v76, v77, v78, v79, v80, v81, v82, v83, v84, .agg #[.int .i64 0, .int .i64 (-1)], .slice (some ⟨w'.heap.size, 0, none⟩) 1 1, v87, v88, v89, rfl, by simp only [List.setIfInBounds_toArray, List.set_cons_zero, List.set_cons_succ, Bool.not_true], { F9 with h15 := fun _ => ⟨_, rfl, hsz, blk_new _ _⟩, h16 := fun q => own_below (F9.h16 q) hbb, P := blk_below F9.P hbb, K := KB.trans F9.K (KB.of_below hbb pb none) (.inl rfl) }⟩
      | 16, ho, hb, hw =>
        obtain rfl : _ = o := Option.some.inj ho
        simp only [List.setIfInBounds_toArray, List.set_cons_zero, List.set_cons_succ]
        obtain rfl := F9.h4 (hw ⟨4, .data⟩ (by simp) rfl)
        obtain rfl : b16 = false := hb
        have q19 : b19 = false := by cases e : b19 <;> first | rfl | exact absurd (F9.n19 e).2 (by decide)
        subst q19
        obtain ⟨gx, rfl, lx, kx⟩ := F9.h15 (hw ⟨15, .data⟩ (by simp) rfl)
        have hsz := F9.K.1
        refine app_nil w' rfl (.tmp 75) (.tmp 86) 64 86 2 16 (.agg #[.int .i64 0, .int .i64 0]) rfl Try.underlying64 inf86 rfl (by decide) rfl gx [.int .i64 0, .int .i64 (-1)] rfl rfl kx (by intro u hu; simp only [List.mem_cons, List.not_mem_nil, or_false] at hu; rcases hu with rfl | rfl <;> rfl) (by decide) 87 rfl ?_
        intro v' w6 hr hbb
        simp only [List.setIfInBounds_toArray, List.set_cons_zero, List.set_cons_succ]
        go_wp2
        exact ⟨b0, b1, b2, b3, b4, b5, b6, b7, b8, b9, b10, b11, b12, b13, b14, b15, true, b17, b18, false, v71, v72, v73, v74, .slice none 0 0, v76, v77, v78, v79, v80, v81, v82, v83, v84, v85, .slice (some ⟨gx, 0, none⟩) 1 1, v', v88, v89, rfl, by simp only [List.setIfInBounds_toArray, List.set_cons_zero, List.set_cons_succ, Bool.not_true], { F9 with n19 := fun e => absurd e (by decide), h16 := fun _ => own_weak hr hsz, h15 := fun q => (F9.h15 q).imp (fun _ l => ⟨l.1, l.2.1, blk_below l.2.2 hbb⟩), P := blk_below F9.P hbb, K := KB.trans F9.K (KB.of_below hbb pb none) (.inl rfl) }⟩
      | 17, ho, hb, hw =>
        obtain rfl : _ = o := Option.some.inj ho
        simp only [List.setIfInBounds_toArray, List.set_cons_zero, List.set_cons_succ]
        obtain rfl := F9.h0 (hw ⟨0, .data⟩ (by simp) rfl)
        go_wp2
        exact ⟨b0, b1, b2, b3, b4, b5, b6, b7, b8, b9, b10, b11, b12, b13, b14, b15, b16, true, b18, b19, .pointer (some ⟨pb, 0, none⟩), v72, v73, v74, v75, v76, v77, v78, v79, v80, v81, v82, v83, v84, v85, v86, v87, .pointer (some ⟨pb, 0, none⟩), v89, rfl, by simp only [List.setIfInBounds_toArray, List.set_cons_zero, List.set_cons_succ, Bool.not_true], { F9 with h17 := fun _ => rfl }⟩
      | 18, ho, hb, hw =>
        obtain rfl : _ = o := Option.some.inj ho
        simp only [List.setIfInBounds_toArray, List.set_cons_zero, List.set_cons_succ]
        obtain rfl := F9.h17 (hw ⟨17, .data⟩ (by simp) rfl)
        go_wp2
        exact ⟨b0, b1, b2, b3, b4, b5, b6, b7, b8, b9, b10, b11, b12, b13, b14, b15, b16, b17, true, b19, v71, v72, v73, v74, v75, v76, v77, v78, v79, v80, v81, v82, v83, v84, v85, v86, v87, .pointer (some ⟨pb, 0, none⟩), .pointer (some ⟨pb, 2, none⟩), rfl, by simp only [List.setIfInBounds_toArray, List.set_cons_zero, List.set_cons_succ, Bool.not_true], { F9 with h18 := fun _ => rfl }⟩
      | 19, ho, hb, hw =>
        obtain rfl : _ = o := Option.some.inj ho
        simp only [List.setIfInBounds_toArray, List.set_cons_zero, List.set_cons_succ]
        obtain rfl := F9.h18 (hw ⟨18, .data⟩ (by simp) rfl)
        have qd := hw ⟨16, .data⟩ (by simp) rfl
        obtain ⟨gr, cr, er, l1, l2⟩ := own_slice (F9.h16 qd)
        subst er
        have y0 := (blk_cell F9.P 2).trans rfl
        have z0 := blk_frozen F9.P 2
        have qe := hw ⟨4, .phase⟩ (by simp) rfl
        go_wp2
        exact ⟨b0, b1, b2, b3, b4, b5, b6, b7, b8, b9, b10, b11, b12, b13, b14, b15, b16, b17, b18, true, v71, v72, v73, v74, v75, v76, v77, v78, v79, v80, v81, v82, v83, v84, v85, v86, .slice (some ⟨gr, 0, none⟩) 1 cr, v88, .pointer (some ⟨pb, 2, none⟩), rfl, by simp only [List.setIfInBounds_toArray, List.set_cons_zero, List.set_cons_succ, Bool.not_true], { F9 with n19 := fun _ => ⟨qe, qd⟩, h15 := fun q => (F9.h15 q).imp (fun _ l => ⟨l.1, l.2.1, blk_far l.2.2 (p := ⟨pb, 2, none⟩) (by have := F9.pl; have := l.2.1; show _ ≠ pb; omega) _⟩), h16 := fun q => own_put (F9.h16 q) F9.pl _, P := blk_put F9.P 2 _ rfl, K := kb_set F9.K 2 _ }⟩
      | j + 20, ho, hb, hw => exact absurd ho (by simp)
    · rintro listed a' w' hall ⟨b0, b1, b2, b3, b4, b5, b6, b7, b8, b9, b10, b11, b12, b13, b14, b15, b16, b17, b18, b19, v71, v72, v73, v74, v75, v76, v77, v78, v79, v80, v81, v82, v83, v84, v85, v86, v87, v88, v89, rfl, rfl, F9⟩
      obtain rfl : b0 = true := hall 0 (by decide)
      obtain rfl : b1 = true := hall 1 (by decide)
      obtain rfl : b2 = true := hall 2 (by decide)
      obtain rfl : b3 = true := hall 3 (by decide)
      obtain rfl : b4 = true := hall 4 (by decide)
      obtain rfl : b5 = true := hall 5 (by decide)
      obtain rfl : b6 = true := hall 6 (by decide)
      obtain rfl : b7 = true := hall 7 (by decide)
      obtain rfl : b8 = true := hall 8 (by decide)
      obtain rfl : b9 = true := hall 9 (by decide)
      obtain rfl : b10 = true := hall 10 (by decide)
      obtain rfl : b11 = true := hall 11 (by decide)
      obtain rfl : b12 = true := hall 12 (by decide)
      obtain rfl : b13 = true := hall 13 (by decide)
      obtain rfl : b14 = true := hall 14 (by decide)
      obtain rfl : b15 = true := hall 15 (by decide)
      obtain rfl : b16 = true := hall 16 (by decide)
      obtain rfl : b17 = true := hall 17 (by decide)
      obtain rfl : b18 = true := hall 18 (by decide)
      obtain rfl : b19 = true := hall 19 (by decide)
      simp only [List.setIfInBounds_toArray, List.set_cons_zero, List.set_cons_succ]
      go_wp2
      go_meet
      case rel => exact ⟨_, ⟨F9.P⟩, ⟨F9.h16 rfl⟩, ⟨F9.K⟩⟩
  case rest =>
  obtain ⟨pr, HP3, HPR, HK23⟩ := hcut
  have HK13 := Aside0.mk (KB.trans HK12.out HK23.out (.inl rfl))
  have N0 := Aside0.mk (blk_keep J0.out HK23.out (blk_apart J0.out HP2.out (by decide)))
  have N1 := Aside0.mk (blk_keep J1.out HK23.out (blk_apart J1.out HP2.out (by decide)))
  have N2 := Aside0.mk (blk_keep J2.out HK23.out (blk_apart J2.out HP2.out (by decide)))
  have N3 := Aside0.mk (blk_keep J3.out HK23.out (blk_apart J3.out HP2.out (by decide)))
  have N4 := Aside0.mk (blk_keep J4.out HK23.out (blk_apart J4.out HP2.out (by decide)))
  have HL3 := Aside0.mk (own_keep HL.out HK13.out (own_apart HL.out HP.out (by decide)))
  have HUS3 := Aside0.mk (own_keep HUS.out HK23.out (own_apart HUS.out HP2.out (by decide)))
  have HB3 : B ≤ wc.heap.size := Nat.le_trans hBw HK13.out.1
  clear J0 J1 J2 J3 J4 H3 HS2 HUS hb3ne
  go_upto_region 15 with fail
  (try simp only [Act.put, List.setIfInBounds_toArray, List.set_cons_zero, List.set_cons_succ])
  have J0 := Aside0.mk (show wc.heap[w.heap.size]? = some (.cells #[.pointer (some ⟨pb, 0, none⟩)] 60 (0, 0)) from N0.out)
  have HW3 := Aside0.mk (show wc = wc from rfl)
  revert HW3
  generalize hw3 : wc = w3 at *
  intro HW3
  go_cut [] from 90 to 98 (fun wx => ∃ lb' lc', Aside0 (wx.heap[pb]? = some (.cells #[nm, lo, pr, us, .slice (some ⟨lb', 0, none⟩) 2 lc'] 68 (0, 0))) ∧ Aside0 (wx.ownsRow B 29 1 (.slice (some ⟨lb', 0, none⟩) 2 lc') 2 [.slice none 0 0, .slice none 0 0]) ∧ Aside0 (KB w3 wx pb (some lb)) ∧ Aside0 (lb' = lb ∨ w3.heap.size ≤ lb'))
  case first => as_aux_lemma =>
    refine RegInv.wp_region_inv' rfl (by kernel_rfl) (PLJ B pb lb lc nm lo pr us w3) ?_ ?_ ?_
    · refine ⟨false, false, false, false, false, false, false, false, false, false, _, _, _, _, _, _, _, _, _, rfl, PL_self _, ?_⟩
      exact ⟨fun h => (by cases h), fun h => (by cases h), fun h => (by cases h), fun h => (by cases h), fun h => (by cases h), fun h => (by cases h), fun h => (by cases h), fun h => (by cases h), fun h => (by cases h), fun _ => HL3.out, HP3.out, fun h => (by cases h), KB.start _ _ _ _, blk_lt HP3.out, (HL3.out.lt lb rfl).2, (off_row HL3.out HP3.out (by decide)), HB3⟩
    · skip
      rintro listed a' w' i o ho hz hb hw ⟨b0, b1, b2, b3, b4, b5, b6, b7, b8, b9, v90, v91, v92, v93, v94, v95, v96, v97, v98, rfl, rfl, F9⟩
      match i, ho, hb, hw with
      | 0, ho, hb, hw =>
        obtain rfl : _ = o := Option.some.inj ho
        simp only [List.setIfInBounds_toArray, List.set_cons_zero, List.set_cons_succ]
        have y0 := (blk_cell (blk_keepr J0.out F9.K (blk_apart J0.out HP3.out (by decide)) (off_row HL3.out J0.out (by decide))) 0).trans rfl
        go_wp2
        exact ⟨true, b1, b2, b3, b4, b5, b6, b7, b8, b9, .pointer (some ⟨pb, 0, none⟩), v91, v92, v93, v94, v95, v96, v97, v98, rfl, by simp only [List.setIfInBounds_toArray, List.set_cons_zero, List.set_cons_succ, Bool.not_true], { F9 with h0 := fun _ => rfl }⟩
      | 1, ho, hb, hw =>
        obtain rfl : _ = o := Option.some.inj ho
        simp only [List.setIfInBounds_toArray, List.set_cons_zero, List.set_cons_succ]
        have y0 := (blk_cell (blk_keepr J0.out F9.K (blk_apart J0.out HP3.out (by decide)) (off_row HL3.out J0.out (by decide))) 0).trans rfl
        go_wp2
        exact ⟨b0, true, b2, b3, b4, b5, b6, b7, b8, b9, v90, .pointer (some ⟨pb, 0, none⟩), v92, v93, v94, v95, v96, v97, v98, rfl, by simp only [List.setIfInBounds_toArray, List.set_cons_zero, List.set_cons_succ, Bool.not_true], { F9 with h1 := fun _ => rfl }⟩
      | 2, ho, hb, hw =>
        obtain rfl : _ = o := Option.some.inj ho
        simp only [List.setIfInBounds_toArray, List.set_cons_zero, List.set_cons_succ]
        obtain rfl := F9.h1 (hw ⟨1, .data⟩ (by simp) rfl)
        go_wp2
        exact ⟨b0, b1, true, b3, b4, b5, b6, b7, b8, b9, v90, .pointer (some ⟨pb, 0, none⟩), .pointer (some ⟨pb, 0, none⟩), v93, v94, v95, v96, v97, v98, rfl, by simp only [List.setIfInBounds_toArray, List.set_cons_zero, List.set_cons_succ, Bool.not_true], { F9 with h2 := fun _ => rfl }⟩
      | 3, ho, hb, hw =>
        obtain rfl : _ = o := Option.some.inj ho
        simp only [List.setIfInBounds_toArray, List.set_cons_zero, List.set_cons_succ]
        obtain rfl := F9.h2 (hw ⟨2, .data⟩ (by simp) rfl)
        go_wp2
        exact ⟨b0, b1, b2, true, b4, b5, b6, b7, b8, b9, v90, v91, .pointer (some ⟨pb, 0, none⟩), .pointer (some ⟨pb, 4, none⟩), v94, v95, v96, v97, v98, rfl, by simp only [List.setIfInBounds_toArray, List.set_cons_zero, List.set_cons_succ, Bool.not_true], { F9 with h3 := fun _ => rfl }⟩
      | 4, ho, hb, hw =>
        obtain rfl : _ = o := Option.some.inj ho
        simp only [List.setIfInBounds_toArray, List.set_cons_zero, List.set_cons_succ]
        obtain rfl := F9.h3 (hw ⟨3, .data⟩ (by simp) rfl)
        obtain rfl : b4 = false := hb
        have q9 : b9 = false := by cases e : b9 <;> first | rfl | exact absurd (F9.n9 e).1 (by decide)
        subst q9
        have y0 := (blk_cell F9.P 4).trans rfl
        go_wp2
        exact ⟨b0, b1, b2, b3, true, b5, b6, b7, b8, false, v90, v91, v92, .pointer (some ⟨pb, 4, none⟩), .slice (some ⟨lb, 0, none⟩) 1 lc, v95, v96, v97, v98, rfl, by simp only [List.setIfInBounds_toArray, List.set_cons_zero, List.set_cons_succ, Bool.not_true], { F9 with n9 := fun e => absurd e (by decide), h4 := fun _ => rfl }⟩
      | 5, ho, hb, hw =>
        obtain rfl : _ = o := Option.some.inj ho
        simp only [List.setIfInBounds_toArray, List.set_cons_zero, List.set_cons_succ]
        have hbb := below_alloc (Below.refl w'.heap.size w') (.cells #[.slice none 0 0] 29 (0, 0))
        have hsz := F9.K.1
        go_wp2
        exact ⟨b0, b1, b2, b3, b4, true, b6, b7, b8, b9, v90, v91, v92, v93, v94, .slice (some ⟨w'.heap.size, 0, none⟩) 1 1, v96, v97, v98, rfl, by simp only [List.setIfInBounds_toArray, List.set_cons_zero, List.set_cons_succ, Bool.not_true], { F9 with h5 := fun _ => ⟨_, rfl, hsz, blk_new _ _⟩, h6 := fun q => ⟨own_below (F9.h6 q).1 hbb, (F9.h6 q).2⟩, L := fun q => own_below (F9.L q) hbb, P := blk_below F9.P hbb, K := KB.trans F9.K (KB.of_below hbb pb (some lb)) (.inl rfl) }⟩
      | 6, ho, hb, hw =>
        obtain rfl : _ = o := Option.some.inj ho
        simp only [List.setIfInBounds_toArray, List.set_cons_zero, List.set_cons_succ]
        obtain rfl := F9.h4 (hw ⟨4, .data⟩ (by simp) rfl)
        obtain rfl : b6 = false := hb
        have q9 : b9 = false := by cases e : b9 <;> first | rfl | exact absurd (F9.n9 e).2 (by decide)
        subst q9
        obtain ⟨gx, rfl, lx, kx⟩ := F9.h5 (hw ⟨5, .data⟩ (by simp) rfl)
        have hsz := F9.K.1
        obtain ⟨i0, hi, hzz⟩ := Option.map_eq_some_iff.1 inf29
        simp only [Prod.mk.injEq] at hzz
        obtain ⟨hz0, hz1, hz2⟩ := hzz
        have hgl : gx ≠ lb := by have := F9.ll; omega
        refine wpList_append_own_at w' rfl (.tmp 94) (.tmp 95) 66 rfl B 29 i0 (.slice none 0 0) 1 24 Try.underlying66 hi hz0 hz1 hz2 rfl (by decide) (.slice (some ⟨lb, 0, none⟩) 1 lc) 1 [.slice none 0 0] rfl (F9.L rfl) ⟨gx, 0, none⟩ 1 1 [.slice none 0 0] rfl rfl (fun j u hu => ?_) (by intro u hu; rw [List.mem_singleton] at hu; subst hu; rfl) (by decide) (by decide) (by have := F9.hB; omega) ?_
        · have e : (⟨gx, 0, none⟩ : Addr).add j = ⟨gx, j, none⟩ := by cases j <;> simp [Addr.add]
          rw [e, blk_cell kx]
          simpa using hu
        intro v' w6 hr hgr _ hat
        simp only [Act.put, List.setIfInBounds_toArray, List.set_cons_zero, List.set_cons_succ]
        have hg6 : ∀ g o, w'.heap[g]? = some o → g ≠ lb → w6.heap[g]? = some o := fun g o hh hne => (hgr.block g (blk_lt hh) (by intro e; injection e with e; exact hne e)).trans hh
        go_wp2
        exact ⟨b0, b1, b2, b3, b4, b5, true, b7, b8, false, v90, v91, v92, v93, .slice (some ⟨lb, 0, none⟩) 1 lc, .slice (some ⟨gx, 0, none⟩) 1 1, v', v97, v98, rfl, by simp only [List.setIfInBounds_toArray, List.set_cons_zero, List.set_cons_succ, Bool.not_true], { F9 with n9 := fun e => absurd e (by decide), h6 := fun _ => ⟨hr, hat.elim (fun e => .inl e) (fun e => .inr ⟨_, e, hsz⟩)⟩, L := fun e => absurd e (by decide), h5 := fun _ => ⟨gx, rfl, lx, hg6 _ _ kx hgl⟩, P := hg6 _ _ F9.P F9.ne, K := KB.trans F9.K ⟨hgr.size, fun i hi _ hr => hgr.block i hi hr, hgr.os, hgr.tape, hgr.output⟩ (.inl rfl) }⟩
      | 7, ho, hb, hw =>
        obtain rfl : _ = o := Option.some.inj ho
        simp only [List.setIfInBounds_toArray, List.set_cons_zero, List.set_cons_succ]
        obtain rfl := F9.h0 (hw ⟨0, .data⟩ (by simp) rfl)
        go_wp2
        exact ⟨b0, b1, b2, b3, b4, b5, b6, true, b8, b9, .pointer (some ⟨pb, 0, none⟩), v91, v92, v93, v94, v95, v96, .pointer (some ⟨pb, 0, none⟩), v98, rfl, by simp only [List.setIfInBounds_toArray, List.set_cons_zero, List.set_cons_succ, Bool.not_true], { F9 with h7 := fun _ => rfl }⟩
      | 8, ho, hb, hw =>
        obtain rfl : _ = o := Option.some.inj ho
        simp only [List.setIfInBounds_toArray, List.set_cons_zero, List.set_cons_succ]
        obtain rfl := F9.h7 (hw ⟨7, .data⟩ (by simp) rfl)
        go_wp2
        exact ⟨b0, b1, b2, b3, b4, b5, b6, b7, true, b9, v90, v91, v92, v93, v94, v95, v96, .pointer (some ⟨pb, 0, none⟩), .pointer (some ⟨pb, 4, none⟩), rfl, by simp only [List.setIfInBounds_toArray, List.set_cons_zero, List.set_cons_succ, Bool.not_true], { F9 with h8 := fun _ => rfl }⟩
      | 9, ho, hb, hw =>
        obtain rfl : _ = o := Option.some.inj ho
        simp only [List.setIfInBounds_toArray, List.set_cons_zero, List.set_cons_succ]
        obtain rfl := F9.h8 (hw ⟨8, .data⟩ (by simp) rfl)
        have qd := hw ⟨6, .data⟩ (by simp) rfl
        obtain ⟨gr, cr, er, l1, l2⟩ := own_slice (F9.h6 qd).1
        subst er
        have y0 : ∃ u, w'.cell? ⟨pb, 4, none⟩ = some u := ⟨_, (blk_cell F9.P 4).trans rfl⟩
        obtain ⟨u0, y0⟩ := y0
        have z0 := blk_frozen F9.P 4
        have qe := hw ⟨4, .phase⟩ (by simp) rfl
        have hrp : gr ≠ pb := fun e => own_apart (F9.h6 qd).1 F9.P (by decide) (by rw [e]; rfl)
        go_wp2
        exact ⟨b0, b1, b2, b3, b4, b5, b6, b7, b8, true, v90, v91, v92, v93, v94, v95, .slice (some ⟨gr, 0, none⟩) 2 cr, v97, .pointer (some ⟨pb, 4, none⟩), rfl, by simp only [List.setIfInBounds_toArray, List.set_cons_zero, List.set_cons_succ, Bool.not_true], { F9 with n9 := fun _ => ⟨qe, qd⟩, h5 := fun q => (F9.h5 q).imp (fun _ l => ⟨l.1, l.2.1, blk_far l.2.2 (p := ⟨pb, 4, none⟩) (by have := F9.pl; have := l.2.1; show _ ≠ pb; omega) _⟩), h6 := fun q => ⟨own_move (F9.h6 q).1 (fun k hk => Below.heap_setCell w' ⟨pb, 4, none⟩ _ k (by have : gr = k := Option.some.inj hk; show k ≠ pb; omega)), (F9.h6 q).2⟩, L := fun q => own_move (F9.L q) (fun k hk => Below.heap_setCell w' ⟨pb, 4, none⟩ _ k (by have : lb = k := Option.some.inj hk; have := F9.ne; show k ≠ pb; omega)), P := blk_put F9.P 4 _ rfl, K := keep_setr F9.K 4 _ }⟩
      | j + 10, ho, hb, hw => exact absurd ho (by simp)
    · rintro listed a' w' hall ⟨b0, b1, b2, b3, b4, b5, b6, b7, b8, b9, v90, v91, v92, v93, v94, v95, v96, v97, v98, rfl, rfl, F9⟩
      obtain rfl : b0 = true := hall 0 (by decide)
      obtain rfl : b1 = true := hall 1 (by decide)
      obtain rfl : b2 = true := hall 2 (by decide)
      obtain rfl : b3 = true := hall 3 (by decide)
      obtain rfl : b4 = true := hall 4 (by decide)
      obtain rfl : b5 = true := hall 5 (by decide)
      obtain rfl : b6 = true := hall 6 (by decide)
      obtain rfl : b7 = true := hall 7 (by decide)
      obtain rfl : b8 = true := hall 8 (by decide)
      obtain rfl : b9 = true := hall 9 (by decide)
      simp only [List.setIfInBounds_toArray, List.set_cons_zero, List.set_cons_succ]
      obtain ⟨gr, cr, er, l1, l2⟩ := own_slice (F9.h6 rfl).1
      subst er
      go_wp2
      go_meet
      case rel => exact ⟨gr, cr, ⟨F9.P⟩, ⟨(F9.h6 rfl).1⟩, ⟨F9.K⟩, ⟨(F9.h6 rfl).2.elim (fun e => .inl (Option.some.inj e)) (fun ⟨k, e, l⟩ => .inr (by have : gr = k := Option.some.inj e; omega))⟩⟩
  case rest =>
  obtain ⟨lb', lc', HP4, HL4, HK34, HE⟩ := hcut
  have HK14 := Aside0.mk (KB.trans (keep_wide HK13.out lb) HK34.out (.inl rfl))
  have M0 := Aside0.mk (blk_keepr N0.out HK34.out (blk_apart N0.out HP3.out (by decide)) (off_row HL3.out N0.out (by decide)))
  have M1 := Aside0.mk (blk_keepr N1.out HK34.out (blk_apart N1.out HP3.out (by decide)) (off_row HL3.out N1.out (by decide)))
  have M2 := Aside0.mk (blk_keepr N2.out HK34.out (blk_apart N2.out HP3.out (by decide)) (off_row HL3.out N2.out (by decide)))
  have M3 := Aside0.mk (blk_keepr N3.out HK34.out (blk_apart N3.out HP3.out (by decide)) (off_row HL3.out N3.out (by decide)))
  have M4 := Aside0.mk (blk_keepr N4.out HK34.out (blk_apart N4.out HP3.out (by decide)) (off_row HL3.out N4.out (by decide)))
  have MK := Aside0.mk (blk_keepr HK.out HK14.out (blk_apart HK.out HP.out (by decide)) (off_row HL.out HK.out (by decide)))
  have MK2 := Aside0.mk (show Kid wc q6 s3 C3 e3 C4 e4 C5 e5 from blk_keepr HK2.out HK14.out (blk_apart HK2.out HP.out (by decide)) (off_row HL.out HK2.out (by decide)))
  have HUS4 := Aside0.mk (own_move HUS3.out (fun k hk => HK34.out.2 k (HUS3.out.lt k hk).2 (fun e => own_apart HUS3.out HP3.out (by decide) (e ▸ hk)) (fun e => by injection e with e; subst e; exact absurd (own_same HUS3.out HL3.out hk rfl) (by decide))))
  have HPR4 := Aside0.mk (own_move HPR.out (fun k hk => HK34.out.2 k (HPR.out.lt k hk).2 (fun e => own_apart HPR.out HP3.out (by decide) (e ▸ hk)) (fun e => by injection e with e; subst e; exact absurd (own_same HPR.out HL3.out hk rfl) (by decide))))
  clear J0 N0 N1 N2 N3 N4 HUS3 HPR
  go_upto_region 16 with fail
  (try simp only [Act.put, List.setIfInBounds_toArray, List.set_cons_zero, List.set_cons_succ])
  have L0 := fun x : RegCl.Cl wc => (blk_cell (blk_below M0.out x.b) 0).trans rfl
  have L1 := fun x : RegCl.Cl wc => (blk_cell (blk_below M1.out x.b) 3).trans rfl
  have L15 := fun x : RegCl.Cl wc => (blk_cell (blk_below M1.out x.b) 5).trans rfl
  have L2 := fun x : RegCl.Cl wc => (blk_cell (blk_below M2.out x.b) 0).trans rfl
  have L3 := fun x : RegCl.Cl wc => (blk_cell (blk_below M3.out x.b) 0).trans rfl
  have Q0 := fun x : RegCl.Cl wc => (blk_cell (blk_below MK.out x.b) 0).trans rfl
  have Q1 := fun x : RegCl.Cl wc => (blk_cell (blk_below MK.out x.b) 1).trans rfl
  have Q2 := fun x : RegCl.Cl wc => (blk_cell (blk_below MK.out x.b) 2).trans rfl
  have Q3 := fun x : RegCl.Cl wc => (blk_cell (blk_below MK.out x.b) 3).trans rfl
  have Q4 := fun x : RegCl.Cl wc => (blk_cell (blk_below MK.out x.b) 4).trans rfl
  have Q5 := fun x : RegCl.Cl wc => (blk_cell (blk_below MK.out x.b) 5).trans rfl
  refine QuietLast.wp_region_qlastC (by kernel_rfl) (by kernel_rfl) ?_
  dsimp only [QuietLast.initL, QuietLast.lastL]
  repeat (go_big_quiet_step ((go_at_call 56; (refine (bind_nil _ _ _ _ _).mono ?_); rintro e wz ⟨rfl, hb⟩; exact ⟨rfl, ⟨wz, below_then (RegCl.Cl.b _) (RegCl.Cl.b _).size hb⟩, rfl⟩)))
  refine wpQuiet_nil ?_
  intro x
  clear L0 L1 L15 L2 L3 Q0 Q1 Q2 Q3 Q4 Q5
  go_wp2_with (go_at_call 45; go_loud ((refine (look_thread x.v B pb lb' lc' sb m nm lo pr us (A3 := B3) (A4 := B4) (c3 := d3) (c4 := d4) (c5 := d5) (show Kid x.v q6 s3 C3 e3 C4 e4 C5 e5 from blk_below MK2.out x.b) (blk_below HP4.out x.b) (own_below HL4.out x.b)).mono ?_); rintro e w5 ⟨⟨rr5, rfl⟩, v, h1, h2, h3⟩; have H1 := Aside0.mk h1; have H2 := Aside0.mk h2; have H3 := Aside0.mk h3; clear h1 h2 h3))
  refine bodyPost_ret (results_none rfl _ _ _) rfl ?_
  refine ⟨⟨_, rfl⟩, pr, us, lb', lc', v, ?_, ?_, ?_, ?_, H2.out, ?_⟩
  · exact blk_keep (blk_below HP4.out x.b) H3.out (off_row (own_below HL4.out x.b) (blk_below HP4.out x.b) (by decide))
  · exact own_keep (own_below (own_weak HPR4.out (Nat.le_trans HS.out.size (Nat.le_trans (below_alloc (Below.refl _ _) _).size hsz12))) x.b) H3.out (fun hk => absurd (own_same (own_below HPR4.out x.b) (own_below HL4.out x.b) hk rfl) (by decide))
  · exact own_keep (own_below HUS4.out x.b) H3.out (fun hk => absurd (own_same (own_below HUS4.out x.b) (own_below HL4.out x.b) hk rfl) (by decide))
  · exact own_weak H1.out (Nat.le_trans HK14.out.1 x.b.size)
  · exact keep_last (KB.trans HK14.out (KB.of_below x.b pb (some lb)) (.inl rfl)) H3.out (HE.out.imp id (fun l => Nat.le_trans HK13.out.1 l))
end Go.Proofs.Ytelmcnngocklfaa.Need
