import Derived.Test.YtelmcnngocklfaaNProc
/-! look at 'local P in proc P thread skip'. -/
namespace Go.Proofs.Ytelmcnngocklfaa.Need
set_option linter.unusedVariables false
set_option linter.unusedSimpArgs false
open Go.RowKit Go.Proofs.YtelmcnngocklfaaW.PrintWords Go.Proofs.YtelmcnngocklfaaW.PrintLast Go.Proofs.YtelmcnngocklfaaW.PrintMore
theorem keep_new {w w1 : World} {p g : Nat} {row : Option Nat} (h : KB w w1 p row) (hg : w.heap.size ≤ g) (j : Nat) (u : Value) : KB w (w1.setCell ⟨g, j, none⟩ u) p row :=
  ⟨by simpa [World.setCell] using h.1, fun i hi hp hr => (Below.heap_setCell w1 ⟨g, j, none⟩ u i (by show i ≠ g; omega)).trans (h.2 i hi hp hr), h.3⟩
abbrev X0 (ad : Addr) (c3 : Nat) (A4 : Option Addr) (c4 q5 c5 : Nat) : Array Value := #[.string nLocal, .string no, .int .i64 0, .slice (some ad) 1 c3, .slice A4 0 c4, .slice (some ⟨q5, 0, none⟩) 1 c5]
structure LcS (w wx : World) (pb sb lb lc gn cn gl cl : Nat) (m : Option Nat) (X : Array Value) (fl : Bool) : Prop where
  b0 : wx.heap[w.heap.size]? = some (.cells #[.pointer (some ⟨pb, 0, none⟩)] 60 (0, 0))
  b1 : wx.heap[w.heap.size + 1]? = some (.cells X 26 (0, 0))
  b2 : wx.heap[w.heap.size + 1 + 1]? = some (.cells #[.pointer (some ⟨sb, 0, none⟩)] 100 (0, 0))
  b3 : wx.heap[w.heap.size + 1 + 1 + 1]? = some (.cells #[.map m] 81 (0, 0))
  b4 : wx.heap[w.heap.size + 1 + 1 + 1 + 1]? = some (.cells #[.int .i64 (-1)] 3 (0, 0))
  hs : wx.heap[sb]? = some (.cells #[.pointer none, .string nP, .int .i64 0] 111 (0, 0))
  P : wx.heap[pb]? = some (.cells #[.slice (some ⟨gn, 0, none⟩) 1 cn, .slice (some ⟨gl, 0, none⟩) 1 cl, .slice none 0 0, .slice none 0 0, .slice (some ⟨lb, 0, none⟩) 1 lc] 68 (0, 0))
  rn : wx.ownsRow w.heap.size 9 1 (.slice (some ⟨gn, 0, none⟩) 1 cn) 1 [.string nP]
  rl : wx.ownsRow w.heap.size 4 1 (.slice (some ⟨gl, 0, none⟩) 1 cl) 1 [.bool fl]
  K : KB w wx pb none
theorem LcS.step {w wx : World} {pb sb lb lc gn cn gl cl : Nat} {m : Option Nat} {X : Array Value} {fl : Bool} (h : LcS w wx pb sb lb lc gn cn gl cl m X fl) : LcS w (wx.setCell ⟨gl, 0, none⟩ (.bool true)) pb sb lb lc gn cn gl cl m X true :=
  ⟨blk_far h.b0 (off_row h.rl h.b0 (by decide)) _, blk_far h.b1 (off_row h.rl h.b1 (by decide)) _, blk_far h.b2 (off_row h.rl h.b2 (by decide)) _, blk_far h.b3 (off_row h.rl h.b3 (by decide)) _, blk_far h.b4 (off_row h.rl h.b4 (by decide)) _, blk_far h.hs (off_row h.rl h.hs (by decide)) _, blk_far h.P (off_row h.rl h.P (by decide)) _,
   own_move h.rn (fun k hk => Below.heap_setCell wx ⟨gl, 0, none⟩ _ k (by rintro rfl; exact absurd (own_same h.rn h.rl hk rfl) (by decide))), (h.rl.stored 0 _).1, keep_new h.K (h.rl.lt gl rfl).1 0 _⟩
theorem ll_start {w W w2 : World} {pb sb lb lc gn cn gl cl : Nat} {m : Option Nat} {X : Array Value} (hS : Below w.heap.size w W) (hz : w.heap.size + 5 ≤ W.heap.size)
    (k0 : W.heap[w.heap.size]? = some (.cells #[.pointer (some ⟨pb, 0, none⟩)] 60 (0, 0))) (k1 : W.heap[w.heap.size + 1]? = some (.cells X 26 (0, 0))) (k2 : W.heap[w.heap.size + 1 + 1]? = some (.cells #[.pointer none] 100 (0, 0))) (k3 : W.heap[w.heap.size + 1 + 1 + 1]? = some (.cells #[.map m] 81 (0, 0))) (k4 : W.heap[w.heap.size + 1 + 1 + 1 + 1]? = some (.cells #[.int .i64 (-1)] 3 (0, 0)))
    (hp0 : pb < w.heap.size) (hsb : W.heap.size ≤ sb) (hs : w2.heap[sb]? = some (.cells #[.pointer none, .string nP, .int .i64 0] 111 (0, 0))) (hP : w2.heap[pb]? = some (.cells #[.slice (some ⟨gn, 0, none⟩) 1 cn, .slice (some ⟨gl, 0, none⟩) 1 cl, .slice none 0 0, .slice none 0 0, .slice (some ⟨lb, 0, none⟩) 1 lc] 68 (0, 0)))
    (rn : w2.ownsRow W.heap.size 9 1 (.slice (some ⟨gn, 0, none⟩) 1 cn) 1 [.string nP]) (rl : w2.ownsRow W.heap.size 4 1 (.slice (some ⟨gl, 0, none⟩) 1 cl) 1 [.bool false]) (hk : KB W w2 pb none) : LcS w (w2.setCell ⟨w.heap.size + 1 + 1, 0, none⟩ (.pointer (some ⟨sb, 0, none⟩))) pb sb lb lc gn cn gl cl m X false :=
  ⟨blk_far (blk_keep k0 hk (by omega)) (by show w.heap.size ≠ w.heap.size + 1 + 1; omega) _, blk_far (blk_keep k1 hk (by omega)) (by show w.heap.size + 1 ≠ w.heap.size + 1 + 1; omega) _, blk_put (blk_keep k2 hk (by omega)) 0 _ rfl, blk_far (blk_keep k3 hk (by omega)) (by show w.heap.size + 1 + 1 + 1 ≠ w.heap.size + 1 + 1; omega) _, blk_far (blk_keep k4 hk (by omega)) (by show w.heap.size + 1 + 1 + 1 + 1 ≠ w.heap.size + 1 + 1; omega) _, blk_far hs (by show sb ≠ w.heap.size + 1 + 1; omega) _, blk_far hP (by show pb ≠ w.heap.size + 1 + 1; omega) _,
   own_weak (own_put rn (by omega) _) hS.size, own_weak (own_put rl (by omega) _) hS.size, keep_new (two_keep hS hk) (by omega) 0 _⟩
set_option maxHeartbeats 8000000 in
set_option maxRecDepth 100000 in
theorem look_local (w : World) (B pb lb lc : Nat) (ad : Addr) (m : Option Nat) {A4 : Option Addr} {q5 c3 c4 c5 : Nat} {a3 : Nat} {B4 : Option Addr} {q6 d4 d5 : Nat} (hk : Kid w q5 s1 (some ⟨a3, 0, none⟩) 1 B4 d4 (some ⟨q6, 0, none⟩) d5) {C3 C4 : Option Addr} {q7 e3 e4 e5 : Nat} (hk2 : Kid w q6 s2 C3 e3 C4 e4 (some ⟨q7, 0, none⟩) e5) {D3 D4 D5 : Option Addr} {f3 f4 f5 : Nat} (hk3 : Kid w q7 s3 D3 f3 D4 f4 D5 f5) (ha3 : w.cell? ⟨a3, 0, none⟩ = some (.string nP)) (hpb3 : a3 ≠ pb) (had : w.cell? ad = some (.string nP))
    (hp : w.heap[pb]? = some (.cells #[.slice none 0 0, .slice none 0 0, .slice none 0 0, .slice none 0 0, .slice (some ⟨lb, 0, none⟩) 1 lc] 68 (0, 0))) (hl : w.ownsRow B 29 1 (.slice (some ⟨lb, 0, none⟩) 1 lc) 1 [.slice none 0 0]) :
    Calls Try.prog 45 #[.pointer (some ⟨pb, 0, none⟩), ag nLocal (some ad) 1 c3 A4 c4 (some ⟨q5, 0, none⟩) 1 c5, .pointer none, .map m, .int .i64 (-1)] w (fun e w' => (∃ r, e = .returned r) ∧ ∃ nm lo pr us lb' lc' v, w'.heap[pb]? = some (.cells #[nm, lo, pr, us, .slice (some ⟨lb', 0, none⟩) 2 lc'] 68 (0, 0)) ∧ w'.ownsRow w.heap.size 4 1 lo 1 [.bool true] ∧ w'.ownsRow w.heap.size 86 2 pr 1 [.int .i64 0, .int .i64 (-1)] ∧ w'.ownsRow w.heap.size 88 4 us 1 [.int .i64 0, .int .i64 (-1), .int .i64 0, .bool false] ∧ w'.ownsRow w.heap.size 3 1 v 1 [.int .i64 1] ∧ w'.ownsRow B 29 1 (.slice (some ⟨lb', 0, none⟩) 2 lc') 2 [.slice none 0 0, v] ∧ KB w w' pb (some lb)) := by
  obtain ⟨k0, k1, k2, k3, k4, hS⟩ := five w (.cells #[.pointer (some ⟨pb, 0, none⟩)] 60 (0, 0)) (.cells (X0 ad c3 A4 c4 q5 c5) 26 (0, 0)) (.cells #[.pointer none] 100 (0, 0)) (.cells #[.map m] 81 (0, 0)) (.cells #[.int .i64 (-1)] 3 (0, 0))
  have hz : w.heap.size + 5 ≤ (((((w.alloc (.cells #[.pointer (some ⟨pb, 0, none⟩)] 60 (0, 0))).alloc (.cells (X0 ad c3 A4 c4 q5 c5) 26 (0, 0))).alloc (.cells #[.pointer none] 100 (0, 0))).alloc (.cells #[.map m] 81 (0, 0))).alloc (.cells #[.int .i64 (-1)] 3 (0, 0))).heap.size := by simp
  have KK := Aside0.mk (And.intro k0 (And.intro k1 (And.intro k2 (And.intro k3 (And.intro k4 (And.intro hS hz))))))
  have HK := Aside0.mk hk
  have HK2 := Aside0.mk hk2
  have HK3 := Aside0.mk hk3
  have HP := Aside0.mk hp
  have HL := Aside0.mk hl
  have HA3 := Aside0.mk ha3
  have HAD := Aside0.mk had
  have x0 := (blk_cell k0 0).trans rfl
  have x1 := (blk_cell k1 0).trans rfl
  have x13 := (blk_cell k1 3).trans rfl
  have x2 := (blk_cell k2 0).trans rfl
  have xp := (blk_cell (blk_below hp hS) 0).trans rfl
  clear k0 k1 k2 k3 k4 hS hz hk hk2 hk3 hp hl ha3 had
  go_enter Try.func45, Try.ntmps45
  go_wp2_with (go_at_call 56; go_loud ((refine (bind_walk _ pb ad c3 nP (.slice none 0 0) (.slice none 0 0) (.slice (some ⟨lb, 0, none⟩) 1 lc) (blk_below HP.out KK.out.2.2.2.2.2.1) (pw_cell_below KK.out.2.2.2.2.2.1 HAD.out)).mono ?_); rintro e w2 ⟨sb, rfl, hsb, h1, nm, lo, h2, h3, h4, h5⟩; obtain ⟨gn, cn, rfl, -, -⟩ := own_slice h3; obtain ⟨gl, cl, rfl, -, -⟩ := own_slice h4; have LS := Aside0.mk (ll_start KK.out.2.2.2.2.2.1 KK.out.2.2.2.2.2.2 KK.out.1 KK.out.2.1 KK.out.2.2.1 KK.out.2.2.2.1 KK.out.2.2.2.2.1 (blk_lt HP.out) hsb h1 h2 h3 h4 h5); have y2 := (blk_cell (blk_keep KK.out.2.2.1 h5 (by have := blk_lt HP.out; omega)) 0).trans rfl; have z2 := blk_frozen (blk_keep KK.out.2.2.1 h5 (by have := blk_lt HP.out; omega)) 0; clear hsb h1 h2 h3 h4 h5 x0 x1 x13 x2 xp))
  go_loopg [12] 2 (fun kq v12 wx => ∃ j : Nat, v12 = .int .i64 (j : Int) ∧ Aside0 (j + kq = 2 ∧ j ≤ 1) ∧ Aside0 (LcS w wx pb sb lb lc gn cn gl cl m (X0 ad c3 A4 c4 q5 c5) (if j = 0 then false else true)))
  case atStart => exact ⟨0, rfl, ⟨by omega⟩, LS⟩
  case round =>
    obtain ⟨j, rfl, HJ, HX⟩ := hrel
    clear LS y2 z2
    cases gk with
    | zero => have := HJ.out; omega
    | succ k1 =>
      match j with
      | 0 =>
        have HX3 := Aside0.mk (show LcS w wr pb sb lb lc gn cn gl cl m (X0 ad c3 A4 c4 q5 c5) false from HX.out)
        have p0 := (blk_cell HX3.out.b0 0).trans rfl
        have p1 := (blk_cell HX3.out.P 0).trans rfl
        have p2 := (blk_cell HX3.out.P 1).trans rfl
        have y0 := (HX3.out.rl.cellAt 0 (by decide)).trans rfl
        have z0 := HX3.out.rl.frozenAt 0
        clear HX
        go_wp2_with fail
        go_roundg k1
        case measure => have := HJ.out; omega
        case rel => exact ⟨1, by first | rfl | (simp; done), ⟨by have := HJ.out; omega⟩, ⟨HX3.out.step⟩⟩
      | 1 =>
        have HX3 := Aside0.mk (show LcS w wr pb sb lb lc gn cn gl cl m (X0 ad c3 A4 c4 q5 c5) true from HX.out)
        have p0 := (blk_cell HX3.out.b0 0).trans rfl
        have p1 := (blk_cell HX3.out.P 0).trans rfl
        clear HX
        go_upto_region 10 with fail
        (try simp only [Act.put, List.setIfInBounds_toArray, List.set_cons_zero, List.set_cons_succ])
        have MK := Aside0.mk (show Kid wr q5 s1 (some ⟨a3, 0, none⟩) 1 B4 d4 (some ⟨q6, 0, none⟩) d5 from blk_keep HK.out HX3.out.K (blk_apart HK.out HP.out (by decide)))
        have MK2 := Aside0.mk (show Kid wr q6 s2 C3 e3 C4 e4 (some ⟨q7, 0, none⟩) e5 from blk_keep HK2.out HX3.out.K (blk_apart HK2.out HP.out (by decide)))
        have MK3 := Aside0.mk (show Kid wr q7 s3 D3 f3 D4 f4 D5 f5 from blk_keep HK3.out HX3.out.K (blk_apart HK3.out HP.out (by decide)))
        have L0 := fun x : RegCl.Cl wr => (blk_cell (blk_below HX3.out.b0 x.b) 0).trans rfl
        have L15 := fun x : RegCl.Cl wr => (blk_cell (blk_below HX3.out.b1 x.b) 5).trans rfl
        have L2 := fun x : RegCl.Cl wr => (blk_cell (blk_below HX3.out.b2 x.b) 0).trans rfl
        have L3 := fun x : RegCl.Cl wr => (blk_cell (blk_below HX3.out.b3 x.b) 0).trans rfl
        have L4 := fun x : RegCl.Cl wr => (blk_cell (blk_below HX3.out.b4 x.b) 0).trans rfl
        have Q0 := fun x : RegCl.Cl wr => (blk_cell (blk_below MK.out x.b) 0).trans rfl
        have Q1 := fun x : RegCl.Cl wr => (blk_cell (blk_below MK.out x.b) 1).trans rfl
        have Q2 := fun x : RegCl.Cl wr => (blk_cell (blk_below MK.out x.b) 2).trans rfl
        have Q3 := fun x : RegCl.Cl wr => (blk_cell (blk_below MK.out x.b) 3).trans rfl
        have Q4 := fun x : RegCl.Cl wr => (blk_cell (blk_below MK.out x.b) 4).trans rfl
        have Q5 := fun x : RegCl.Cl wr => (blk_cell (blk_below MK.out x.b) 5).trans rfl
        refine QuietLast.wp_region_qlastC (by kernel_rfl) (by kernel_rfl) ?_
        dsimp only [QuietLast.initL, QuietLast.lastL]
        repeat (go_big_quiet_step (fail))
        refine wpQuiet_nil ?_
        intro x
        clear L0 L15 L2 L3 L4 Q0 Q1 Q2 Q3 Q4 Q5 p0 p1
        go_wp2_with (go_at_call 45; go_loud ((refine (look_proc x.v B pb lb lc sb a3 m (.slice (some ⟨gn, 0, none⟩) 1 cn) (.slice (some ⟨gl, 0, none⟩) 1 cl) (B3 := C3) (B4 := C4) (d3 := e3) (d4 := e4) (d5 := e5) (blk_below MK2.out x.b) (blk_below MK3.out x.b) (pw_cell_below x.b (cell_keep HA3.out HX3.out.K hpb3)) hpb3 (blk_below HX3.out.P x.b) (own_below (own_keep HL.out HX3.out.K (own_apart HL.out HP.out (by decide))) x.b) (blk_below HX3.out.hs x.b)).mono ?_); rintro e w5 ⟨⟨rr5, rfl⟩, pr, us, lb', lc', v, h1, h2, h3, h4, h5, h6⟩; have H1 := Aside0.mk h1; have H2 := Aside0.mk h2; have H3 := Aside0.mk h3; have H4 := Aside0.mk h4; have H5 := Aside0.mk h5; have H6 := Aside0.mk h6; clear h1 h2 h3 h4 h5 h6))
        refine bodyPost_ret (results_none rfl _ _ _) rfl ?_
        have hsz := Nat.le_trans HX3.out.K.1 x.b.size
        refine ⟨⟨_, rfl⟩, _, _, pr, us, lb', lc', v, H1.out, ?_, own_weak H2.out hsz, own_weak H3.out hsz, own_weak H4.out hsz, H5.out, ?_⟩
        · have r1 := own_below HX3.out.rl x.b
          exact own_move r1 (fun k hk => H6.out.2 k (r1.lt k hk).2 (fun e => own_apart r1 (blk_below HX3.out.P x.b) (by decide) (e ▸ hk)) (fun e => by injection e with e; subst e; exact absurd (own_same r1 (own_below (own_keep HL.out HX3.out.K (own_apart HL.out HP.out (by decide))) x.b) hk rfl) (by decide)))
        · exact KB.trans (KB.trans (keep_wide HX3.out.K lb) (KB.of_below x.b pb (some lb)) (.inl rfl)) H6.out (.inl rfl)
      | j + 2 => have := HJ.out; omega
end Go.Proofs.Ytelmcnngocklfaa.Need
