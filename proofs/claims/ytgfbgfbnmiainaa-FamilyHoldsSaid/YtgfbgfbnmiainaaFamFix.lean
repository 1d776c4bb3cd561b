import Derived.Test.YtgfbgfbnmiainaaFamApply
import Derived.Test.YtgfbgfbnmiainaaQ8
import Derived.Test.YtgfbgfbnmiainaaQ6
import Derived.Test.YtgfbgfbnmiainaaQ19
/-! Fix: the walk, against Lean functions. -/
namespace Go.Proofs.Ytgfbgfbnmiainaa.Fam
set_option linter.unusedVariables false
set_option linter.unusedSimpArgs false
open Go.RowKit Go.Proofs.YtgfbgfbnmiainaaW.PrintWords Go.Proofs.YtgfbgfbnmiainaaW.PrintLast Go.Proofs.YtgfbgfbnmiainaaW.PrintMore Go.Proofs.Ytgfbgfbnmiainaa.Q
attribute [local go_sem] Go.Proofs.YtgfbgfbnmiainaaW.OwnWords.isSome_setCell max2_int min2_int
attribute [local go_sem high] eqA59
def openF (k : Nat) (f : S37) : Option (S59 × Bool) := (family_open.f k f.f0 f.f1 f.f2 f.f3).map fun r => (⟨r.1, r.2.1, r.2.2.1, r.2.2.2.1⟩, r.2.2.2.2)
theorem openF_some {k : Nat} {f : S37} {s : S59 × Bool} (h : openF k f = some s) : family_open.f k f.f0 f.f1 f.f2 f.f3 = some (s.1.f0, s.1.f1, s.1.f2, s.1.f3, s.2) := by
  unfold openF at h
  rw [Option.map_eq_some_iff] at h
  obtain ⟨⟨a, b, c, d, e⟩, h1, rfl⟩ := h
  exact h1
/-- What loop 1 has laid, behind i rounds. -/
def spans (sp : Nat → S59 × Bool) (i : Nat) : List S59 := (List.range i).map fun j => (sp j).1
theorem spans_succ (sp : Nat → S59 × Bool) (i : Nat) : spans sp (i + 1) = spans sp i ++ [(sp i).1] := by simp [spans, List.range_succ]
theorem spans_len (sp : Nat → S59 × Bool) (i : Nat) : (spans sp i).length = i := by simp [spans]
def oks (sp : Nat → S59 × Bool) (b : Bool) (i : Nat) : Bool := b && (List.range i).all fun j => (sp j).2
theorem oks_succ (sp : Nat → S59 × Bool) (b : Bool) (i : Nat) : oks sp b (i + 1) = (oks sp b i && (sp i).2) := by simp [oks, List.range_succ, Bool.and_assoc]
def okr (vr : Nat → Bool) (b : Bool) (i : Nat) : Bool := b && (List.range i).all vr
theorem okr_succ (vr : Nat → Bool) (b : Bool) (i : Nat) : okr vr b (i + 1) = (okr vr b i && vr i) := by simp [okr, List.range_succ, Bool.and_assoc]
def Fz (w w' : World) (v : Value) (xs : List S59) (f m : Bool) : Prop := IsFx w w' w.heap.size v xs f m ∧ Below w.heap.size w w'
/-- Loop 3: each family to its normal form. -/
def initF (k : Nat) : Nat → Nat → St → Option St
  | 0, _, t => some t
  | m + 1, i, t => (putL k i (rd_T59 t.xs i) t).bind (initF k m (i + 1))
/-- Loop 5: the relations, one after the other, till one fails. -/
def passF (k : Nat) (qs : Nat → Rl) : Nat → Nat → St → Option St
  | 0, _, t => some t
  | m + 1, i, t => if t.fail then some t else (applyR k (qs i) t).bind (passF k qs m (i + 1))
/-- Loop 4. -/
def roundF (k : Nat) (qs : Nat → Rl) (n : Nat) : Nat → St → Option St
  | 0, _ => none
  | m + 1, t => if t.moved && !t.fail then (passF k qs n 0 ⟨t.xs, t.fail, false⟩).bind (roundF k qs n m) else some t
def closeF (k : Nat) (s : S59) : Option S37 := (family_span_close.f k s.f0 s.f1 s.f2 s.f3).map fun r => ⟨r.1, r.2.1, r.2.2.1, r.2.2.2⟩
def RelsAre (rels : List S33) (qs : Nat → Rl) (n : Nat) : Prop := ∀ i : Nat, i < rels.length → IsRl (rd_T33 rels i) (qs i) ∧ (qs i).inb n
theorem putL_len {k : Nat} {i : Int} {s : S59} {t u : St} (h : putL k i s t = some u) : u.xs.length = t.xs.length := by
  unfold putL at h
  split at h
  · cases h; rfl
  · rw [Option.map_eq_some_iff] at h
    obtain ⟨r, _, rfl⟩ := h
    split
    · split
      · rfl
      · simp
    · rfl
theorem rl_pos {q : Rl} {n : Nat} (h : q.inb n) : 0 < n := by
  cases q <;> simp only [Rl.inb, Inb] at h <;> omega
theorem len_bind {n : Nat} {a : Option St} {f : St → Option St} {u : St} (h : a.bind f = some u) (ha : ∀ s, a = some s → s.xs.length = n) (hf : ∀ s u, s.xs.length = n → f s = some u → u.xs.length = n) : u.xs.length = n := by
  obtain ⟨s, h1, h2⟩ := Option.bind_eq_some_iff.mp h
  exact hf s u (ha s h1) h2
theorem applyR_len {k n : Nat} {q : Rl} {t u : St} (hn : t.xs.length = n) (h : applyR k q t = some u) : u.xs.length = n := by
  cases q <;> simp only [applyR, partL, apartL, unionL, meetL, minusL, hasL, lacksL, sizeL] at h
  case part | apart | union | meet | minus =>
    repeat (refine len_bind h (fun s hs => (putL_len hs).trans (by assumption)) (fun s u hs h => ?_))
    cases h
    assumption
  case has | lacks =>
    split at h
    · exact (putL_len h).trans hn
    · cases h
      exact hn
  case size =>
    split at h
    · exact len_bind h (fun s hs => (putL_len hs).trans hn) (fun s u hs h => (putL_len h).trans hs)
    · cases h
      exact hn
theorem fz_below {w w1 w2 : World} {v : Value} {xs : List S59} {f m : Bool} (h : Fz w w1 v xs f m) (hb : Below w1.heap.size w1 w2) : Fz w w2 v xs f m := by
  have := fx_below (fx_start h.1 h.2) hb
  exact ⟨this.1, this.2.1⟩
theorem fz_alloc {w w1 : World} {v : Value} {xs : List S59} {f m : Bool} (h : Fz w w1 v xs f m) (o : Obj) : Fz w (w1.alloc o) v xs f m := fz_below h (below_alloc (Below.refl _ _) o)
theorem fz_put0 {w w3 : World} {v v1 : Value} {xs : List S59} {f m : Bool} (h3 : w3.heap[w.heap.size]? = some (.cells #[v, .bool f, .bool m] 56 (0, 0))) (hb : Below w.heap.size w w3) (ho : Kd.R k59 59 w3 w.heap.size (fun k => k ≠ w.heap.size) v1 xs) : Fz w (w3.setCell ⟨w.heap.size, 0, none⟩ v1) v1 xs f m :=
  ⟨⟨blk_put h3 0 v1 rfl, Nat.le_refl _, r59_move ho (fun k hk => ho.1 k hk) (fun k hk => Below.heap_setCell w3 _ _ k (ho.1 k hk))⟩, hb.setCell (Nat.le_refl _) _⟩
theorem fz_put2 {w w1 : World} {v : Value} {xs : List S59} {f m : Bool} (h : Fz w w1 v xs f m) (b : Bool) : Fz w (w1.setCell ⟨w.heap.size, 2, none⟩ (.bool b)) v xs f b :=
  ⟨(fx_put2 (fx_start h.1 h.2) b).1, (fx_put2 (fx_start h.1 h.2) b).2.1⟩
theorem info37' : (Try.prog.info? 37).map (fun i => (i.zero, i.size, i.bytes)) = some (some (.agg #[.slice none 0 0, .slice none 0 0, .int .i64 0, .int .i64 0]), 4, 64) := by kernel_rfl
theorem below_of_grown {w w1 : World} (hg : w.grownBy w1 none) : Below w.heap.size w w1 := ⟨hg.os, hg.tape, hg.output, hg.size, fun i hi => hg.block i hi (by simp)⟩
theorem closeF_some {k : Nat} {s : S59} {o : S37} (h : closeF k s = some o) : family_span_close.f k s.f0 s.f1 s.f2 s.f3 = some (o.f0, o.f1, o.f2, o.f3) := by
  unfold closeF at h
  rw [Option.map_eq_some_iff] at h
  obtain ⟨⟨a, b, c, d⟩, h1, rfl⟩ := h
  exact h1
theorem rint_ok {w : World} {base : Nat} {ok ok' : Nat → Prop} {v : Value} {xs : List Int} (h : (Kd.int .i64).R 3 w base ok v xs) (hok : ∀ k, v.ownBlock = some k → ok' k) : (Kd.int .i64).R 3 w base ok' v xs := by
  obtain ⟨_, inner, ho, hr⟩ := h
  exact ⟨hok, inner, ho, hr.imp_ (fun _ _ hp => hp)⟩
theorem out_set (outs : Nat → S37) (n i : Nat) (h : i < n) : (((List.range i).map outs ++ List.replicate (n - i) z37).set i (outs i)) = (List.range (i + 1)).map outs ++ List.replicate (n - (i + 1)) z37 := by
  obtain ⟨m, rfl⟩ : ∃ m, n = i + 1 + m := ⟨n - (i + 1), by omega⟩
  have e1 : i + 1 + m - i = m + 1 := by omega
  have e2 : i + 1 + m - (i + 1) = m := by omega
  rw [e1, e2, List.replicate_succ, List.range_succ, List.map_append]
  rw [List.set_append_right _ _ (by simp)]
  simp
/-- Element i of the list that is handed back is stored. -/
theorem out_store {w w2 : World} {W0 gb cp n : Nat} {xs : List S37} {o : S37} {v0 v1 : Value} {B : Nat} (h : Kd.R k37 37 w2 w.heap.size (fun k_ => W0 ≤ k_) (.slice (some ⟨gb, 0, none⟩) n cp) xs) (i : Int) (h0 : 0 ≤ i) (h1 : i < n) (hB : w.heap.size ≤ B) (hW : W0 ≤ B) (hg : gb < B)
    {ok0 ok1 : Nat → Prop} (r0 : (Kd.int .i64).R 3 w2 B ok0 v0 o.f0) (r1 : (Kd.int .i64).R 3 w2 B ok1 v1 o.f1) :
    Kd.R k37 37 ((((w2.setCell ⟨gb, i.toNat * 4, none⟩ v0).setCell ⟨gb, i.toNat * 4 + 1, none⟩ v1).setCell ⟨gb, i.toNat * 4 + 2, none⟩ (.int .i64 o.f2)).setCell ⟨gb, i.toNat * 4 + 3, none⟩ (.int .i64 o.f3)) w.heap.size (fun k_ => W0 ≤ k_) (.slice (some ⟨gb, 0, none⟩) n cp) (xs.set i.toNat o) := by
  obtain ⟨c, hl, hM, hc, hf⟩ := Kd.R_elem h z37 i h0 h1
  have hl4 : c.length = 4 := hl
  refine (Kd.R_seg h i h0 h1 (c := c) (seg := [v0, v1, .int .i64 o.f2, .int .i64 o.f3]) (j := 0) hl hc (show 4 ≤ 4 from by decide) (x' := o) (okp := fun k_ => B ≤ k_) ?_ (fun k hk => ⟨Nat.le_trans hW hk, by omega⟩)).1
  have : c.take 0 ++ [v0, v1, .int .i64 o.f2, .int .i64 o.f3] ++ c.drop (0 + [v0, v1, Value.int .i64 o.f2, .int .i64 o.f3].length) = [v0, v1, .int .i64 o.f2, .int .i64 o.f3] := by
    rw [List.drop_of_length_le (by simp; omega)]
    simp
  rw [this]
  exact k37_mkM _ _ _ o (rint_ok (Kd.R_lower r0 hB) (fun k hk => Kd.R_base r0 k hk)) (rint_ok (Kd.R_lower r1 hB) (fun k hk => Kd.R_base r1 k hk))
theorem info59 : (Try.prog.info? 59).map (fun i => (i.zero, i.size, i.bytes)) = some (some (.agg #[.int .u64 0, .int .u64 0, .int .i64 0, .int .i64 0]), 4, 32) := by kernel_rfl
set_option maxHeartbeats 8000000 in
set_option maxRecDepth 100000 in
theorem fix_walk (k : Nat) (sp : Nat → S59 × Bool) (A0 : Option Addr) (c0 : Nat) (rels : List S33) (A1 : Option Addr) (c1 : Nat) (l : List S37) (w : World) (hr0 : Kd.C k33 w A0 rels.length rels) (hc0 : rels.length ≤ c0) (hr1 : Kd.C k37 w A1 l.length l) (hc1 : l.length ≤ c1) (hop : ∀ i : Nat, i < l.length → openF k (rd_T37 l i) = some (sp i)) (hlen : l.length ≤ 17592186044416 / 8) (vr : Nat → Bool) (hvr : ∀ i : Nat, i < rels.length → family_ValidRel.f k (rd_T33 rels i).f0 (rd_T33 rels i).f1 (rd_T33 rels i).f2 l.length = some (vr i)) (hrl : rels.length ≤ 17592186044416) (b2 : Bool) (hb2 : Aside0 (okr vr (oks sp (decide ((l.length : Int) ≤ 40) && decide ((rels.length : Int) ≤ 100)) l.length) rels.length = b2)) (out : List S37) (code : Int)
    (hyes : Aside0 (b2 = true → ∃ (qs : Nat → Rl) (t0 u : St) (m0 : Nat), RelsAre rels qs l.length ∧ initF k l.length 0 ⟨spans sp l.length, false, false⟩ = some t0 ∧ roundF k qs rels.length m0 ⟨t0.xs, t0.fail, true⟩ = some u ∧ (u.fail = true → out = [] ∧ code = 60) ∧ (u.fail = false → code = 0 ∧ ∃ outs : Nat → S37, (∀ i : Nat, i < l.length → closeF k (rd_T59 u.xs i) = some (outs i)) ∧ out = (List.range l.length).map outs)))
    (hno : Aside0 (b2 = false → out = [] ∧ code = 2)) :
    Calls Try.prog 11 #[.slice A0 rels.length c0, .slice A1 l.length c1] w fun e w' => ∃ v, e = .returned (.tuple #[v, .int .i64 code]) ∧ Kd.R k37 37 w' w.heap.size (fun _ => True) v out ∧ Below w.heap.size w w' := by
  have hu33 := Try.underlying33
  have hu37 := Try.underlying37
  have HR0 := Aside0.mk hr0
  have HC0 := Aside0.mk hc0
  have HR1 := Aside0.mk hr1
  have HC1 := Aside0.mk hc1
  clear hr0 hc0 hr1 hc1
  go_enter Try.func11, Try.ntmps11
  go_upto_region 2 with fail
  go_cut [7] from 21 to 28 (fun s7 wx => s7 = .bool (decide ((l.length : Int) ≤ 40) && decide ((rels.length : Int) ≤ 100)) ∧ Fz w wx (.slice none 0 0) [] false false)
  case first =>
    have hB0 := Aside0.mk (show Fz w (w.alloc (.cells #[.slice none 0 0, .bool false, .bool false] 56)) (.slice none 0 0) [] false false from ⟨⟨blk_new w _, Nat.le_refl _, Kd.R_nil _ _ _ _ _⟩, below_alloc (Below.refl _ _) _⟩)
    cases q1 : decide ((l.length : Int) ≤ 40)
    · go_wp2
      go_meet
      exact ⟨by rw [q1]; rfl, hB0.out⟩
    · go_wp2
      go_meet
      exact ⟨by rw [q1]; rfl, hB0.out⟩
  case rest =>
  obtain ⟨rfl, hcut⟩ := hcut
  generalize (decide ((l.length : Int) ≤ 40) && decide ((rels.length : Int) ≤ 100)) = ok0 at hb2 ⊢
  have HZ := Aside0.mk hcut
  clear hcut
  go_upto_region 4 with fail
  go_loopg [7, 31] l.length (fun kq v7 v31 w' => ∃ (i : Nat) (x : Int) (v : Value), v31 = .int .i64 x ∧ Aside0 (x = (i : Int)) ∧ v7 = .bool (oks sp ok0 i) ∧ i + kq = l.length ∧ Aside0 (Fz w w' v (spans sp i) false false))
  case atStart => exact ⟨0, 0, .slice none 0 0, rfl, ⟨rfl⟩, by simp [oks], by simp, HZ⟩
  case round =>
    clear HZ
    obtain ⟨i, x, v, rfl, HX, rfl, hi, HZ⟩ := hrel
    by_cases hlt : i < l.length
    · have d0 : decide (0 ≤ x) = true := decide_eq_true (by have := HX.out; omega)
      have d1 : decide (x < (l.length : Int)) = true := decide_eq_true (by have := HX.out; omega)
      obtain ⟨ad, B0, b0, B1, b1, rfl, x0, x1, x2, x3, m0, M0, m1, M1⟩ := at_T37 HR1.out x (by have := HX.out; omega) (by have := HX.out; omega)
      have hb := HZ.out.2
      replace x0 := (hb.cell (World.block_lt_of_cell? w _ x0)).trans x0
      replace x1 := (hb.cell (World.block_lt_of_cell? w _ x1)).trans x1
      replace x2 := (hb.cell (World.block_lt_of_cell? w _ x2)).trans x2
      replace x3 := (hb.cell (World.block_lt_of_cell? w _ x3)).trans x3
      have hs := Aside0.mk (openF_some (hop i hlt))
      rw [← HX.out] at hs
      have g0 := (blk_cell HZ.out.1.1 0)
      have y0 := blk_frozen HZ.out.1.1 0
      have hsz := blk_lt HZ.out.1.1
      have hN0 := Aside0.mk M0
      have hN1 := Aside0.mk M1
      clear M0 M1 hop hb
      have p0 := eq_true (show 0 ≤ x by have := HX.out; omega)
      have p1 := eq_true (show x < (l.length : Int) by have := HX.out; omega)
      go_upto_region 7 with (first | (go_at_call 36; (refine (family_open.calls k B0 b0 (rd_T37 l x).f0 B1 b1 (rd_T37 l x).f1 (rd_T37 l x).f2 (rd_T37 l x).f3 (sp i).1.f0 (sp i).1.f1 (sp i).1.f2 (sp i).1.f3 (sp i).2 _ (Kd.C_alloc (Kd.C_below hN0.out HZ.out.2) _) m0 (Kd.C_alloc (Kd.C_below hN1.out HZ.out.2) _) m1 hs.out).mono ?_); rintro e w2 ⟨rfl, hb2⟩; have HZ2 := Aside0.mk (fz_below (fz_alloc HZ.out _) hb2); clear hb2))
      have hbx := blk_new w2 (.cells #[.int .u64 (sp i).1.f0, .int .u64 (sp i).1.f1, .int .i64 (sp i).1.f2, .int .i64 (sp i).1.f3] 59)
      have HZ3 := Aside0.mk (And.intro (fz_alloc HZ2.out (.cells #[.int .u64 (sp i).1.f0, .int .u64 (sp i).1.f1, .int .i64 (sp i).1.f2, .int .i64 (sp i).1.f3] 59)) hbx)
      clear HZ HZ2 hs hbx g0 y0 hsz x0 x1 x2 x3
      go_cut [7] from 40 to 43 (fun s7 wx => s7 = .bool (oks sp ok0 i && (sp i).2) ∧ Fz w wx v (spans sp i) false false ∧ wx.heap[w2.heap.size]? = some (.cells #[.int .u64 (sp i).1.f0, .int .u64 (sp i).1.f1, .int .i64 (sp i).1.f2, .int .i64 (sp i).1.f3] 59 (0, 0)))
      case first =>
        cases hk : oks sp ok0 i
        · go_wp2
          go_meet
          exact ⟨by rw [hk]; rfl, HZ3.out⟩
        · go_wp2
          go_meet
          exact ⟨by rw [hk]; rfl, HZ3.out⟩
      case rest =>
      obtain ⟨rfl, hcut, hbx⟩ := hcut
      clear HZ3
      have HZ := Aside0.mk hcut
      have sf0 := (blk_cell hbx 0)
      have sf1 := (blk_cell hbx 1)
      have sf2 := (blk_cell hbx 2)
      have sf3 := (blk_cell hbx 3)
      have g0 := (blk_cell hcut.1.1 0)
      have y0 := blk_frozen hcut.1.1 0
      have hsz := blk_lt hcut.1.1
      have hsz2 := blk_lt hbx
      have hne := Nat.ne_of_lt hsz
      have hne2 := Nat.ne_of_lt hsz2
      simp only [List.getElem?_toArray, List.getElem?_cons_zero, List.getElem?_cons_succ] at sf0 sf1 sf2 sf3 g0
      have LM : Aside0 ((spans sp i).length + 1 ≤ 17592186044416 / 8) := ⟨by rw [spans_len]; omega⟩
      clear hcut hbx
      go_wp2_with (first | (at_builtin; refine Kd.R_append k59 (w0 := w) w.heap.size rfl (.tmp 45) (.tmp 47) 54 59 (.agg #[.int .u64 0, .int .u64 0, .int .i64 0, .int .i64 0]) 32 rfl Try.underlying54 info59 rfl (by decide) (by omega) v (spans sp i) (sp i).1 [.int .u64 (sp i).1.f0, .int .u64 (sp i).1.f1, .int .i64 (sp i).1.f2, .int .i64 (sp i).1.f3] (fun k_ => k_ ≠ w.heap.size) (fun _ => False) rfl rfl (k59_mkM _ _ _ _) (fun _ hk => hk.elim) ?aF ?aO ?aB ?aS ?aL ?_; (case aF => exact fun k_ hk_ => by omega); (case aO => exact HZ.out.1.2.2); (case aB => exact HZ.out.2); (case aS => exact HZ.out.2.size); (case aL => have := LM.out; omega); intro v1 w3 ho hb hg hat; obtain ⟨gb, cp, rfl, hgb⟩ := Kd.R_form ho (by simp); have h3 := (hg.block _ hsz (by intro e_; exact HZ.out.1.2.2.1 _ e_.symm rfl)).trans HZ.out.1.1; have c0 := (blk_cell h3 0); have c1 := (blk_cell h3 1); have c2 := (blk_cell h3 2); have z0 := blk_frozen h3 0; have HW := Aside0.mk (And.intro h3 (And.intro hb ho)); clear h3 hb hg hat ho))
      go_roundg (l.length - (i + 1))
      case measure => omega
      case rel => exact ⟨i + 1, _, _, (by first | rfl | (simp; done)), ⟨by rw [HX.out]; unfold wrap64; omega⟩, by rw [oks_succ], by omega, ⟨by rw [spans_succ]; exact fz_put0 HW.out.1 HW.out.2.1 (by have h_ := HW.out.2.2; simp only [List.length_append, List.length_cons, List.length_nil] at h_; exact h_)⟩⟩
    · obtain rfl : i = l.length := by omega
      have d1 : decide (x < (l.length : Int)) = false := decide_eq_false (by have := HX.out; omega)
      clear hi hlt hop HX
      generalize oks sp ok0 l.length = ok1 at hb2 ⊢
      have hxl := Aside0.mk (spans_len sp l.length)
      generalize spans sp l.length = xs at HZ hxl hyes
      go_upto_region 11 with fail
      clear d1
      go_loopg [7, 53] rels.length (fun kq v7 v53 w' => ∃ (i : Nat) (x : Int), v53 = .int .i64 x ∧ Aside0 (x = (i : Int)) ∧ v7 = .bool (okr vr ok1 i) ∧ i + kq = rels.length ∧ Aside0 (Fz w w' v xs false false))
      case atStart => exact ⟨0, 0, rfl, ⟨rfl⟩, by simp [okr], by simp, HZ⟩
      case round =>
        clear HZ
        obtain ⟨i, x, rfl, HX, rfl, hi, HZ⟩ := hrel
        by_cases hlt : i < rels.length
        · have d0 : decide (0 ≤ x) = true := decide_eq_true (by have := HX.out; omega)
          have d1 : decide (x < (rels.length : Int)) = true := decide_eq_true (by have := HX.out; omega)
          have p0 := eq_true (show 0 ≤ x by have := HX.out; omega)
          have p1 := eq_true (show x < (rels.length : Int) by have := HX.out; omega)
          obtain ⟨ad, B1, b1, rfl, x0, x1, x2, m1, M1⟩ := at_T33 HR0.out x (by have := HX.out; omega) (by have := HX.out; omega)
          have hb := HZ.out.2
          replace x0 := (hb.cell (World.block_lt_of_cell? w _ x0)).trans x0
          replace x1 := (hb.cell (World.block_lt_of_cell? w _ x1)).trans x1
          replace x2 := (hb.cell (World.block_lt_of_cell? w _ x2)).trans x2
          have hs := Aside0.mk (hvr i hlt)
          rw [← HX.out] at hs
          have hN1 := Aside0.mk M1
          clear M1 hvr hb
          go_upto_region 13 with fail
          cases hk : okr vr ok1 i
          · go_wp2_with fail
            go_roundg (rels.length - (i + 1))
            case measure => omega
            case rel => exact ⟨i + 1, _, (by first | rfl | (simp; done)), ⟨by rw [HX.out]; unfold wrap64; omega⟩, by rw [okr_succ, hk]; rfl, by omega, ⟨fz_alloc HZ.out _⟩⟩
          · go_wp2_with (first | (go_at_call 14; (refine (family_ValidRel.calls k (rd_T33 rels x).f0 B1 b1 (rd_T33 rels x).f1 (rd_T33 rels x).f2 l.length (vr i) _ (Kd.C_alloc (Kd.C_below hN1.out HZ.out.2) _) m1 hs.out).mono ?_); rintro e w2 ⟨rfl, hb2⟩; have HZ2 := Aside0.mk (fz_below (fz_alloc HZ.out _) hb2); clear hb2))
            go_roundg (rels.length - (i + 1))
            case measure => omega
            case rel => exact ⟨i + 1, _, (by first | rfl | (simp; done)), ⟨by rw [HX.out]; unfold wrap64; omega⟩, by rw [okr_succ, hk]; rfl, by omega, HZ2⟩
        · obtain rfl : i = rels.length := by omega
          have d1 : decide (x < (rels.length : Int)) = false := decide_eq_false (by have := HX.out; omega)
          clear hi hlt hvr HX
          generalize okr vr ok1 rels.length = ok2 at hb2 ⊢
          have hb2' := hb2.out
          subst hb2'
          cases ok2 with
          | false =>
            go_wp2_with fail
            go_ret2
            obtain ⟨rfl, rfl⟩ := hno.out (by first | rfl | trivial)
            exact ⟨_, rfl, Kd.R_nil _ _ _ _ _, HZ.out.2⟩
          | true =>
            obtain ⟨qs, t0, u, m0, hqs, hinit, hround, hyf, hyo⟩ := hyes.out (by first | rfl | trivial)
            replace hqs := Aside0.mk hqs
            replace hinit := Aside0.mk hinit
            replace hround := Aside0.mk hround
            replace hyf := Aside0.mk hyf
            replace hyo := Aside0.mk hyo
            clear hyes hno
            obtain ⟨vA, vc, rfl, hvr⟩ := Kd.R_reads HZ.out.1.2.2
            have g0 := (blk_cell HZ.out.1.1 0)
            have y0 := blk_frozen HZ.out.1.1 0
            have hsz := blk_lt HZ.out.1.1
            clear hvr
            rw [hxl.out] at g0
            rw [hxl.out] at HZ
            go_upto_region 18 with fail
            clear d1
            go_loopg [70] l.length (fun kq v70 w' => ∃ (i : Nat) (x : Int) (t : St), v70 = .int .i64 x ∧ Aside0 (x = (i : Int)) ∧ i + kq = l.length ∧ Aside0 (initF k kq i t = some t0) ∧ Aside0 (t.xs.length = l.length) ∧ Aside0 (Fz w w' (.slice vA l.length vc) t.xs t.fail t.moved))
            case atStart => exact ⟨0, 0, ⟨xs, false, false⟩, rfl, ⟨rfl⟩, by simp, hinit, hxl, HZ⟩
            case round =>
              clear HZ
              obtain ⟨i, x, t, rfl, HX, hi, HI, HLn, HZ⟩ := hrel
              cases gk with
              | zero =>
                obtain rfl : i = l.length := by omega
                have d1 : decide (x < (l.length : Int)) = false := decide_eq_false (by have := HX.out; omega)
                obtain rfl := Option.some.inj HI.out
                have g0 := (blk_cell HZ.out.1.1 0)
                have g2 := (blk_cell HZ.out.1.1 2)
                have y2 := blk_frozen HZ.out.1.1 2
                clear HI hi HX hinit
                go_upto_region 23 with fail
                clear d1 g0 g2 y0 y2
                replace HZ := Aside0.mk (fz_put2 HZ.out true)
                go_loopg [] m0 (fun kq w' => ∃ (t : St), Aside0 (roundF k qs rels.length kq t = some u) ∧ Aside0 (t.xs.length = l.length) ∧ Aside0 (Fz w w' (.slice vA l.length vc) t.xs t.fail t.moved))
                case atStart => exact ⟨⟨t.xs, t.fail, true⟩, hround, HLn, HZ⟩
                case round =>
                  clear HZ HLn hround
                  obtain ⟨t', HI, HLn, HZ⟩ := hrel
                  cases gk with
                  | zero => exact absurd HI.out (by simp [roundF])
                  | succ m =>
                    have g1 := (blk_cell HZ.out.1.1 1)
                    have g2 := (blk_cell HZ.out.1.1 2)
                    have y1 := blk_frozen HZ.out.1.1 1
                    have y2 := blk_frozen HZ.out.1.1 2
                    have hR := Aside0.mk (show (if t'.moved && !t'.fail then (passF k qs rels.length 0 ⟨t'.xs, t'.fail, false⟩).bind (roundF k qs rels.length m) else some t') = some u from HI.out)
                    clear HI
                    go_upto_region 23 with fail
                    go_cut [88] from 82 to 87 (fun s wx => s = .bool (t'.moved && !t'.fail) ∧ Fz w wx (.slice vA l.length vc) t'.xs t'.fail t'.moved)
                    case first =>
                      cases hm : t'.moved <;> cases hf : t'.fail <;> rw [hm] at g2 <;> rw [hf] at g1
                      all_goals (go_wp2; go_meet; exact ⟨by first | rfl | (rw [hm, hf]; rfl), by first | exact HZ.out | (rw [hm, hf] at HZ; exact HZ.out)⟩)
                    case rest =>
                    obtain ⟨rfl, hcut⟩ := hcut
                    clear HZ g1 g2 y1 y2
                    have HZ := Aside0.mk hcut
                    clear hcut
                    have g1 := (blk_cell HZ.out.1.1 1)
                    have g2 := (blk_cell HZ.out.1.1 2)
                    have y1 := blk_frozen HZ.out.1.1 1
                    have y2 := blk_frozen HZ.out.1.1 2
                    have g0 := (blk_cell HZ.out.1.1 0)
                    have y0 := blk_frozen HZ.out.1.1 0
                    generalize hb : (t'.moved && !t'.fail) = b at hR
                    cases b with
                    | true =>
                      obtain ⟨tp, hp1, hp2⟩ := Option.bind_eq_some_iff.mp (show (passF k qs rels.length 0 ⟨t'.xs, t'.fail, false⟩).bind (roundF k qs rels.length m) = some u from hR.out)
                      have hp1 := Aside0.mk hp1
                      have hp2 := Aside0.mk hp2
                      clear hR hb
                      go_upto_region 26 with fail
                      clear g0 g1 g2 y0 y1 y2
                      replace HZ := Aside0.mk (fz_put2 HZ.out false)
                      go_loopg [92] rels.length (fun kq v92 w' => ∃ (i : Nat) (x : Int) (t : St), v92 = .int .i64 x ∧ Aside0 (x = (i : Int)) ∧ i + kq = rels.length ∧ Aside0 (passF k qs kq i t = some tp) ∧ Aside0 (t.xs.length = l.length) ∧ Aside0 (Fz w w' (.slice vA l.length vc) t.xs t.fail t.moved))
                      case atStart => exact ⟨0, 0, ⟨t'.xs, t'.fail, false⟩, rfl, ⟨rfl⟩, by simp, hp1, HLn, HZ⟩
                      case round =>
                        clear HZ HLn hp1
                        obtain ⟨i, x, t, rfl, HX, hi, HI, HLn, HZ⟩ := hrel
                        cases gk with
                        | zero =>
                          obtain rfl : i = rels.length := by omega
                          have d1 : decide (x < (rels.length : Int)) = false := decide_eq_false (by have := HX.out; omega)
                          obtain rfl := Option.some.inj HI.out
                          go_wp2_with fail
                          go_roundg m
                          case measure => omega
                          case rel => exact ⟨_, hp2, HLn, HZ⟩
                        | succ m5 =>
                          have hlt : i < rels.length := by omega
                          have d0 : decide (0 ≤ x) = true := decide_eq_true (by have := HX.out; omega)
                          have d1 : decide (x < (rels.length : Int)) = true := decide_eq_true (by have := HX.out; omega)
                          have p0 := eq_true (show 0 ≤ x by have := HX.out; omega)
                          have p1 := eq_true (show x < (rels.length : Int) by have := HX.out; omega)
                          obtain ⟨ad, B1, b1, rfl, x0, x1, x2, m1, M1⟩ := at_T33 HR0.out x (by have := HX.out; omega) (by have := HX.out; omega)
                          have hb := HZ.out.2
                          replace x0 := (hb.cell (World.block_lt_of_cell? w _ x0)).trans x0
                          replace x1 := (hb.cell (World.block_lt_of_cell? w _ x1)).trans x1
                          replace x2 := (hb.cell (World.block_lt_of_cell? w _ x2)).trans x2
                          have hN1 := Aside0.mk M1
                          have g1 := (blk_cell HZ.out.1.1 1)
                          have y1 := blk_frozen HZ.out.1.1 1
                          have hsz := blk_lt HZ.out.1.1
                          have hsn : w.heap.size ≠ wr.heap.size := by omega
                          clear M1 hb
                          cases hf : t.fail with
                          | true =>
                            rw [hf] at g1
                            have hI := HI.out
                            simp only [passF, hf, if_true, Option.some.injEq] at hI
                            subst hI
                            go_wp2_with fail
                            go_roundg m
                            case measure => omega
                            case rel => exact ⟨_, hp2, HLn, ⟨fz_alloc HZ.out _⟩⟩
                          | false =>
                            rw [hf] at g1
                            have hI := HI.out
                            simp only [passF, hf, Bool.false_eq_true, if_false] at hI
                            obtain ⟨t1, h1, h2⟩ := Option.bind_eq_some_iff.mp hI
                            have h1 := Aside0.mk h1
                            have h2 := Aside0.mk h2
                            clear hI HI
                            have hq := hqs.out i hlt
                            rw [← HX.out] at hq
                            have hq := Aside0.mk hq
                            obtain ⟨gs, cap, hv, _⟩ := Kd.R_form HZ.out.1.2.2 (by have := HLn.out; have := rl_pos hq.out.2; omega)
                            injection hv with hv1 hv2 hv3
                            subst hv1
                            clear hv2 hv3
                            go_wp2_with (first | (go_at_call 38; (refine (apply_calls k w.heap.size gs vc l.length t t1 (rd_T33 rels x) (qs i) B1 b1 w wr _ (Kd.C_alloc (Kd.C_below hN1.out HZ.out.2) _) hq.out.1 hq.out.2 (fx_alloc (fx_start HZ.out.1 HZ.out.2) _) h1.out).mono ?_); rintro e w2 ⟨rfl, HF⟩; replace HF := Aside0.mk HF))
                            go_roundg m5
                            case measure => omega
                            case rel => exact ⟨i + 1, _, t1, (by first | rfl | (simp; done)), ⟨by rw [HX.out]; unfold wrap64; omega⟩, by omega, h2, ⟨applyR_len HLn.out h1.out⟩, ⟨⟨HF.out.1, HF.out.2.1⟩⟩⟩
                    | false =>
                      have hu := Option.some.inj hR.out
                      clear hR
                      subst hu
                      clear hb g2 y2
                      cases hf : t'.fail with
                      | true =>
                        rw [hf] at g1
                        obtain ⟨rfl, rfl⟩ := hyf.out hf
                        go_wp2_with fail
                        go_ret2
                        exact ⟨_, rfl, Kd.R_nil _ _ _ _ _, HZ.out.2⟩
                      | false =>
                        rw [hf] at g1
                        obtain ⟨rfl, outs, hout, rfl⟩ := hyo.out hf
                        replace hout := Aside0.mk hout
                        clear hyo hyf
                        have hsz := blk_lt HZ.out.1.1
                        have HX0 := Aside0.mk (fx_start HZ.out.1 HZ.out.2)
                        rw [hf] at HX0
                        go_upto_region 34 with (first | ((with_reducible refine gate_dst (N := 105) rfl ?_); refine Kd.R_make k37 (w0 := w) w.heap.size 37 rfl rfl 23 (.tmp 104) (.tmp 104) rfl (l.length : Int) rfl rfl Try.underlying23 (.agg #[.slice none 0 0, .slice none 0 0, .int .i64 0, .int .i64 0]) 64 info37' rfl (by decide) (by omega) z37 (ok := fun k_ => wc.heap.size ≤ k_) (okp := fun _ => False) (k37_mkM _ _ _ z37 (Kd.R_nil _ _ _ _ _) (Kd.R_nil _ _ _ _ _)) (fun _ hk => hk.elim) (Nat.le_refl _) (by omega) (by simp; omega) HZ.out.2 HZ.out.2.size ?_; intro v1 w3 ho hb hg hat; have HO := Aside0.mk ho; have HF := Aside0.mk (fx_below HX0.out (below_of_grown hg)); clear ho hb hg hat))
                        have hgw := HX0.out.2.2.2.1
                        clear g0 y0 g1 y1
                        have g0 := (blk_cell HF.out.1.1 0)
                        have y0 := blk_frozen HF.out.1.1 0
                        go_upto_region 35 with fail
                        clear g0 y0
                        have hout0 := Aside0.mk (show Kd.R k37 37 w3 w.heap.size (fun k_ => wc.heap.size ≤ k_) v1 ((List.range 0).map outs ++ List.replicate (l.length - 0) z37) by simpa using HO.out)
                        clear HO HX0
                        go_loopg [109] l.length (fun kq v109 w' => ∃ (i : Nat) (x : Int), v109 = .int .i64 x ∧ Aside0 (x = (i : Int)) ∧ i + kq = l.length ∧ Aside0 (Fx w wc w' w.heap.size (.slice vA l.length vc) t'.xs false t'.moved) ∧ Aside0 (Kd.R k37 37 w' w.heap.size (fun k_ => wc.heap.size ≤ k_) v1 ((List.range i).map outs ++ List.replicate (l.length - i) z37)))
                        case atStart => exact ⟨0, 0, rfl, ⟨rfl⟩, by simp, HF, hout0⟩
                        case round =>
                          clear hout0 HF HZ
                          obtain ⟨i, x, rfl, HX, hi, HF, HO⟩ := hrel
                          by_cases hlt : i < l.length
                          · have d0 : decide (0 ≤ x) = true := decide_eq_true (by have := HX.out; omega)
                            have d1 : decide (x < (l.length : Int)) = true := decide_eq_true (by have := HX.out; omega)
                            have p0 := eq_true (show 0 ≤ x by have := HX.out; omega)
                            have p1 := eq_true (show x < (l.length : Int) by have := HX.out; omega)
                            have hcl := closeF_some (hout.out i hlt)
                            rw [← HX.out] at hcl
                            have hcl := Aside0.mk hcl
                            obtain ⟨gs, cap, hv, _⟩ := Kd.R_form HF.out.1.2.2 (by have := HLn.out; omega)
                            injection hv with hv1 hv2 hv3
                            subst hv1
                            clear hv2 hv3
                            have hLL : ((List.range i).map outs ++ List.replicate (l.length - i) z37).length = l.length := by simp; omega
                            obtain ⟨gb, cp, hv, hgb⟩ := Kd.R_form HO.out (by rw [hLL]; omega)
                            rw [hLL] at hv
                            subst hv
                            have hgw := Aside0.mk (HO.out.1 gb (by simp [Value.ownBlock]))
                            obtain ⟨e0, e1, e2, e3, f0, f1, f2, f3⟩ := fx_elem HF.out x (by have := HX.out; omega) (by have := HX.out; omega)
                            clear f0 f1 f2 f3 hLL hgb
                            have hgl := Kd.R_lt HO.out gb (by simp [Value.ownBlock])
                            go_upto_region 38 with (first | (go_at_call 39; (refine (family_span_close.calls k (rd_T59 t'.xs x).f0 (rd_T59 t'.xs x).f1 (rd_T59 t'.xs x).f2 (rd_T59 t'.xs x).f3 (outs i).f0 (outs i).f1 (outs i).f2 (outs i).f3 _ hcl.out).mono ?_); rintro e w2 ⟨v0, v1, rfl, hr0, hr1, hb2⟩; obtain ⟨a0, n0, rfl⟩ := Kd.R_slice hr0; obtain ⟨a1, n1, rfl⟩ := Kd.R_slice hr1; have HF2 := Aside0.mk (fx_below (fx_alloc HF.out (.cells #[.int .u64 (rd_T59 t'.xs x).f0, .int .u64 (rd_T59 t'.xs x).f1, .int .i64 (rd_T59 t'.xs x).f2, .int .i64 (rd_T59 t'.xs x).f3] 59)) hb2); have HO2 := Aside0.mk (Kd.R_below (Kd.R_below HO.out (below_alloc (Below.refl _ _) (.cells #[.int .u64 (rd_T59 t'.xs x).f0, .int .u64 (rd_T59 t'.xs x).f1, .int .i64 (rd_T59 t'.xs x).f2, .int .i64 (rd_T59 t'.xs x).f3] 59))) hb2); have HR0' := Aside0.mk hr0; have HR1' := Aside0.mk hr1; obtain ⟨cc, hl_, hM_, hc_, hf_⟩ := Kd.R_elem HO2.out z37 x (by have := HX.out; omega) (by have := HX.out; omega); obtain ⟨u0, u1, rfl, _, _⟩ := k37_openM hM_; have b0 : w2.cell? ⟨gb, x.toNat * 4, none⟩ = some u0 := hc_ 0 _ rfl; have b1 : w2.cell? ⟨gb, x.toNat * 4 + 1, none⟩ = some u1 := hc_ 1 _ rfl; have b2 := hc_ 2 _ rfl; have b3 := hc_ 3 _ rfl; have q0 : w2.frozen? ⟨gb, x.toNat * 4, none⟩ = false := hf_ 0; have q1 : w2.frozen? ⟨gb, x.toNat * 4 + 1, none⟩ = false := hf_ 1; have q2 : w2.frozen? ⟨gb, x.toNat * 4 + 2, none⟩ = false := hf_ 2; have q3 : w2.frozen? ⟨gb, x.toNat * 4 + 3, none⟩ = false := hf_ 3; replace b2 : w2.cell? ⟨gb, x.toNat * 4 + 2, none⟩ = some _ := b2; replace b3 : w2.cell? ⟨gb, x.toNat * 4 + 3, none⟩ = some _ := b3; clear hr0 hr1 hb2 hc_ hf_ hM_ hl_))
                            go_wp2_with fail
                            go_roundg (l.length - (i + 1))
                            case measure => omega
                            case rel => exact ⟨i + 1, _, (by first | rfl | (simp; done)), ⟨by rw [HX.out]; unfold wrap64; omega⟩, by omega, ⟨fx_far (fx_far (fx_far (fx_far HF2.out hgw.out _) hgw.out _) hgw.out _) hgw.out _⟩, ⟨by
                              have h_ := out_store HO2.out x (by have := HX.out; omega) (by have := HX.out; omega) (B := (wr.alloc (.cells #[.int .u64 (rd_T59 t'.xs x).f0, .int .u64 (rd_T59 t'.xs x).f1, .int .i64 (rd_T59 t'.xs x).f2, .int .i64 (rd_T59 t'.xs x).f3] 59)).heap.size) (Nat.le_trans HF.out.2.1.size (Nat.le_trans (Nat.le_refl _) (below_alloc (Below.refl wr.heap.size wr) (.cells #[.int .u64 (rd_T59 t'.xs x).f0, .int .u64 (rd_T59 t'.xs x).f1, .int .i64 (rd_T59 t'.xs x).f2, .int .i64 (rd_T59 t'.xs x).f3] 59)).size)) (Nat.le_trans HF.out.2.2.1.1 (below_alloc (Below.refl wr.heap.size wr) (.cells #[.int .u64 (rd_T59 t'.xs x).f0, .int .u64 (rd_T59 t'.xs x).f1, .int .i64 (rd_T59 t'.xs x).f2, .int .i64 (rd_T59 t'.xs x).f3] 59)).size) (Nat.lt_of_lt_of_le hgl (below_alloc (Below.refl wr.heap.size wr) (.cells #[.int .u64 (rd_T59 t'.xs x).f0, .int .u64 (rd_T59 t'.xs x).f1, .int .i64 (rd_T59 t'.xs x).f2, .int .i64 (rd_T59 t'.xs x).f3] 59)).size) HR0'.out HR1'.out
                              have hx : x.toNat = i := by have := HX.out; omega
                              have h2_ := out_set outs l.length i hlt
                              rw [← h2_]
                              rw [hx] at h_ ⊢
                              exact h_⟩⟩
                          · obtain rfl : i = l.length := by omega
                            have d1 : decide (x < (l.length : Int)) = false := decide_eq_false (by have := HX.out; omega)
                            go_wp2_with fail
                            go_ret2
                            exact ⟨v1, rfl, Kd.R_mono (by simpa using HO.out) (fun _ _ => trivial), HF.out.2.1⟩
              | succ m =>
                have hlt : i < l.length := by omega
                have d1 : decide (x < (l.length : Int)) = true := decide_eq_true (by have := HX.out; omega)
                have d0 : decide (0 ≤ x) = true := decide_eq_true (by have := HX.out; omega)
                have p0 := eq_true (show 0 ≤ x by have := HX.out; omega)
                have p1 := eq_true (show x < (l.length : Int) by have := HX.out; omega)
                obtain ⟨t1, h1, h2⟩ := Option.bind_eq_some_iff.mp HI.out
                rw [← HX.out] at h1
                have h1 := Aside0.mk h1
                have h2 := Aside0.mk h2
                clear HI
                obtain ⟨gs, cap, hv, _⟩ := Kd.R_form HZ.out.1.2.2 (by have := HLn.out; omega)
                injection hv with hv1 hv2 hv3
                subst hv1
                obtain ⟨e0, e1, e2, e3, f0, f1, f2, f3⟩ := fx_elem (fx_start HZ.out.1 HZ.out.2) x (by have := HX.out; omega) (by have := HX.out; omega)
                clear hv2 hv3 f0 f1 f2 f3 g0 y0 hsz
                have g0 := (blk_cell HZ.out.1.1 0)
                have y0 := blk_frozen HZ.out.1.1 0
                have hsz := blk_lt HZ.out.1.1
                go_wp2_with (first | (go_at_call 37; (refine (put_calls k w.heap.size gs vc l.length t t1 x (by have := HX.out; omega) (by have := HX.out; omega) (rd_T59 t.xs x) w wr _ (fx_start HZ.out.1 HZ.out.2) h1.out).mono ?_); rintro e w2 ⟨rfl, HF⟩; replace HF := Aside0.mk HF))
                go_roundg m
                case measure => omega
                case rel => exact ⟨i + 1, _, t1, (by first | rfl | (simp; done)), ⟨by rw [HX.out]; unfold wrap64; omega⟩, by omega, h2, ⟨(putL_len h1.out).trans HLn.out⟩, ⟨⟨HF.out.1, HF.out.2.1⟩⟩⟩
end Go.Proofs.Ytgfbgfbnmiainaa.Fam
