import Derived.Test.YtgfbgfbnmiainaaBFamilyFixesp0
import Derived.Test.YtgfbgfbnmiainaaQ66
import Derived.Test.YtgfbgfbnmiainaaQ6
import Derived.Test.YtgfbgfbnmiainaaQ72
import Derived.Test.YtgfbgfbnmiainaaQ73
import Derived.Test.YtgfbgfbnmiainaaQ21
import Derived.Test.YtgfbgfbnmiainaaQ0
import Derived.Test.YtgfbgfbnmiainaaQ23
import Derived.Test.YtgfbgfbnmiainaaQ24
import Derived.Test.YtgfbgfbnmiainaaQ31
import Derived.Test.YtgfbgfbnmiainaaQ33
import Derived.Test.YtgfbgfbnmiainaaQ27
import Derived.Test.YtgfbgfbnmiainaaQ4
import Derived.Deep.RegionHeld3
import Derived.Test.YtgfbgfbnmiainaaQ3
/-! The reference's rounds come to the least families that all relations leave as they are. -/
namespace Go.Proofs.Ytgfbgfbnmiainaa.Fam
set_option linter.unusedVariables false
set_option linter.unusedSimpArgs false
open Go.RowKit Go.Proofs.YtgfbgfbnmiainaaW.PrintWords Go.Proofs.YtgfbgfbnmiainaaW.PrintLast Go.Proofs.YtgfbgfbnmiainaaW.PrintMore Go.Proofs.Ytgfbgfbnmiainaa.Q
theorem rd68_set {xs : List S68} {i j : Int} (hi : 0 ≤ i) (hl : i < xs.length) (hj : 0 ≤ j) (r : S68) : rd_T68 (xs.set i.toNat r) j = if j = i then r else rd_T68 xs j := by
  unfold rd_T68
  rw [List.getD_eq_getElem?_getD, List.getD_eq_getElem?_getD, List.getElem?_set]
  by_cases h : j = i
  · subst h
    rw [if_pos rfl, if_pos rfl, if_pos (by omega)]
    rfl
  · rw [if_neg (by omega), if_neg h]
/-- What no step undoes. -/
structure Dn (s r : S68) : Prop where
  bd : s.f4 = true → r.f4 = true
  lo : s.f2 ≤ r.f2
  hi : r.f3 ≤ s.f3
  wf : Ws (ab s) → Ws (ab r)
theorem Dn.refl (s : S68) : Dn s s := ⟨id, Int.le_refl _, Int.le_refl _, id⟩
theorem Dn.trans {a b c : S68} (h : Dn a b) (g : Dn b c) : Dn a c := ⟨fun e => g.bd (h.bd e), Int.le_trans h.lo g.lo, Int.le_trans g.hi h.hi, fun e => g.wf (h.wf e)⟩
structure DnL (n : Nat) (x y : List S68) : Prop where
  len : y.length = x.length
  at_ : ∀ i : Int, 0 ≤ i → i < n → Dn (rd_T68 x i) (rd_T68 y i)
theorem DnL.refl (n : Nat) (x : List S68) : DnL n x x := ⟨rfl, fun _ _ _ => Dn.refl _⟩
theorem DnL.trans {n : Nat} {a b c : List S68} (h : DnL n a b) (g : DnL n b c) : DnL n a c := ⟨g.len.trans h.len, fun i h0 h1 => (h.at_ i h0 h1).trans (g.at_ i h0 h1)⟩
def W68 (n : Nat) (x : List S68) : Prop := x.length = n ∧ ∀ i : Int, 0 ≤ i → i < n → Ws (ab (rd_T68 x i))
theorem W68.dn {n : Nat} {x y : List S68} (h : W68 n x) (d : DnL n x y) : W68 n y := ⟨d.len.trans h.1, fun i h0 h1 => (d.at_ i h0 h1).wf (h.2 i h0 h1)⟩
theorem dn_set {n : Nat} {x : List S68} (hx : W68 n x) {i : Int} (hi : Inb n i) {s : S68} (h : Dn (rd_T68 x i) s) : DnL n x (x.set i.toNat s) := by
  refine ⟨by simp, fun j h0 h1 => ?_⟩
  rw [rd68_set hi.1 (by rw [hx.1]; exact hi.2) h0]
  split
  · rename_i e
    subst e
    exact h
  · exact Dn.refl _
section
variable {n : Nat} {x : List S68} (hx : W68 n x) {i : Int} (hi : Inb n i)
include hx hi
theorem dn_u0 {v : Int} (hv : Wd v) : DnL n x (u0 x i v) := dn_set hx hi ⟨id, Int.le_refl _, Int.le_refl _, fun h => ⟨hv, h.2⟩⟩
theorem dn_u1 {v : Int} (hv : Wd v) : DnL n x (u1 x i v) := dn_set hx hi ⟨id, Int.le_refl _, Int.le_refl _, fun h => ⟨h.1, hv⟩⟩
theorem dn_u2 {v : Int} (hv : (rd_T68 x i).f2 ≤ v) : DnL n x (u2 x i v) := dn_set hx hi ⟨id, hv, Int.le_refl _, id⟩
theorem dn_u3 {v : Int} (hv : v ≤ (rd_T68 x i).f3) : DnL n x (u3 x i v) := dn_set hx hi ⟨id, Int.le_refl _, hv, id⟩
theorem dn_u4 : DnL n x (u4 x i true) := dn_set hx hi ⟨fun _ => rfl, Int.le_refl _, Int.le_refl _, id⟩
end
theorem dn_fold {n : Nat} : ∀ (fs : List (List S68 → List S68)), (∀ f ∈ fs, ∀ x, W68 n x → DnL n x (f x)) → ∀ x, W68 n x → DnL n x (fs.foldl (fun x f => f x) x)
  | [], _, x, _ => DnL.refl n x
  | f :: fs, h, x, hx => by
    have h1 := h f (List.mem_cons_self ..) x hx
    exact h1.trans (dn_fold fs (fun g hg => h g (List.mem_cons_of_mem _ hg)) (f x) (hx.dn h1))
def AllF (P : (List S68 → List S68) → Prop) : List (List S68 → List S68) → Prop
  | [] => True
  | f :: fs => P f ∧ AllF P fs
theorem allF {P : (List S68 → List S68) → Prop} : ∀ fs, AllF P fs → ∀ f ∈ fs, P f
  | [], _, f, h => by cases h
  | g :: fs, h, f, hf => by
    rcases List.mem_cons.mp hf with rfl | hf
    · exact h.1
    · exact allF fs h.2 f hf
theorem mx_le (a b : Int) : a ≤ mx a b := (mx_facts a b).1
theorem mn_le (a b : Int) : mn a b ≤ a := (mn_facts a b).1
theorem dn_steps {n : Nat} {q : Rl} (hi : q.inb n) : AllF (fun f => ∀ x, W68 n x → DnL n x (f x)) (stepsQ q) := by
  cases q with
  | part a b => exact ⟨fun x h => dn_u0 h hi.2 (wd_or _ _), fun x h => dn_u1 h hi.1 (wd_and _ _), fun x h => dn_u3 h hi.1 (mn_le _ _), fun x h => dn_u2 h hi.2 (mx_le _ _), trivial⟩
  | apart a b => exact ⟨fun x h => dn_u1 h hi.2 (wd_andNot _ _), fun x h => dn_u1 h hi.1 (wd_andNot _ _), trivial⟩
  | union a b c => exact ⟨fun x h => dn_u0 h hi.2.2 (wd_or _ _), fun x h => dn_u1 h hi.1 (wd_and _ _), fun x h => dn_u1 h hi.2.1 (wd_and _ _), fun x h => dn_u1 h hi.2.2 (wd_and _ _), fun x h => dn_u0 h hi.2.1 (wd_or _ _), fun x h => dn_u0 h hi.1 (wd_or _ _),
      fun x h => dn_u3 h hi.2.2 (mn_le _ _), fun x h => dn_u2 h hi.2.2 (Int.le_trans (mx_le _ _) (mx_le _ _)), trivial⟩
  | meet a b c => exact ⟨fun x h => dn_u0 h hi.2.2 (wd_or _ _), fun x h => dn_u0 h hi.1 (wd_or _ _), fun x h => dn_u0 h hi.2.1 (wd_or _ _), fun x h => dn_u1 h hi.2.2 (wd_and _ _), fun x h => dn_u1 h hi.2.1 (wd_andNot _ _), fun x h => dn_u1 h hi.1 (wd_andNot _ _),
      fun x h => dn_u3 h hi.2.2 (Int.le_trans (mn_le _ _) (mn_le _ _)), trivial⟩
  | minus a b c => exact ⟨fun x h => dn_u0 h hi.2.2 (wd_or _ _), fun x h => dn_u0 h hi.1 (wd_or _ _), fun x h => dn_u1 h hi.2.1 (wd_andNot _ _), fun x h => dn_u1 h hi.2.2 (wd_and _ _), fun x h => dn_u0 h hi.2.1 (wd_or _ _), fun x h => dn_u3 h hi.2.2 (mn_le _ _), trivial⟩
  | has a N =>
    simp only [stepsQ]
    split
    · exact ⟨fun x h => dn_u0 h hi (wd_or _ _), trivial⟩
    · exact ⟨fun x h => dn_u4 h hi, trivial⟩
  | lacks a N =>
    simp only [stepsQ]
    split
    · exact ⟨fun x h => dn_u1 h hi (wd_andNot _ _), trivial⟩
    · trivial
  | size a N => exact ⟨fun x h => dn_u2 h hi (mx_le _ _), fun x h => dn_u3 h hi (mn_le _ _), trivial⟩
theorem dn_keep {n : Nat} {q : Rl} (hi : q.inb n) {x : List S68} (hx : W68 n x) : DnL n x (keepR q x) := dn_fold _ (allF _ (dn_steps hi)) x hx
theorem dn_pass {n : Nat} (qs : Nat → Rl) : ∀ (m i : Nat), (∀ j, i ≤ j → j < i + m → (qs j).inb n) → ∀ x, W68 n x → DnL n x (passR qs m i x) := by
  intro m
  induction m with
  | zero => exact fun i _ x _ => DnL.refl n x
  | succ m ih =>
    intro i hq x hx
    have h1 := dn_keep (hq i (Nat.le_refl _) (by omega)) hx
    exact h1.trans (ih (i + 1) (fun j h0 h1 => hq j (by omega) (by omega)) _ (hx.dn h1))
def Doom (s : S68) : Prop := s.f4 = true ∨ s.f3 < 0 ∨ 64 < s.f2
theorem Doom.dn {s r : S68} (h : Doom s) (d : Dn s r) : Doom r := by
  have := d.lo
  have := d.hi
  rcases h with h | h | h
  · exact .inl (d.bd h)
  · exact .inr (.inl (by omega))
  · exact .inr (.inr (by omega))
theorem doom_bad {s : S68} (h : Doom s) : (NR s).f4 = true := by
  by_cases hb : s.f4 = true
  · rw [NR_bad hb]; rfl
  · have hb : s.f4 = false := by simpa using hb
    rw [NR_good hb]
    have : nrm (ab s) = none := by
      cases hn : nrm (ab s) with
      | none => rfl
      | some t =>
        exfalso
        have h0 := (nrm_some hn).1.2
        have x1 := (mx_facts (ab s).f2 (card (ab s).f0)).1
        have x2 := (mx_facts (ab s).f2 (card (ab s).f0)).2.1
        have y1 := (mn_facts (ab s).f3 (card (ab s).f1)).1
        have y2 := (mn_facts (ab s).f3 (card (ab s).f1)).2.1
        have c0 := card_le (ab s).f0
        have c1 := card_le (ab s).f1
        have e2 : (ab s).f2 = s.f2 := rfl
        have e3 : (ab s).f3 = s.f3 := rfl
        rcases h with h | h | h
        · rw [hb] at h; cases h
        · omega
        · omega
    rw [this]
    rfl
theorem fail_doom {n : Nat} {q : Rl} (hi : q.inb n) (hf : failQ q = true) {x : List S68} (hx : W68 n x) : ∃ i : Int, 0 ≤ i ∧ i < n ∧ Doom (rd_T68 (keepR q x) i) := by
  cases q with
  | has a N =>
    have hN : ¬ (0 ≤ N ∧ N ≤ 63) := by intro h; simp [failQ, h.1, h.2] at hf
    refine ⟨a, hi.1, hi.2, .inl ?_⟩
    have e : stepsQ (.has a N) = [fun xs => u4 xs a true] := by
      simp only [stepsQ]
      rw [if_neg hN]
    unfold keepR
    rw [e]
    show (rd_T68 (u4 x a true) a).f4 = true
    unfold u4
    rw [rd68_set hi.1 (by rw [hx.1]; exact hi.2) hi.1, if_pos rfl]
  | size a N =>
    have hN : ¬ (0 ≤ N ∧ N ≤ 64) := by intro h; simp [failQ, h.1, h.2] at hf
    refine ⟨a, hi.1, hi.2, ?_⟩
    show Doom (rd_T68 (u3 (u2 x a (mx (rd_T68 x a).f2 N)) a (mn (rd_T68 (u2 x a (mx (rd_T68 x a).f2 N)) a).f3 N)) a)
    have hl : a < ((u2 x a (mx (rd_T68 x a).f2 N)).length : Int) := by
      unfold u2
      rw [List.length_set, hx.1]
      exact hi.2
    generalize hy : u2 x a (mx (rd_T68 x a).f2 N) = y at hl ⊢
    have h2 : (rd_T68 y a).f2 = mx (rd_T68 x a).f2 N := by
      rw [← hy]
      unfold u2
      rw [rd68_set hi.1 (by rw [hx.1]; exact hi.2) hi.1, if_pos rfl]
    unfold u3
    rw [rd68_set hi.1 hl hi.1, if_pos rfl]
    have m1 := (mx_facts (rd_T68 x a).f2 N).2.1
    have m2 := (mn_facts (rd_T68 y a).f3 N).2.1
    by_cases h0 : 0 ≤ N
    · refine .inr (.inr ?_)
      show 64 < (rd_T68 y a).f2
      omega
    · refine .inr (.inl ?_)
      show mn (rd_T68 y a).f3 N < 0
      omega
  | part | apart | union | meet | minus | lacks => cases hf
theorem pass_doom {n : Nat} (qs : Nat → Rl) : ∀ (m i : Nat), (∀ j, i ≤ j → j < i + m → (qs j).inb n) → ∀ x, W68 n x → (∃ j, i ≤ j ∧ j < i + m ∧ failQ (qs j) = true) → ∃ k : Int, 0 ≤ k ∧ k < n ∧ Doom (rd_T68 (passR qs m i x) k) := by
  intro m
  induction m with
  | zero => rintro i _ x _ ⟨j, h0, h1, _⟩; omega
  | succ m ih =>
    rintro i hq x hx ⟨j, h0, h1, hj⟩
    have d := dn_keep (hq i (Nat.le_refl _) (by omega)) hx
    by_cases e : j = i
    · subst e
      obtain ⟨k, k0, k1, hk⟩ := fail_doom (hq j (Nat.le_refl _) (by omega)) hj hx
      exact ⟨k, k0, k1, hk.dn ((dn_pass qs m (j + 1) (fun j' a b => hq j' (by omega) (by omega)) _ (hx.dn d)).at_ k k0 k1)⟩
    · exact ih (i + 1) (fun j' a b => hq j' (by omega) (by omega)) _ (hx.dn d) ⟨j, by omega, by omega, hj⟩
/-- A round: all relations, then the normal forms. -/
noncomputable def roundR (qs : Nat → Rl) (nr : Nat) (x : List S68) : List S68 := (passR qs nr 0 x).map NR
open Classical in
noncomputable def roundsR (qs : Nat → Rl) (nr : Nat) : Nat → List S68 → Option (Option (List S68))
  | 0, _ => none
  | m + 1, x => if (roundR qs nr x).any (·.f4) = true then some none else if roundR qs nr x = x then some (some x) else roundsR qs nr m (roundR qs nr x)
def mk68 (t : S59) : S68 := ⟨t.f0, t.f1, t.f2, t.f3, false⟩
theorem ab_mk (t : S59) : ab (mk68 t) = t := rfl
theorem abL_mk (X : List S59) : abL (X.map mk68) = X := by
  unfold abL
  rw [List.map_map]
  exact List.map_id'' (fun t => rfl) X
theorem mk_inj {X Y : List S59} (h : X.map mk68 = Y.map mk68) : X = Y := by rw [← abL_mk X, h, abL_mk]
theorem sum_lt : ∀ (xs ys : List S59), xs.length = ys.length → (∀ (i : Nat) (h1 : i < xs.length) (h2 : i < ys.length), ys[i] = xs[i] ∨ me ys[i] < me xs[i]) → meas ys ≤ meas xs ∧ (ys ≠ xs → meas ys < meas xs)
  | [], [], _, _ => ⟨Nat.le_refl _, fun h => absurd rfl h⟩
  | x :: xs, y :: ys, hl, h => by
    have ih := sum_lt xs ys (by simpa using hl) (fun i h1 h2 => h (i + 1) (by simpa using h1) (by simpa using h2))
    have h0 := h 0 (by simp) (by simp)
    simp only [List.getElem_cons_zero] at h0
    rw [meas_cons, meas_cons]
    rcases h0 with h0 | h0
    · subst h0
      refine ⟨by omega, fun hne => ?_⟩
      have := ih.2 (fun e => hne (by rw [e]))
      omega
    · exact ⟨by omega, fun _ => by omega⟩
theorem meas_lt {n : Nat} {X Y : List S59} (hX : AN n X) (hY : AN n Y) (hl : LE n X Y) (hne : Y ≠ X) : meas Y < meas X := by
  refine (sum_lt X Y (hX.1.trans hY.1.symm) (fun i h1 h2 => ?_)).2 hne
  have e1 : rd_T59 X (i : Int) = X[i] := by unfold rd_T59; rw [Int.toNat_natCast, List.getD_eq_getElem?_getD, List.getElem?_eq_getElem h1]; rfl
  have e2 : rd_T59 Y (i : Int) = Y[i] := by unfold rd_T59; rw [Int.toNat_natCast, List.getD_eq_getElem?_getD, List.getElem?_eq_getElem h2]; rfl
  have hi : (i : Int) < n := by have := hX.1; omega
  by_cases e : Y[i] = X[i]
  · exact .inl e
  · right
    have := me_lt (hX.2 i (by omega) hi).wf (hY.2 i (by omega) hi) (hl i (by omega) hi) (by rw [e1, e2]; exact e)
    rwa [e1, e2] at this
/-- The normal forms of all, where there are such. -/
theorem nr_all {n : Nat} {y : List S68} (hy : W68 n y) (hf : ∀ i : Int, 0 ≤ i → i < n → (rd_T68 y i).f4 = false) (hb : (y.map NR).any (·.f4) = false) :
    ∃ Y, y.map NR = Y.map mk68 ∧ AN n Y ∧ LE n (abL y) Y ∧ ∀ P, AN n P → LE n (abL y) P → LE n Y P := by
  have hat : ∀ i : Int, 0 ≤ i → i < n → ∃ t, nrm (ab (rd_T68 y i)) = some t := by
    intro i h0 h1
    cases hn : nrm (ab (rd_T68 y i)) with
    | some t => exact ⟨t, rfl⟩
    | none =>
      exfalso
      have hl : i.toNat < y.length := by rw [hy.1]; omega
      have e : rd_T68 y i = y[i.toNat] := by unfold rd_T68; rw [List.getD_eq_getElem?_getD, List.getElem?_eq_getElem hl]; rfl
      have : (y.map NR).any (·.f4) = true := by
        rw [List.any_eq_true]
        refine ⟨NR y[i.toNat], List.mem_map.mpr ⟨_, List.getElem_mem hl, rfl⟩, ?_⟩
        rw [← e, NR_good (hf i h0 h1), hn]
        rfl
      rw [hb] at this
      cases this
  refine ⟨y.map (fun s => (nrm (ab s)).getD z59), ?_, ?_⟩
  · rw [List.map_map]
    refine List.map_congr_left (fun s hs => ?_)
    obtain ⟨i, hi, rfl⟩ := List.mem_iff_getElem.mp hs
    have e : rd_T68 y (i : Int) = y[i] := by unfold rd_T68; rw [Int.toNat_natCast, List.getD_eq_getElem?_getD, List.getElem?_eq_getElem hi]; rfl
    have hin : (i : Int) < n := by have := hy.1; omega
    obtain ⟨t, ht⟩ := hat i (by omega) hin
    have hff := hf i (by omega) hin
    rw [e] at ht hff
    show NR y[i] = mk68 ((nrm (ab y[i])).getD z59)
    rw [NR_good hff, ht]
    rfl
  · have hrd : ∀ i : Int, 0 ≤ i → i < n → ∃ t, nrm (ab (rd_T68 y i)) = some t ∧ rd_T59 (y.map (fun s => (nrm (ab s)).getD z59)) i = t := by
      intro i h0 h1
      obtain ⟨t, ht⟩ := hat i h0 h1
      have hl : i.toNat < y.length := by rw [hy.1]; omega
      have e : rd_T68 y i = y[i.toNat] := by unfold rd_T68; rw [List.getD_eq_getElem?_getD, List.getElem?_eq_getElem hl]; rfl
      refine ⟨t, ht, ?_⟩
      unfold rd_T59
      rw [List.getD_eq_getElem?_getD, List.getElem?_map, List.getElem?_eq_getElem hl]
      rw [e] at ht
      simp only [Option.map_some, Option.getD_some, ht]
    refine ⟨⟨by simp [hy.1], fun i h0 h1 => ?_⟩, fun i h0 h1 => ?_, fun P hP hl i h0 h1 => ?_⟩
    · obtain ⟨t, ht, e⟩ := hrd i h0 h1
      rw [e]
      exact ((nrm_spec (hy.2 i h0 h1)).1 t ht).1
    · obtain ⟨t, ht, e⟩ := hrd i h0 h1
      rw [e, rd_ab]
      exact ((nrm_spec (hy.2 i h0 h1)).1 t ht).2
    · obtain ⟨t, ht, e⟩ := hrd i h0 h1
      rw [e]
      obtain ⟨t', ht', hle⟩ := (nrm_spec (hy.2 i h0 h1)).2 _ (hP.2 i h0 h1) (by have := hl i h0 h1; rwa [rd_ab] at this)
      rw [ht] at ht'
      cases ht'
      exact hle
theorem any_nr {n : Nat} {y : List S68} (hl : y.length = n) {i : Int} (h0 : 0 ≤ i) (h1 : i < n) (h : (NR (rd_T68 y i)).f4 = true) : (y.map NR).any (·.f4) = true := by
  have hi : i.toNat < y.length := by rw [hl]; omega
  have e : rd_T68 y i = y[i.toNat] := by unfold rd_T68; rw [List.getD_eq_getElem?_getD, List.getElem?_eq_getElem hi]; rfl
  rw [e] at h
  rw [List.any_eq_true]
  exact ⟨NR y[i.toNat], List.mem_map.mpr ⟨_, List.getElem_mem hi, rfl⟩, h⟩
theorem flag_at {n : Nat} {x y : List S68} (hx : x.length = n) (hf : flags y = flags x) {i : Int} (h0 : 0 ≤ i) (h1 : i < n) : (rd_T68 y i).f4 = (rd_T68 x i).f4 := by
  have hl : y.length = x.length := by have := congrArg List.length hf; simpa [flags] using this
  have e := congrArg (fun l => l[i.toNat]?) hf
  simp only [flags, List.getElem?_map] at e
  rw [List.getElem?_eq_getElem (by omega), List.getElem?_eq_getElem (by omega)] at e
  unfold rd_T68
  rw [List.getD_eq_getElem?_getD, List.getD_eq_getElem?_getD, List.getElem?_eq_getElem (by omega), List.getElem?_eq_getElem (by omega)]
  simpa using e
theorem w68_of {n : Nat} {y : List S68} (h : ARg n (abL y)) : W68 n y := ⟨by rw [← abL_len]; exact h.1, fun i h0 h1 => by have := (h.2 i h0 h1).wf; rwa [rd_ab] at this⟩
theorem rd_mk {n : Nat} {X : List S59} (hX : X.length = n) {i : Int} (h0 : 0 ≤ i) (h1 : i < n) : rd_T68 (X.map mk68) i = mk68 (rd_T59 X i) := by
  unfold rd_T68 rd_T59
  rw [List.getD_eq_getElem?_getD, List.getD_eq_getElem?_getD, List.getElem?_map, List.getElem?_eq_getElem (by omega)]
  rfl
theorem rounds_good {n : Nat} (qs : Nat → Rl) (nr : Nat) (hq : ∀ j, j < nr → (qs j).inb n ∧ failQ (qs j) = false) : ∀ (M : Nat) (X : List S59), meas X < M → AN n X →
    ∃ m r, roundsR qs nr m (X.map mk68) = some r ∧ (r = none → ∀ P, Cl n qs nr P → ¬ LE n X P) ∧ ∀ z, r = some z → ∃ Y, z = Y.map mk68 ∧ Cl n qs nr Y ∧ LE n X Y ∧ ∀ P, Cl n qs nr P → LE n X P → LE n Y P := by
  intro M
  induction M with
  | zero => intro X h; exact absurd h (by omega)
  | succ M ih =>
    intro X hM hX
    have c := pass_chain qs nr 0 (fun j _ h => hq j (by omega)) (X.map mk68) (by rw [abL_mk]; exact hX.rg)
    have hle := c.le
    rw [abL_mk] at hle
    have hfl : ∀ i : Int, 0 ≤ i → i < n → (rd_T68 (passR qs nr 0 (X.map mk68)) i).f4 = false := fun i h0 h1 => by
      rw [flag_at (by rw [List.length_map]; exact hX.1) c.fl h0 h1, rd_mk hX.1 h0 h1]
      rfl
    have hP : ∀ P, Cl n qs nr P → LE n X P → LE n (abL (passR qs nr 0 (X.map mk68))) P := fun P hP hl => c.below P hP.nm (fun j _ h => hP.q j (by omega)) (by rw [abL_mk]; exact hl)
    cases hb : (roundR qs nr (X.map mk68)).any (·.f4) with
    | true =>
      refine ⟨1, none, ?_, fun _ P hC hl => ?_, fun z h => (by cases h)⟩
      · unfold roundsR
        rw [if_pos hb]
      · rw [List.any_eq_true] at hb
        obtain ⟨s, hs, hs4⟩ := hb
        obtain ⟨s0, hs0, rfl⟩ := List.mem_map.mp hs
        obtain ⟨i, hi, rfl⟩ := List.mem_iff_getElem.mp hs0
        have hlen := (w68_of c.rg).1
        have hin : (i : Int) < n := by omega
        have e : rd_T68 (passR qs nr 0 (X.map mk68)) (i : Int) = (passR qs nr 0 (X.map mk68))[i] := by unfold rd_T68; rw [Int.toNat_natCast, List.getD_eq_getElem?_getD, List.getElem?_eq_getElem hi]; rfl
        have h1 := hP P hC hl i (by omega) hin
        have h2 := hfl i (by omega) hin
        rw [rd_ab] at h1
        obtain ⟨t, ht, _⟩ := (nrm_spec ((w68_of c.rg).2 i (by omega) hin)).2 _ (hC.nm.2 i (by omega) hin) h1
        rw [e] at h2 ht
        rw [NR_good h2, ht] at hs4
        cases hs4
    | false =>
      obtain ⟨Y, e, hY, hY1, hY2⟩ := nr_all (w68_of c.rg) hfl hb
      by_cases he : roundR qs nr (X.map mk68) = X.map mk68
      · refine ⟨1, some (X.map mk68), ?_, fun h => (by cases h), fun z h => ?_⟩
        · unfold roundsR
          rw [hb, if_neg (by simp), if_pos he]
        · cases h
          have eYX : Y = X := mk_inj (e.symm.trans he)
          have e1 : abL (passR qs nr 0 (X.map mk68)) = X := LE.anti c.rg hX.rg (eYX ▸ hY1) hle
          have hQ := c.still (by rw [abL_mk]; exact e1)
          rw [abL_mk] at hQ
          exact ⟨X, rfl, ⟨hX, fun j hj => hQ j (by omega) (by omega)⟩, LE.refl _ _, fun P _ h => h⟩
      · have hlt : meas Y < meas X := meas_lt hX hY (hle.trans hY1) (fun h => he (by rw [show roundR qs nr (X.map mk68) = Y.map mk68 from e, h]))
        obtain ⟨m, r, h1, h2, h3⟩ := ih Y (by omega) hY
        refine ⟨m + 1, r, ?_, fun hr P hC hl => h2 hr P hC (hY2 P hC.nm (hP P hC hl)), fun z hz => ?_⟩
        · unfold roundsR
          rw [hb, if_neg (by simp), if_neg he, show roundR qs nr (X.map mk68) = Y.map mk68 from e]
          exact h1
        · obtain ⟨Z, z1, z2, z3, z4⟩ := h3 z hz
          exact ⟨Z, z1, z2, (hle.trans hY1).trans z3, fun P hC hl => z4 P hC (hY2 P hC.nm (hP P hC hl))⟩
theorem bad_rg : Rg (ab bad68) := ⟨⟨⟨by decide, by decide⟩, ⟨by decide, by decide⟩⟩, by decide, by decide, by decide, by decide⟩
theorem NR_rg {s : S68} (h : Ws (ab s)) : Rg (ab (NR s)) := by
  by_cases hb : s.f4 = true
  · rw [NR_bad hb]; exact bad_rg
  · rw [NR_good (by simpa using hb)]
    cases hn : nrm (ab s) with
    | none => exact bad_rg
    | some t => exact ((nrm_spec h).1 t hn).1.rg
/-- The reference's Fix, from its first families on. -/
theorem fixR_run {n : Nat} (qs : Nat → Rl) (nr : Nat) (hq : ∀ j, j < nr → (qs j).inb n) {xs : List S59} (hx : ARg n xs) :
    ∃ m r, roundsR qs nr m ((xs.map mk68).map NR) = some r ∧ (r = none → ∀ P, Cl n qs nr P → ¬ LE n xs P) ∧ ∀ z, r = some z → ∃ Y, z = Y.map mk68 ∧ Cl n qs nr Y ∧ LE n xs Y ∧ ∀ P, Cl n qs nr P → LE n xs P → LE n Y P := by
  have hwx : W68 n (xs.map mk68) := w68_of (by rw [abL_mk]; exact hx)
  have hlen : ((xs.map mk68).map NR).length = n := by rw [List.length_map]; exact hwx.1
  have hrd : ∀ i : Int, 0 ≤ i → i < n → rd_T68 ((xs.map mk68).map NR) i = NR (mk68 (rd_T59 xs i)) := fun i h0 h1 => by
    rw [← rd_mk hx.1 h0 h1]
    unfold rd_T68
    rw [List.getD_eq_getElem?_getD, List.getD_eq_getElem?_getD, List.getElem?_map, List.getElem?_eq_getElem (by rw [hwx.1]; omega)]
    rfl
  have hr0 : ARg n (abL ((xs.map mk68).map NR)) := by
    refine ⟨by rw [abL_len]; exact hlen, fun i h0 h1 => ?_⟩
    rw [rd_ab, hrd i h0 h1]
    exact NR_rg (hx.2 i h0 h1).wf
  by_cases hfq : ∃ j, j < nr ∧ failQ (qs j) = true
  · obtain ⟨j, hj, hjf⟩ := hfq
    obtain ⟨k, k0, k1, hk⟩ := pass_doom qs nr 0 (fun j' _ h => hq j' (by omega)) _ (w68_of hr0) ⟨j, by omega, by omega, hjf⟩
    refine ⟨1, none, ?_, fun _ P hC _ => ?_, fun z h => (by cases h)⟩
    · unfold roundsR
      rw [if_pos (show (roundR qs nr _).any (·.f4) = true from any_nr ((dn_pass qs nr 0 (fun j' _ h => hq j' (by omega)) _ (w68_of hr0)).len.trans hlen) k0 k1 (doom_bad hk))]
    · have := (hC.q j hj).1
      rw [hjf] at this
      cases this
  · have hgood : ∀ j, j < nr → (qs j).inb n ∧ failQ (qs j) = false := fun j hj => ⟨hq j hj, by
      cases h : failQ (qs j) with
      | false => rfl
      | true => exact absurd ⟨j, hj, h⟩ hfq⟩
    cases hb : ((xs.map mk68).map NR).any (·.f4) with
    | true =>
      rw [List.any_eq_true] at hb
      obtain ⟨s, hs, hs4⟩ := hb
      obtain ⟨i, hi, rfl⟩ := List.mem_iff_getElem.mp hs
      have hin : (i : Int) < n := by omega
      have e : rd_T68 ((xs.map mk68).map NR) (i : Int) = ((xs.map mk68).map NR)[i] := by unfold rd_T68; rw [Int.toNat_natCast, List.getD_eq_getElem?_getD, List.getElem?_eq_getElem hi]; rfl
      have c := pass_chain qs nr 0 (fun j _ h => hgood j (by omega)) _ hr0
      refine ⟨1, none, ?_, fun _ P hC hl => ?_, fun z h => (by cases h)⟩
      · unfold roundsR
        rw [if_pos (show (roundR qs nr _).any (·.f4) = true from any_nr (w68_of c.rg).1 (i := (i : Int)) (by omega) hin (by
          rw [NR_bad (by rw [flag_at hlen c.fl (by omega) hin, e]; exact hs4)]
          rfl))]
      · obtain ⟨t, ht, _⟩ := (nrm_spec (hx.2 i (by omega) hin).wf).2 _ (hC.nm.2 i (by omega) hin) (hl i (by omega) hin)
        rw [← e, hrd i (by omega) hin, NR_good rfl, ab_mk, ht] at hs4
        cases hs4
    | false =>
      obtain ⟨X, e, hX, hX1, hX2⟩ := nr_all hwx (fun i h0 h1 => by rw [rd_mk hx.1 h0 h1]; rfl) hb
      rw [abL_mk] at hX1 hX2
      obtain ⟨m, r, h1, h2, h3⟩ := rounds_good qs nr hgood (meas X + 1) X (Nat.lt_succ_self _) hX
      refine ⟨m, r, by rw [e]; exact h1, fun hr P hC hl => h2 hr P hC (hX2 P hC.nm hl), fun z hz => ?_⟩
      obtain ⟨Y, y1, y2, y3, y4⟩ := h3 z hz
      exact ⟨Y, y1, y2, hX1.trans y3, fun P hC hl => y4 P hC (hX2 P hC.nm hl)⟩
end Go.Proofs.Ytgfbgfbnmiainaa.Fam
/-! Plain laws of lists of numbers. -/
namespace Go.Proofs.Ytgfbgfbnmiainaa.Fam
set_option linter.unusedVariables false
set_option linter.unusedSimpArgs false
open Go.RowKit Go.Proofs.YtgfbgfbnmiainaaW.PrintWords Go.Proofs.YtgfbgfbnmiainaaW.PrintLast Go.Proofs.YtgfbgfbnmiainaaW.PrintMore Go.Proofs.Ytgfbgfbnmiainaa.Q
theorem rd_at {xs : List Int} {i : Nat} (h : i < xs.length) : rd xs (i : Int) = xs[i] := by
  simp [rd, h]
theorem drop_at {xs : List Int} {i : Nat} (h : i < xs.length) : xs.drop i = xs[i] :: xs.drop (i + 1) := List.drop_eq_getElem_cons h
theorem wrap_next (i : Nat) (h : i < 4611686018427387904) : wrap64 ((i : Int) + 1) = ((i + 1 : Nat) : Int) := by
  unfold wrap64; omega
theorem wrap_prev (i : Nat) (h : i < 4611686018427387904) : wrap64 (((i + 1 : Nat) : Int) - 1) = (i : Int) := by
  unfold wrap64; omega
/-- Whether a list ascends. -/
def ascB : List Int → Bool
  | [] => true
  | [_] => true
  | x :: y :: l => decide (x < y) && ascB (y :: l)
end Go.Proofs.Ytgfbgfbnmiainaa.Fam
/-! Kinds of relations; which are valid: the program's function. -/
namespace Go.Proofs.Ytgfbgfbnmiainaa.Fam
set_option linter.unusedVariables false
set_option linter.unusedSimpArgs false
open Go.RowKit Go.Proofs.YtgfbgfbnmiainaaW.PrintWords Go.Proofs.YtgfbgfbnmiainaaW.PrintLast Go.Proofs.YtgfbgfbnmiainaaW.PrintMore Go.Proofs.Ytgfbgfbnmiainaa.Q
/-- The kinds of relations. -/
inductive Kn where
  | part | apart | union | meet | minus | has | lacks | size
def Kn.text : Kn → ByteArray
  | .part => ⟨#[112, 97, 114, 116]⟩
  | .apart => ⟨#[97, 112, 97, 114, 116]⟩
  | .union => ⟨#[117, 110, 105, 111, 110]⟩
  | .meet => ⟨#[109, 101, 101, 116]⟩
  | .minus => ⟨#[109, 105, 110, 117, 115]⟩
  | .has => ⟨#[104, 97, 115]⟩
  | .lacks => ⟨#[108, 97, 99, 107, 115]⟩
  | .size => ⟨#[115, 105, 122, 101]⟩
def Kn.arity : Kn → Nat
  | .part => 2
  | .apart => 2
  | .union => 3
  | .meet => 3
  | .minus => 3
  | .has => 1
  | .lacks => 1
  | .size => 1
theorem bytes_eq {a b : ByteArray} (h : a.toList = b.toList) : a = b := by
  rw [ByteArray.toList_eq, ByteArray.toList_eq] at h
  exact ByteArray.ext (Array.toList_inj.1 h)
/-- The kind of a text. -/
def qOf (s : List UInt8) : Option Kn :=
  if s = [112, 97, 114, 116] then some .part else if s = [97, 112, 97, 114, 116] then some .apart else if s = [117, 110, 105, 111, 110] then some .union else if s = [109, 101, 101, 116] then some .meet
  else if s = [109, 105, 110, 117, 115] then some .minus else if s = [104, 97, 115] then some .has else if s = [108, 97, 99, 107, 115] then some .lacks else if s = [115, 105, 122, 101] then some .size else none
theorem text_list (q : Kn) : qOf q.text.toList = some q := by cases q <;> kernel_rfl
theorem qOf_text {s : List UInt8} {q : Kn} (h : qOf s = some q) : s = q.text.toList := by
  unfold qOf at h
  split at h
  · rename_i h1; cases h; rw [h1]; kernel_rfl
  split at h
  · rename_i h1; cases h; rw [h1]; kernel_rfl
  split at h
  · rename_i h1; cases h; rw [h1]; kernel_rfl
  split at h
  · rename_i h1; cases h; rw [h1]; kernel_rfl
  split at h
  · rename_i h1; cases h; rw [h1]; kernel_rfl
  split at h
  · rename_i h1; cases h; rw [h1]; kernel_rfl
  split at h
  · rename_i h1; cases h; rw [h1]; kernel_rfl
  split at h
  · rename_i h1; cases h; rw [h1]; kernel_rfl
  · cases h
def arityI : Option Kn → Int
  | some q => q.arity
  | none => 0
theorem arity_f (kind : ByteArray) (k : Nat) (hk : 3 ≤ k) : family_arity.f k kind = some (arityI (qOf kind.toList)) := by
  obtain ⟨k, rfl⟩ : ∃ m, k = m + 3 := ⟨k - 3, by omega⟩
  generalize hs : kind.toList = s
  by_cases h1 : s = [112, 97, 114, 116]
  · subst h1; simp [family_arity.f, family_arity.j0, family_arity.j1, hs, qOf, arityI, Kn.arity]
  by_cases h2 : s = [97, 112, 97, 114, 116]
  · subst h2; simp [family_arity.f, family_arity.j0, family_arity.j1, hs, qOf, arityI, Kn.arity]
  by_cases h3 : s = [117, 110, 105, 111, 110]
  · subst h3; simp [family_arity.f, family_arity.j0, family_arity.j1, hs, qOf, arityI, Kn.arity]
  by_cases h4 : s = [109, 101, 101, 116]
  · subst h4; simp [family_arity.f, family_arity.j0, family_arity.j1, hs, qOf, arityI, Kn.arity]
  by_cases h5 : s = [109, 105, 110, 117, 115]
  · subst h5; simp [family_arity.f, family_arity.j0, family_arity.j1, hs, qOf, arityI, Kn.arity]
  by_cases h6 : s = [104, 97, 115]
  · subst h6; simp [family_arity.f, family_arity.j0, family_arity.j1, hs, qOf, arityI, Kn.arity]
  by_cases h7 : s = [108, 97, 99, 107, 115]
  · subst h7; simp [family_arity.f, family_arity.j0, family_arity.j1, hs, qOf, arityI, Kn.arity]
  by_cases h8 : s = [115, 105, 122, 101]
  · subst h8; simp [family_arity.f, family_arity.j0, family_arity.j1, hs, qOf, arityI, Kn.arity]
  simp [family_arity.f, family_arity.j0, family_arity.j1, hs, qOf, h1, h2, h3, h4, h5, h6, h7, h8, arityI]
/-- Whether all variables from the i-th on are in range. -/
def inRg (vars : List Int) (N : Int) : Bool := vars.all fun v => decide (0 ≤ v) && decide (v < N)
theorem inRg_cons (v : Int) (vars : List Int) (N : Int) : inRg (v :: vars) N = (decide (0 ≤ v) && decide (v < N) && inRg vars N) := rfl
theorem validF_from (vars : List Int) (N : Int) (hl : vars.length ≤ 1000) : ∀ n i k, i + n = vars.length → n < k → family_ValidRel.l0 k N vars (vars.length : Int) (i : Int) = some (inRg (vars.drop i) N) := by
  intro n
  induction n with
  | zero =>
    intro i k hi hk
    obtain ⟨k, rfl⟩ : ∃ m, k = m + 1 := ⟨k - 1, by omega⟩
    unfold family_ValidRel.l0
    rw [if_neg (by omega), List.drop_eq_nil_of_le (by omega)]; rfl
  | succ n ih =>
    intro i k hi hk
    obtain ⟨k, rfl⟩ : ∃ m, k = m + 1 := ⟨k - 1, by omega⟩
    have hlt : i < vars.length := by omega
    unfold family_ValidRel.l0
    rw [if_pos (by omega), if_pos (by omega), if_pos (by omega), rd_at hlt, drop_at hlt, wrap_next i (by omega), ih (i + 1) k (by omega) (by omega), inRg_cons]
    by_cases h1 : vars[i] < 0
    · rw [if_pos h1, decide_eq_false (by omega)]; rfl
    · rw [if_neg h1, decide_eq_true (by omega)]
      by_cases h2 : vars[i] ≥ N
      · rw [if_pos h2, decide_eq_false (by omega)]; rfl
      · rw [if_neg h2, decide_eq_true (by omega)]; rfl
/-- Whether a relation is one of N lists. -/
def validB (kind : ByteArray) (vars : List Int) (N : Nat) : Bool :=
  match qOf kind.toList with
  | some q => inRg vars N && decide (vars.length = q.arity) && decide (N ≤ 40)
  | none => false
theorem arity_pos (q : Kn) : 0 < q.arity := by cases q <;> decide
theorem j0F (k : Nat) (x1 : Int) (b : Bool) (kind : ByteArray) (vars : List Int) (n : Int) : family_ValidRel.j0 (k + 1) x1 b kind vars n = if b = true then some false else family_ValidRel.l0 k x1 vars (vars.length : Int) 0 := by
  unfold family_ValidRel.j0
  rfl
theorem validF (kind : ByteArray) (vars : List Int) (n : Int) (N : Nat) (hl : vars.length ≤ 1000) : family_ValidRel.f (vars.length + 5) kind vars n N = some (validB kind vars N) := by
  unfold family_ValidRel.f validB
  rw [if_neg (by omega), arity_f kind _ (by omega), Option.bind_some]
  obtain ⟨k, hk⟩ : ∃ k, vars.length + 5 = k + 1 := ⟨vars.length + 4, rfl⟩
  rw [hk]
  by_cases h1 : (N : Int) > 40
  · rw [if_pos h1]
    rw [j0F]
    rw [if_pos rfl]
    cases qOf kind.toList with
    | none => rfl
    | some q => simp [show ¬ N ≤ 40 by omega]
  · rw [if_neg h1]
    by_cases h2 : (vars.length : Int) = 0
    · rw [if_pos h2]
      rw [j0F]
      rw [if_pos rfl]
      cases qOf kind.toList with
      | none => rfl
      | some q => have := arity_pos q; simp [show ¬ vars.length = q.arity by omega]
    · rw [if_neg h2]
      rw [j0F]
      cases hq : qOf kind.toList with
      | none =>
        rw [if_pos (by simp only [arityI, bne_iff_ne]; exact h2)]
      | some q =>
        by_cases h3 : vars.length = q.arity
        · rw [if_neg (by simp [arityI, h3])]
          have h5 := validF_from vars N hl vars.length 0 k (by omega) (by omega)
          rw [List.drop_zero] at h5
          refine h5.trans ?_
          simp [h3, show N ≤ 40 by omega]
        · rw [if_pos (by simp only [arityI, bne_iff_ne]; omega)]
          simp [h3]
/-- What is known of a valid one. -/
theorem valid_kn {kind : ByteArray} {vars : List Int} {N : Nat} (h : validB kind vars N = true) : ∃ q : Kn, kind = q.text ∧ vars.length = q.arity ∧ ∀ j : Nat, j < vars.length → 0 ≤ rd vars (j : Int) ∧ rd vars (j : Int) < N := by
  unfold validB at h
  cases hq : qOf kind.toList with
  | none => rw [hq] at h; cases h
  | some q =>
    rw [hq] at h
    simp only [Bool.and_eq_true, decide_eq_true_eq] at h
    obtain ⟨⟨h1, h2⟩, h3⟩ := h
    refine ⟨q, bytes_eq (qOf_text hq), h2, fun j hj => ?_⟩
    rw [rd_at hj]
    have := (List.all_eq_true.1 h1) _ (List.getElem_mem hj)
    simpa using this
end Go.Proofs.Ytgfbgfbnmiainaa.Fam
/-! Lists of numbers and words: mask, list, open, close. -/
namespace Go.Proofs.Ytgfbgfbnmiainaa.Fam
set_option linter.unusedVariables false
set_option linter.unusedSimpArgs false
open Go.RowKit Go.Proofs.YtgfbgfbnmiainaaW.PrintWords Go.Proofs.YtgfbgfbnmiainaaW.PrintLast Go.Proofs.YtgfbgfbnmiainaaW.PrintMore Go.Proofs.Ytgfbgfbnmiainaa.Q
/-- A list of elements, ascending, behind one that is p. -/
def chk : Option Int → List Int → Bool
  | _, [] => true
  | p, x :: l => decide (0 ≤ x) && decide (x ≤ 63) && (match p with | none => true | some y => decide (y < x)) && chk (some x) l
def stp (m x : Int) : Int := Go.bits .or .u64 m (shl .u64 1 x)
theorem shl_bit {x : Int} (h0 : 0 ≤ x) (h1 : x ≤ 63) : shl .u64 1 x = ((2 ^ x.toNat : Nat) : Int) := by
  obtain ⟨n, rfl, hn⟩ : ∃ n : Nat, x = (n : Int) ∧ n ≤ 63 := ⟨x.toNat, by omega, by omega⟩
  unfold shl
  rw [Int.toNat_natCast, show IntKind.u64.bits = 64 from rfl, Nat.min_eq_left (by omega), Int.one_mul]
  have h2 : ((2 ^ n : Nat) : Int) = (2 : Int) ^ n := by rw [Int.natCast_pow]; rfl
  rw [← h2]
  exact wrap_u _ (Nat.lt_of_le_of_lt (Nat.pow_le_pow_right (by decide) hn) (by decide))
theorem wd_pow {n : Nat} (h : n ≤ 63) : Wd ((2 ^ n : Nat) : Int) := ⟨Int.natCast_nonneg _, by
  have : 2 ^ n < 18446744073709551616 := Nat.lt_of_le_of_lt (Nat.pow_le_pow_right (by decide) h) (by decide)
  omega⟩
theorem bt_pow (n i : Nat) : bt ((2 ^ n : Nat) : Int) i = decide (n = i) := by
  unfold bt
  rw [Int.toNat_natCast, Nat.testBit_two_pow]
theorem wd_stp (m x : Int) : Wd (stp m x) := wd_or _ _
theorem bt_stp {m x : Int} (hm : Wd m) (h0 : 0 ≤ x) (h1 : x ≤ 63) (i : Nat) : bt (stp m x) i = (bt m i || decide (x = (i : Int))) := by
  unfold stp
  rw [shl_bit h0 h1, bt_or hm (wd_pow (by omega)), bt_pow]
  congr 1
  exact decide_eq_decide.mpr (by omega)
def ofF (l : List Int) (m : Int) : Int := l.foldl stp m
def ofL (l : List Int) : Int := ofF l 0
theorem wd_zero : Wd 0 := ⟨by omega, by omega⟩
theorem wd_ofF : ∀ (l : List Int) (m : Int), Wd m → Wd (ofF l m)
  | [], _, h => h
  | _ :: l, _, _ => wd_ofF l _ (wd_stp _ _)
theorem bt_ofF : ∀ (l : List Int) (m : Int), Wd m → (∀ x ∈ l, 0 ≤ x ∧ x ≤ 63) → ∀ i, bt (ofF l m) i = (bt m i || decide ((i : Int) ∈ l))
  | [], m, _, _, i => by simp [ofF]
  | x :: l, m, hm, h, i => by
    have hx := h x (List.mem_cons_self ..)
    have := bt_ofF l (stp m x) (wd_stp _ _) (fun y hy => h y (List.mem_cons_of_mem _ hy)) i
    rw [show ofF (x :: l) m = ofF l (stp m x) from rfl, this, bt_stp hm hx.1 hx.2, Bool.or_assoc]
    congr 1
    rw [Bool.eq_iff_iff, Bool.or_eq_true_iff, decide_eq_true_iff, decide_eq_true_iff, decide_eq_true_iff, List.mem_cons]
    exact ⟨fun h => h.imp Eq.symm id, fun h => h.imp Eq.symm id⟩
theorem bt_zero (i : Nat) : bt 0 i = false := by simp [bt]
theorem chk_rng : ∀ (p : Option Int) (l : List Int), chk p l = true → ∀ x ∈ l, 0 ≤ x ∧ x ≤ 63
  | _, [], _, x, hx => by cases hx
  | p, y :: l, h, x, hx => by
    simp only [chk, Bool.and_eq_true, decide_eq_true_eq] at h
    rcases List.mem_cons.mp hx with rfl | hx
    · exact h.1.1
    · exact chk_rng _ l h.2 x hx
theorem chk_sort : ∀ (p : Option Int) (l : List Int), chk p l = true → l.Pairwise (· < ·) ∧ ∀ y, p = some y → ∀ x ∈ l, y < x
  | _, [], _ => ⟨List.Pairwise.nil, fun _ _ x hx => by cases hx⟩
  | p, z :: l, h => by
    simp only [chk, Bool.and_eq_true, decide_eq_true_eq] at h
    obtain ⟨h1, h2⟩ := chk_sort (some z) l h.2
    refine ⟨List.Pairwise.cons (fun x hx => h2 z rfl x hx) h1, fun y e x hx => ?_⟩
    subst e
    have h3 : y < z := by simpa using h.1.2
    rcases List.mem_cons.mp hx with rfl | hx
    · exact h3
    · have := h2 z rfl x hx; omega
theorem chk_mk : ∀ (p : Option Int) (l : List Int), (∀ x ∈ l, 0 ≤ x ∧ x ≤ 63) → l.Pairwise (· < ·) → (∀ y, p = some y → ∀ x ∈ l, y < x) → chk p l = true
  | _, [], _, _, _ => rfl
  | p, z :: l, h, hs, hp => by
    obtain ⟨h1, h2⟩ := List.pairwise_cons.mp hs
    have hz := h z (List.mem_cons_self ..)
    simp only [chk, Bool.and_eq_true, decide_eq_true_eq]
    refine ⟨⟨hz, ?_⟩, chk_mk (some z) l (fun x hx => h x (List.mem_cons_of_mem _ hx)) h2 (fun y e x hx => by cases e; exact h1 x hx)⟩
    cases p with
    | none => rfl
    | some y => simpa using hp y rfl z (List.mem_cons_self ..)
/-- The set of a word, as a list. -/
theorem mem_bl : ∀ (n i x : Nat) (z : Int), z ∈ bl n i x ↔ ∃ j, j < n ∧ z = ((i + j : Nat) : Int) ∧ x.testBit j = true
  | 0, _, _, z => by simp [bl]
  | n + 1, i, x, z => by
    simp only [bl, List.mem_append]
    rw [mem_bl n (i + 1) (x / 2) z]
    constructor
    · rintro (h | ⟨j, h1, h2, h3⟩)
      · split at h
        · rename_i hx
          refine ⟨0, by omega, by simpa using h, ?_⟩
          rw [Nat.testBit_zero, decide_eq_true hx]
        · cases h
      · exact ⟨j + 1, by omega, by rw [h2]; congr 1; omega, by rw [Nat.testBit_succ]; exact h3⟩
    · rintro ⟨j, h1, h2, h3⟩
      cases j with
      | zero =>
        rw [Nat.testBit_zero] at h3
        rw [if_pos (of_decide_eq_true h3)]
        exact .inl (by simpa using h2)
      | succ j => exact .inr ⟨j, by omega, by rw [h2]; congr 1; omega, by rw [Nat.testBit_succ] at h3; exact h3⟩
theorem sort_bl : ∀ (n i x : Nat), (bl n i x).Pairwise (· < ·)
  | 0, _, _ => List.Pairwise.nil
  | n + 1, i, x => by
    simp only [bl]
    have ih := sort_bl n (i + 1) (x / 2)
    split
    · refine List.Pairwise.cons (fun z hz => ?_) ih
      obtain ⟨j, _, h, _⟩ := (mem_bl _ _ _ _).mp hz
      omega
    · exact ih
def lsO (v : Int) : List Int := bits64 v.toNat
theorem mem_lsO {v : Int} (z : Int) : z ∈ lsO v ↔ 0 ≤ z ∧ z ≤ 63 ∧ bt v z.toNat = true := by
  unfold lsO bits64
  rw [mem_bl]
  constructor
  · rintro ⟨j, h1, h2, h3⟩
    rw [Nat.zero_add] at h2
    subst h2
    exact ⟨by omega, by omega, h3⟩
  · rintro ⟨h1, h2, h3⟩
    exact ⟨z.toNat, by omega, by omega, h3⟩
theorem chk_lsO (v : Int) : chk none (lsO v) = true := chk_mk _ _ (fun x hx => by obtain ⟨h1, h2, _⟩ := (mem_lsO x).mp hx; exact ⟨h1, h2⟩) (sort_bl _ _ _) (fun y e => by cases e)
theorem wd_ofL (l : List Int) : Wd (ofL l) := wd_ofF l 0 wd_zero
theorem bt_ofL {l : List Int} (h : chk none l = true) (i : Nat) : bt (ofL l) i = decide ((i : Int) ∈ l) := by
  unfold ofL
  rw [bt_ofF l 0 wd_zero (chk_rng _ _ h), bt_zero, Bool.false_or]
theorem ofL_lsO {v : Int} (h : Wd v) : ofL (lsO v) = v :=
  wd_ext (wd_ofL _) h (fun i hi => by
    rw [bt_ofL (chk_lsO v), Bool.eq_iff_iff, decide_eq_true_iff, mem_lsO]
    simp
    omega)
theorem sortExt : ∀ (a b : List Int), a.Pairwise (· < ·) → b.Pairwise (· < ·) → (∀ z, z ∈ a ↔ z ∈ b) → a = b
  | [], [], _, _, _ => rfl
  | [], y :: b, _, _, h => by have := (h y).2 (List.mem_cons_self ..); cases this
  | x :: a, [], _, _, h => by have := (h x).1 (List.mem_cons_self ..); cases this
  | x :: a, y :: b, ha, hb, h => by
    obtain ⟨hx, ha'⟩ := List.pairwise_cons.1 ha
    obtain ⟨hy, hb'⟩ := List.pairwise_cons.1 hb
    have e : x = y := by
      have h1 := (h x).1 (List.mem_cons_self ..)
      have h2 := (h y).2 (List.mem_cons_self ..)
      rcases List.mem_cons.1 h1 with e | h1
      · exact e
      · rcases List.mem_cons.1 h2 with e | h2
        · exact e.symm
        · have := hy x h1; have := hx y h2; omega
    subst e
    refine congrArg (x :: ·) (sortExt a b ha' hb' (fun z => ⟨fun hz => ?_, fun hz => ?_⟩))
    · rcases List.mem_cons.1 ((h z).1 (List.mem_cons_of_mem _ hz)) with e | e
      · have := hx z hz; omega
      · exact e
    · rcases List.mem_cons.1 ((h z).2 (List.mem_cons_of_mem _ hz)) with e | e
      · have := hy z hz; omega
      · exact e
theorem lsO_ofL {l : List Int} (h : chk none l = true) : lsO (ofL l) = l :=
  sortExt _ _ (sort_bl _ _ _) (chk_sort _ _ h).1 (fun z => by
    rw [mem_lsO]
    constructor
    · rintro ⟨h1, h2, h3⟩
      rw [bt_ofL h, decide_eq_true_iff, Int.toNat_of_nonneg h1] at h3
      exact h3
    · intro hz
      obtain ⟨h1, h2⟩ := chk_rng _ _ h z hz
      refine ⟨h1, h2, ?_⟩
      rw [bt_ofL h, decide_eq_true_iff, Int.toNat_of_nonneg h1]
      exact hz)
theorem card_lsO (v : Int) : ((lsO v).length : Int) = card v := by
  unfold lsO bits64 card
  rw [bl_length]
theorem card_ofL {l : List Int} (h : chk none l = true) : card (ofL l) = (l.length : Int) := by
  rw [← card_lsO, lsO_ofL h]
def res (b : Bool) (m : Int) : Int × Bool := match b with | true => (m, true) | false => (0, false)
theorem chk_cons (p : Option Int) (x : Int) (l : List Int) : chk p (x :: l) = (decide (0 ≤ x) && decide (x ≤ 63) && (match p with | none => true | some y => decide (y < x)) && chk (some x) l) := rfl
def prv (l : List Int) (i : Nat) : Option Int := if i = 0 then none else some (rd l ((i - 1 : Nat) : Int))
theorem mask_from (l : List Int) (hl : l.length ≤ 4611686018427387904) : ∀ n i k (m : Int), i + n = l.length → n < k → family_mask.l0 k l m l (l.length : Int) (i : Int) = some (res (chk (prv l i) (l.drop i)) (ofF (l.drop i) m)) := by
  intro n
  induction n with
  | zero =>
    intro i k m hi hk
    obtain ⟨k, rfl⟩ : ∃ j, k = j + 1 := ⟨k - 1, by omega⟩
    unfold family_mask.l0
    rw [if_neg (by omega), List.drop_of_length_le (by omega)]
    rfl
  | succ n ih =>
    intro i k m hi hk
    obtain ⟨k, rfl⟩ : ∃ j, k = j + 1 := ⟨k - 1, by omega⟩
    have hlt : i < l.length := by omega
    have hd := drop_at hlt
    have hp : prv l (i + 1) = some l[i] := by
      unfold prv
      rw [if_neg (by omega), Nat.add_sub_cancel, rd_at hlt]
    have ih' := ih (i + 1) k (stp m l[i]) (by omega) (by omega)
    rw [hp] at ih'
    unfold family_mask.l0
    rw [if_pos (by omega), if_pos (by omega), if_pos (by omega), rd_at hlt, hd, chk_cons]
    by_cases h0 : l[i] < 0
    · rw [if_pos h0, decide_eq_false (show ¬ 0 ≤ l[i] by omega)]; rfl
    · rw [if_neg h0, decide_eq_true (show 0 ≤ l[i] by omega)]
      by_cases h1 : l[i] > 63
      · rw [if_pos h1, decide_eq_false (show ¬ l[i] ≤ 63 by omega)]; rfl
      · rw [if_neg h1, decide_eq_true (show l[i] ≤ 63 by omega)]
        rw [wrap_next i (by omega)]
        cases i with
        | zero =>
          rw [if_neg (by omega), if_pos (by omega)]
          refine Eq.trans ih' ?_
          rfl
        | succ i =>
          rw [if_pos (by omega), wrap_prev i (by omega), if_pos (by omega), if_pos (by omega)]
          have hp2 : prv l (i + 1) = some (rd l (i : Int)) := by
            unfold prv
            rw [if_neg (by omega), Nat.add_sub_cancel]
          rw [hp2]
          by_cases h2 : l[i + 1] ≤ rd l (i : Int)
          · rw [if_pos h2]
            simp only [decide_eq_false (show ¬ rd l (i : Int) < l[i + 1] by omega), Bool.and_false, Bool.false_and, res]
          · rw [if_neg h2, if_pos (by omega)]
            refine Eq.trans ih' ?_
            simp only [decide_eq_true (show rd l (i : Int) < l[i + 1] by omega), Bool.true_and]
            rfl
def mskF (l : List Int) : Int × Bool := res (chk none l) (ofL l)
theorem mask_f {l : List Int} (hl : l.length ≤ 4611686018427387904) {k : Nat} (hk : l.length < k) : family_mask.f k l = some (mskF l) := mask_from l hl l.length 0 k 0 (by omega) hk
/-- Whether a family is valid. -/
def vl (f : S37) : Bool := chk none f.f0 && chk none f.f1 && decide (0 ≤ f.f2) && decide (f.f2 ≤ 64) && decide (0 ≤ f.f3) && decide (f.f3 ≤ 64)
/-- A family as it is worked with. -/
def opn (f : S37) : S59 := ⟨(mskF f.f0).1, (mskF f.f1).1, f.f2, f.f3⟩
theorem openF_eq {f : S37} (h0 : f.f0.length ≤ 1000) (h1 : f.f1.length ≤ 1000) {k : Nat} (hk : 1000 < k) : openF k f = some (opn f, vl f) := by
  unfold openF family_open.f
  rw [mask_f (by omega) (by omega), mask_f (by omega) (by omega), Option.bind_some, Option.bind_some]
  unfold vl opn mskF
  cases chk none f.f0
  · simp [res]
  cases chk none f.f1
  · simp [res]
  simp only [res, if_true, Bool.true_and]
  by_cases a0 : 0 ≤ f.f2
  · rw [if_pos a0, decide_eq_true a0]
    by_cases a1 : f.f2 ≤ 64
    · rw [if_pos a1, decide_eq_true a1]
      by_cases a2 : 0 ≤ f.f3
      · rw [if_pos a2, decide_eq_true a2]; rfl
      · rw [if_neg a2, decide_eq_false a2]; rfl
    · rw [if_neg a1, decide_eq_false a1]; rfl
  · rw [if_neg a0, decide_eq_false a0]; rfl
theorem vl_facts {f : S37} (h : vl f = true) : chk none f.f0 = true ∧ chk none f.f1 = true ∧ 0 ≤ f.f2 ∧ f.f2 ≤ 64 ∧ 0 ≤ f.f3 ∧ f.f3 ≤ 64 := by
  simp only [vl, Bool.and_eq_true, decide_eq_true_eq] at h
  obtain ⟨⟨⟨⟨⟨a, b⟩, c⟩, d⟩, e⟩, g⟩ := h
  exact ⟨a, b, c, d, e, g⟩
theorem opn_eq {f : S37} (h : vl f = true) : opn f = ⟨ofL f.f0, ofL f.f1, f.f2, f.f3⟩ := by
  obtain ⟨h0, h1, _⟩ := vl_facts h
  unfold opn mskF
  rw [h0, h1]
  rfl
theorem opn_rg {f : S37} (h : vl f = true) : Rg (opn f) := by
  obtain ⟨h0, h1, h2, h3, h4, h5⟩ := vl_facts h
  rw [opn_eq h]
  exact ⟨⟨wd_ofL _, wd_ofL _⟩, h2, h3, h4, h5⟩
/-- The family of what was worked with. -/
def clo (s : S59) : S37 := ⟨lsO s.f0, lsO s.f1, s.f2, s.f3⟩
theorem closeF_eq {s : S59} (h : Ws s) {k : Nat} (hk : 64 < k) : closeF k s = some (clo s) := by
  obtain ⟨a, ha, ha'⟩ := wd_nat h.1
  obtain ⟨b, hb, hb'⟩ := wd_nat h.2
  unfold closeF family_span_close.f clo lsO
  rw [ha, hb, listF a ha' hk, listF b hb' hk]
  rfl
theorem vl_clo {s : S59} (h : Rg s) : vl (clo s) = true := by
  unfold vl clo
  rw [chk_lsO, chk_lsO, decide_eq_true h.a0, decide_eq_true h.a1, decide_eq_true h.b0, decide_eq_true h.b1]
  rfl
theorem opn_clo {s : S59} (h : Rg s) : opn (clo s) = s := by
  rw [opn_eq (vl_clo h)]
  simp only [clo, ofL_lsO h.wf.1, ofL_lsO h.wf.2]
end Go.Proofs.Ytgfbgfbnmiainaa.Fam
/-! Plain laws of the reference's small functions on lists of numbers. -/
namespace Go.Proofs.Ytgfbgfbnmiainaa.Fam
set_option linter.unusedVariables false
set_option linter.unusedSimpArgs false
open Go.RowKit Go.Proofs.YtgfbgfbnmiainaaW.PrintWords Go.Proofs.YtgfbgfbnmiainaaW.PrintLast Go.Proofs.YtgfbgfbnmiainaaW.PrintMore Go.Proofs.Ytgfbgfbnmiainaa.Q
theorem has_from (xs : List Int) (t : Int) (hl : xs.length ≤ 4611686018427387904) : ∀ n i k, i + n = xs.length → n < k → manystrandref07_has.l0 k xs t (i : Int) = some (decide (t ∈ xs.drop i)) := by
  intro n
  induction n with
  | zero =>
    intro i k hi hk
    obtain ⟨k, rfl⟩ : ∃ m, k = m + 1 := ⟨k - 1, by omega⟩
    unfold manystrandref07_has.l0
    rw [if_neg (by omega), List.drop_eq_nil_of_le (by omega)]; simp
  | succ n ih =>
    intro i k hi hk
    obtain ⟨k, rfl⟩ : ∃ m, k = m + 1 := ⟨k - 1, by omega⟩
    have hlt : i < xs.length := by omega
    unfold manystrandref07_has.l0
    rw [if_pos (by omega), if_pos (by omega), rd_at hlt, drop_at hlt]
    by_cases he : xs[i] = t
    · rw [if_pos he]; simp [he]
    · rw [if_neg he, wrap_next i (by omega), ih (i + 1) k (by omega) (by omega)]
      congr 1
      exact decide_eq_decide.2 (by rw [List.mem_cons]; exact ⟨.inr, fun h => h.resolve_left (Ne.symm he)⟩)
theorem has_f (xs : List Int) (t : Int) (hl : xs.length ≤ 4611686018427387904) {k : Nat} (hk : xs.length < k) : manystrandref07_has.f k xs t = some (decide (t ∈ xs)) :=
  has_from xs t hl xs.length 0 k (by omega) hk
theorem inAll_from (xs ys : List Int) (b : Bool) (hl : xs.length ≤ 4611686018427387904) (hl2 : ys.length ≤ 4611686018427387904) : ∀ n i k, i + n = xs.length → n + ys.length < k →
    manystrandref07_inAll.l0 k xs ys b (i : Int) = some (decide (∀ x ∈ xs.drop i, decide (x ∈ ys) = b)) := by
  intro n
  induction n with
  | zero =>
    intro i k hi hk
    obtain ⟨k, rfl⟩ : ∃ m, k = m + 1 := ⟨k - 1, by omega⟩
    unfold manystrandref07_inAll.l0
    rw [if_neg (by omega), List.drop_eq_nil_of_le (by omega)]; simp
  | succ n ih =>
    intro i k hi hk
    obtain ⟨k, rfl⟩ : ∃ m, k = m + 1 := ⟨k - 1, by omega⟩
    have hlt : i < xs.length := by omega
    unfold manystrandref07_inAll.l0
    rw [if_pos (by omega), if_pos (by omega), rd_at hlt, drop_at hlt, has_f ys _ hl2 (by omega), Option.bind_some]
    by_cases he : decide (xs[i] ∈ ys) = b
    · rw [he, if_neg (by simp), wrap_next i (by omega), ih (i + 1) k (by omega) (by omega)]
      congr 1
      exact decide_eq_decide.2 ⟨fun h x hx => by rcases List.mem_cons.1 hx with rfl | hx; exact he; exact h x hx, fun h x hx => h x (List.mem_cons_of_mem _ hx)⟩
    · rw [if_pos (by cases b <;> cases hd : decide (xs[i] ∈ ys) <;> simp_all)]
      congr 1
      exact (decide_eq_false (fun h => he (h _ (List.mem_cons_self ..)))).symm
theorem inAll_f (xs ys : List Int) (b : Bool) (hl : xs.length ≤ 4611686018427387904) (hl2 : ys.length ≤ 4611686018427387904) : manystrandref07_inAll.f (xs.length + ys.length + 1) xs ys b = some (decide (∀ x ∈ xs, decide (x ∈ ys) = b)) :=
  inAll_from xs ys b hl hl2 xs.length 0 _ (by omega) (by omega)
theorem manystrandref07_ascending_from (l : List Int) (hl : l.length ≤ 4611686018427387904) : ∀ n i k, i + n = l.length → n < k → manystrandref07_ascending.l0 k l ((i + 1 : Nat) : Int) = some (ascB (l.drop i)) := by
  intro n
  induction n with
  | zero =>
    intro i k hi hk
    obtain ⟨k, rfl⟩ : ∃ m, k = m + 1 := ⟨k - 1, by omega⟩
    unfold manystrandref07_ascending.l0
    rw [if_neg (by omega), List.drop_eq_nil_of_le (by omega)]; rfl
  | succ n ih =>
    intro i k hi hk
    obtain ⟨k, rfl⟩ : ∃ m, k = m + 1 := ⟨k - 1, by omega⟩
    have hlt : i < l.length := by omega
    unfold manystrandref07_ascending.l0
    by_cases h2 : i + 1 < l.length
    · rw [if_pos (by omega), if_pos (by omega), wrap_prev i (by omega), if_pos (by omega), if_pos (by omega), rd_at hlt, rd_at h2, drop_at hlt, drop_at h2, wrap_next (i + 1) (by omega), ih (i + 1) k (by omega) (by omega), drop_at h2]
      by_cases h3 : l[i + 1] ≤ l[i]
      · rw [if_pos h3]
        simp only [ascB, decide_eq_false (show ¬ l[i] < l[i + 1] by omega), Bool.false_and]
      · rw [if_neg h3]
        simp only [ascB, decide_eq_true (show l[i] < l[i + 1] by omega), Bool.true_and]
    · rw [if_neg (by omega), drop_at hlt, List.drop_eq_nil_of_le (by omega)]; rfl
theorem manystrandref07_ascending_f (l : List Int) (hl : l.length ≤ 4611686018427387904) {k : Nat} (hk : l.length < k) : manystrandref07_ascending.f k l = some (ascB l) :=
  manystrandref07_ascending_from l hl l.length 0 k (by omega) hk
end Go.Proofs.Ytgfbgfbnmiainaa.Fam
namespace Go.Proofs.Ytgfbgfbnmiainaa.Q
open Go.RowKit Go.Proofs.YtgfbgfbnmiainaaW.PrintWords Go.Proofs.YtgfbgfbnmiainaaW.PrintLast Go.Proofs.YtgfbgfbnmiainaaW.PrintMore
attribute [local go_sem] Go.Proofs.YtgfbgfbnmiainaaW.OwnWords.isSome_setCell max2_int min2_int max_two min_two max_three min_three max_four min_four   -- for this text's walks alone
set_option linter.unusedVariables false
set_option linter.unusedSimpArgs false

/-! ### manystrandref07_Same, the answer true: function 18 -/
def famSameT.f (k : Nat) (l0_0 : List Int) (l0_1 : List Int) (a0_2 : Int) (a0_3 : Int) (l1_0 : List Int) (l1_1 : List Int) (a1_2 : Int) (a1_3 : Int) : Option (Bool) := (manystrandref07_Valid.f k l0_0 l0_1 a0_2 a0_3).bind fun t183 => (if t183 = true then ((manystrandref07_Valid.f k l1_0 l1_1 a1_2 a1_3).bind fun t184 => (if t184 = true then ((manystrandref07_of.f k l0_0).bind fun t185 => ((manystrandref07_of.f k l1_0).bind fun t186 => (if t185 = t186 then ((manystrandref07_of.f k l0_1).bind fun t187 => ((manystrandref07_of.f k l1_1).bind fun t188 => (if t187 = t188 then (if a0_2 = a1_2 then (some (a0_3 == a1_3)) else (some false)) else (some false)))) else (some false)))) else (some false))) else (some false))
theorem famSameT.mono : ∀ a0 a1 a2 a3 a4 a5 a6 a7 k, LeO (famSameT.f k a0 a1 a2 a3 a4 a5 a6 a7) (famSameT.f (k + 1) a0 a1 a2 a3 a4 a5 a6 a7) := by
 intro a0 a1 a2 a3 a4 a5 a6 a7 k
 unfold famSameT.f
 repeat' first
   | (with_reducible exact manystrandref07_Valid.mono _ _ _ _ _)
   | (with_reducible exact manystrandref07_of.mono _ _)
   | (with_reducible exact LeO.refl _)
   | (with_reducible exact LeO.none _)
   | (with_reducible refine LeO.ite ?_ ?_)
   | (with_reducible refine LeO.bind ?_ (fun _ => ?_))
   | exact manystrandref07_Valid.mono _ _ _ _ _
   | exact manystrandref07_of.mono _ _
   | exact LeO.none _
   | refine LeO.ite ?_ ?_
   | refine LeO.bind ?_ (fun _ => ?_)
def famSameT.T1 : Bool × List (List Nat × List Nat) := (true, [([], []), ([0], [0]), ([1, 1], [1]), ([2], [2]), ([3, 2, 2], [2, 3]), ([2, 4], [2, 4]), ([5, 4], [5]), ([6], [6]), ([7, 6], [6, 7]), ([8, 6, 6], [6, 8]), ([6], [6]), ([10, 6], [6, 10]), ([11, 9, 6], [6, 11]), ([9, 12, 6], [6, 9, 12]), ([6, 13], [6, 13]), ([14, 12], [14]), ([15], [15]), ([16, 15], [15, 16]), ([17, 15, 15], [15, 17]), ([15], [15]), ([19, 15], [15, 19]), ([20, 18, 15], [15, 20]), ([18, 21, 15], [15, 18, 21]), ([15, 22], [15, 22]), ([23, 21], [23]), ([24], [24]), ([25, 24], [24, 25]), ([24], [24]), ([27, 24], [24, 27]), ([26, 28, 24], [24, 26, 28]), ([24, 29], [24, 29]), ([30, 24], [30]), ([31], [31]), ([32, 31], [31, 32]), ([31], [31]), ([34, 31], [31, 34]), ([33, 35, 31], [31, 33, 35]), ([31, 36], [31, 36]), ([37, 31, 0, 1, 2, 3, 4, 5, 6, 7, 8, 9, 10, 11, 12, 13, 14, 15, 16, 17, 18, 19, 20, 21, 22, 23, 24, 25, 26, 27, 28, 29, 30, 31, 32, 33, 34, 35, 36, 37], [37])])
def famSameT.B1 : List Nat := [0, 1, 3, 7, 15, 31, 63, 127, 255, 511, 127, 1151, 4095, 8191, 16383, 32767, 65535, 131071, 262143, 65535, 589823, 2097151, 4194303, 8388607, 16777215, 33554431, 67108863, 33554431, 167772159, 536870911, 1073741823, 2147483647, 4294967295, 8589934591, 4294967295, 21474836479, 68719476735, 137438953471, 274877906943]
theorem famSameT.tab1 : rtab .any (opsOf Try.f18 1) = famSameT.T1 := by kernel_rfl
theorem famSameT.bits1 : waitsOk famSameT.T1.2 famSameT.B1 = true := by kernel_rfl
set_option maxHeartbeats 8000000 in
set_option maxRecDepth 100000 in
theorem famSameT.calls (k : Nat) (A0_0 : Option Addr) (c0_0 : Nat) (l0_0 : List Int) (A0_1 : Option Addr) (c0_1 : Nat) (l0_1 : List Int) (a0_2 : Int) (a0_3 : Int) (A1_0 : Option Addr) (c1_0 : Nat) (l1_0 : List Int) (A1_1 : Option Addr) (c1_1 : Nat) (l1_1 : List Int) (a1_2 : Int) (a1_3 : Int) (w : World) (hr0_0 : Kd.C (Kd.int .i64) w A0_0 l0_0.length l0_0) (hc0_0 : l0_0.length ≤ c0_0) (hr0_1 : Kd.C (Kd.int .i64) w A0_1 l0_1.length l0_1) (hc0_1 : l0_1.length ≤ c0_1) (hr1_0 : Kd.C (Kd.int .i64) w A1_0 l1_0.length l1_0) (hc1_0 : l1_0.length ≤ c1_0) (hr1_1 : Kd.C (Kd.int .i64) w A1_1 l1_1.length l1_1) (hc1_1 : l1_1.length ≤ c1_1) (h : famSameT.f k l0_0 l0_1 a0_2 a0_3 l1_0 l1_1 a1_2 a1_3 = some true) :
  Calls Try.prog 18 #[.agg #[.slice A0_0 l0_0.length c0_0, .slice A0_1 l0_1.length c0_1, .int .i64 a0_2, .int .i64 a0_3], .agg #[.slice A1_0 l1_0.length c1_0, .slice A1_1 l1_1.length c1_1, .int .i64 a1_2, .int .i64 a1_3]] w fun e w' => e = .returned (.bool true) ∧ Below w.heap.size w w' := by
 have hu37 := Try.underlying37
 have HR0_0 := Aside0.mk hr0_0
 have HC0_0 := Aside0.mk hc0_0
 clear hr0_0 hc0_0
 have HR0_1 := Aside0.mk hr0_1
 have HC0_1 := Aside0.mk hc0_1
 clear hr0_1 hc0_1
 have HR1_0 := Aside0.mk hr1_0
 have HC1_0 := Aside0.mk hc1_0
 clear hr1_0 hc1_0
 have HR1_1 := Aside0.mk hr1_1
 have HC1_1 := Aside0.mk hc1_1
 clear hr1_1 hc1_1
 have HB := Aside0.mk (Below.refl w.heap.size w)
 have H : ((manystrandref07_Valid.f k l0_0 l0_1 a0_2 a0_3).bind fun t183 => (if t183 = true then ((manystrandref07_Valid.f k l1_0 l1_1 a1_2 a1_3).bind fun t184 => (if t184 = true then ((manystrandref07_of.f k l0_0).bind fun t185 => ((manystrandref07_of.f k l1_0).bind fun t186 => (if t185 = t186 then ((manystrandref07_of.f k l0_1).bind fun t187 => ((manystrandref07_of.f k l1_1).bind fun t188 => (if t187 = t188 then (if a0_2 = a1_2 then (some (a0_3 == a1_3)) else (some false)) else (some false)))) else (some false)))) else (some false))) else (some false))) = some true := h
 clear h
 replace H := Option.bind_eq_some_iff.mp H
 obtain ⟨t183, A30, H⟩ := H
 replace H : (if t183 = true then ((manystrandref07_Valid.f k l1_0 l1_1 a1_2 a1_3).bind fun t184 => (if t184 = true then ((manystrandref07_of.f k l0_0).bind fun t185 => ((manystrandref07_of.f k l1_0).bind fun t186 => (if t185 = t186 then ((manystrandref07_of.f k l0_1).bind fun t187 => ((manystrandref07_of.f k l1_1).bind fun t188 => (if t187 = t188 then (if a0_2 = a1_2 then (some (a0_3 == a1_3)) else (some false)) else (some false)))) else (some false)))) else (some false))) else (some false)) = some true := H
 have A3 := Aside0.mk A30
 clear A30
 by_cases c4 : t183 = true
 ·subst c4
  have H1 : ((manystrandref07_Valid.f k l1_0 l1_1 a1_2 a1_3).bind fun t184 => (if t184 = true then ((manystrandref07_of.f k l0_0).bind fun t185 => ((manystrandref07_of.f k l1_0).bind fun t186 => (if t185 = t186 then ((manystrandref07_of.f k l0_1).bind fun t187 => ((manystrandref07_of.f k l1_1).bind fun t188 => (if t187 = t188 then (if a0_2 = a1_2 then (some (a0_3 == a1_3)) else (some false)) else (some false)))) else (some false)))) else (some false))) = some true := by rw [if_pos rfl] at H; exact H
  clear H
  have H := H1
  clear H1
  replace H := Option.bind_eq_some_iff.mp H
  obtain ⟨t184, A50, H⟩ := H
  replace H : (if t184 = true then ((manystrandref07_of.f k l0_0).bind fun t185 => ((manystrandref07_of.f k l1_0).bind fun t186 => (if t185 = t186 then ((manystrandref07_of.f k l0_1).bind fun t187 => ((manystrandref07_of.f k l1_1).bind fun t188 => (if t187 = t188 then (if a0_2 = a1_2 then (some (a0_3 == a1_3)) else (some false)) else (some false)))) else (some false)))) else (some false)) = some true := H
  have A5 := Aside0.mk A50
  clear A50
  by_cases c6 : t184 = true
  ·subst c6
   have H1 : ((manystrandref07_of.f k l0_0).bind fun t185 => ((manystrandref07_of.f k l1_0).bind fun t186 => (if t185 = t186 then ((manystrandref07_of.f k l0_1).bind fun t187 => ((manystrandref07_of.f k l1_1).bind fun t188 => (if t187 = t188 then (if a0_2 = a1_2 then (some (a0_3 == a1_3)) else (some false)) else (some false)))) else (some false)))) = some true := by rw [if_pos rfl] at H; exact H
   clear H
   have H := H1
   clear H1
   replace H := Option.bind_eq_some_iff.mp H
   obtain ⟨t185, A70, H⟩ := H
   replace H : ((manystrandref07_of.f k l1_0).bind fun t186 => (if t185 = t186 then ((manystrandref07_of.f k l0_1).bind fun t187 => ((manystrandref07_of.f k l1_1).bind fun t188 => (if t187 = t188 then (if a0_2 = a1_2 then (some (a0_3 == a1_3)) else (some false)) else (some false)))) else (some false))) = some true := H
   have A7 := Aside0.mk A70
   clear A70
   replace H := Option.bind_eq_some_iff.mp H
   obtain ⟨t186, A80, H⟩ := H
   replace H : (if t185 = t186 then ((manystrandref07_of.f k l0_1).bind fun t187 => ((manystrandref07_of.f k l1_1).bind fun t188 => (if t187 = t188 then (if a0_2 = a1_2 then (some (a0_3 == a1_3)) else (some false)) else (some false)))) else (some false)) = some true := H
   have A8 := Aside0.mk A80
   clear A80
   by_cases c9 : t185 = t186
   ·rw [if_pos c9] at H
    have c9b0 : (t185 == t186) = true := beq_iff_eq.mpr c9
    have c9b1 : (t185 != t186) = false := bne_eq_false_iff_eq.mpr c9
    clear c9
    replace H := Option.bind_eq_some_iff.mp H
    obtain ⟨t187, A100, H⟩ := H
    replace H : ((manystrandref07_of.f k l1_1).bind fun t188 => (if t187 = t188 then (if a0_2 = a1_2 then (some (a0_3 == a1_3)) else (some false)) else (some false))) = some true := H
    have A10 := Aside0.mk A100
    clear A100
    replace H := Option.bind_eq_some_iff.mp H
    obtain ⟨t188, A110, H⟩ := H
    replace H : (if t187 = t188 then (if a0_2 = a1_2 then (some (a0_3 == a1_3)) else (some false)) else (some false)) = some true := H
    have A11 := Aside0.mk A110
    clear A110
    by_cases c12 : t187 = t188
    ·rw [if_pos c12] at H
     have c12b0 : (t187 == t188) = true := beq_iff_eq.mpr c12
     have c12b1 : (t187 != t188) = false := bne_eq_false_iff_eq.mpr c12
     clear c12
     by_cases c13 : a0_2 = a1_2
     ·rw [if_pos c13] at H
      have c13b0 : (a0_2 == a1_2) = true := beq_iff_eq.mpr c13
      have c13b1 : (a0_2 != a1_2) = false := bne_eq_false_iff_eq.mpr c13
      clear c13
      have HZ := Aside0.mk (Option.some.inj H)
      clear H
      go_enter Try.func18, Try.ntmps18
      try go_wp2_with (first | ((with_reducible refine gate_dst (N := 2) rfl ?_); refine box_event ?hg (N := 2) ?hd (cs := #[.slice A0_0 l0_0.length c0_0, .slice A0_1 l0_1.length c0_1, .int .i64 a0_2, .int .i64 a0_3]) (t := 37) ?hr ?_; (case hd => rfl); (case hg => rfl); (case hr => first | (go_simp; done) | (go_simp; rfl)); intro gb181 hg w14 hbox hb; have n0_ := Aside0.mk (below_step (by repeat (first | (with_reducible first | exact HB.out | apply below_alloc | apply pw_below_drewN | apply below_drew1) | exact HB.out)) hb); have n1_ := Aside0.mk (hbox); have n2_ := Aside0.mk ((by rw [hg]; exact (below_size (by repeat (first | (with_reducible first | exact HB.out | apply below_alloc | apply pw_below_drewN | apply below_drew1) | exact HB.out))) : w.heap.size ≤ gb181)); have n3_ := Aside0.mk ((by rw [hg]; exact (below_size (by repeat (first | (with_reducible first | exact HB.out | apply below_alloc | apply pw_below_drewN | apply below_drew1) | exact HB.out))) : w.heap.size ≤ gb181)); clear HB; have HB := n0_; have BK181 := n1_; have GW181 := n2_; have GE181 := n3_; clear n0_ n1_ n2_ n3_; clear hb hbox hg) | ((with_reducible refine gate_dst (N := 3) rfl ?_); refine box_event ?hg (N := 3) ?hd (cs := #[.slice A1_0 l1_0.length c1_0, .slice A1_1 l1_1.length c1_1, .int .i64 a1_2, .int .i64 a1_3]) (t := 37) ?hr ?_; (case hd => rfl); (case hg => rfl); (case hr => first | (go_simp; done) | (go_simp; rfl)); intro gb182 hg w15 hbox hb; have n0_ := Aside0.mk (blk_below (g := gb181) (o := .cells #[.slice A0_0 l0_0.length c0_0, .slice A0_1 l0_1.length c0_1, .int .i64 a0_2, .int .i64 a0_3] 37 (0, 0)) (by (with_reducible repeat (first | refine blk_drewN ?_ _ | refine blk_drew ?_ | refine blk_alloc ?_ _)); exact BK181.out) hb); have n1_ := Aside0.mk (below_step (by repeat (first | (with_reducible first | exact HB.out | apply below_alloc | apply pw_below_drewN | apply below_drew1 | refine below_set ?_ GE181.out) | exact HB.out)) hb); have n2_ := Aside0.mk (hbox); have n3_ := Aside0.mk ((by rw [hg]; exact (below_size (by repeat (first | (with_reducible first | exact HB.out | apply below_alloc | apply pw_below_drewN | apply below_drew1 | refine below_set ?_ GE181.out) | exact HB.out))) : w.heap.size ≤ gb182)); have n4_ := Aside0.mk ((by rw [hg]; exact (below_size (by repeat (first | (with_reducible first | exact HB.out | apply below_alloc | apply pw_below_drewN | apply below_drew1 | refine below_set ?_ GE181.out) | exact HB.out))) : w.heap.size ≤ gb182)); have n5_ := Aside0.mk ((by rw [hg]; exact Nat.ne_of_lt (blk_lt (g := gb181) (o := .cells #[.slice A0_0 l0_0.length c0_0, .slice A0_1 l0_1.length c0_1, .int .i64 a0_2, .int .i64 a0_3] 37 (0, 0)) (by (with_reducible repeat (first | refine blk_drewN ?_ _ | refine blk_drew ?_ | refine blk_alloc ?_ _)); exact BK181.out)) : gb181 ≠ gb182)); have n6_ := Aside0.mk ((by rw [hg]; exact Nat.ne_of_gt (blk_lt (g := gb181) (o := .cells #[.slice A0_0 l0_0.length c0_0, .slice A0_1 l0_1.length c0_1, .int .i64 a0_2, .int .i64 a0_3] 37 (0, 0)) (by (with_reducible repeat (first | refine blk_drewN ?_ _ | refine blk_drew ?_ | refine blk_alloc ?_ _)); exact BK181.out)) : gb182 ≠ gb181)); clear BK181; clear HB; have BK181 := n0_; have HB := n1_; have BK182 := n2_; have GW182 := n3_; have GE182 := n4_; have NB181_182 := n5_; have NB182_181 := n6_; clear n0_ n1_ n2_ n3_ n4_ n5_ n6_; clear hb hbox hg))
      have n0_ := Aside0.mk (blk_drew BK181.out)
      have n1_ := Aside0.mk (blk_drew BK182.out)
      have n2_ := Aside0.mk (below_drew1 HB.out)
      clear BK181
      clear BK182
      clear HB
      have BK181 := n0_
      have BK182 := n1_
      have HB := n2_
      clear n0_ n1_ n2_
      refine start_ (n := 39) (S := fun w' => w'.cell? ⟨gb181, 0, none⟩ = some (.slice A0_0 l0_0.length c0_0) ∧ w'.cell? ⟨gb181, 1, none⟩ = some (.slice A0_1 l0_1.length c0_1) ∧ w'.cell? ⟨gb181, 2, none⟩ = some (.int .i64 a0_2) ∧ w'.cell? ⟨gb181, 3, none⟩ = some (.int .i64 a0_3) ∧ w'.cell? ⟨gb182, 0, none⟩ = some (.slice A1_0 l1_0.length c1_0) ∧ w'.cell? ⟨gb182, 1, none⟩ = some (.slice A1_1 l1_1.length c1_1) ∧ w'.cell? ⟨gb182, 2, none⟩ = some (.int .i64 a1_2) ∧ w'.cell? ⟨gb182, 3, none⟩ = some (.int .i64 a1_3)) (ds := []) (Array.replicate 39 false) (by kernel_rfl) rfl rfl ⟨(blk_cell BK181.out 0).trans rfl, (blk_cell BK181.out 1).trans rfl, (blk_cell BK181.out 2).trans rfl, (blk_cell BK181.out 3).trans rfl, (blk_cell BK182.out 0).trans rfl, (blk_cell BK182.out 1).trans rfl, (blk_cell BK182.out 2).trans rfl, (blk_cell BK182.out 3).trans rfl⟩ (fun hHeld => ?_); refine with_tabW famSameT.tab1 famSameT.bits1 (fun HT_ HW_ => ?_)
      generalize w15.drew = w16 at BK181 BK182 HB hHeld ⊢
      refine take_ (i := 0) (N := some 5) (v := ?_) (a' := ?_) #[true, false, false, false, false, false, false, false, false, false, false, false, false, false, false, false, false, false, false, false, false, false, false, false, false, false, false, false, false, false, false, false, false, false, false, false, false, false, false] rfl rfl (take_ofW HT_.out HW_.out (by kernel_rfl)) (fun _ _ _ h => h) (Or.inl ⟨by rfl, ?_⟩) hHeld ?_ ?_
      rotate_left
      ·rintro w' ⟨s0, s1, s2, s3, s4, s5, s6, s7⟩
       go_simp
       with_reducible rfl
      rotate_left
      ·simp only [Act.put, List.setIfInBounds_toArray, List.set_cons_zero, List.set_cons_succ, i64_w, i32_w]
       rfl
      refine one_ (i := 1) (N := some 6) #[true, true, false, false, false, false, false, false, false, false, false, false, false, false, false, false, false, false, false, false, false, false, false, false, false, false, false, false, false, false, false, false, false, false, false, false, false, false, false] rfl rfl (one_of HT_.out (by kernel_rfl)) (by decide) (fun K hK => ?_)
      refine goes_ Try.func23 (by kernel_rfl) rfl #[.agg #[.slice A0_0 l0_0.length c0_0, .slice A0_1 l0_1.length c0_1, .int .i64 a0_2, .int .i64 a0_3]] (by rfl) rfl rfl (by (try simp only [List.map_toArray, List.map_cons, List.map_nil]); first | done | rfl | (simp only [List.length_drop, List.length_take]; rfl)) ?_
      with_reducible refine (manystrandref07_Valid.calls k _ _ l0_0 _ _ l0_1 a0_2 a0_3 true _ ?side1 ?side2 ?side3 ?side4 A3.out).mono ?_
      (case side1 => repeat (first | exact (Kd.C_below HR0_0.out HB.out) | (with_reducible refine Kd.C_alloc ?_ _) | (with_reducible refine Kd.C_drewN ?_ _) | (with_reducible refine Kd.C_drew ?_)))
      (case side2 => exact HC0_0.out)
      (case side3 => repeat (first | exact (Kd.C_below HR0_1.out HB.out) | (with_reducible refine Kd.C_alloc ?_ _) | (with_reducible refine Kd.C_drewN ?_ _) | (with_reducible refine Kd.C_drew ?_)))
      (case side4 => exact HC0_1.out)
      rintro e w17 ⟨rfl, hb⟩
      refine ⟨_, rfl, ?_⟩
      have n0_ := Aside0.mk (blk_below (g := gb181) (o := .cells #[.slice A0_0 l0_0.length c0_0, .slice A0_1 l0_1.length c0_1, .int .i64 a0_2, .int .i64 a0_3] 37 (0, 0)) (by (with_reducible repeat (first | refine blk_drewN ?_ _ | refine blk_drew ?_ | refine blk_alloc ?_ _)); exact BK181.out) hb)
      have n1_ := Aside0.mk (blk_below (g := gb182) (o := .cells #[.slice A1_0 l1_0.length c1_0, .slice A1_1 l1_1.length c1_1, .int .i64 a1_2, .int .i64 a1_3] 37 (0, 0)) (by (with_reducible repeat (first | refine blk_drewN ?_ _ | refine blk_drew ?_ | refine blk_alloc ?_ _)); exact BK182.out) hb)
      have n2_ := Aside0.mk (below_step (by repeat (first | (with_reducible first | exact HB.out | apply below_alloc | apply pw_below_drewN | apply below_drew1 | refine below_set ?_ GE181.out | refine below_set ?_ GE182.out) | exact HB.out)) hb)
      clear BK181
      clear BK182
      clear HB
      have BK181 := n0_
      have BK182 := n1_
      have HB := n2_
      clear n0_ n1_ n2_
      (try clear hb)
      (try clear hb2)
      (try clear hk)
      (try clear hi)
      refine hK.out _ _ ⟨(blk_cell BK181.out 0).trans rfl, (blk_cell BK181.out 1).trans rfl, (blk_cell BK181.out 2).trans rfl, (blk_cell BK181.out 3).trans rfl, (blk_cell BK182.out 0).trans rfl, (blk_cell BK182.out 1).trans rfl, (blk_cell BK182.out 2).trans rfl, (blk_cell BK182.out 3).trans rfl⟩ (fun hHeld => ?_)
      clear hK K
      refine norm_ (a' := ?_) ?_ ?_
      rotate_left
      ·show Act.put _ (some 6) _ = _
       simp only [Act.put, List.setIfInBounds_toArray, List.set_cons_zero, List.set_cons_succ, i64_w, i32_w]
       rfl
      refine pure_ (i := 2) (N := some 7) (v := ?_) (a' := ?_) #[true, true, true, false, false, false, false, false, false, false, false, false, false, false, false, false, false, false, false, false, false, false, false, false, false, false, false, false, false, false, false, false, false, false, false, false, false, false, false] rfl rfl (any_of HT_.out (by kernel_rfl)) (fun _ _ _ h => h) (Or.inl ⟨by rfl, ?_⟩) ?_ ?_
      rotate_left
      ·intro w'
       go_simp
       with_reducible rfl
      rotate_left
      ·simp only [Act.put, List.setIfInBounds_toArray, List.set_cons_zero, List.set_cons_succ, i64_w, i32_w]
       rfl
      refine take_ (i := 3) (N := some 8) (v := ?_) (a' := ?_) #[true, true, true, true, false, false, false, false, false, false, false, false, false, false, false, false, false, false, false, false, false, false, false, false, false, false, false, false, false, false, false, false, false, false, false, false, false, false, false] rfl rfl (take_ofW HT_.out HW_.out (by kernel_rfl)) (fun _ _ _ h => h) (Or.inl ⟨by rfl, ?_⟩) hHeld ?_ ?_
      rotate_left
      ·rintro w' ⟨s0, s1, s2, s3, s4, s5, s6, s7⟩
       go_simp
       with_reducible rfl
      rotate_left
      ·simp only [Act.put, List.setIfInBounds_toArray, List.set_cons_zero, List.set_cons_succ, i64_w, i32_w]
       rfl
      refine one_ (i := 4) (N := some 9) #[true, true, true, true, true, false, false, false, false, false, false, false, false, false, false, false, false, false, false, false, false, false, false, false, false, false, false, false, false, false, false, false, false, false, false, false, false, false, false] rfl rfl (one_of HT_.out (by kernel_rfl)) (by decide) (fun K hK => ?_)
      refine goes_ Try.func23 (by kernel_rfl) rfl #[.agg #[.slice A1_0 l1_0.length c1_0, .slice A1_1 l1_1.length c1_1, .int .i64 a1_2, .int .i64 a1_3]] (by rfl) rfl rfl (by (try simp only [List.map_toArray, List.map_cons, List.map_nil]); first | done | rfl | (simp only [List.length_drop, List.length_take]; rfl)) ?_
      with_reducible refine (manystrandref07_Valid.calls k _ _ l1_0 _ _ l1_1 a1_2 a1_3 true _ ?side1 ?side2 ?side3 ?side4 A5.out).mono ?_
      (case side1 => repeat (first | exact (Kd.C_below HR1_0.out HB.out) | (with_reducible refine Kd.C_alloc ?_ _) | (with_reducible refine Kd.C_drewN ?_ _) | (with_reducible refine Kd.C_drew ?_)))
      (case side2 => exact HC1_0.out)
      (case side3 => repeat (first | exact (Kd.C_below HR1_1.out HB.out) | (with_reducible refine Kd.C_alloc ?_ _) | (with_reducible refine Kd.C_drewN ?_ _) | (with_reducible refine Kd.C_drew ?_)))
      (case side4 => exact HC1_1.out)
      rintro e w18 ⟨rfl, hb⟩
      refine ⟨_, rfl, ?_⟩
      have n0_ := Aside0.mk (blk_below (g := gb181) (o := .cells #[.slice A0_0 l0_0.length c0_0, .slice A0_1 l0_1.length c0_1, .int .i64 a0_2, .int .i64 a0_3] 37 (0, 0)) (by (with_reducible repeat (first | refine blk_drewN ?_ _ | refine blk_drew ?_ | refine blk_alloc ?_ _)); exact BK181.out) hb)
      have n1_ := Aside0.mk (blk_below (g := gb182) (o := .cells #[.slice A1_0 l1_0.length c1_0, .slice A1_1 l1_1.length c1_1, .int .i64 a1_2, .int .i64 a1_3] 37 (0, 0)) (by (with_reducible repeat (first | refine blk_drewN ?_ _ | refine blk_drew ?_ | refine blk_alloc ?_ _)); exact BK182.out) hb)
      have n2_ := Aside0.mk (below_step (by repeat (first | (with_reducible first | exact HB.out | apply below_alloc | apply pw_below_drewN | apply below_drew1 | refine below_set ?_ GE181.out | refine below_set ?_ GE182.out) | exact HB.out)) hb)
      clear BK181
      clear BK182
      clear HB
      have BK181 := n0_
      have BK182 := n1_
      have HB := n2_
      clear n0_ n1_ n2_
      (try clear hb)
      (try clear hb2)
      (try clear hk)
      (try clear hi)
      refine hK.out _ _ ⟨(blk_cell BK181.out 0).trans rfl, (blk_cell BK181.out 1).trans rfl, (blk_cell BK181.out 2).trans rfl, (blk_cell BK181.out 3).trans rfl, (blk_cell BK182.out 0).trans rfl, (blk_cell BK182.out 1).trans rfl, (blk_cell BK182.out 2).trans rfl, (blk_cell BK182.out 3).trans rfl⟩ (fun hHeld => ?_)
      clear hK K
      refine norm_ (a' := ?_) ?_ ?_
      rotate_left
      ·show Act.put _ (some 9) _ = _
       simp only [Act.put, List.setIfInBounds_toArray, List.set_cons_zero, List.set_cons_succ, i64_w, i32_w]
       rfl
      refine pure_ (i := 5) (N := some 10) (v := ?_) (a' := ?_) #[true, true, true, true, true, true, false, false, false, false, false, false, false, false, false, false, false, false, false, false, false, false, false, false, false, false, false, false, false, false, false, false, false, false, false, false, false, false, false] rfl rfl (any_of HT_.out (by kernel_rfl)) (fun _ _ _ h => h) (Or.inl ⟨by rfl, ?_⟩) ?_ ?_
      rotate_left
      ·intro w'
       go_simp
       with_reducible rfl
      rotate_left
      ·simp only [Act.put, List.setIfInBounds_toArray, List.set_cons_zero, List.set_cons_succ, i64_w, i32_w]
       rfl
      refine pure_ (i := 6) (N := some 11) (v := ?_) (a' := ?_) #[true, true, true, true, true, true, true, false, false, false, false, false, false, false, false, false, false, false, false, false, false, false, false, false, false, false, false, false, false, false, false, false, false, false, false, false, false, false, false] rfl rfl (any_of HT_.out (by kernel_rfl)) (fun _ _ _ h => h) (Or.inl ⟨by rfl, ?_⟩) ?_ ?_
      rotate_left
      ·intro w'
       go_simp
       with_reducible rfl
      rotate_left
      ·simp only [Act.put, List.setIfInBounds_toArray, List.set_cons_zero, List.set_cons_succ, i64_w, i32_w]
       rfl
      refine pure_ (i := 7) (N := some 12) (v := ?_) (a' := ?_) #[true, true, true, true, true, true, true, true, false, false, false, false, false, false, false, false, false, false, false, false, false, false, false, false, false, false, false, false, false, false, false, false, false, false, false, false, false, false, false] rfl rfl (any_of HT_.out (by kernel_rfl)) (fun _ _ _ h => h) (Or.inl ⟨by rfl, ?_⟩) ?_ ?_
      rotate_left
      ·intro w'
       go_simp
       with_reducible rfl
      rotate_left
      ·simp only [Act.put, List.setIfInBounds_toArray, List.set_cons_zero, List.set_cons_succ, i64_w, i32_w]
       rfl
      refine pure_ (i := 10) (N := some 15) (v := ?_) (a' := ?_) #[true, true, true, true, true, true, true, true, false, false, true, false, false, false, false, false, false, false, false, false, false, false, false, false, false, false, false, false, false, false, false, false, false, false, false, false, false, false, false] rfl rfl (any_of HT_.out (by kernel_rfl)) (fun _ _ _ h => h) (Or.inl ⟨by rfl, ?_⟩) ?_ ?_
      rotate_left
      ·intro w'
       go_simp
       with_reducible rfl
      rotate_left
      ·simp only [Act.put, List.setIfInBounds_toArray, List.set_cons_zero, List.set_cons_succ, i64_w, i32_w]
       rfl
      refine take_ (i := 8) (N := some 13) (v := ?_) (a' := ?_) #[true, true, true, true, true, true, true, true, true, false, true, false, false, false, false, false, false, false, false, false, false, false, false, false, false, false, false, false, false, false, false, false, false, false, false, false, false, false, false] rfl rfl (take_ofW HT_.out HW_.out (by kernel_rfl)) (fun _ _ _ h => h) (Or.inl ⟨by rfl, ?_⟩) hHeld ?_ ?_
      rotate_left
      ·rintro w' ⟨s0, s1, s2, s3, s4, s5, s6, s7⟩
       go_simp
       with_reducible rfl
      rotate_left
      ·simp only [Act.put, List.setIfInBounds_toArray, List.set_cons_zero, List.set_cons_succ, i64_w, i32_w]
       rfl
      refine take_ (i := 11) (N := some 16) (v := ?_) (a' := ?_) #[true, true, true, true, true, true, true, true, true, false, true, true, false, false, false, false, false, false, false, false, false, false, false, false, false, false, false, false, false, false, false, false, false, false, false, false, false, false, false] rfl rfl (take_ofW HT_.out HW_.out (by kernel_rfl)) (fun _ _ _ h => h) (Or.inl ⟨by rfl, ?_⟩) hHeld ?_ ?_
      rotate_left
      ·rintro w' ⟨s0, s1, s2, s3, s4, s5, s6, s7⟩
       go_simp
       with_reducible rfl
      rotate_left
      ·simp only [Act.put, List.setIfInBounds_toArray, List.set_cons_zero, List.set_cons_succ, i64_w, i32_w]
       rfl
      refine one_ (i := 9) (N := some 14) #[true, true, true, true, true, true, true, true, true, true, true, true, false, false, false, false, false, false, false, false, false, false, false, false, false, false, false, false, false, false, false, false, false, false, false, false, false, false, false] rfl rfl (one_of HT_.out (by kernel_rfl)) (by decide) (fun K hK => ?_)
      refine goes_ Try.func46 (by kernel_rfl) rfl #[.slice A0_0 l0_0.length c0_0] (by rfl) rfl rfl (by (try simp only [List.map_toArray, List.map_cons, List.map_nil]); first | done | rfl | (simp only [List.length_drop, List.length_take]; rfl)) ?_
      with_reducible refine (manystrandref07_of.calls k _ _ l0_0 t185 _ ?side1 ?side2 A7.out).mono ?_
      (case side1 => repeat (first | exact (Kd.C_below HR0_0.out HB.out) | (with_reducible refine Kd.C_alloc ?_ _) | (with_reducible refine Kd.C_drewN ?_ _) | (with_reducible refine Kd.C_drew ?_)))
      (case side2 => exact HC0_0.out)
      rintro e w' ⟨rfl, ⟨nd, rfl⟩⟩
      refine ⟨_, rfl, ?_⟩
      refine hK.out _ _ ⟨(blk_cell BK181.out 0).trans rfl, (blk_cell BK181.out 1).trans rfl, (blk_cell BK181.out 2).trans rfl, (blk_cell BK181.out 3).trans rfl, (blk_cell BK182.out 0).trans rfl, (blk_cell BK182.out 1).trans rfl, (blk_cell BK182.out 2).trans rfl, (blk_cell BK182.out 3).trans rfl⟩ (fun hHeld => ?_)
      clear hK K
      refine norm_ (a' := ?_) ?_ ?_
      rotate_left
      ·show Act.put _ (some 14) _ = _
       simp only [Act.put, List.setIfInBounds_toArray, List.set_cons_zero, List.set_cons_succ, i64_w, i32_w]
       rfl
      refine one_ (i := 12) (N := some 17) #[true, true, true, true, true, true, true, true, true, true, true, true, true, false, false, false, false, false, false, false, false, false, false, false, false, false, false, false, false, false, false, false, false, false, false, false, false, false, false] rfl rfl (one_of HT_.out (by kernel_rfl)) (by decide) (fun K hK => ?_)
      refine goes_ Try.func46 (by kernel_rfl) rfl #[.slice A1_0 l1_0.length c1_0] (by rfl) rfl rfl (by (try simp only [List.map_toArray, List.map_cons, List.map_nil]); first | done | rfl | (simp only [List.length_drop, List.length_take]; rfl)) ?_
      with_reducible refine (manystrandref07_of.calls k _ _ l1_0 t186 _ ?side1 ?side2 A8.out).mono ?_
      (case side1 => repeat (first | exact (Kd.C_below HR1_0.out (by repeat (first | (with_reducible first | exact HB.out | apply below_alloc | apply pw_below_drewN | apply below_drew1 | refine below_set ?_ GE181.out | refine below_set ?_ GE182.out) | exact HB.out))) | (with_reducible refine Kd.C_alloc ?_ _) | (with_reducible refine Kd.C_drewN ?_ _) | (with_reducible refine Kd.C_drew ?_)))
      (case side2 => exact HC1_0.out)
      rintro e w' ⟨rfl, ⟨nd, rfl⟩⟩
      refine ⟨_, rfl, ?_⟩
      refine hK.out _ _ ⟨(blk_cell BK181.out 0).trans rfl, (blk_cell BK181.out 1).trans rfl, (blk_cell BK181.out 2).trans rfl, (blk_cell BK181.out 3).trans rfl, (blk_cell BK182.out 0).trans rfl, (blk_cell BK182.out 1).trans rfl, (blk_cell BK182.out 2).trans rfl, (blk_cell BK182.out 3).trans rfl⟩ (fun hHeld => ?_)
      clear hK K
      refine norm_ (a' := ?_) ?_ ?_
      rotate_left
      ·show Act.put _ (some 17) _ = _
       simp only [Act.put, List.setIfInBounds_toArray, List.set_cons_zero, List.set_cons_succ, i64_w, i32_w]
       rfl
      refine pure_ (i := 13) (N := some 18) (v := ?_) (a' := ?_) #[true, true, true, true, true, true, true, true, true, true, true, true, true, true, false, false, false, false, false, false, false, false, false, false, false, false, false, false, false, false, false, false, false, false, false, false, false, false, false] rfl rfl (any_of HT_.out (by kernel_rfl)) (fun _ _ _ h => h) (Or.inl ⟨by rfl, ?_⟩) ?_ ?_
      rotate_left
      ·intro w'
       go_simp
       with_reducible rfl
      rotate_left
      ·simp only [Act.put, List.setIfInBounds_toArray, List.set_cons_zero, List.set_cons_succ, i64_w, i32_w]
       rfl
      refine pure_ (i := 14) (N := some 19) (v := ?_) (a' := ?_) #[true, true, true, true, true, true, true, true, true, true, true, true, true, true, true, false, false, false, false, false, false, false, false, false, false, false, false, false, false, false, false, false, false, false, false, false, false, false, false] rfl rfl (any_of HT_.out (by kernel_rfl)) (fun _ _ _ h => h) (Or.inl ⟨by rfl, ?_⟩) ?_ ?_
      rotate_left
      ·intro w'
       go_simp
       with_reducible rfl
      rotate_left
      ·simp only [Act.put, List.setIfInBounds_toArray, List.set_cons_zero, List.set_cons_succ, i64_w, i32_w]
       rfl
      refine pure_ (i := 15) (N := some 20) (v := ?_) (a' := ?_) #[true, true, true, true, true, true, true, true, true, true, true, true, true, true, true, true, false, false, false, false, false, false, false, false, false, false, false, false, false, false, false, false, false, false, false, false, false, false, false] rfl rfl (any_of HT_.out (by kernel_rfl)) (fun _ _ _ h => h) (Or.inl ⟨by rfl, ?_⟩) ?_ ?_
      rotate_left
      ·intro w'
       go_simp
       with_reducible rfl
      rotate_left
      ·simp only [Act.put, List.setIfInBounds_toArray, List.set_cons_zero, List.set_cons_succ, i64_w, i32_w]
       rfl
      refine pure_ (i := 16) (N := some 21) (v := ?_) (a' := ?_) #[true, true, true, true, true, true, true, true, true, true, true, true, true, true, true, true, true, false, false, false, false, false, false, false, false, false, false, false, false, false, false, false, false, false, false, false, false, false, false] rfl rfl (any_of HT_.out (by kernel_rfl)) (fun _ _ _ h => h) (Or.inl ⟨by rfl, ?_⟩) ?_ ?_
      rotate_left
      ·intro w'
       go_simp
       with_reducible rfl
      rotate_left
      ·simp only [Act.put, List.setIfInBounds_toArray, List.set_cons_zero, List.set_cons_succ, i64_w, i32_w]
       rfl
      refine pure_ (i := 19) (N := some 24) (v := ?_) (a' := ?_) #[true, true, true, true, true, true, true, true, true, true, true, true, true, true, true, true, true, false, false, true, false, false, false, false, false, false, false, false, false, false, false, false, false, false, false, false, false, false, false] rfl rfl (any_of HT_.out (by kernel_rfl)) (fun _ _ _ h => h) (Or.inl ⟨by rfl, ?_⟩) ?_ ?_
      rotate_left
      ·intro w'
       go_simp
       with_reducible rfl
      rotate_left
      ·simp only [Act.put, List.setIfInBounds_toArray, List.set_cons_zero, List.set_cons_succ, i64_w, i32_w]
       rfl
      refine take_ (i := 17) (N := some 22) (v := ?_) (a' := ?_) #[true, true, true, true, true, true, true, true, true, true, true, true, true, true, true, true, true, true, false, true, false, false, false, false, false, false, false, false, false, false, false, false, false, false, false, false, false, false, false] rfl rfl (take_ofW HT_.out HW_.out (by kernel_rfl)) (fun _ _ _ h => h) (Or.inl ⟨by rfl, ?_⟩) hHeld ?_ ?_
      rotate_left
      ·rintro w' ⟨s0, s1, s2, s3, s4, s5, s6, s7⟩
       go_simp
       with_reducible rfl
      rotate_left
      ·simp only [Act.put, List.setIfInBounds_toArray, List.set_cons_zero, List.set_cons_succ, i64_w, i32_w]
       rfl
      refine take_ (i := 20) (N := some 25) (v := ?_) (a' := ?_) #[true, true, true, true, true, true, true, true, true, true, true, true, true, true, true, true, true, true, false, true, true, false, false, false, false, false, false, false, false, false, false, false, false, false, false, false, false, false, false] rfl rfl (take_ofW HT_.out HW_.out (by kernel_rfl)) (fun _ _ _ h => h) (Or.inl ⟨by rfl, ?_⟩) hHeld ?_ ?_
      rotate_left
      ·rintro w' ⟨s0, s1, s2, s3, s4, s5, s6, s7⟩
       go_simp
       with_reducible rfl
      rotate_left
      ·simp only [Act.put, List.setIfInBounds_toArray, List.set_cons_zero, List.set_cons_succ, i64_w, i32_w]
       rfl
      refine one_ (i := 18) (N := some 23) #[true, true, true, true, true, true, true, true, true, true, true, true, true, true, true, true, true, true, true, true, true, false, false, false, false, false, false, false, false, false, false, false, false, false, false, false, false, false, false] rfl rfl (one_of HT_.out (by kernel_rfl)) (by decide) (fun K hK => ?_)
      refine goes_ Try.func46 (by kernel_rfl) rfl #[.slice A0_1 l0_1.length c0_1] (by rfl) rfl rfl (by (try simp only [List.map_toArray, List.map_cons, List.map_nil]); first | done | rfl | (simp only [List.length_drop, List.length_take]; rfl)) ?_
      with_reducible refine (manystrandref07_of.calls k _ _ l0_1 t187 _ ?side1 ?side2 A10.out).mono ?_
      (case side1 => repeat (first | exact (Kd.C_below HR0_1.out (by repeat (first | (with_reducible first | exact HB.out | apply below_alloc | apply pw_below_drewN | apply below_drew1 | refine below_set ?_ GE181.out | refine below_set ?_ GE182.out) | exact HB.out))) | (with_reducible refine Kd.C_alloc ?_ _) | (with_reducible refine Kd.C_drewN ?_ _) | (with_reducible refine Kd.C_drew ?_)))
      (case side2 => exact HC0_1.out)
      rintro e w' ⟨rfl, ⟨nd, rfl⟩⟩
      refine ⟨_, rfl, ?_⟩
      refine hK.out _ _ ⟨(blk_cell BK181.out 0).trans rfl, (blk_cell BK181.out 1).trans rfl, (blk_cell BK181.out 2).trans rfl, (blk_cell BK181.out 3).trans rfl, (blk_cell BK182.out 0).trans rfl, (blk_cell BK182.out 1).trans rfl, (blk_cell BK182.out 2).trans rfl, (blk_cell BK182.out 3).trans rfl⟩ (fun hHeld => ?_)
      clear hK K
      refine norm_ (a' := ?_) ?_ ?_
      rotate_left
      ·show Act.put _ (some 23) _ = _
       simp only [Act.put, List.setIfInBounds_toArray, List.set_cons_zero, List.set_cons_succ, i64_w, i32_w]
       rfl
      refine one_ (i := 21) (N := some 26) #[true, true, true, true, true, true, true, true, true, true, true, true, true, true, true, true, true, true, true, true, true, true, false, false, false, false, false, false, false, false, false, false, false, false, false, false, false, false, false] rfl rfl (one_of HT_.out (by kernel_rfl)) (by decide) (fun K hK => ?_)
      refine goes_ Try.func46 (by kernel_rfl) rfl #[.slice A1_1 l1_1.length c1_1] (by rfl) rfl rfl (by (try simp only [List.map_toArray, List.map_cons, List.map_nil]); first | done | rfl | (simp only [List.length_drop, List.length_take]; rfl)) ?_
      with_reducible refine (manystrandref07_of.calls k _ _ l1_1 t188 _ ?side1 ?side2 A11.out).mono ?_
      (case side1 => repeat (first | exact (Kd.C_below HR1_1.out (by repeat (first | (with_reducible first | exact HB.out | apply below_alloc | apply pw_below_drewN | apply below_drew1 | refine below_set ?_ GE181.out | refine below_set ?_ GE182.out) | exact HB.out))) | (with_reducible refine Kd.C_alloc ?_ _) | (with_reducible refine Kd.C_drewN ?_ _) | (with_reducible refine Kd.C_drew ?_)))
      (case side2 => exact HC1_1.out)
      rintro e w' ⟨rfl, ⟨nd, rfl⟩⟩
      refine ⟨_, rfl, ?_⟩
      refine hK.out _ _ ⟨(blk_cell BK181.out 0).trans rfl, (blk_cell BK181.out 1).trans rfl, (blk_cell BK181.out 2).trans rfl, (blk_cell BK181.out 3).trans rfl, (blk_cell BK182.out 0).trans rfl, (blk_cell BK182.out 1).trans rfl, (blk_cell BK182.out 2).trans rfl, (blk_cell BK182.out 3).trans rfl⟩ (fun hHeld => ?_)
      clear hK K
      refine norm_ (a' := ?_) ?_ ?_
      rotate_left
      ·show Act.put _ (some 26) _ = _
       simp only [Act.put, List.setIfInBounds_toArray, List.set_cons_zero, List.set_cons_succ, i64_w, i32_w]
       rfl
      refine pure_ (i := 22) (N := some 27) (v := ?_) (a' := ?_) #[true, true, true, true, true, true, true, true, true, true, true, true, true, true, true, true, true, true, true, true, true, true, true, false, false, false, false, false, false, false, false, false, false, false, false, false, false, false, false] rfl rfl (any_of HT_.out (by kernel_rfl)) (fun _ _ _ h => h) (Or.inl ⟨by rfl, ?_⟩) ?_ ?_
      rotate_left
      ·intro w'
       go_simp
       with_reducible rfl
      rotate_left
      ·simp only [Act.put, List.setIfInBounds_toArray, List.set_cons_zero, List.set_cons_succ, i64_w, i32_w]
       rfl
      refine pure_ (i := 23) (N := some 28) (v := ?_) (a' := ?_) #[true, true, true, true, true, true, true, true, true, true, true, true, true, true, true, true, true, true, true, true, true, true, true, true, false, false, false, false, false, false, false, false, false, false, false, false, false, false, false] rfl rfl (any_of HT_.out (by kernel_rfl)) (fun _ _ _ h => h) (Or.inl ⟨by rfl, ?_⟩) ?_ ?_
      rotate_left
      ·intro w'
       go_simp
       with_reducible rfl
      rotate_left
      ·simp only [Act.put, List.setIfInBounds_toArray, List.set_cons_zero, List.set_cons_succ, i64_w, i32_w]
       rfl
      refine pure_ (i := 24) (N := some 29) (v := ?_) (a' := ?_) #[true, true, true, true, true, true, true, true, true, true, true, true, true, true, true, true, true, true, true, true, true, true, true, true, true, false, false, false, false, false, false, false, false, false, false, false, false, false, false] rfl rfl (any_of HT_.out (by kernel_rfl)) (fun _ _ _ h => h) (Or.inl ⟨by rfl, ?_⟩) ?_ ?_
      rotate_left
      ·intro w'
       go_simp
       with_reducible rfl
      rotate_left
      ·simp only [Act.put, List.setIfInBounds_toArray, List.set_cons_zero, List.set_cons_succ, i64_w, i32_w]
       rfl
      refine pure_ (i := 25) (N := some 30) (v := ?_) (a' := ?_) #[true, true, true, true, true, true, true, true, true, true, true, true, true, true, true, true, true, true, true, true, true, true, true, true, true, true, false, false, false, false, false, false, false, false, false, false, false, false, false] rfl rfl (any_of HT_.out (by kernel_rfl)) (fun _ _ _ h => h) (Or.inl ⟨by rfl, ?_⟩) ?_ ?_
      rotate_left
      ·intro w'
       go_simp
       with_reducible rfl
      rotate_left
      ·simp only [Act.put, List.setIfInBounds_toArray, List.set_cons_zero, List.set_cons_succ, i64_w, i32_w]
       rfl
      refine pure_ (i := 27) (N := some 32) (v := ?_) (a' := ?_) #[true, true, true, true, true, true, true, true, true, true, true, true, true, true, true, true, true, true, true, true, true, true, true, true, true, true, false, true, false, false, false, false, false, false, false, false, false, false, false] rfl rfl (any_of HT_.out (by kernel_rfl)) (fun _ _ _ h => h) (Or.inl ⟨by rfl, ?_⟩) ?_ ?_
      rotate_left
      ·intro w'
       go_simp
       with_reducible rfl
      rotate_left
      ·simp only [Act.put, List.setIfInBounds_toArray, List.set_cons_zero, List.set_cons_succ, i64_w, i32_w]
       rfl
      refine take_ (i := 26) (N := some 31) (v := ?_) (a' := ?_) #[true, true, true, true, true, true, true, true, true, true, true, true, true, true, true, true, true, true, true, true, true, true, true, true, true, true, true, true, false, false, false, false, false, false, false, false, false, false, false] rfl rfl (take_ofW HT_.out HW_.out (by kernel_rfl)) (fun _ _ _ h => h) (Or.inl ⟨by rfl, ?_⟩) hHeld ?_ ?_
      rotate_left
      ·rintro w' ⟨s0, s1, s2, s3, s4, s5, s6, s7⟩
       go_simp
       with_reducible rfl
      rotate_left
      ·simp only [Act.put, List.setIfInBounds_toArray, List.set_cons_zero, List.set_cons_succ, i64_w, i32_w]
       rfl
      refine take_ (i := 28) (N := some 33) (v := ?_) (a' := ?_) #[true, true, true, true, true, true, true, true, true, true, true, true, true, true, true, true, true, true, true, true, true, true, true, true, true, true, true, true, true, false, false, false, false, false, false, false, false, false, false] rfl rfl (take_ofW HT_.out HW_.out (by kernel_rfl)) (fun _ _ _ h => h) (Or.inl ⟨by rfl, ?_⟩) hHeld ?_ ?_
      rotate_left
      ·rintro w' ⟨s0, s1, s2, s3, s4, s5, s6, s7⟩
       go_simp
       with_reducible rfl
      rotate_left
      ·simp only [Act.put, List.setIfInBounds_toArray, List.set_cons_zero, List.set_cons_succ, i64_w, i32_w]
       rfl
      refine pure_ (i := 29) (N := some 34) (v := ?_) (a' := ?_) #[true, true, true, true, true, true, true, true, true, true, true, true, true, true, true, true, true, true, true, true, true, true, true, true, true, true, true, true, true, true, false, false, false, false, false, false, false, false, false] rfl rfl (any_of HT_.out (by kernel_rfl)) (fun _ _ _ h => h) (Or.inl ⟨by rfl, ?_⟩) ?_ ?_
      rotate_left
      ·intro w'
       go_simp
       with_reducible rfl
      rotate_left
      ·simp only [Act.put, List.setIfInBounds_toArray, List.set_cons_zero, List.set_cons_succ, i64_w, i32_w]
       rfl
      refine pure_ (i := 30) (N := some 35) (v := ?_) (a' := ?_) #[true, true, true, true, true, true, true, true, true, true, true, true, true, true, true, true, true, true, true, true, true, true, true, true, true, true, true, true, true, true, true, false, false, false, false, false, false, false, false] rfl rfl (any_of HT_.out (by kernel_rfl)) (fun _ _ _ h => h) (Or.inl ⟨by rfl, ?_⟩) ?_ ?_
      rotate_left
      ·intro w'
       go_simp
       with_reducible rfl
      rotate_left
      ·simp only [Act.put, List.setIfInBounds_toArray, List.set_cons_zero, List.set_cons_succ, i64_w, i32_w]
       rfl
      refine pure_ (i := 31) (N := some 36) (v := ?_) (a' := ?_) #[true, true, true, true, true, true, true, true, true, true, true, true, true, true, true, true, true, true, true, true, true, true, true, true, true, true, true, true, true, true, true, true, false, false, false, false, false, false, false] rfl rfl (any_of HT_.out (by kernel_rfl)) (fun _ _ _ h => h) (Or.inl ⟨by rfl, ?_⟩) ?_ ?_
      rotate_left
      ·intro w'
       go_simp
       with_reducible rfl
      rotate_left
      ·simp only [Act.put, List.setIfInBounds_toArray, List.set_cons_zero, List.set_cons_succ, i64_w, i32_w]
       rfl
      refine pure_ (i := 32) (N := some 37) (v := ?_) (a' := ?_) #[true, true, true, true, true, true, true, true, true, true, true, true, true, true, true, true, true, true, true, true, true, true, true, true, true, true, true, true, true, true, true, true, true, false, false, false, false, false, false] rfl rfl (any_of HT_.out (by kernel_rfl)) (fun _ _ _ h => h) (Or.inl ⟨by rfl, ?_⟩) ?_ ?_
      rotate_left
      ·intro w'
       go_simp
       with_reducible rfl
      rotate_left
      ·simp only [Act.put, List.setIfInBounds_toArray, List.set_cons_zero, List.set_cons_succ, i64_w, i32_w]
       rfl
      refine pure_ (i := 34) (N := some 39) (v := ?_) (a' := ?_) #[true, true, true, true, true, true, true, true, true, true, true, true, true, true, true, true, true, true, true, true, true, true, true, true, true, true, true, true, true, true, true, true, true, false, true, false, false, false, false] rfl rfl (any_of HT_.out (by kernel_rfl)) (fun _ _ _ h => h) (Or.inl ⟨by rfl, ?_⟩) ?_ ?_
      rotate_left
      ·intro w'
       go_simp
       with_reducible rfl
      rotate_left
      ·simp only [Act.put, List.setIfInBounds_toArray, List.set_cons_zero, List.set_cons_succ, i64_w, i32_w]
       rfl
      refine take_ (i := 33) (N := some 38) (v := ?_) (a' := ?_) #[true, true, true, true, true, true, true, true, true, true, true, true, true, true, true, true, true, true, true, true, true, true, true, true, true, true, true, true, true, true, true, true, true, true, true, false, false, false, false] rfl rfl (take_ofW HT_.out HW_.out (by kernel_rfl)) (fun _ _ _ h => h) (Or.inl ⟨by rfl, ?_⟩) hHeld ?_ ?_
      rotate_left
      ·rintro w' ⟨s0, s1, s2, s3, s4, s5, s6, s7⟩
       go_simp
       with_reducible rfl
      rotate_left
      ·simp only [Act.put, List.setIfInBounds_toArray, List.set_cons_zero, List.set_cons_succ, i64_w, i32_w]
       rfl
      refine take_ (i := 35) (N := some 40) (v := ?_) (a' := ?_) #[true, true, true, true, true, true, true, true, true, true, true, true, true, true, true, true, true, true, true, true, true, true, true, true, true, true, true, true, true, true, true, true, true, true, true, true, false, false, false] rfl rfl (take_ofW HT_.out HW_.out (by kernel_rfl)) (fun _ _ _ h => h) (Or.inl ⟨by rfl, ?_⟩) hHeld ?_ ?_
      rotate_left
      ·rintro w' ⟨s0, s1, s2, s3, s4, s5, s6, s7⟩
       go_simp
       with_reducible rfl
      rotate_left
      ·simp only [Act.put, List.setIfInBounds_toArray, List.set_cons_zero, List.set_cons_succ, i64_w, i32_w]
       rfl
      refine pure_ (i := 36) (N := some 41) (v := ?_) (a' := ?_) #[true, true, true, true, true, true, true, true, true, true, true, true, true, true, true, true, true, true, true, true, true, true, true, true, true, true, true, true, true, true, true, true, true, true, true, true, true, false, false] rfl rfl (any_of HT_.out (by kernel_rfl)) (fun _ _ _ h => h) (Or.inl ⟨by rfl, ?_⟩) ?_ ?_
      rotate_left
      ·intro w'
       go_simp
       with_reducible rfl
      rotate_left
      ·simp only [Act.put, List.setIfInBounds_toArray, List.set_cons_zero, List.set_cons_succ, i64_w, i32_w]
       rfl
      refine pure_ (i := 37) (N := some 42) (v := ?_) (a' := ?_) #[true, true, true, true, true, true, true, true, true, true, true, true, true, true, true, true, true, true, true, true, true, true, true, true, true, true, true, true, true, true, true, true, true, true, true, true, true, true, false] rfl rfl (any_of HT_.out (by kernel_rfl)) (fun _ _ _ h => h) (Or.inl ⟨by rfl, ?_⟩) ?_ ?_
      rotate_left
      ·intro w'
       go_simp
       with_reducible rfl
      rotate_left
      ·simp only [Act.put, List.setIfInBounds_toArray, List.set_cons_zero, List.set_cons_succ, i64_w, i32_w]
       rfl
      refine pure_ (i := 38) (N := some 4) (v := ?_) (a' := ?_) #[true, true, true, true, true, true, true, true, true, true, true, true, true, true, true, true, true, true, true, true, true, true, true, true, true, true, true, true, true, true, true, true, true, true, true, true, true, true, true] rfl rfl (any_of HT_.out (by kernel_rfl)) (fun _ _ _ h => h) (Or.inl ⟨by rfl, ?_⟩) ?_ ?_
      rotate_left
      ·intro w'
       go_simp
       with_reducible rfl
      rotate_left
      ·simp only [Act.put, List.setIfInBounds_toArray, List.set_cons_zero, List.set_cons_succ, i64_w, i32_w]
       rfl
      refine done_ (done_of HT_.out (by kernel_rfl)) ?_
      try go_wp2
      go_ret
      have HZ := HZ.out
      exact ⟨by first | rfl | (simp [errW_none, errW_some] <;> rfl) | (simp [*, errW_none, errW_some] <;> rfl) | (simp [errW_none, errW_some]; exact Go.Proofs.YtgfbgfbnmiainaaW.OwnWords.isEmpty_bne _), by repeat (first | (with_reducible first | exact HB.out | apply below_alloc | apply pw_below_drewN | apply below_drew1 | refine below_set ?_ GE181.out | refine below_set ?_ GE182.out) | exact HB.out)⟩
     ·rw [if_neg c13] at H
      have c13b0 : (a0_2 == a1_2) = false := beq_eq_false_iff_ne.mpr c13
      have c13b1 : (a0_2 != a1_2) = true := bne_iff_ne.mpr c13
      exact absurd (Option.some.inj H) (by decide)
    ·rw [if_neg c12] at H
     have c12b0 : (t187 == t188) = false := beq_eq_false_iff_ne.mpr c12
     have c12b1 : (t187 != t188) = true := bne_iff_ne.mpr c12
     exact absurd (Option.some.inj H) (by decide)
   ·rw [if_neg c9] at H
    have c9b0 : (t185 == t186) = false := beq_eq_false_iff_ne.mpr c9
    have c9b1 : (t185 != t186) = true := bne_iff_ne.mpr c9
    exact absurd (Option.some.inj H) (by decide)
  ·replace c6 := Bool.eq_false_iff.mpr c6
   subst c6
   have H1 : (some false) = some true := by rw [if_neg (show ¬ (false = true) by decide)] at H; exact H
   clear H
   have H := H1
   clear H1
   exact absurd (Option.some.inj H) (by decide)
 ·replace c4 := Bool.eq_false_iff.mpr c4
  subst c4
  have H1 : (some false) = some true := by rw [if_neg (show ¬ (false = true) by decide)] at H; exact H
  clear H
  have H := H1
  clear H1
  exact absurd (Option.some.inj H) (by decide)
end Go.Proofs.Ytgfbgfbnmiainaa.Q
/-! The reference's small functions on families: Valid, in, out, Same. -/
namespace Go.Proofs.Ytgfbgfbnmiainaa.Fam
set_option linter.unusedVariables false
set_option linter.unusedSimpArgs false
open Go.RowKit Go.Proofs.YtgfbgfbnmiainaaW.PrintWords Go.Proofs.YtgfbgfbnmiainaaW.PrintLast Go.Proofs.YtgfbgfbnmiainaaW.PrintMore Go.Proofs.Ytgfbgfbnmiainaa.Q
theorem ascB_iff : ∀ (l : List Int), ascB l = true ↔ l.Pairwise (· < ·)
  | [] => by simp [ascB]
  | [x] => by simp [ascB]
  | x :: y :: l => by
    have ih := ascB_iff (y :: l)
    simp only [ascB, Bool.and_eq_true, decide_eq_true_eq, ih]
    rw [List.pairwise_cons (a := x)]
    constructor
    · rintro ⟨h1, h2⟩
      refine ⟨fun z hz => ?_, h2⟩
      rcases List.mem_cons.mp hz with rfl | hz
      · exact h1
      · have := (List.pairwise_cons.mp h2).1 z hz
        omega
    · rintro ⟨h1, h2⟩
      exact ⟨h1 y (List.mem_cons_self ..), h2⟩
theorem chk_iff (l : List Int) : chk none l = true ↔ l.Pairwise (· < ·) ∧ ∀ x ∈ l, 0 ≤ x ∧ x ≤ 63 :=
  ⟨fun h => ⟨(chk_sort none l h).1, chk_rng none l h⟩, fun h => chk_mk none l h.2 h.1 (fun y e => by cases e)⟩
theorem numbers_f {l : List Int} (hl : l.length ≤ 1000) {k : Nat} (hk : 1000 < k) : manystrandref07_numbers.f k l = some (chk none l) := by
  unfold manystrandref07_numbers.f
  rw [manystrandref07_ascending_f l (by omega) (by omega), Option.bind_some]
  by_cases ha : ascB l = true
  · rw [if_pos ha]
    have hp := (ascB_iff l).mp ha
    by_cases h0 : (l.length : Int) = 0
    · rw [if_pos h0]
      have : l = [] := List.eq_nil_of_length_eq_zero (by omega)
      subst this
      rfl
    · rw [if_neg h0, if_pos (by omega)]
      have w : wrap64 ((l.length : Int) - 1) = ((l.length - 1 : Nat) : Int) := by unfold wrap64; omega
      have hlt : l.length - 1 < l.length := by omega
      have h0' : rd l 0 = l[0]'(by omega) := rd_at (i := 0) (by omega)
      rw [h0']
      have lo : ∀ x ∈ l, l[0]'(by omega) ≤ x := fun x hx => by
        obtain ⟨i, hi, rfl⟩ := List.mem_iff_getElem.mp hx
        rcases Nat.eq_zero_or_pos i with rfl | h
        · exact Int.le_refl _
        · exact Int.le_of_lt (List.pairwise_iff_getElem.mp hp 0 i (by omega) hi h)
      have hi : ∀ x ∈ l, x ≤ l[l.length - 1] := fun x hx => by
        obtain ⟨i, hi, rfl⟩ := List.mem_iff_getElem.mp hx
        rcases Nat.lt_or_ge i (l.length - 1) with h | h
        · exact Int.le_of_lt (List.pairwise_iff_getElem.mp hp i (l.length - 1) hi hlt h)
        · have : i = l.length - 1 := by omega
          subst this
          exact Int.le_refl _
      by_cases c0 : l[0]'(by omega) ≥ 0
      · rw [if_pos c0, w, if_pos (by omega), if_pos (by omega), rd_at hlt]
        congr 1
        rw [Bool.eq_iff_iff, decide_eq_true_iff, chk_iff]
        exact ⟨fun h => ⟨hp, fun x hx => ⟨Int.le_trans c0 (lo x hx), Int.le_trans (hi x hx) h⟩⟩, fun h => (h.2 _ (List.getElem_mem hlt)).2⟩
      · rw [if_neg c0]
        congr 1
        symm
        rw [Bool.eq_false_iff, ne_eq, chk_iff]
        exact fun h => c0 (h.2 _ (List.getElem_mem (by omega))).1
  · rw [if_neg ha]
    congr 1
    symm
    rw [Bool.eq_false_iff, ne_eq, chk_iff]
    exact fun h => ha ((ascB_iff l).mpr h.1)
theorem validR_f {f : S37} (h0 : f.f0.length ≤ 1000) (h1 : f.f1.length ≤ 1000) {k : Nat} (hk : 1000 < k) : manystrandref07_Valid.f k f.f0 f.f1 f.f2 f.f3 = some (vl f) := by
  unfold manystrandref07_Valid.f vl
  rw [numbers_f h0 hk, numbers_f h1 hk, Option.bind_some]
  cases chk none f.f0
  · simp
  rw [if_pos rfl, Option.bind_some]
  cases chk none f.f1
  · simp
  rw [if_pos rfl]
  by_cases a0 : f.f2 ≥ 0
  · rw [if_pos a0, decide_eq_true (show 0 ≤ f.f2 from a0)]
    by_cases a1 : f.f3 ≥ 0
    · rw [if_pos a1, decide_eq_true (show 0 ≤ f.f3 from a1)]
      by_cases a2 : f.f2 ≤ 64
      · rw [if_pos a2, decide_eq_true a2]; simp
      · rw [if_neg a2, decide_eq_false a2]; simp
    · rw [if_neg a1, decide_eq_false (show ¬ 0 ≤ f.f3 from a1)]; simp
  · rw [if_neg a0, decide_eq_false (show ¬ 0 ≤ f.f2 from a0)]; simp
theorem of_from (l : List Int) (hl : l.length ≤ 1000) (hr : ∀ x ∈ l, 0 ≤ x ∧ x ≤ 63) : ∀ n i k (m : Int), i + n = l.length → n < k → manystrandref07_of.l0 k l m (i : Int) = some (ofF (l.drop i) m) := by
  intro n
  induction n with
  | zero =>
    intro i k m hi hk
    obtain ⟨k, rfl⟩ : ∃ j, k = j + 1 := ⟨k - 1, by omega⟩
    unfold manystrandref07_of.l0
    rw [if_neg (by omega), List.drop_of_length_le (by omega)]
    rfl
  | succ n ih =>
    intro i k m hi hk
    obtain ⟨k, rfl⟩ : ∃ j, k = j + 1 := ⟨k - 1, by omega⟩
    have hlt : i < l.length := by omega
    have hx := hr _ (List.getElem_mem hlt)
    have w : IntKind.u64.wrap l[i] = l[i] := by
      obtain ⟨a, ha⟩ : ∃ a : Nat, l[i] = (a : Int) := ⟨l[i].toNat, by omega⟩
      rw [ha]
      exact wrap_u a (by omega)
    unfold manystrandref07_of.l0
    rw [if_pos (by omega), if_pos (by omega), rd_at hlt, w, if_pos hx.1, wrap_next i (by omega), ih (i + 1) k _ (by omega) (by omega), List.drop_eq_getElem_cons hlt]
    rfl
theorem of_f {l : List Int} (hl : l.length ≤ 1000) (hc : chk none l = true) {k : Nat} (hk : 1000 < k) : manystrandref07_of.f k l = some (ofL l) :=
  of_from l hl (chk_rng none l hc) l.length 0 k 0 (by omega) (by omega)
theorem inR_f {f : S37} (h0 : f.f0.length ≤ 1000) (h1 : f.f1.length ≤ 1000) (hv : vl f = true) {k : Nat} (hk : 1000 < k) : manystrandref07_in.f k f.f0 f.f1 f.f2 f.f3 = some ((opn f).f0, (opn f).f1, (opn f).f2, (opn f).f3, false) := by
  obtain ⟨c0, c1, _⟩ := vl_facts hv
  unfold manystrandref07_in.f
  rw [of_f h0 c0 hk, of_f h1 c1 hk, opn_eq hv]
  rfl
theorem outR_f {s : S59} (h : Ws s) (b : Bool) {k : Nat} (hk : 64 < k) : manystrandref07_out.f k s.f0 s.f1 s.f2 s.f3 b = some ((clo s).f0, (clo s).f1, (clo s).f2, (clo s).f3) := by
  obtain ⟨x, hx, hx'⟩ := wd_nat h.1
  obtain ⟨y, hy, hy'⟩ := wd_nat h.2
  unfold manystrandref07_out.f clo lsO
  rw [hx, hy, listR x hx' hk, listR y hy' hk]
  rfl
theorem same_self {f : S37} (h0 : f.f0.length ≤ 1000) (h1 : f.f1.length ≤ 1000) (hv : vl f = true) {k : Nat} (hk : 1000 < k) : famSameT.f k f.f0 f.f1 f.f2 f.f3 f.f0 f.f1 f.f2 f.f3 = some true := by
  obtain ⟨c0, c1, _⟩ := vl_facts hv
  unfold famSameT.f
  rw [validR_f h0 h1 hk, Option.bind_some, hv, if_pos rfl, Option.bind_some, if_pos rfl, of_f h0 c0 hk, Option.bind_some, Option.bind_some, if_pos rfl, of_f h1 c1 hk, Option.bind_some, Option.bind_some, if_pos rfl, if_pos rfl, beq_self_eq_true]
end Go.Proofs.Ytgfbgfbnmiainaa.Fam
/-! The program's Fix: what comes out, for any relations and families. -/
namespace Go.Proofs.Ytgfbgfbnmiainaa.Fam
set_option linter.unusedVariables false
set_option linter.unusedSimpArgs false
open Go.RowKit Go.Proofs.YtgfbgfbnmiainaaW.PrintWords Go.Proofs.YtgfbgfbnmiainaaW.PrintLast Go.Proofs.YtgfbgfbnmiainaaW.PrintMore Go.Proofs.Ytgfbgfbnmiainaa.Q
/-- A relation, by its kind and its variables. -/
def rlOf (q : Kn) (v : List Int) (N : Int) : Rl := match q with
  | .part => .part (rd v 0) (rd v 1)
  | .apart => .apart (rd v 0) (rd v 1)
  | .union => .union (rd v 0) (rd v 1) (rd v 2)
  | .meet => .meet (rd v 0) (rd v 1) (rd v 2)
  | .minus => .minus (rd v 0) (rd v 1) (rd v 2)
  | .has => .has (rd v 0) N
  | .lacks => .lacks (rd v 0) N
  | .size => .size (rd v 0) N
def rlR (r : S33) : Rl := match qOf r.f0.toList with
  | some q => rlOf q r.f1 r.f2
  | none => .lacks 0 0
theorem list1 {v : List Int} (h : v.length = 1) : v = [rd v 0] := by
  match v, h with
  | [a], _ => rfl
theorem list2 {v : List Int} (h : v.length = 2) : v = [rd v 0, rd v 1] := by
  match v, h with
  | [a, b], _ => rfl
theorem list3 {v : List Int} (h : v.length = 3) : v = [rd v 0, rd v 1, rd v 2] := by
  match v, h with
  | [a, b, c], _ => rfl
theorem valid_q {r : S33} {n : Nat} (h : validB r.f0 r.f1 n = true) : ∃ q : Kn, r.f0 = q.text ∧ r.f1.length = q.arity ∧ (∀ j : Nat, j < r.f1.length → 0 ≤ rd r.f1 (j : Int) ∧ rd r.f1 (j : Int) < n) ∧ rlR r = rlOf q r.f1 r.f2 := by
  obtain ⟨q, h1, h2, h3⟩ := valid_kn h
  refine ⟨q, h1, h2, h3, ?_⟩
  unfold rlR
  rw [h1, text_list]
theorem valid_rl {r : S33} {n : Nat} (h : validB r.f0 r.f1 n = true) : IsRl r (rlR r) ∧ (rlR r).inb n := by
  obtain ⟨q, h1, h2, h3, h4⟩ := valid_q h
  rw [h4]
  cases q
  case part | apart =>
    have e := list2 h2
    exact ⟨⟨h1, e⟩, h3 0 (by rw [h2]; decide), h3 1 (by rw [h2]; decide)⟩
  case union | meet | minus =>
    have e := list3 h2
    exact ⟨⟨h1, e⟩, h3 0 (by rw [h2]; decide), h3 1 (by rw [h2]; decide), h3 2 (by rw [h2]; decide)⟩
  case has | lacks | size =>
    have e := list1 h2
    exact ⟨⟨h1, e, rfl⟩, h3 0 (by rw [h2]; decide)⟩
theorem validF_k {r : S33} {n : Nat} (hl : r.f1.length ≤ 1000) {k : Nat} (hk : 1005 ≤ k) : family_ValidRel.f k r.f0 r.f1 r.f2 n = some (validB r.f0 r.f1 n) := by
  have h0 := validF r.f0 r.f1 r.f2 n hl
  have : ∀ m, family_ValidRel.f (r.f1.length + 5 + m) r.f0 r.f1 r.f2 n = some (validB r.f0 r.f1 n) := by
    intro m
    induction m with
    | zero => exact h0
    | succ m ih => exact family_ValidRel.mono _ _ _ _ _ _ ih
  have := this (k - (r.f1.length + 5))
  rwa [show r.f1.length + 5 + (k - (r.f1.length + 5)) = k by omega] at this
/-- Whether Fix takes its arguments. -/
def okB (rels : List S33) (l : List S37) : Bool := okr (fun i => validB (rd_T33 rels i).f0 (rd_T33 rels i).f1 l.length) (oks (fun i => (opn (rd_T37 l i), vl (rd_T37 l i))) (decide ((l.length : Int) ≤ 40) && decide ((rels.length : Int) ≤ 100)) l.length) rels.length
theorem okB_iff {rels : List S33} {l : List S37} : okB rels l = true ↔ (l.length ≤ 40 ∧ rels.length ≤ 100) ∧ (∀ i : Nat, i < l.length → vl (rd_T37 l i) = true) ∧ ∀ i : Nat, i < rels.length → validB (rd_T33 rels i).f0 (rd_T33 rels i).f1 l.length = true := by
  unfold okB okr oks
  rw [Bool.and_eq_true, Bool.and_eq_true, Bool.and_eq_true, decide_eq_true_iff, decide_eq_true_iff, List.all_eq_true, List.all_eq_true]
  constructor
  · rintro ⟨⟨⟨a, b⟩, c⟩, d⟩
    exact ⟨⟨by omega, by omega⟩, fun i hi => c i (List.mem_range.mpr hi), fun i hi => d i (List.mem_range.mpr hi)⟩
  · rintro ⟨⟨a, b⟩, c, d⟩
    exact ⟨⟨⟨by omega, by omega⟩, fun i hi => c i (List.mem_range.mp hi)⟩, fun i hi => d i (List.mem_range.mp hi)⟩
def xsOf (l : List S37) : List S59 := (List.range l.length).map fun j : Nat => opn (rd_T37 l j)
theorem rd_map {n : Nat} {f : Nat → S59} {i : Int} (h0 : 0 ≤ i) (h1 : i < n) : rd_T59 ((List.range n).map f) i = f i.toNat := by
  unfold rd_T59
  rw [List.getD_eq_getElem?_getD, List.getElem?_map, List.getElem?_range (by omega)]
  rfl
theorem rd_map37 {n : Nat} {f : Nat → S37} {i : Nat} (h1 : i < n) : rd_T37 ((List.range n).map f) i = f i := by
  unfold rd_T37
  rw [Int.toNat_natCast, List.getD_eq_getElem?_getD, List.getElem?_map, List.getElem?_range h1]
  rfl
theorem rd_xsOf {l : List S37} {i : Int} (h0 : 0 ≤ i) (h1 : i < l.length) : rd_T59 (xsOf l) i = opn (rd_T37 l i) := by
  unfold xsOf
  rw [rd_map h0 h1, Int.toNat_of_nonneg h0]
theorem xsOf_rg {l : List S37} (h : ∀ i : Nat, i < l.length → vl (rd_T37 l i) = true) : ARg l.length (xsOf l) := by
  refine ⟨by simp [xsOf], fun i h0 h1 => ?_⟩
  rw [rd_xsOf h0 h1]
  have := h i.toNat (by omega)
  rw [Int.toNat_of_nonneg h0] at this
  exact opn_rg this
def qsOf (rels : List S33) (i : Nat) : Rl := rlR (rd_T33 rels i)
/-- What comes out of Fix. -/
def FixOut (rels : List S33) (l : List S37) (out : List S37) (code : Int) : Prop :=
  (okB rels l = false ∧ out = [] ∧ code = 2) ∨
  (okB rels l = true ∧ out = [] ∧ code = 60 ∧ ∀ P, Cl l.length (qsOf rels) rels.length P → ¬ LE l.length (xsOf l) P) ∨
  (okB rels l = true ∧ code = 0 ∧ ∃ X, Cl l.length (qsOf rels) rels.length X ∧ LE l.length (xsOf l) X ∧ (∀ P, Cl l.length (qsOf rels) rels.length P → LE l.length (xsOf l) P → LE l.length X P) ∧ out = (List.range l.length).map fun i : Nat => clo (rd_T59 X i))
def FixCalls (rels : List S33) (l : List S37) (out : List S37) (code : Int) : Prop := ∀ (A0 : Option Addr) (c0 : Nat) (A1 : Option Addr) (c1 : Nat) (w : World), Kd.C k33 w A0 rels.length rels → rels.length ≤ c0 → Kd.C k37 w A1 l.length l → l.length ≤ c1 →
  Calls Try.prog 11 #[.slice A0 rels.length c0, .slice A1 l.length c1] w fun e w' => ∃ v, e = .returned (.tuple #[v, .int .i64 code]) ∧ Kd.R k37 37 w' w.heap.size (fun _ => True) v out ∧ Below w.heap.size w w'
theorem fix_all (rels : List S33) (l : List S37) (hn : l.length ≤ 1000) (hr : rels.length ≤ 1000) (hl : ∀ i : Nat, i < l.length → (rd_T37 l i).f0.length ≤ 1000 ∧ (rd_T37 l i).f1.length ≤ 1000) (hv : ∀ i : Nat, i < rels.length → (rd_T33 rels i).f1.length ≤ 1000) :
    ∃ out code, FixOut rels l out code ∧ FixCalls rels l out code := by
  have hop : ∀ i : Nat, i < l.length → openF 2000 (rd_T37 l i) = some ((fun i : Nat => (opn (rd_T37 l i), vl (rd_T37 l i))) i) := fun i hi => openF_eq (hl i hi).1 (hl i hi).2 (by decide)
  have hvr : ∀ i : Nat, i < rels.length → family_ValidRel.f 2000 (rd_T33 rels i).f0 (rd_T33 rels i).f1 (rd_T33 rels i).f2 l.length = some ((fun i : Nat => validB (rd_T33 rels i).f0 (rd_T33 rels i).f1 l.length) i) := fun i hi => validF_k (hv i hi) (by decide)
  cases hb : okB rels l with
  | false =>
    refine ⟨[], 2, .inl ⟨hb, rfl, rfl⟩, fun A0 c0 A1 c1 w h0 h1 h2 h3 => ?_⟩
    exact fix_walk 2000 _ A0 c0 rels A1 c1 l w h0 h1 h2 h3 hop (by omega) _ hvr (by omega) false ⟨hb⟩ [] 2 ⟨fun h => by cases h⟩ ⟨fun _ => ⟨rfl, rfl⟩⟩
  | true =>
    obtain ⟨_, hvl, hvb⟩ := okB_iff.mp hb
    have hx := xsOf_rg hvl
    have hq : ∀ j, j < rels.length → (qsOf rels j).inb l.length := fun j hj => (valid_rl (hvb j hj)).2
    obtain ⟨t0, u, m0, h1, h2, h3, h4⟩ := fix_run (k := 2000) (by decide) (qsOf rels) rels.length hq hx
    have hR : RelsAre rels (qsOf rels) l.length := fun i hi => valid_rl (hvb i hi)
    cases hu : u.fail with
    | true =>
      refine ⟨[], 60, .inr (.inl ⟨hb, rfl, rfl, fun P hP hle => ?_⟩), fun A0 c0 A1 c1 w g0 g1 g2 g3 => ?_⟩
      · have := (h4 P hP hle).1
        rw [hu] at this
        cases this
      · exact fix_walk 2000 _ A0 c0 rels A1 c1 l w g0 g1 g2 g3 hop (by omega) _ hvr (by omega) true ⟨hb⟩ [] 60 ⟨fun _ => ⟨qsOf rels, t0, u, m0, hR, h1, h2, fun _ => ⟨rfl, rfl⟩, fun h => absurd (hu.symm.trans h) (by simp)⟩⟩ ⟨fun h => by cases h⟩
    | false =>
      obtain ⟨h5, h6⟩ := h3 hu
      refine ⟨(List.range l.length).map fun i : Nat => clo (rd_T59 u.xs i), 0, .inr (.inr ⟨hb, rfl, u.xs, h6, h5, fun P hP hle => (h4 P hP hle).2, rfl⟩), fun A0 c0 A1 c1 w g0 g1 g2 g3 => ?_⟩
      exact fix_walk 2000 _ A0 c0 rels A1 c1 l w g0 g1 g2 g3 hop (by omega) _ hvr (by omega) true ⟨hb⟩ _ 0 ⟨fun _ => ⟨qsOf rels, t0, u, m0, hR, h1, h2, fun h => absurd (hu.symm.trans h) (by simp), fun _ => ⟨rfl, fun i : Nat => clo (rd_T59 u.xs i), fun i hi => closeF_eq (h6.nm.rg.2 (i : Int) (by omega) (by omega)).wf (by decide), rfl⟩⟩⟩ ⟨fun h => by cases h⟩
end Go.Proofs.Ytgfbgfbnmiainaa.Fam
/-! Which relations are valid: the reference's function. -/
namespace Go.Proofs.Ytgfbgfbnmiainaa.Fam
set_option linter.unusedVariables false
set_option linter.unusedSimpArgs false
open Go.RowKit Go.Proofs.YtgfbgfbnmiainaaW.PrintWords Go.Proofs.YtgfbgfbnmiainaaW.PrintLast Go.Proofs.YtgfbgfbnmiainaaW.PrintMore Go.Proofs.Ytgfbgfbnmiainaa.Q
theorem validR_from (kind : ByteArray) (vars : List Int) (n0 N ar : Int) (hl : vars.length ≤ 1000) : ∀ n i k, i + n = vars.length → n < k → manystrandref07_ValidRel.l0 k N ar (i : Int) kind vars n0 = some (inRg (vars.drop i) N && decide ((vars.length : Int) = ar) && decide (N ≤ 40)) := by
  intro n
  induction n with
  | zero =>
    intro i k hi hk
    obtain ⟨k, rfl⟩ : ∃ m, k = m + 1 := ⟨k - 1, by omega⟩
    unfold manystrandref07_ValidRel.l0
    rw [if_neg (by omega), List.drop_eq_nil_of_le (by omega)]
    by_cases h : (vars.length : Int) = ar
    · rw [if_pos h, decide_eq_true h]; rfl
    · rw [if_neg h, decide_eq_false h]; rfl
  | succ n ih =>
    intro i k hi hk
    obtain ⟨k, rfl⟩ : ∃ m, k = m + 1 := ⟨k - 1, by omega⟩
    have hlt : i < vars.length := by omega
    unfold manystrandref07_ValidRel.l0
    rw [if_pos (by omega), if_pos (by omega), rd_at hlt, drop_at hlt, wrap_next i (by omega), ih (i + 1) k (by omega) (by omega), inRg_cons]
    by_cases h1 : vars[i] < 0
    · rw [if_pos h1, decide_eq_false (show ¬ 0 ≤ vars[i] by omega)]; rfl
    · rw [if_neg h1, decide_eq_true (show 0 ≤ vars[i] by omega)]
      by_cases h2 : vars[i] ≥ N
      · rw [if_pos h2, decide_eq_false (show ¬ vars[i] < N by omega)]; rfl
      · rw [if_neg h2, decide_eq_true (show vars[i] < N by omega)]; rfl
theorem validR (kind : ByteArray) (vars : List Int) (n : Int) (N : Nat) (hl : vars.length ≤ 1000) : manystrandref07_ValidRel.f (vars.length + 5) kind vars n N = some (validB kind vars N) := by
  have key : ∀ q : Kn, ∀ k, vars.length < k → manystrandref07_ValidRel.l0 k N q.arity 0 kind vars n = some (inRg vars N && decide (vars.length = q.arity) && decide (N ≤ 40)) := by
    intro q k hk
    have h := validR_from kind vars n N q.arity hl vars.length 0 k (by omega) hk
    rw [List.drop_zero] at h
    have e1 : decide ((vars.length : Int) = (q.arity : Int)) = decide (vars.length = q.arity) := decide_eq_decide.2 (by omega)
    have e2 : decide ((N : Int) ≤ 40) = decide (N ≤ 40) := decide_eq_decide.2 (by omega)
    rw [e1, e2] at h
    exact h
  unfold validB
  generalize hs : kind.toList = s
  by_cases h1 : s = [112, 97, 114, 116]
  · subst h1
    show _ = some (inRg vars N && decide (vars.length = Kn.part.arity) && decide (N ≤ 40))
    rw [← key .part (vars.length + 3) (by omega)]
    simp [manystrandref07_ValidRel.f, manystrandref07_ValidRel.j0, manystrandref07_ValidRel.j1, manystrandref07_ValidRel.j2, hs, Kn.arity]
  by_cases h2 : s = [97, 112, 97, 114, 116]
  · subst h2
    show _ = some (inRg vars N && decide (vars.length = Kn.apart.arity) && decide (N ≤ 40))
    rw [← key .apart (vars.length + 3) (by omega)]
    simp [manystrandref07_ValidRel.f, manystrandref07_ValidRel.j0, manystrandref07_ValidRel.j1, manystrandref07_ValidRel.j2, hs, Kn.arity]
  by_cases h3 : s = [117, 110, 105, 111, 110]
  · subst h3
    show _ = some (inRg vars N && decide (vars.length = Kn.union.arity) && decide (N ≤ 40))
    rw [← key .union (vars.length + 2) (by omega)]
    simp [manystrandref07_ValidRel.f, manystrandref07_ValidRel.j0, manystrandref07_ValidRel.j1, manystrandref07_ValidRel.j2, hs, Kn.arity]
  by_cases h4 : s = [109, 101, 101, 116]
  · subst h4
    show _ = some (inRg vars N && decide (vars.length = Kn.meet.arity) && decide (N ≤ 40))
    rw [← key .meet (vars.length + 2) (by omega)]
    simp [manystrandref07_ValidRel.f, manystrandref07_ValidRel.j0, manystrandref07_ValidRel.j1, manystrandref07_ValidRel.j2, hs, Kn.arity]
  by_cases h5 : s = [109, 105, 110, 117, 115]
  · subst h5
    show _ = some (inRg vars N && decide (vars.length = Kn.minus.arity) && decide (N ≤ 40))
    rw [← key .minus (vars.length + 2) (by omega)]
    simp [manystrandref07_ValidRel.f, manystrandref07_ValidRel.j0, manystrandref07_ValidRel.j1, manystrandref07_ValidRel.j2, hs, Kn.arity]
  by_cases h6 : s = [104, 97, 115]
  · subst h6
    show _ = some (inRg vars N && decide (vars.length = Kn.has.arity) && decide (N ≤ 40))
    rw [← key .has (vars.length + 2) (by omega)]
    simp [manystrandref07_ValidRel.f, manystrandref07_ValidRel.j0, manystrandref07_ValidRel.j1, manystrandref07_ValidRel.j2, hs, Kn.arity]
  by_cases h7 : s = [108, 97, 99, 107, 115]
  · subst h7
    show _ = some (inRg vars N && decide (vars.length = Kn.lacks.arity) && decide (N ≤ 40))
    rw [← key .lacks (vars.length + 2) (by omega)]
    simp [manystrandref07_ValidRel.f, manystrandref07_ValidRel.j0, manystrandref07_ValidRel.j1, manystrandref07_ValidRel.j2, hs, Kn.arity]
  by_cases h8 : s = [115, 105, 122, 101]
  · subst h8
    show _ = some (inRg vars N && decide (vars.length = Kn.size.arity) && decide (N ≤ 40))
    rw [← key .size (vars.length + 2) (by omega)]
    simp [manystrandref07_ValidRel.f, manystrandref07_ValidRel.j0, manystrandref07_ValidRel.j1, manystrandref07_ValidRel.j2, hs, Kn.arity]
  simp [manystrandref07_ValidRel.f, manystrandref07_ValidRel.j0, manystrandref07_ValidRel.j1, manystrandref07_ValidRel.j2, qOf, hs, h1, h2, h3, h4, h5, h6, h7, h8]
theorem lean_f (x : S33) : manystrandlaw07_lean.f 3 [x] = some (decide (x.f1.length ≤ 10) && decide (x.f0.size ≤ 100)) := by
  unfold manystrandlaw07_lean.f manystrandlaw07_lean.l0
  rw [if_pos (by simp), if_pos (by decide), if_pos (by simp)]
  have hr : rd_T33 [x] 0 = x := rfl
  rw [hr]
  by_cases h1 : x.f1.length ≤ 10
  · rw [if_neg (by omega), decide_eq_true h1]
    by_cases h2 : x.f0.size ≤ 100
    · rw [if_neg (by omega), decide_eq_true h2]
      have hw : wrap64 (0 + 1) = 1 := by unfold wrap64; omega
      rw [hw]
      unfold manystrandlaw07_lean.l0
      rw [if_neg (by simp)]
      rfl
    · rw [if_pos (by omega), decide_eq_false h2]; rfl
  · rw [if_pos (by omega), decide_eq_false h1]; rfl
end Go.Proofs.Ytgfbgfbnmiainaa.Fam
/-! keep: what follows from a relation, once, in the reference: a kind of relation each. (Written by fam_keep.py.) -/
namespace Go.Proofs.Ytgfbgfbnmiainaa.Fam
set_option linter.unusedVariables false
set_option linter.unusedSimpArgs false
open Go.RowKit Go.Proofs.YtgfbgfbnmiainaaW.PrintWords Go.Proofs.YtgfbgfbnmiainaaW.PrintLast Go.Proofs.YtgfbgfbnmiainaaW.PrintMore Go.Proofs.Ytgfbgfbnmiainaa.Q
attribute [local go_sem] Go.Proofs.YtgfbgfbnmiainaaW.OwnWords.isSome_setCell max2_int min2_int max_three min_three
set_option maxHeartbeats 8000000 in
set_option maxRecDepth 100000 in
theorem keep_part (g n cap : Nat) (xs : List S68) (ab ao vc : Nat) (a b N : Int) (w0 w1 w : World) (la : 0 ≤ a) (ra : a < n) (lb : 0 ≤ b) (rb : b < n) (q0 : w.cell? ⟨ab, ao, none⟩ = some (.int .i64 a)) (q1 : w.cell? ⟨ab, ao + 1, none⟩ = some (.int .i64 b)) (hF : Kp w0 w1 w g n cap xs) :
    Calls Try.prog 42 #[.agg #[.string ⟨#[112, 97, 114, 116]⟩, .slice (some ⟨ab, ao, none⟩) 2 vc, .int .i64 N], .slice (some ⟨g, 0, none⟩) n cap] w (KpEnd w0 w1 g n cap (keep_part_ xs a b)) := by
  have HF := Aside0.mk hF
  have hlt : g < w.heap.size := Kd.R_lt hF.1 g (by simp [Value.ownBlock])
  have hne : g ≠ w.heap.size := by omega
  have hab2 : ab < w.heap.size := World.block_lt_of_cell? w _ q0
  have hab : ab ≠ w.heap.size := Nat.ne_of_lt hab2
  have hab1 : w.heap.size ≠ ab := fun e => hab e.symm
  have pa : decide (0 ≤ a) = true := decide_eq_true la
  have sa : decide (a < (n : Int)) = true := decide_eq_true ra
  have pb : decide (0 ≤ b) = true := decide_eq_true lb
  have sb : decide (b < (n : Int)) = true := decide_eq_true rb
  clear hF
  rcases Bool.eq_false_or_eq_true (decide (0 ≤ N)) with n0 | n0
  all_goals
    go_enter Try.func42, Try.ntmps42
    go_upto_region 10 with fail
    have HF1 := Aside0.mk (kp_alloc HF.out (.cells #[.string ⟨#[112, 97, 114, 116]⟩, .slice (some ⟨ab, ao, none⟩) 2 vc, .int .i64 N] 33))
    clear HF
    have HF := HF1
    clear HF1
    clear q0 q1 hab hab1 hab2 hne hlt
    obtain ⟨xs1, hx1⟩ : ∃ ys, ys = u0 xs b (Go.bits .or .u64 (rd_T68 xs b).f0 (rd_T68 xs a).f0) := ⟨_, rfl⟩
    have HX1 := Aside0.mk hx1
    clear hx1
    have eb0 := (kp_elem HF.out b lb rb).1
    have ea0 := (kp_elem HF.out a la ra).1
    have yw : World.frozen? _ ⟨g, b.toNat * 5, none⟩ = false := kp_warm HF.out b lb rb 0
    go_cut [] from 48 to 58 (fun wx => Kp w0 w1 wx g n cap xs1)
    case first =>
      refine QuietLast.wp_region_qlast (by kernel_rfl) (by kernel_rfl) ?_
      dsimp only [QuietLast.initL, QuietLast.lastL]
      repeat (go_big_quiet_step (fail))
      refine wpQuiet_nil ?_
      intro _ hw'
      obtain ⟨nq, hw''⟩ := hw'
      subst hw''
      go_wp2_with fail
      all_goals (go_meet; rw [HX1.out]; refine kp_cast ?_ (kp_u0 (kp_drewN HF.out _) b lb rb _); (first | rfl | (congr 1; (simp only [mn_def', mx_def']); repeat' split) <;> omega))
    case rest =>
    clear HF eb0 ea0 yw
    have HF := Aside0.mk hcut
    clear hcut
    go_upto_region 11 with fail
    obtain ⟨xs2, hx2⟩ : ∃ ys, ys = u1 xs1 a (Go.bits .and .u64 (rd_T68 xs1 a).f1 (rd_T68 xs1 b).f1) := ⟨_, rfl⟩
    have HX2 := Aside0.mk hx2
    clear hx2
    have ea1 := (kp_elem HF.out a la ra).2.1
    have eb1 := (kp_elem HF.out b lb rb).2.1
    have yw := kp_warm HF.out a la ra 1
    go_cut [] from 59 to 69 (fun wx => Kp w0 w1 wx g n cap xs2)
    case first =>
      refine QuietLast.wp_region_qlast (by kernel_rfl) (by kernel_rfl) ?_
      dsimp only [QuietLast.initL, QuietLast.lastL]
      repeat (go_big_quiet_step (fail))
      refine wpQuiet_nil ?_
      intro _ hw'
      obtain ⟨nq, hw''⟩ := hw'
      subst hw''
      go_wp2_with fail
      all_goals (go_meet; rw [HX2.out]; refine kp_cast ?_ (kp_u1 (kp_drewN HF.out _) a la ra _); (first | rfl | (congr 1; (simp only [mn_def', mx_def']); repeat' split) <;> omega))
    case rest =>
    clear HF ea1 eb1 yw
    have HF := Aside0.mk hcut
    clear hcut
    go_upto_region 12 with fail
    obtain ⟨xs3, hx3⟩ : ∃ ys, ys = u3 xs2 a (mn (rd_T68 xs2 a).f3 (rd_T68 xs2 b).f3) := ⟨_, rfl⟩
    have HX3 := Aside0.mk hx3
    clear hx3
    have ea3 := (kp_elem HF.out a la ra).2.2.2.1
    have eb3 := (kp_elem HF.out b lb rb).2.2.2.1
    have yw := kp_warm HF.out a la ra 3
    go_cut [] from 70 to 81 (fun wx => Kp w0 w1 wx g n cap xs3)
    case first =>
      refine QuietLast.wp_region_qlast (by kernel_rfl) (by kernel_rfl) ?_
      dsimp only [QuietLast.initL, QuietLast.lastL]
      repeat (go_big_quiet_step (fail))
      refine wpQuiet_nil ?_
      intro _ hw'
      obtain ⟨nq, hw''⟩ := hw'
      subst hw''
      go_wp2_with fail
      all_goals (go_meet; rw [HX3.out]; refine kp_cast ?_ (kp_u3 (kp_drewN HF.out _) a la ra _); (first | rfl | (congr 1; (simp only [mn_def', mx_def']); repeat' split) <;> omega))
    case rest =>
    clear HF ea3 eb3 yw
    have HF := Aside0.mk hcut
    clear hcut
    go_upto_region 13 with fail
    obtain ⟨xs4, hx4⟩ : ∃ ys, ys = u2 xs3 b (mx (rd_T68 xs3 b).f2 (rd_T68 xs3 a).f2) := ⟨_, rfl⟩
    have HX4 := Aside0.mk hx4
    clear hx4
    have eb2 := (kp_elem HF.out b lb rb).2.2.1
    have ea2 := (kp_elem HF.out a la ra).2.2.1
    have yw := kp_warm HF.out b lb rb 2
    refine QuietLast.wp_region_qlast (by kernel_rfl) (by kernel_rfl) ?_
    dsimp only [QuietLast.initL, QuietLast.lastL]
    repeat (go_big_quiet_step (fail))
    refine wpQuiet_nil ?_
    intro _ hw'
    obtain ⟨nq, hw''⟩ := hw'
    subst hw''
    go_wp2_with fail
    all_goals
      (first | skip | (try simp only [Exit.inBlock, Exit.then]))
      first
        | refine ⟨rfl, kp_cast ?_ (kp_u2 (kp_drewN HF.out _) b lb rb _)⟩
        | (go_end0; refine ⟨rfl, kp_cast ?_ (kp_u2 (kp_drewN HF.out _) b lb rb _)⟩)
        | ((try simp only [Exit.inBlock, Exit.then]); refine bodyPost_ret (results_none rfl _ _ _) rfl ?_; refine ⟨rfl, kp_cast ?_ (kp_u2 (kp_drewN HF.out _) b lb rb _)⟩)
    all_goals first | (unfold keep_part_; dsimp only; rw [← HX1.out, ← HX2.out, ← HX3.out]; done) | (unfold keep_part_; dsimp only; rw [← HX1.out, ← HX2.out, ← HX3.out]; (first | rfl | (congr 1; (simp only [mn_def', mx_def']); repeat' split) <;> omega))
set_option maxHeartbeats 8000000 in
set_option maxRecDepth 100000 in
theorem keep_apart (g n cap : Nat) (xs : List S68) (ab ao vc : Nat) (a b N : Int) (w0 w1 w : World) (la : 0 ≤ a) (ra : a < n) (lb : 0 ≤ b) (rb : b < n) (q0 : w.cell? ⟨ab, ao, none⟩ = some (.int .i64 a)) (q1 : w.cell? ⟨ab, ao + 1, none⟩ = some (.int .i64 b)) (hF : Kp w0 w1 w g n cap xs) :
    Calls Try.prog 42 #[.agg #[.string ⟨#[97, 112, 97, 114, 116]⟩, .slice (some ⟨ab, ao, none⟩) 2 vc, .int .i64 N], .slice (some ⟨g, 0, none⟩) n cap] w (KpEnd w0 w1 g n cap (keep_apart_ xs a b)) := by
  have HF := Aside0.mk hF
  have hlt : g < w.heap.size := Kd.R_lt hF.1 g (by simp [Value.ownBlock])
  have hne : g ≠ w.heap.size := by omega
  have hab2 : ab < w.heap.size := World.block_lt_of_cell? w _ q0
  have hab : ab ≠ w.heap.size := Nat.ne_of_lt hab2
  have hab1 : w.heap.size ≠ ab := fun e => hab e.symm
  have pa : decide (0 ≤ a) = true := decide_eq_true la
  have sa : decide (a < (n : Int)) = true := decide_eq_true ra
  have pb : decide (0 ≤ b) = true := decide_eq_true lb
  have sb : decide (b < (n : Int)) = true := decide_eq_true rb
  clear hF
  rcases Bool.eq_false_or_eq_true (decide (0 ≤ N)) with n0 | n0
  all_goals
    go_enter Try.func42, Try.ntmps42
    go_upto_region 15 with fail
    have HF1 := Aside0.mk (kp_alloc HF.out (.cells #[.string ⟨#[97, 112, 97, 114, 116]⟩, .slice (some ⟨ab, ao, none⟩) 2 vc, .int .i64 N] 33))
    clear HF
    have HF := HF1
    clear HF1
    clear q0 q1 hab hab1 hab2 hne hlt
    obtain ⟨xs1, hx1⟩ : ∃ ys, ys = u1 xs b (Go.bits .andNot .u64 (rd_T68 xs b).f1 (rd_T68 xs a).f0) := ⟨_, rfl⟩
    have HX1 := Aside0.mk hx1
    clear hx1
    have eb1 := (kp_elem HF.out b lb rb).2.1
    have ea0 := (kp_elem HF.out a la ra).1
    have yw := kp_warm HF.out b lb rb 1
    go_cut [] from 96 to 106 (fun wx => Kp w0 w1 wx g n cap xs1)
    case first =>
      refine QuietLast.wp_region_qlast (by kernel_rfl) (by kernel_rfl) ?_
      dsimp only [QuietLast.initL, QuietLast.lastL]
      repeat (go_big_quiet_step (fail))
      refine wpQuiet_nil ?_
      intro _ hw'
      obtain ⟨nq, hw''⟩ := hw'
      subst hw''
      go_wp2_with fail
      all_goals (go_meet; rw [HX1.out]; refine kp_cast ?_ (kp_u1 (kp_drewN HF.out _) b lb rb _); (first | rfl | (congr 1; (simp only [mn_def', mx_def']); repeat' split) <;> omega))
    case rest =>
    clear HF eb1 ea0 yw
    have HF := Aside0.mk hcut
    clear hcut
    go_upto_region 16 with fail
    obtain ⟨xs2, hx2⟩ : ∃ ys, ys = u1 xs1 a (Go.bits .andNot .u64 (rd_T68 xs1 a).f1 (rd_T68 xs1 b).f0) := ⟨_, rfl⟩
    have HX2 := Aside0.mk hx2
    clear hx2
    have ea1 := (kp_elem HF.out a la ra).2.1
    have eb0 := (kp_elem HF.out b lb rb).1
    have yw := kp_warm HF.out a la ra 1
    refine QuietLast.wp_region_qlast (by kernel_rfl) (by kernel_rfl) ?_
    dsimp only [QuietLast.initL, QuietLast.lastL]
    repeat (go_big_quiet_step (fail))
    refine wpQuiet_nil ?_
    intro _ hw'
    obtain ⟨nq, hw''⟩ := hw'
    subst hw''
    go_wp2_with fail
    all_goals
      (first | skip | (try simp only [Exit.inBlock, Exit.then]))
      first
        | refine ⟨rfl, kp_cast ?_ (kp_u1 (kp_drewN HF.out _) a la ra _)⟩
        | (go_end0; refine ⟨rfl, kp_cast ?_ (kp_u1 (kp_drewN HF.out _) a la ra _)⟩)
        | ((try simp only [Exit.inBlock, Exit.then]); refine bodyPost_ret (results_none rfl _ _ _) rfl ?_; refine ⟨rfl, kp_cast ?_ (kp_u1 (kp_drewN HF.out _) a la ra _)⟩)
    all_goals first | (unfold keep_apart_; dsimp only; rw [← HX1.out]; done) | (unfold keep_apart_; dsimp only; rw [← HX1.out]; (first | rfl | (congr 1; (simp only [mn_def', mx_def']); repeat' split) <;> omega))
set_option maxHeartbeats 8000000 in
set_option maxRecDepth 100000 in
theorem keep_union (g n cap : Nat) (xs : List S68) (ab ao vc : Nat) (a b c N : Int) (w0 w1 w : World) (la : 0 ≤ a) (ra : a < n) (lb : 0 ≤ b) (rb : b < n) (lc : 0 ≤ c) (rc : c < n) (q0 : w.cell? ⟨ab, ao, none⟩ = some (.int .i64 a)) (q1 : w.cell? ⟨ab, ao + 1, none⟩ = some (.int .i64 b)) (q2 : w.cell? ⟨ab, ao + 2, none⟩ = some (.int .i64 c)) (hF : Kp w0 w1 w g n cap xs) :
    Calls Try.prog 42 #[.agg #[.string ⟨#[117, 110, 105, 111, 110]⟩, .slice (some ⟨ab, ao, none⟩) 3 vc, .int .i64 N], .slice (some ⟨g, 0, none⟩) n cap] w (KpEnd w0 w1 g n cap (keep_union_ xs a b c)) := by
  have HF := Aside0.mk hF
  have hlt : g < w.heap.size := Kd.R_lt hF.1 g (by simp [Value.ownBlock])
  have hne : g ≠ w.heap.size := by omega
  have hab2 : ab < w.heap.size := World.block_lt_of_cell? w _ q0
  have hab : ab ≠ w.heap.size := Nat.ne_of_lt hab2
  have hab1 : w.heap.size ≠ ab := fun e => hab e.symm
  have pa : decide (0 ≤ a) = true := decide_eq_true la
  have sa : decide (a < (n : Int)) = true := decide_eq_true ra
  have pb : decide (0 ≤ b) = true := decide_eq_true lb
  have sb : decide (b < (n : Int)) = true := decide_eq_true rb
  have pc : decide (0 ≤ c) = true := decide_eq_true lc
  have sc : decide (c < (n : Int)) = true := decide_eq_true rc
  clear hF
  rcases Bool.eq_false_or_eq_true (decide (0 ≤ N)) with n0 | n0
  all_goals
    go_enter Try.func42, Try.ntmps42
    go_upto_region 18 with fail
    have HF1 := Aside0.mk (kp_alloc HF.out (.cells #[.string ⟨#[117, 110, 105, 111, 110]⟩, .slice (some ⟨ab, ao, none⟩) 3 vc, .int .i64 N] 33))
    clear HF
    have HF := HF1
    clear HF1
    clear q0 q1 q2 hab hab1 hab2 hne hlt
    obtain ⟨xs1, hx1⟩ : ∃ ys, ys = u0 xs c (Go.bits .or .u64 (rd_T68 xs c).f0 (Go.bits .or .u64 (rd_T68 xs a).f0 (rd_T68 xs b).f0)) := ⟨_, rfl⟩
    have HX1 := Aside0.mk hx1
    clear hx1
    have ec0 := (kp_elem HF.out c lc rc).1
    have ea0 := (kp_elem HF.out a la ra).1
    have eb0 := (kp_elem HF.out b lb rb).1
    have yw : World.frozen? _ ⟨g, c.toNat * 5, none⟩ = false := kp_warm HF.out c lc rc 0
    go_cut [] from 120 to 135 (fun wx => Kp w0 w1 wx g n cap xs1)
    case first =>
      refine QuietLast.wp_region_qlast (by kernel_rfl) (by kernel_rfl) ?_
      dsimp only [QuietLast.initL, QuietLast.lastL]
      repeat (go_big_quiet_step (fail))
      refine wpQuiet_nil ?_
      intro _ hw'
      obtain ⟨nq, hw''⟩ := hw'
      subst hw''
      go_wp2_with fail
      all_goals (go_meet; rw [HX1.out]; refine kp_cast ?_ (kp_u0 (kp_drewN HF.out _) c lc rc _); (first | rfl | (congr 1; (simp only [mn_def', mx_def']); repeat' split) <;> omega))
    case rest =>
    clear HF ec0 ea0 eb0 yw
    have HF := Aside0.mk hcut
    clear hcut
    go_upto_region 19 with fail
    obtain ⟨xs2, hx2⟩ : ∃ ys, ys = u1 xs1 a (Go.bits .and .u64 (rd_T68 xs1 a).f1 (rd_T68 xs1 c).f1) := ⟨_, rfl⟩
    have HX2 := Aside0.mk hx2
    clear hx2
    have ea1 := (kp_elem HF.out a la ra).2.1
    have ec1 := (kp_elem HF.out c lc rc).2.1
    have yw := kp_warm HF.out a la ra 1
    go_cut [] from 136 to 146 (fun wx => Kp w0 w1 wx g n cap xs2)
    case first =>
      refine QuietLast.wp_region_qlast (by kernel_rfl) (by kernel_rfl) ?_
      dsimp only [QuietLast.initL, QuietLast.lastL]
      repeat (go_big_quiet_step (fail))
      refine wpQuiet_nil ?_
      intro _ hw'
      obtain ⟨nq, hw''⟩ := hw'
      subst hw''
      go_wp2_with fail
      all_goals (go_meet; rw [HX2.out]; refine kp_cast ?_ (kp_u1 (kp_drewN HF.out _) a la ra _); (first | rfl | (congr 1; (simp only [mn_def', mx_def']); repeat' split) <;> omega))
    case rest =>
    clear HF ea1 ec1 yw
    have HF := Aside0.mk hcut
    clear hcut
    go_upto_region 20 with fail
    obtain ⟨xs3, hx3⟩ : ∃ ys, ys = u1 xs2 b (Go.bits .and .u64 (rd_T68 xs2 b).f1 (rd_T68 xs2 c).f1) := ⟨_, rfl⟩
    have HX3 := Aside0.mk hx3
    clear hx3
    have eb1 := (kp_elem HF.out b lb rb).2.1
    have ec1 := (kp_elem HF.out c lc rc).2.1
    have yw := kp_warm HF.out b lb rb 1
    go_cut [] from 147 to 157 (fun wx => Kp w0 w1 wx g n cap xs3)
    case first =>
      refine QuietLast.wp_region_qlast (by kernel_rfl) (by kernel_rfl) ?_
      dsimp only [QuietLast.initL, QuietLast.lastL]
      repeat (go_big_quiet_step (fail))
      refine wpQuiet_nil ?_
      intro _ hw'
      obtain ⟨nq, hw''⟩ := hw'
      subst hw''
      go_wp2_with fail
      all_goals (go_meet; rw [HX3.out]; refine kp_cast ?_ (kp_u1 (kp_drewN HF.out _) b lb rb _); (first | rfl | (congr 1; (simp only [mn_def', mx_def']); repeat' split) <;> omega))
    case rest =>
    clear HF eb1 ec1 yw
    have HF := Aside0.mk hcut
    clear hcut
    go_upto_region 21 with fail
    obtain ⟨xs4, hx4⟩ : ∃ ys, ys = u1 xs3 c (Go.bits .and .u64 (rd_T68 xs3 c).f1 (Go.bits .or .u64 (rd_T68 xs3 a).f1 (rd_T68 xs3 b).f1)) := ⟨_, rfl⟩
    have HX4 := Aside0.mk hx4
    clear hx4
    have ec1 := (kp_elem HF.out c lc rc).2.1
    have ea1 := (kp_elem HF.out a la ra).2.1
    have eb1 := (kp_elem HF.out b lb rb).2.1
    have yw := kp_warm HF.out c lc rc 1
    go_cut [] from 158 to 173 (fun wx => Kp w0 w1 wx g n cap xs4)
    case first =>
      refine QuietLast.wp_region_qlast (by kernel_rfl) (by kernel_rfl) ?_
      dsimp only [QuietLast.initL, QuietLast.lastL]
      repeat (go_big_quiet_step (fail))
      refine wpQuiet_nil ?_
      intro _ hw'
      obtain ⟨nq, hw''⟩ := hw'
      subst hw''
      go_wp2_with fail
      all_goals (go_meet; rw [HX4.out]; refine kp_cast ?_ (kp_u1 (kp_drewN HF.out _) c lc rc _); (first | rfl | (congr 1; (simp only [mn_def', mx_def']); repeat' split) <;> omega))
    case rest =>
    clear HF ec1 ea1 eb1 yw
    have HF := Aside0.mk hcut
    clear hcut
    go_upto_region 22 with fail
    obtain ⟨xs5, hx5⟩ : ∃ ys, ys = u0 xs4 b (Go.bits .or .u64 (rd_T68 xs4 b).f0 (Go.bits .andNot .u64 (rd_T68 xs4 c).f0 (rd_T68 xs4 a).f1)) := ⟨_, rfl⟩
    have HX5 := Aside0.mk hx5
    clear hx5
    have eb0 := (kp_elem HF.out b lb rb).1
    have ec0 := (kp_elem HF.out c lc rc).1
    have ea1 := (kp_elem HF.out a la ra).2.1
    have yw : World.frozen? _ ⟨g, b.toNat * 5, none⟩ = false := kp_warm HF.out b lb rb 0
    go_cut [] from 174 to 189 (fun wx => Kp w0 w1 wx g n cap xs5)
    case first =>
      refine QuietLast.wp_region_qlast (by kernel_rfl) (by kernel_rfl) ?_
      dsimp only [QuietLast.initL, QuietLast.lastL]
      repeat (go_big_quiet_step (fail))
      refine wpQuiet_nil ?_
      intro _ hw'
      obtain ⟨nq, hw''⟩ := hw'
      subst hw''
      go_wp2_with fail
      all_goals (go_meet; rw [HX5.out]; refine kp_cast ?_ (kp_u0 (kp_drewN HF.out _) b lb rb _); (first | rfl | (congr 1; (simp only [mn_def', mx_def']); repeat' split) <;> omega))
    case rest =>
    clear HF eb0 ec0 ea1 yw
    have HF := Aside0.mk hcut
    clear hcut
    go_upto_region 23 with fail
    obtain ⟨xs6, hx6⟩ : ∃ ys, ys = u0 xs5 a (Go.bits .or .u64 (rd_T68 xs5 a).f0 (Go.bits .andNot .u64 (rd_T68 xs5 c).f0 (rd_T68 xs5 b).f1)) := ⟨_, rfl⟩
    have HX6 := Aside0.mk hx6
    clear hx6
    have ea0 := (kp_elem HF.out a la ra).1
    have ec0 := (kp_elem HF.out c lc rc).1
    have eb1 := (kp_elem HF.out b lb rb).2.1
    have yw : World.frozen? _ ⟨g, a.toNat * 5, none⟩ = false := kp_warm HF.out a la ra 0
    go_cut [] from 190 to 205 (fun wx => Kp w0 w1 wx g n cap xs6)
    case first =>
      refine QuietLast.wp_region_qlast (by kernel_rfl) (by kernel_rfl) ?_
      dsimp only [QuietLast.initL, QuietLast.lastL]
      repeat (go_big_quiet_step (fail))
      refine wpQuiet_nil ?_
      intro _ hw'
      obtain ⟨nq, hw''⟩ := hw'
      subst hw''
      go_wp2_with fail
      all_goals (go_meet; rw [HX6.out]; refine kp_cast ?_ (kp_u0 (kp_drewN HF.out _) a la ra _); (first | rfl | (congr 1; (simp only [mn_def', mx_def']); repeat' split) <;> omega))
    case rest =>
    clear HF ea0 ec0 eb1 yw
    have HF := Aside0.mk hcut
    clear hcut
    go_upto_region 24 with fail
    obtain ⟨xs7, hx7⟩ : ∃ ys, ys = u3 xs6 c (mn (rd_T68 xs6 c).f3 (wrap64 ((rd_T68 xs6 a).f3 + (rd_T68 xs6 b).f3))) := ⟨_, rfl⟩
    have HX7 := Aside0.mk hx7
    clear hx7
    have ec3 := (kp_elem HF.out c lc rc).2.2.2.1
    have ea3 := (kp_elem HF.out a la ra).2.2.2.1
    have eb3 := (kp_elem HF.out b lb rb).2.2.2.1
    have yw := kp_warm HF.out c lc rc 3
    go_cut [] from 206 to 222 (fun wx => Kp w0 w1 wx g n cap xs7)
    case first =>
      refine QuietLast.wp_region_qlast (by kernel_rfl) (by kernel_rfl) ?_
      dsimp only [QuietLast.initL, QuietLast.lastL]
      repeat (go_big_quiet_step (fail))
      refine wpQuiet_nil ?_
      intro _ hw'
      obtain ⟨nq, hw''⟩ := hw'
      subst hw''
      go_wp2_with fail
      all_goals (go_meet; rw [HX7.out]; refine kp_cast ?_ (kp_u3 (kp_drewN HF.out _) c lc rc _); (first | rfl | (congr 1; (simp only [mn_def', mx_def']); repeat' split) <;> omega))
    case rest =>
    clear HF ec3 ea3 eb3 yw
    have HF := Aside0.mk hcut
    clear hcut
    go_upto_region 25 with fail
    obtain ⟨xs8, hx8⟩ : ∃ ys, ys = u2 xs7 c (mx (mx (rd_T68 xs7 c).f2 (rd_T68 xs7 a).f2) (rd_T68 xs7 b).f2) := ⟨_, rfl⟩
    have HX8 := Aside0.mk hx8
    clear hx8
    have ec2 := (kp_elem HF.out c lc rc).2.2.1
    have ea2 := (kp_elem HF.out a la ra).2.2.1
    have eb2 := (kp_elem HF.out b lb rb).2.2.1
    have yw := kp_warm HF.out c lc rc 2
    refine QuietLast.wp_region_qlast (by kernel_rfl) (by kernel_rfl) ?_
    dsimp only [QuietLast.initL, QuietLast.lastL]
    repeat (go_big_quiet_step (fail))
    refine wpQuiet_nil ?_
    intro _ hw'
    obtain ⟨nq, hw''⟩ := hw'
    subst hw''
    go_wp2_with fail
    all_goals
      (first | skip | (try simp only [Exit.inBlock, Exit.then]))
      first
        | refine ⟨rfl, kp_cast ?_ (kp_u2 (kp_drewN HF.out _) c lc rc _)⟩
        | (go_end0; refine ⟨rfl, kp_cast ?_ (kp_u2 (kp_drewN HF.out _) c lc rc _)⟩)
        | ((try simp only [Exit.inBlock, Exit.then]); refine bodyPost_ret (results_none rfl _ _ _) rfl ?_; refine ⟨rfl, kp_cast ?_ (kp_u2 (kp_drewN HF.out _) c lc rc _)⟩)
    all_goals first | (unfold keep_union_; dsimp only; rw [← HX1.out, ← HX2.out, ← HX3.out, ← HX4.out, ← HX5.out, ← HX6.out, ← HX7.out]; done) | (unfold keep_union_; dsimp only; rw [← HX1.out, ← HX2.out, ← HX3.out, ← HX4.out, ← HX5.out, ← HX6.out, ← HX7.out]; (first | rfl | (congr 1; (simp only [mn_def', mx_def']); repeat' split) <;> omega))
set_option maxHeartbeats 8000000 in
set_option maxRecDepth 100000 in
theorem keep_meet (g n cap : Nat) (xs : List S68) (ab ao vc : Nat) (a b c N : Int) (w0 w1 w : World) (la : 0 ≤ a) (ra : a < n) (lb : 0 ≤ b) (rb : b < n) (lc : 0 ≤ c) (rc : c < n) (q0 : w.cell? ⟨ab, ao, none⟩ = some (.int .i64 a)) (q1 : w.cell? ⟨ab, ao + 1, none⟩ = some (.int .i64 b)) (q2 : w.cell? ⟨ab, ao + 2, none⟩ = some (.int .i64 c)) (hF : Kp w0 w1 w g n cap xs) :
    Calls Try.prog 42 #[.agg #[.string ⟨#[109, 101, 101, 116]⟩, .slice (some ⟨ab, ao, none⟩) 3 vc, .int .i64 N], .slice (some ⟨g, 0, none⟩) n cap] w (KpEnd w0 w1 g n cap (keep_meet_ xs a b c)) := by
  have HF := Aside0.mk hF
  have hlt : g < w.heap.size := Kd.R_lt hF.1 g (by simp [Value.ownBlock])
  have hne : g ≠ w.heap.size := by omega
  have hab2 : ab < w.heap.size := World.block_lt_of_cell? w _ q0
  have hab : ab ≠ w.heap.size := Nat.ne_of_lt hab2
  have hab1 : w.heap.size ≠ ab := fun e => hab e.symm
  have pa : decide (0 ≤ a) = true := decide_eq_true la
  have sa : decide (a < (n : Int)) = true := decide_eq_true ra
  have pb : decide (0 ≤ b) = true := decide_eq_true lb
  have sb : decide (b < (n : Int)) = true := decide_eq_true rb
  have pc : decide (0 ≤ c) = true := decide_eq_true lc
  have sc : decide (c < (n : Int)) = true := decide_eq_true rc
  clear hF
  rcases Bool.eq_false_or_eq_true (decide (0 ≤ N)) with n0 | n0
  all_goals
    go_enter Try.func42, Try.ntmps42
    go_upto_region 27 with fail
    have HF1 := Aside0.mk (kp_alloc HF.out (.cells #[.string ⟨#[109, 101, 101, 116]⟩, .slice (some ⟨ab, ao, none⟩) 3 vc, .int .i64 N] 33))
    clear HF
    have HF := HF1
    clear HF1
    clear q0 q1 q2 hab hab1 hab2 hne hlt
    obtain ⟨xs1, hx1⟩ : ∃ ys, ys = u0 xs c (Go.bits .or .u64 (rd_T68 xs c).f0 (Go.bits .and .u64 (rd_T68 xs a).f0 (rd_T68 xs b).f0)) := ⟨_, rfl⟩
    have HX1 := Aside0.mk hx1
    clear hx1
    have ec0 := (kp_elem HF.out c lc rc).1
    have ea0 := (kp_elem HF.out a la ra).1
    have eb0 := (kp_elem HF.out b lb rb).1
    have yw : World.frozen? _ ⟨g, c.toNat * 5, none⟩ = false := kp_warm HF.out c lc rc 0
    go_cut [] from 241 to 256 (fun wx => Kp w0 w1 wx g n cap xs1)
    case first =>
      refine QuietLast.wp_region_qlast (by kernel_rfl) (by kernel_rfl) ?_
      dsimp only [QuietLast.initL, QuietLast.lastL]
      repeat (go_big_quiet_step (fail))
      refine wpQuiet_nil ?_
      intro _ hw'
      obtain ⟨nq, hw''⟩ := hw'
      subst hw''
      go_wp2_with fail
      all_goals (go_meet; rw [HX1.out]; refine kp_cast ?_ (kp_u0 (kp_drewN HF.out _) c lc rc _); (first | rfl | (congr 1; (simp only [mn_def', mx_def']); repeat' split) <;> omega))
    case rest =>
    clear HF ec0 ea0 eb0 yw
    have HF := Aside0.mk hcut
    clear hcut
    go_upto_region 28 with fail
    obtain ⟨xs2, hx2⟩ : ∃ ys, ys = u0 xs1 a (Go.bits .or .u64 (rd_T68 xs1 a).f0 (rd_T68 xs1 c).f0) := ⟨_, rfl⟩
    have HX2 := Aside0.mk hx2
    clear hx2
    have ea0 := (kp_elem HF.out a la ra).1
    have ec0 := (kp_elem HF.out c lc rc).1
    have yw : World.frozen? _ ⟨g, a.toNat * 5, none⟩ = false := kp_warm HF.out a la ra 0
    go_cut [] from 257 to 267 (fun wx => Kp w0 w1 wx g n cap xs2)
    case first =>
      refine QuietLast.wp_region_qlast (by kernel_rfl) (by kernel_rfl) ?_
      dsimp only [QuietLast.initL, QuietLast.lastL]
      repeat (go_big_quiet_step (fail))
      refine wpQuiet_nil ?_
      intro _ hw'
      obtain ⟨nq, hw''⟩ := hw'
      subst hw''
      go_wp2_with fail
      all_goals (go_meet; rw [HX2.out]; refine kp_cast ?_ (kp_u0 (kp_drewN HF.out _) a la ra _); (first | rfl | (congr 1; (simp only [mn_def', mx_def']); repeat' split) <;> omega))
    case rest =>
    clear HF ea0 ec0 yw
    have HF := Aside0.mk hcut
    clear hcut
    go_upto_region 29 with fail
    obtain ⟨xs3, hx3⟩ : ∃ ys, ys = u0 xs2 b (Go.bits .or .u64 (rd_T68 xs2 b).f0 (rd_T68 xs2 c).f0) := ⟨_, rfl⟩
    have HX3 := Aside0.mk hx3
    clear hx3
    have eb0 := (kp_elem HF.out b lb rb).1
    have ec0 := (kp_elem HF.out c lc rc).1
    have yw : World.frozen? _ ⟨g, b.toNat * 5, none⟩ = false := kp_warm HF.out b lb rb 0
    go_cut [] from 268 to 278 (fun wx => Kp w0 w1 wx g n cap xs3)
    case first =>
      refine QuietLast.wp_region_qlast (by kernel_rfl) (by kernel_rfl) ?_
      dsimp only [QuietLast.initL, QuietLast.lastL]
      repeat (go_big_quiet_step (fail))
      refine wpQuiet_nil ?_
      intro _ hw'
      obtain ⟨nq, hw''⟩ := hw'
      subst hw''
      go_wp2_with fail
      all_goals (go_meet; rw [HX3.out]; refine kp_cast ?_ (kp_u0 (kp_drewN HF.out _) b lb rb _); (first | rfl | (congr 1; (simp only [mn_def', mx_def']); repeat' split) <;> omega))
    case rest =>
    clear HF eb0 ec0 yw
    have HF := Aside0.mk hcut
    clear hcut
    go_upto_region 30 with fail
    obtain ⟨xs4, hx4⟩ : ∃ ys, ys = u1 xs3 c (Go.bits .and .u64 (rd_T68 xs3 c).f1 (Go.bits .and .u64 (rd_T68 xs3 a).f1 (rd_T68 xs3 b).f1)) := ⟨_, rfl⟩
    have HX4 := Aside0.mk hx4
    clear hx4
    have ec1 := (kp_elem HF.out c lc rc).2.1
    have ea1 := (kp_elem HF.out a la ra).2.1
    have eb1 := (kp_elem HF.out b lb rb).2.1
    have yw := kp_warm HF.out c lc rc 1
    go_cut [] from 279 to 294 (fun wx => Kp w0 w1 wx g n cap xs4)
    case first =>
      refine QuietLast.wp_region_qlast (by kernel_rfl) (by kernel_rfl) ?_
      dsimp only [QuietLast.initL, QuietLast.lastL]
      repeat (go_big_quiet_step (fail))
      refine wpQuiet_nil ?_
      intro _ hw'
      obtain ⟨nq, hw''⟩ := hw'
      subst hw''
      go_wp2_with fail
      all_goals (go_meet; rw [HX4.out]; refine kp_cast ?_ (kp_u1 (kp_drewN HF.out _) c lc rc _); (first | rfl | (congr 1; (simp only [mn_def', mx_def']); repeat' split) <;> omega))
    case rest =>
    clear HF ec1 ea1 eb1 yw
    have HF := Aside0.mk hcut
    clear hcut
    go_upto_region 31 with fail
    obtain ⟨xs5, hx5⟩ : ∃ ys, ys = u1 xs4 b (Go.bits .andNot .u64 (rd_T68 xs4 b).f1 (Go.bits .andNot .u64 (rd_T68 xs4 a).f0 (rd_T68 xs4 c).f1)) := ⟨_, rfl⟩
    have HX5 := Aside0.mk hx5
    clear hx5
    have eb1 := (kp_elem HF.out b lb rb).2.1
    have ea0 := (kp_elem HF.out a la ra).1
    have ec1 := (kp_elem HF.out c lc rc).2.1
    have yw := kp_warm HF.out b lb rb 1
    go_cut [] from 295 to 310 (fun wx => Kp w0 w1 wx g n cap xs5)
    case first =>
      refine QuietLast.wp_region_qlast (by kernel_rfl) (by kernel_rfl) ?_
      dsimp only [QuietLast.initL, QuietLast.lastL]
      repeat (go_big_quiet_step (fail))
      refine wpQuiet_nil ?_
      intro _ hw'
      obtain ⟨nq, hw''⟩ := hw'
      subst hw''
      go_wp2_with fail
      all_goals (go_meet; rw [HX5.out]; refine kp_cast ?_ (kp_u1 (kp_drewN HF.out _) b lb rb _); (first | rfl | (congr 1; (simp only [mn_def', mx_def']); repeat' split) <;> omega))
    case rest =>
    clear HF eb1 ea0 ec1 yw
    have HF := Aside0.mk hcut
    clear hcut
    go_upto_region 32 with fail
    obtain ⟨xs6, hx6⟩ : ∃ ys, ys = u1 xs5 a (Go.bits .andNot .u64 (rd_T68 xs5 a).f1 (Go.bits .andNot .u64 (rd_T68 xs5 b).f0 (rd_T68 xs5 c).f1)) := ⟨_, rfl⟩
    have HX6 := Aside0.mk hx6
    clear hx6
    have ea1 := (kp_elem HF.out a la ra).2.1
    have eb0 := (kp_elem HF.out b lb rb).1
    have ec1 := (kp_elem HF.out c lc rc).2.1
    have yw := kp_warm HF.out a la ra 1
    go_cut [] from 311 to 326 (fun wx => Kp w0 w1 wx g n cap xs6)
    case first =>
      refine QuietLast.wp_region_qlast (by kernel_rfl) (by kernel_rfl) ?_
      dsimp only [QuietLast.initL, QuietLast.lastL]
      repeat (go_big_quiet_step (fail))
      refine wpQuiet_nil ?_
      intro _ hw'
      obtain ⟨nq, hw''⟩ := hw'
      subst hw''
      go_wp2_with fail
      all_goals (go_meet; rw [HX6.out]; refine kp_cast ?_ (kp_u1 (kp_drewN HF.out _) a la ra _); (first | rfl | (congr 1; (simp only [mn_def', mx_def']); repeat' split) <;> omega))
    case rest =>
    clear HF ea1 eb0 ec1 yw
    have HF := Aside0.mk hcut
    clear hcut
    go_upto_region 33 with fail
    obtain ⟨xs7, hx7⟩ : ∃ ys, ys = u3 xs6 c (mn (mn (rd_T68 xs6 c).f3 (rd_T68 xs6 a).f3) (rd_T68 xs6 b).f3) := ⟨_, rfl⟩
    have HX7 := Aside0.mk hx7
    clear hx7
    have ec3 := (kp_elem HF.out c lc rc).2.2.2.1
    have ea3 := (kp_elem HF.out a la ra).2.2.2.1
    have eb3 := (kp_elem HF.out b lb rb).2.2.2.1
    have yw := kp_warm HF.out c lc rc 3
    refine QuietLast.wp_region_qlast (by kernel_rfl) (by kernel_rfl) ?_
    dsimp only [QuietLast.initL, QuietLast.lastL]
    repeat (go_big_quiet_step (fail))
    refine wpQuiet_nil ?_
    intro _ hw'
    obtain ⟨nq, hw''⟩ := hw'
    subst hw''
    go_wp2_with fail
    all_goals
      (first | skip | (try simp only [Exit.inBlock, Exit.then]))
      first
        | refine ⟨rfl, kp_cast ?_ (kp_u3 (kp_drewN HF.out _) c lc rc _)⟩
        | (go_end0; refine ⟨rfl, kp_cast ?_ (kp_u3 (kp_drewN HF.out _) c lc rc _)⟩)
        | ((try simp only [Exit.inBlock, Exit.then]); refine bodyPost_ret (results_none rfl _ _ _) rfl ?_; refine ⟨rfl, kp_cast ?_ (kp_u3 (kp_drewN HF.out _) c lc rc _)⟩)
    all_goals first | (unfold keep_meet_; dsimp only; rw [← HX1.out, ← HX2.out, ← HX3.out, ← HX4.out, ← HX5.out, ← HX6.out]; done) | (unfold keep_meet_; dsimp only; rw [← HX1.out, ← HX2.out, ← HX3.out, ← HX4.out, ← HX5.out, ← HX6.out]; (first | rfl | (congr 1; (simp only [mn_def', mx_def']); repeat' split) <;> omega))
set_option maxHeartbeats 8000000 in
set_option maxRecDepth 100000 in
theorem keep_minus (g n cap : Nat) (xs : List S68) (ab ao vc : Nat) (a b c N : Int) (w0 w1 w : World) (la : 0 ≤ a) (ra : a < n) (lb : 0 ≤ b) (rb : b < n) (lc : 0 ≤ c) (rc : c < n) (q0 : w.cell? ⟨ab, ao, none⟩ = some (.int .i64 a)) (q1 : w.cell? ⟨ab, ao + 1, none⟩ = some (.int .i64 b)) (q2 : w.cell? ⟨ab, ao + 2, none⟩ = some (.int .i64 c)) (hF : Kp w0 w1 w g n cap xs) :
    Calls Try.prog 42 #[.agg #[.string ⟨#[109, 105, 110, 117, 115]⟩, .slice (some ⟨ab, ao, none⟩) 3 vc, .int .i64 N], .slice (some ⟨g, 0, none⟩) n cap] w (KpEnd w0 w1 g n cap (keep_minus_ xs a b c)) := by
  have HF := Aside0.mk hF
  have hlt : g < w.heap.size := Kd.R_lt hF.1 g (by simp [Value.ownBlock])
  have hne : g ≠ w.heap.size := by omega
  have hab2 : ab < w.heap.size := World.block_lt_of_cell? w _ q0
  have hab : ab ≠ w.heap.size := Nat.ne_of_lt hab2
  have hab1 : w.heap.size ≠ ab := fun e => hab e.symm
  have pa : decide (0 ≤ a) = true := decide_eq_true la
  have sa : decide (a < (n : Int)) = true := decide_eq_true ra
  have pb : decide (0 ≤ b) = true := decide_eq_true lb
  have sb : decide (b < (n : Int)) = true := decide_eq_true rb
  have pc : decide (0 ≤ c) = true := decide_eq_true lc
  have sc : decide (c < (n : Int)) = true := decide_eq_true rc
  clear hF
  rcases Bool.eq_false_or_eq_true (decide (0 ≤ N)) with n0 | n0
  all_goals
    go_enter Try.func42, Try.ntmps42
    go_upto_region 35 with fail
    have HF1 := Aside0.mk (kp_alloc HF.out (.cells #[.string ⟨#[109, 105, 110, 117, 115]⟩, .slice (some ⟨ab, ao, none⟩) 3 vc, .int .i64 N] 33))
    clear HF
    have HF := HF1
    clear HF1
    clear q0 q1 q2 hab hab1 hab2 hne hlt
    obtain ⟨xs1, hx1⟩ : ∃ ys, ys = u0 xs c (Go.bits .or .u64 (rd_T68 xs c).f0 (Go.bits .andNot .u64 (rd_T68 xs a).f0 (rd_T68 xs b).f1)) := ⟨_, rfl⟩
    have HX1 := Aside0.mk hx1
    clear hx1
    have ec0 := (kp_elem HF.out c lc rc).1
    have ea0 := (kp_elem HF.out a la ra).1
    have eb1 := (kp_elem HF.out b lb rb).2.1
    have yw : World.frozen? _ ⟨g, c.toNat * 5, none⟩ = false := kp_warm HF.out c lc rc 0
    go_cut [] from 345 to 360 (fun wx => Kp w0 w1 wx g n cap xs1)
    case first =>
      refine QuietLast.wp_region_qlast (by kernel_rfl) (by kernel_rfl) ?_
      dsimp only [QuietLast.initL, QuietLast.lastL]
      repeat (go_big_quiet_step (fail))
      refine wpQuiet_nil ?_
      intro _ hw'
      obtain ⟨nq, hw''⟩ := hw'
      subst hw''
      go_wp2_with fail
      all_goals (go_meet; rw [HX1.out]; refine kp_cast ?_ (kp_u0 (kp_drewN HF.out _) c lc rc _); (first | rfl | (congr 1; (simp only [mn_def', mx_def']); repeat' split) <;> omega))
    case rest =>
    clear HF ec0 ea0 eb1 yw
    have HF := Aside0.mk hcut
    clear hcut
    go_upto_region 36 with fail
    obtain ⟨xs2, hx2⟩ : ∃ ys, ys = u0 xs1 a (Go.bits .or .u64 (rd_T68 xs1 a).f0 (rd_T68 xs1 c).f0) := ⟨_, rfl⟩
    have HX2 := Aside0.mk hx2
    clear hx2
    have ea0 := (kp_elem HF.out a la ra).1
    have ec0 := (kp_elem HF.out c lc rc).1
    have yw : World.frozen? _ ⟨g, a.toNat * 5, none⟩ = false := kp_warm HF.out a la ra 0
    go_cut [] from 361 to 371 (fun wx => Kp w0 w1 wx g n cap xs2)
    case first =>
      refine QuietLast.wp_region_qlast (by kernel_rfl) (by kernel_rfl) ?_
      dsimp only [QuietLast.initL, QuietLast.lastL]
      repeat (go_big_quiet_step (fail))
      refine wpQuiet_nil ?_
      intro _ hw'
      obtain ⟨nq, hw''⟩ := hw'
      subst hw''
      go_wp2_with fail
      all_goals (go_meet; rw [HX2.out]; refine kp_cast ?_ (kp_u0 (kp_drewN HF.out _) a la ra _); (first | rfl | (congr 1; (simp only [mn_def', mx_def']); repeat' split) <;> omega))
    case rest =>
    clear HF ea0 ec0 yw
    have HF := Aside0.mk hcut
    clear hcut
    go_upto_region 37 with fail
    obtain ⟨xs3, hx3⟩ : ∃ ys, ys = u1 xs2 b (Go.bits .andNot .u64 (rd_T68 xs2 b).f1 (rd_T68 xs2 c).f0) := ⟨_, rfl⟩
    have HX3 := Aside0.mk hx3
    clear hx3
    have eb1 := (kp_elem HF.out b lb rb).2.1
    have ec0 := (kp_elem HF.out c lc rc).1
    have yw := kp_warm HF.out b lb rb 1
    go_cut [] from 372 to 382 (fun wx => Kp w0 w1 wx g n cap xs3)
    case first =>
      refine QuietLast.wp_region_qlast (by kernel_rfl) (by kernel_rfl) ?_
      dsimp only [QuietLast.initL, QuietLast.lastL]
      repeat (go_big_quiet_step (fail))
      refine wpQuiet_nil ?_
      intro _ hw'
      obtain ⟨nq, hw''⟩ := hw'
      subst hw''
      go_wp2_with fail
      all_goals (go_meet; rw [HX3.out]; refine kp_cast ?_ (kp_u1 (kp_drewN HF.out _) b lb rb _); (first | rfl | (congr 1; (simp only [mn_def', mx_def']); repeat' split) <;> omega))
    case rest =>
    clear HF eb1 ec0 yw
    have HF := Aside0.mk hcut
    clear hcut
    go_upto_region 38 with fail
    obtain ⟨xs4, hx4⟩ : ∃ ys, ys = u1 xs3 c (Go.bits .and .u64 (rd_T68 xs3 c).f1 (Go.bits .andNot .u64 (rd_T68 xs3 a).f1 (rd_T68 xs3 b).f0)) := ⟨_, rfl⟩
    have HX4 := Aside0.mk hx4
    clear hx4
    have ec1 := (kp_elem HF.out c lc rc).2.1
    have ea1 := (kp_elem HF.out a la ra).2.1
    have eb0 := (kp_elem HF.out b lb rb).1
    have yw := kp_warm HF.out c lc rc 1
    go_cut [] from 383 to 398 (fun wx => Kp w0 w1 wx g n cap xs4)
    case first =>
      refine QuietLast.wp_region_qlast (by kernel_rfl) (by kernel_rfl) ?_
      dsimp only [QuietLast.initL, QuietLast.lastL]
      repeat (go_big_quiet_step (fail))
      refine wpQuiet_nil ?_
      intro _ hw'
      obtain ⟨nq, hw''⟩ := hw'
      subst hw''
      go_wp2_with fail
      all_goals (go_meet; rw [HX4.out]; refine kp_cast ?_ (kp_u1 (kp_drewN HF.out _) c lc rc _); (first | rfl | (congr 1; (simp only [mn_def', mx_def']); repeat' split) <;> omega))
    case rest =>
    clear HF ec1 ea1 eb0 yw
    have HF := Aside0.mk hcut
    clear hcut
    go_upto_region 39 with fail
    obtain ⟨xs5, hx5⟩ : ∃ ys, ys = u0 xs4 b (Go.bits .or .u64 (rd_T68 xs4 b).f0 (Go.bits .andNot .u64 (rd_T68 xs4 a).f0 (rd_T68 xs4 c).f1)) := ⟨_, rfl⟩
    have HX5 := Aside0.mk hx5
    clear hx5
    have eb0 := (kp_elem HF.out b lb rb).1
    have ea0 := (kp_elem HF.out a la ra).1
    have ec1 := (kp_elem HF.out c lc rc).2.1
    have yw : World.frozen? _ ⟨g, b.toNat * 5, none⟩ = false := kp_warm HF.out b lb rb 0
    go_cut [] from 399 to 414 (fun wx => Kp w0 w1 wx g n cap xs5)
    case first =>
      refine QuietLast.wp_region_qlast (by kernel_rfl) (by kernel_rfl) ?_
      dsimp only [QuietLast.initL, QuietLast.lastL]
      repeat (go_big_quiet_step (fail))
      refine wpQuiet_nil ?_
      intro _ hw'
      obtain ⟨nq, hw''⟩ := hw'
      subst hw''
      go_wp2_with fail
      all_goals (go_meet; rw [HX5.out]; refine kp_cast ?_ (kp_u0 (kp_drewN HF.out _) b lb rb _); (first | rfl | (congr 1; (simp only [mn_def', mx_def']); repeat' split) <;> omega))
    case rest =>
    clear HF eb0 ea0 ec1 yw
    have HF := Aside0.mk hcut
    clear hcut
    go_upto_region 40 with fail
    obtain ⟨xs6, hx6⟩ : ∃ ys, ys = u3 xs5 c (mn (rd_T68 xs5 c).f3 (rd_T68 xs5 a).f3) := ⟨_, rfl⟩
    have HX6 := Aside0.mk hx6
    clear hx6
    have ec3 := (kp_elem HF.out c lc rc).2.2.2.1
    have ea3 := (kp_elem HF.out a la ra).2.2.2.1
    have yw := kp_warm HF.out c lc rc 3
    refine QuietLast.wp_region_qlast (by kernel_rfl) (by kernel_rfl) ?_
    dsimp only [QuietLast.initL, QuietLast.lastL]
    repeat (go_big_quiet_step (fail))
    refine wpQuiet_nil ?_
    intro _ hw'
    obtain ⟨nq, hw''⟩ := hw'
    subst hw''
    go_wp2_with fail
    all_goals
      (first | skip | (try simp only [Exit.inBlock, Exit.then]))
      first
        | refine ⟨rfl, kp_cast ?_ (kp_u3 (kp_drewN HF.out _) c lc rc _)⟩
        | (go_end0; refine ⟨rfl, kp_cast ?_ (kp_u3 (kp_drewN HF.out _) c lc rc _)⟩)
        | ((try simp only [Exit.inBlock, Exit.then]); refine bodyPost_ret (results_none rfl _ _ _) rfl ?_; refine ⟨rfl, kp_cast ?_ (kp_u3 (kp_drewN HF.out _) c lc rc _)⟩)
    all_goals first | (unfold keep_minus_; dsimp only; rw [← HX1.out, ← HX2.out, ← HX3.out, ← HX4.out, ← HX5.out]; done) | (unfold keep_minus_; dsimp only; rw [← HX1.out, ← HX2.out, ← HX3.out, ← HX4.out, ← HX5.out]; (first | rfl | (congr 1; (simp only [mn_def', mx_def']); repeat' split) <;> omega))
set_option maxHeartbeats 8000000 in
set_option maxRecDepth 100000 in
theorem keep_has_in (g n cap : Nat) (xs : List S68) (ab ao vc : Nat) (a N : Int) (w0 w1 w : World) (la : 0 ≤ a) (ra : a < n) (q0 : w.cell? ⟨ab, ao, none⟩ = some (.int .i64 a)) (hF : Kp w0 w1 w g n cap xs) (hN : 0 ≤ N ∧ N ≤ 63) :
    Calls Try.prog 42 #[.agg #[.string ⟨#[104, 97, 115]⟩, .slice (some ⟨ab, ao, none⟩) 1 vc, .int .i64 N], .slice (some ⟨g, 0, none⟩) n cap] w (KpEnd w0 w1 g n cap (keep_has_ xs a N)) := by
  have HF := Aside0.mk hF
  have hlt : g < w.heap.size := Kd.R_lt hF.1 g (by simp [Value.ownBlock])
  have hne : g ≠ w.heap.size := by omega
  have hab2 : ab < w.heap.size := World.block_lt_of_cell? w _ q0
  have hab : ab ≠ w.heap.size := Nat.ne_of_lt hab2
  have hab1 : w.heap.size ≠ ab := fun e => hab e.symm
  have pa : decide (0 ≤ a) = true := decide_eq_true la
  have sa : decide (a < (n : Int)) = true := decide_eq_true ra
  have n0 : decide (0 ≤ N) = true := decide_eq_true hN.1
  have n1 : decide (N ≤ 63) = true := decide_eq_true hN.2
  have n2 := hN.1
  have n3 := hN.2
  clear hN
  clear hF
  go_enter Try.func42, Try.ntmps42
  go_upto_region 42 with fail
  have H0 := HF
  have bx2 : ∀ v, World.cell? ((w.setCell ⟨g, a.toNat * 5 + 4, none⟩ v).alloc (.cells #[.string ⟨#[104, 97, 115]⟩, .slice (some ⟨ab, ao, none⟩) 1 vc, .int .i64 N] 33)) ⟨w.heap.size, 2, none⟩ = some (.int .i64 N) := fun v => by
    have h := blk_cell (heap_alloc_new (w.setCell ⟨g, a.toNat * 5 + 4, none⟩ v) (.cells #[.string ⟨#[104, 97, 115]⟩, .slice (some ⟨ab, ao, none⟩) 1 vc, .int .i64 N] 33)) 2
    have e : (w.setCell ⟨g, a.toNat * 5 + 4, none⟩ v).heap.size = w.heap.size := by simp [World.setCell]
    rw [e] at h
    exact h.trans rfl
  replace bx2 := Aside0.mk bx2
  have HF1 := Aside0.mk (kp_alloc HF.out (.cells #[.string ⟨#[104, 97, 115]⟩, .slice (some ⟨ab, ao, none⟩) 1 vc, .int .i64 N] 33))
  clear HF
  have HF := HF1
  clear HF1
  have bx : World.cell? (w.alloc (.cells #[.string ⟨#[104, 97, 115]⟩, .slice (some ⟨ab, ao, none⟩) 1 vc, .int .i64 N] 33)) ⟨w.heap.size, 2, none⟩ = some (.int .i64 N) := (blk_cell (heap_alloc_new w _) 2).trans rfl
  have BX := Aside0.mk bx
  clear q0 hab hab1 hab2 hne
  have ea4 := (kp_elem HF.out a la ra).2.2.2.2
  have yw := kp_warm HF.out a la ra 4
  go_cut [] from 429 to 439 (fun wx => Kp w0 w1 wx g n cap xs ∧ wx.cell? ⟨w.heap.size, 2, none⟩ = some (.int .i64 N))
  case first =>
    cases hb : (rd_T68 xs a).f4
    all_goals
      rw [hb] at ea4
      go_wp2_with fail
      go_meet
      refine ⟨?_, bx2.out _⟩
      have h := kp_alloc (kp_u4 H0.out a la ra (rd_T68 xs a).f4) (.cells #[.string ⟨#[104, 97, 115]⟩, .slice (some ⟨ab, ao, none⟩) 1 vc, .int .i64 N] 33)
      rw [u4_self, hb] at h
      exact h
  case rest =>
  clear BX bx bx2 H0 ea4 yw
  obtain ⟨hcut, bx⟩ := hcut
  have BX := Aside0.mk bx
  clear HF
  have HF := Aside0.mk hcut
  clear hcut
  go_upto_region 44 with fail
  obtain ⟨xs1, hx1⟩ : ∃ ys, ys = u0 xs a (Go.bits .or .u64 (rd_T68 xs a).f0 (IntKind.u64.wrap (2 ^ N.toNat))) := ⟨_, rfl⟩
  have HX1 := Aside0.mk hx1
  clear hx1
  have ea0 := (kp_elem HF.out a la ra).1
  have yw : World.frozen? _ ⟨g, a.toNat * 5, none⟩ = false := kp_warm HF.out a la ra 0
  refine QuietLast.wp_region_qlast (by kernel_rfl) (by kernel_rfl) ?_
  dsimp only [QuietLast.initL, QuietLast.lastL]
  repeat (go_big_quiet_step (fail))
  refine wpQuiet_nil ?_
  intro _ hw'
  obtain ⟨nq, hw''⟩ := hw'
  subst hw''
  go_wp2_with fail
  all_goals
    (first | skip | (try simp only [Exit.inBlock, Exit.then]))
    first
      | refine ⟨rfl, kp_cast ?_ (kp_u0 (kp_drewN HF.out _) a la ra _)⟩
      | (go_end0; refine ⟨rfl, kp_cast ?_ (kp_u0 (kp_drewN HF.out _) a la ra _)⟩)
      | ((try simp only [Exit.inBlock, Exit.then]); refine bodyPost_ret (results_none rfl _ _ _) rfl ?_; refine ⟨rfl, kp_cast ?_ (kp_u0 (kp_drewN HF.out _) a la ra _)⟩)
  all_goals first | (unfold keep_has_; dsimp only; done) | (unfold keep_has_; dsimp only; (first | rfl | (congr 1; (simp only [mn_def', mx_def']); repeat' split) <;> omega))
set_option maxHeartbeats 8000000 in
set_option maxRecDepth 100000 in
theorem keep_lacks_out (g n cap : Nat) (xs : List S68) (ab ao vc : Nat) (a N : Int) (w0 w1 w : World) (la : 0 ≤ a) (ra : a < n) (q0 : w.cell? ⟨ab, ao, none⟩ = some (.int .i64 a)) (hF : Kp w0 w1 w g n cap xs) (hN : ¬ (0 ≤ N ∧ N ≤ 63)) :
    Calls Try.prog 42 #[.agg #[.string ⟨#[108, 97, 99, 107, 115]⟩, .slice (some ⟨ab, ao, none⟩) 1 vc, .int .i64 N], .slice (some ⟨g, 0, none⟩) n cap] w (KpEnd w0 w1 g n cap (xs)) := by
  have HF := Aside0.mk hF
  have hlt : g < w.heap.size := Kd.R_lt hF.1 g (by simp [Value.ownBlock])
  have hne : g ≠ w.heap.size := by omega
  have hab2 : ab < w.heap.size := World.block_lt_of_cell? w _ q0
  have hab : ab ≠ w.heap.size := Nat.ne_of_lt hab2
  have hab1 : w.heap.size ≠ ab := fun e => hab e.symm
  have pa : decide (0 ≤ a) = true := decide_eq_true la
  have sa : decide (a < (n : Int)) = true := decide_eq_true ra
  clear hF
  have n01 : decide (0 ≤ N) = false ∨ (decide (0 ≤ N) = true ∧ decide (N ≤ 63) = false) := by
    by_cases h : 0 ≤ N
    · exact .inr ⟨decide_eq_true h, decide_eq_false (fun h' => hN ⟨h, h'⟩)⟩
    · exact .inl (decide_eq_false h)
  clear hN
  rcases n01 with n0 | ⟨n0, n1⟩
  all_goals
    go_enter Try.func42, Try.ntmps42
    go_wp2_with fail
    first | refine ⟨rfl, kp_alloc HF.out _⟩ | (go_end0; refine ⟨rfl, kp_alloc HF.out _⟩) | ((try simp only [Exit.inBlock, Exit.then]); refine bodyPost_ret (results_none rfl _ _ _) rfl ?_; refine ⟨rfl, kp_alloc HF.out _⟩)
set_option maxHeartbeats 8000000 in
set_option maxRecDepth 100000 in
theorem keep_has_out (g n cap : Nat) (xs : List S68) (ab ao vc : Nat) (a N : Int) (w0 w1 w : World) (la : 0 ≤ a) (ra : a < n) (q0 : w.cell? ⟨ab, ao, none⟩ = some (.int .i64 a)) (hF : Kp w0 w1 w g n cap xs) (hN : ¬ (0 ≤ N ∧ N ≤ 63)) :
    Calls Try.prog 42 #[.agg #[.string ⟨#[104, 97, 115]⟩, .slice (some ⟨ab, ao, none⟩) 1 vc, .int .i64 N], .slice (some ⟨g, 0, none⟩) n cap] w (KpEnd w0 w1 g n cap (u4 xs a true)) := by
  have HF := Aside0.mk hF
  have hlt : g < w.heap.size := Kd.R_lt hF.1 g (by simp [Value.ownBlock])
  have hne : g ≠ w.heap.size := by omega
  have hab2 : ab < w.heap.size := World.block_lt_of_cell? w _ q0
  have hab : ab ≠ w.heap.size := Nat.ne_of_lt hab2
  have hab1 : w.heap.size ≠ ab := fun e => hab e.symm
  have pa : decide (0 ≤ a) = true := decide_eq_true la
  have sa : decide (a < (n : Int)) = true := decide_eq_true ra
  clear hF
  have n01 : decide (0 ≤ N) = false ∨ (decide (0 ≤ N) = true ∧ decide (N ≤ 63) = false) := by
    by_cases h : 0 ≤ N
    · exact .inr ⟨decide_eq_true h, decide_eq_false (fun h' => hN ⟨h, h'⟩)⟩
    · exact .inl (decide_eq_false h)
  clear hN
  rcases n01 with n0 | ⟨n0, n1⟩
  all_goals
    go_enter Try.func42, Try.ntmps42
    go_upto_region 42 with fail
    have HF1 := Aside0.mk (kp_alloc HF.out (.cells #[.string ⟨#[104, 97, 115]⟩, .slice (some ⟨ab, ao, none⟩) 1 vc, .int .i64 N] 33))
    have ea4 := (kp_elem HF1.out a la ra).2.2.2.2
    have yw := kp_warm HF1.out a la ra 4
    cases hb : (rd_T68 xs a).f4
    all_goals
      rw [hb] at ea4
      go_wp2_with fail
      first | refine ⟨rfl, kp_alloc (kp_u4 HF.out a la ra _) _⟩ | (go_end0; refine ⟨rfl, kp_alloc (kp_u4 HF.out a la ra _) _⟩) | ((try simp only [Exit.inBlock, Exit.then]); refine bodyPost_ret (results_none rfl _ _ _) rfl ?_; refine ⟨rfl, kp_alloc (kp_u4 HF.out a la ra _) _⟩)
set_option maxHeartbeats 8000000 in
set_option maxRecDepth 100000 in
theorem keep_lacks_in (g n cap : Nat) (xs : List S68) (ab ao vc : Nat) (a N : Int) (w0 w1 w : World) (la : 0 ≤ a) (ra : a < n) (q0 : w.cell? ⟨ab, ao, none⟩ = some (.int .i64 a)) (hF : Kp w0 w1 w g n cap xs) (hN : 0 ≤ N ∧ N ≤ 63) :
    Calls Try.prog 42 #[.agg #[.string ⟨#[108, 97, 99, 107, 115]⟩, .slice (some ⟨ab, ao, none⟩) 1 vc, .int .i64 N], .slice (some ⟨g, 0, none⟩) n cap] w (KpEnd w0 w1 g n cap (keep_lacks_ xs a N)) := by
  have HF := Aside0.mk hF
  have hlt : g < w.heap.size := Kd.R_lt hF.1 g (by simp [Value.ownBlock])
  have hne : g ≠ w.heap.size := by omega
  have hab2 : ab < w.heap.size := World.block_lt_of_cell? w _ q0
  have hab : ab ≠ w.heap.size := Nat.ne_of_lt hab2
  have hab1 : w.heap.size ≠ ab := fun e => hab e.symm
  have pa : decide (0 ≤ a) = true := decide_eq_true la
  have sa : decide (a < (n : Int)) = true := decide_eq_true ra
  have n0 : decide (0 ≤ N) = true := decide_eq_true hN.1
  have n1 : decide (N ≤ 63) = true := decide_eq_true hN.2
  have n2 := hN.1
  have n3 := hN.2
  clear hN
  clear hF
  go_enter Try.func42, Try.ntmps42
  go_upto_region 47 with fail
  have HF1 := Aside0.mk (kp_alloc HF.out (.cells #[.string ⟨#[108, 97, 99, 107, 115]⟩, .slice (some ⟨ab, ao, none⟩) 1 vc, .int .i64 N] 33))
  clear HF
  have HF := HF1
  clear HF1
  have bx : World.cell? (w.alloc (.cells #[.string ⟨#[108, 97, 99, 107, 115]⟩, .slice (some ⟨ab, ao, none⟩) 1 vc, .int .i64 N] 33)) ⟨w.heap.size, 2, none⟩ = some (.int .i64 N) := (blk_cell (heap_alloc_new w _) 2).trans rfl
  have BX := Aside0.mk bx
  clear q0 hab hab1 hab2 hne
  obtain ⟨xs1, hx1⟩ : ∃ ys, ys = u1 xs a (Go.bits .andNot .u64 (rd_T68 xs a).f1 (IntKind.u64.wrap (2 ^ N.toNat))) := ⟨_, rfl⟩
  have HX1 := Aside0.mk hx1
  clear hx1
  have ea1 := (kp_elem HF.out a la ra).2.1
  have yw := kp_warm HF.out a la ra 1
  refine QuietLast.wp_region_qlast (by kernel_rfl) (by kernel_rfl) ?_
  dsimp only [QuietLast.initL, QuietLast.lastL]
  repeat (go_big_quiet_step (fail))
  refine wpQuiet_nil ?_
  intro _ hw'
  obtain ⟨nq, hw''⟩ := hw'
  subst hw''
  go_wp2_with fail
  all_goals
    (first | skip | (try simp only [Exit.inBlock, Exit.then]))
    first
      | refine ⟨rfl, kp_cast ?_ (kp_u1 (kp_drewN HF.out _) a la ra _)⟩
      | (go_end0; refine ⟨rfl, kp_cast ?_ (kp_u1 (kp_drewN HF.out _) a la ra _)⟩)
      | ((try simp only [Exit.inBlock, Exit.then]); refine bodyPost_ret (results_none rfl _ _ _) rfl ?_; refine ⟨rfl, kp_cast ?_ (kp_u1 (kp_drewN HF.out _) a la ra _)⟩)
  all_goals first | (unfold keep_lacks_; dsimp only; done) | (unfold keep_lacks_; dsimp only; (first | rfl | (congr 1; (simp only [mn_def', mx_def']); repeat' split) <;> omega))
set_option maxHeartbeats 8000000 in
set_option maxRecDepth 100000 in
theorem keep_size (g n cap : Nat) (xs : List S68) (ab ao vc : Nat) (a N : Int) (w0 w1 w : World) (la : 0 ≤ a) (ra : a < n) (q0 : w.cell? ⟨ab, ao, none⟩ = some (.int .i64 a)) (hF : Kp w0 w1 w g n cap xs) :
    Calls Try.prog 42 #[.agg #[.string ⟨#[115, 105, 122, 101]⟩, .slice (some ⟨ab, ao, none⟩) 1 vc, .int .i64 N], .slice (some ⟨g, 0, none⟩) n cap] w (KpEnd w0 w1 g n cap (keep_size_ xs a N)) := by
  have HF := Aside0.mk hF
  have hlt : g < w.heap.size := Kd.R_lt hF.1 g (by simp [Value.ownBlock])
  have hne : g ≠ w.heap.size := by omega
  have hab2 : ab < w.heap.size := World.block_lt_of_cell? w _ q0
  have hab : ab ≠ w.heap.size := Nat.ne_of_lt hab2
  have hab1 : w.heap.size ≠ ab := fun e => hab e.symm
  have pa : decide (0 ≤ a) = true := decide_eq_true la
  have sa : decide (a < (n : Int)) = true := decide_eq_true ra
  clear hF
  rcases Bool.eq_false_or_eq_true (decide (0 ≤ N)) with n0 | n0
  all_goals
    go_enter Try.func42, Try.ntmps42
    go_upto_region 49 with fail
    have HF1 := Aside0.mk (kp_alloc HF.out (.cells #[.string ⟨#[115, 105, 122, 101]⟩, .slice (some ⟨ab, ao, none⟩) 1 vc, .int .i64 N] 33))
    clear HF
    have HF := HF1
    clear HF1
    have bx : World.cell? (w.alloc (.cells #[.string ⟨#[115, 105, 122, 101]⟩, .slice (some ⟨ab, ao, none⟩) 1 vc, .int .i64 N] 33)) ⟨w.heap.size, 2, none⟩ = some (.int .i64 N) := (blk_cell (heap_alloc_new w _) 2).trans rfl
    have BX := Aside0.mk bx
    clear q0 hab hab1 hab2 hne
    obtain ⟨xs1, hx1⟩ : ∃ ys, ys = u2 xs a (mx (rd_T68 xs a).f2 N) := ⟨_, rfl⟩
    have HX1 := Aside0.mk hx1
    clear hx1
    have ea2 := (kp_elem HF.out a la ra).2.2.1
    have yw := kp_warm HF.out a la ra 2
    go_cut [] from 468 to 477 (fun wx => Kp w0 w1 wx g n cap xs1 ∧ wx.cell? ⟨w.heap.size, 2, none⟩ = some (.int .i64 N))
    case first =>
      refine QuietLast.wp_region_qlast (by kernel_rfl) (by kernel_rfl) ?_
      dsimp only [QuietLast.initL, QuietLast.lastL]
      repeat (go_big_quiet_step (fail))
      refine wpQuiet_nil ?_
      intro _ hw'
      obtain ⟨nq, hw''⟩ := hw'
      subst hw''
      go_wp2_with fail
      all_goals (go_meet; refine ⟨?_, by rw [World.cell?_setCell_other _ _ _ _ (fun e => by injection e; omega)]; exact BX.out⟩; rw [HX1.out]; refine kp_cast ?_ (kp_u2 (kp_drewN HF.out _) a la ra _); (first | rfl | (congr 1; (simp only [mn_def', mx_def']); repeat' split) <;> omega))
    case rest =>
    clear HF ea2 yw
    clear BX bx
    obtain ⟨hcut, bx⟩ := hcut
    have BX := Aside0.mk bx
    have HF := Aside0.mk hcut
    clear hcut
    go_upto_region 50 with fail
    obtain ⟨xs2, hx2⟩ : ∃ ys, ys = u3 xs1 a (mn (rd_T68 xs1 a).f3 N) := ⟨_, rfl⟩
    have HX2 := Aside0.mk hx2
    clear hx2
    have ea3 := (kp_elem HF.out a la ra).2.2.2.1
    have yw := kp_warm HF.out a la ra 3
    refine QuietLast.wp_region_qlast (by kernel_rfl) (by kernel_rfl) ?_
    dsimp only [QuietLast.initL, QuietLast.lastL]
    repeat (go_big_quiet_step (fail))
    refine wpQuiet_nil ?_
    intro _ hw'
    obtain ⟨nq, hw''⟩ := hw'
    subst hw''
    go_wp2_with fail
    all_goals
      (first | skip | (try simp only [Exit.inBlock, Exit.then]))
      first
        | refine ⟨rfl, kp_cast ?_ (kp_u3 (kp_drewN HF.out _) a la ra _)⟩
        | (go_end0; refine ⟨rfl, kp_cast ?_ (kp_u3 (kp_drewN HF.out _) a la ra _)⟩)
        | ((try simp only [Exit.inBlock, Exit.then]); refine bodyPost_ret (results_none rfl _ _ _) rfl ?_; refine ⟨rfl, kp_cast ?_ (kp_u3 (kp_drewN HF.out _) a la ra _)⟩)
    all_goals first | (unfold keep_size_; dsimp only; rw [← HX1.out]; done) | (unfold keep_size_; dsimp only; rw [← HX1.out]; (first | rfl | (congr 1; (simp only [mn_def', mx_def']); repeat' split) <;> omega))
end Go.Proofs.Ytgfbgfbnmiainaa.Fam
/-! keep, whatever the relation. -/
namespace Go.Proofs.Ytgfbgfbnmiainaa.Fam
set_option linter.unusedVariables false
set_option linter.unusedSimpArgs false
open Go.RowKit Go.Proofs.YtgfbgfbnmiainaaW.PrintWords Go.Proofs.YtgfbgfbnmiainaaW.PrintLast Go.Proofs.YtgfbgfbnmiainaaW.PrintMore Go.Proofs.Ytgfbgfbnmiainaa.Q
theorem keep_calls (g n cap : Nat) (xs : List S68) (r : S33) (q : Rl) (A : Option Addr) (vc : Nat) (w0 w1 w : World) (hC : (Kd.int .i64).C w A r.f1.length r.f1) (hq : IsRl r q) (hi : q.inb n) (hF : Kp w0 w1 w g n cap xs) :
    Calls Try.prog 42 #[.agg #[.string r.f0, .slice A r.f1.length vc, .int .i64 r.f2], .slice (some ⟨g, 0, none⟩) n cap] w (KpEnd w0 w1 g n cap (keepR q xs)) := by
  obtain ⟨f0, f1, f2⟩ := r
  cases q with
  | part a b =>
    obtain ⟨rfl, rfl⟩ := hq
    obtain ⟨⟨la, ra⟩, lb, rb⟩ := hi
    obtain ⟨ab, ao, rfl, q0, qj⟩ := cells_of hC (by simp)
    exact keep_part g n cap xs ab ao vc a b f2 w0 w1 w la ra lb rb q0 (qj 1 (by omega) (by simp)) hF
  | apart a b =>
    obtain ⟨rfl, rfl⟩ := hq
    obtain ⟨⟨la, ra⟩, lb, rb⟩ := hi
    obtain ⟨ab, ao, rfl, q0, qj⟩ := cells_of hC (by simp)
    exact keep_apart g n cap xs ab ao vc a b f2 w0 w1 w la ra lb rb q0 (qj 1 (by omega) (by simp)) hF
  | union a b c =>
    obtain ⟨rfl, rfl⟩ := hq
    obtain ⟨⟨la, ra⟩, ⟨lb, rb⟩, lc, rc⟩ := hi
    obtain ⟨ab, ao, rfl, q0, qj⟩ := cells_of hC (by simp)
    exact keep_union g n cap xs ab ao vc a b c f2 w0 w1 w la ra lb rb lc rc q0 (qj 1 (by omega) (by simp)) (qj 2 (by omega) (by simp)) hF
  | meet a b c =>
    obtain ⟨rfl, rfl⟩ := hq
    obtain ⟨⟨la, ra⟩, ⟨lb, rb⟩, lc, rc⟩ := hi
    obtain ⟨ab, ao, rfl, q0, qj⟩ := cells_of hC (by simp)
    exact keep_meet g n cap xs ab ao vc a b c f2 w0 w1 w la ra lb rb lc rc q0 (qj 1 (by omega) (by simp)) (qj 2 (by omega) (by simp)) hF
  | minus a b c =>
    obtain ⟨rfl, rfl⟩ := hq
    obtain ⟨⟨la, ra⟩, ⟨lb, rb⟩, lc, rc⟩ := hi
    obtain ⟨ab, ao, rfl, q0, qj⟩ := cells_of hC (by simp)
    exact keep_minus g n cap xs ab ao vc a b c f2 w0 w1 w la ra lb rb lc rc q0 (qj 1 (by omega) (by simp)) (qj 2 (by omega) (by simp)) hF
  | has a N =>
    obtain ⟨rfl, rfl, rfl⟩ := hq
    obtain ⟨la, ra⟩ := hi
    obtain ⟨ab, ao, rfl, q0, qj⟩ := cells_of hC (by simp)
    by_cases h : 0 ≤ f2 ∧ f2 ≤ 63
    · have e : keepR (.has a f2) xs = keep_has_ xs a f2 := by
        simp only [keepR, stepsQ]
        rw [if_pos h]
        rfl
      rw [e]
      exact keep_has_in g n cap xs ab ao vc a f2 w0 w1 w la ra q0 hF h
    · have e : keepR (.has a f2) xs = u4 xs a true := by
        simp only [keepR, stepsQ]
        rw [if_neg h]
        rfl
      rw [e]
      exact keep_has_out g n cap xs ab ao vc a f2 w0 w1 w la ra q0 hF h
  | lacks a N =>
    obtain ⟨rfl, rfl, rfl⟩ := hq
    obtain ⟨la, ra⟩ := hi
    obtain ⟨ab, ao, rfl, q0, qj⟩ := cells_of hC (by simp)
    by_cases h : 0 ≤ f2 ∧ f2 ≤ 63
    · have e : keepR (.lacks a f2) xs = keep_lacks_ xs a f2 := by
        simp only [keepR, stepsQ]
        rw [if_pos h]
        rfl
      rw [e]
      exact keep_lacks_in g n cap xs ab ao vc a f2 w0 w1 w la ra q0 hF h
    · have e : keepR (.lacks a f2) xs = xs := by
        simp only [keepR, stepsQ]
        rw [if_neg h]
        rfl
      rw [e]
      exact keep_lacks_out g n cap xs ab ao vc a f2 w0 w1 w la ra q0 hF h
  | size a N =>
    obtain ⟨rfl, rfl, rfl⟩ := hq
    obtain ⟨la, ra⟩ := hi
    obtain ⟨ab, ao, rfl, q0, qj⟩ := cells_of hC (by simp)
    exact keep_size g n cap xs ab ao vc a f2 w0 w1 w la ra q0 hF
end Go.Proofs.Ytgfbgfbnmiainaa.Fam
/-! The reference's Fix: the walk. -/
namespace Go.Proofs.Ytgfbgfbnmiainaa.Fam
set_option linter.unusedVariables false
set_option linter.unusedSimpArgs false
open Go.RowKit Go.Proofs.YtgfbgfbnmiainaaW.PrintWords Go.Proofs.YtgfbgfbnmiainaaW.PrintLast Go.Proofs.YtgfbgfbnmiainaaW.PrintMore Go.Proofs.Ytgfbgfbnmiainaa.Q
attribute [local go_sem] Go.Proofs.YtgfbgfbnmiainaaW.OwnWords.isSome_setCell max2_int min2_int
attribute [local go_sem high] eqA68
theorem info68 : (Try.prog.info? 68).map (fun i => (i.zero, i.size, i.bytes)) = some (some (.agg #[.int .u64 0, .int .u64 0, .int .i64 0, .int .i64 0, .bool false]), 5, 40) := by kernel_rfl
theorem ok_no {rels : List S33} {l : List S37} (h : ¬ ((l.length ≤ 40 ∧ rels.length ≤ 100) ∧ (∀ i : Nat, i < l.length → vl (rd_T37 l i) = true) ∧ ∀ i : Nat, i < rels.length → validB (rd_T33 rels i).f0 (rd_T33 rels i).f1 l.length = true)) : okB rels l = false := by
  rw [Bool.eq_false_iff, ne_eq, okB_iff]
  exact h
noncomputable def nrs (l : List S37) (i : Nat) : List S68 := (List.range i).map fun j : Nat => NR (mk68 (opn (rd_T37 l j)))
theorem nrs_succ (l : List S37) (i : Nat) : nrs l (i + 1) = nrs l i ++ [NR (mk68 (opn (rd_T37 l i)))] := by simp [nrs, List.range_succ]
theorem nrs_len (l : List S37) (i : Nat) : (nrs l i).length = i := by simp [nrs]
theorem nrs_all (l : List S37) : nrs l l.length = ((xsOf l).map mk68).map NR := by unfold nrs xsOf; rw [List.map_map, List.map_map]; rfl
theorem r68_move {w w' : World} {base : Nat} {v : Value} {xs : List S68} (h : Kd.R k68 68 w base (fun _ => True) v xs) (hm : ∀ k, v.ownBlock = some k → w'.heap[k]? = w.heap[k]?) : Kd.R k68 68 w' base (fun _ => True) v xs := by
  obtain ⟨_, inner, ho, hr⟩ := h
  refine ⟨fun _ _ => trivial, inner, own_move ho hm, hr.imp_ (fun x c hp => ?_)⟩
  rw [k68_openM hp]
  exact k68_mkM _ _ _ x
/-- next, while now stays as it is in W. -/
structure Nx (w0 W w : World) (v : Value) (xs : List S68) : Prop where
  r : Kd.R k68 68 w w0.heap.size (fun _ => True) v xs
  b : Below w0.heap.size w0 w
  k : ∀ i, i < W.heap.size → w.heap[i]? = W.heap[i]?
  f : ∀ g, v.ownBlock = some g → W.heap.size ≤ g
  s : W.heap.size ≤ w.heap.size
theorem nx_below {w0 W w w' : World} {v : Value} {xs : List S68} (h : Nx w0 W w v xs) (hb : Below w.heap.size w w') : Nx w0 W w' v xs :=
  ⟨Kd.R_below h.r hb, below_then h.b h.b.size hb, fun i hi => (hb.block i (Nat.lt_of_lt_of_le hi h.s)).trans (h.k i hi), h.f, Nat.le_trans h.s hb.size⟩
theorem nx_alloc {w0 W w : World} {v : Value} {xs : List S68} (h : Nx w0 W w v xs) (o : Obj) : Nx w0 W (w.alloc o) v xs := nx_below h (below_alloc (Below.refl _ _) o)
theorem nx_drew {w0 W w : World} {v : Value} {xs : List S68} (h : Nx w0 W w v xs) : Nx w0 W w.drew v xs := nx_below h (below_drew (Below.refl _ _))
theorem nx_drewN {w0 W w : World} {v : Value} {xs : List S68} (h : Nx w0 W w v xs) (m : Nat) : Nx w0 W (w.drewN m) v xs := nx_below h (pw_below_drewN (Below.refl _ _) m)
theorem nx_kp {w0 W w w' : World} {g n cap : Nat} {xs ys : List S68} (h : Nx w0 W w (.slice (some ⟨g, 0, none⟩) n cap) xs) (hk : Kp w0 w w' g n cap ys) : Nx w0 W w' (.slice (some ⟨g, 0, none⟩) n cap) ys := by
  have hg := h.f g (by simp [Value.ownBlock])
  exact ⟨hk.1, hk.2.1, fun i hi => (hk.2.2.1.2 i (Nat.lt_of_lt_of_le hi h.s) (by omega) (by simp)).trans (h.k i hi), h.f, Nat.le_trans h.s hk.2.2.1.1⟩
theorem nx_now {w0 W w : World} {v v' : Value} {xs ys : List S68} (h : Nx w0 W w v xs) (hr : Kd.R k68 68 W w0.heap.size (fun _ => True) v' ys) : Kd.R k68 68 w w0.heap.size (fun _ => True) v' ys :=
  r68_move hr (fun k hk => h.k k (Kd.R_lt hr k hk))
/-- A whole element is stored. -/
theorem nx_store {w0 W w : World} {g n cap : Nat} {xs : List S68} (h : Nx w0 W w (.slice (some ⟨g, 0, none⟩) n cap) xs) (i : Int) (h0 : 0 ≤ i) (h1 : i < n) (s : S68) :
    Nx w0 W (((((w.setCell ⟨g, i.toNat * 5, none⟩ (.int .u64 s.f0)).setCell ⟨g, i.toNat * 5 + 1, none⟩ (.int .u64 s.f1)).setCell ⟨g, i.toNat * 5 + 2, none⟩ (.int .i64 s.f2)).setCell ⟨g, i.toNat * 5 + 3, none⟩ (.int .i64 s.f3)).setCell ⟨g, i.toNat * 5 + 4, none⟩ (.bool s.f4)) (.slice (some ⟨g, 0, none⟩) n cap) (xs.set i.toNat s) := by
  have hg := h.f g (by simp [Value.ownBlock])
  obtain ⟨h1', h2, h3, h4, h5⟩ := h
  obtain ⟨c, hl, hM, hc, hf⟩ := Kd.R_elem h1' z68 i h0 h1
  have hl5 : c.length = 5 := hl
  have hgb : w0.heap.size ≤ g := Kd.R_base h1' g (by simp [Value.ownBlock])
  obtain ⟨r1, r2⟩ := Kd.R_seg h1' i h0 h1 (c := c) (seg := [.int .u64 s.f0, .int .u64 s.f1, .int .i64 s.f2, .int .i64 s.f3, .bool s.f4]) (j := 0) hl hc (show 5 ≤ 5 from by decide) (x' := s) (okp := fun _ => False) (by
    have : c.take 0 ++ [.int .u64 s.f0, .int .u64 s.f1, .int .i64 s.f2, .int .i64 s.f3, .bool s.f4] ++ c.drop (0 + [Value.int .u64 s.f0, .int .u64 s.f1, .int .i64 s.f2, .int .i64 s.f3, .bool s.f4].length) = [.int .u64 s.f0, .int .u64 s.f1, .int .i64 s.f2, .int .i64 s.f3, .bool s.f4] := by
      rw [List.drop_of_length_le (by simp; omega)]
      simp
    rw [this]
    exact k68_mkM _ _ _ s) (fun _ hk => hk.elim)
  refine ⟨r1, ?_, fun k hk => (r2.block k (by omega) (by simp; omega)).trans (h3 k hk), h4, Nat.le_trans h5 r2.size⟩
  exact ((((h2.setCell (by exact hgb) _).setCell (by exact hgb) _).setCell (by exact hgb) _).setCell (by exact hgb) _).setCell (by exact hgb) _
/-- next (value v, list y), and now (value u, list x). -/
def Ny (w0 w : World) (v : Value) (y : List S68) (u : Value) (x : List S68) : Prop := ∃ W, Nx w0 W w v y ∧ Kd.R k68 68 W w0.heap.size (fun _ => True) u x
theorem ny_r {w0 w : World} {v u : Value} {x y : List S68} (h : Ny w0 w v y u x) : Kd.R k68 68 w w0.heap.size (fun _ => True) v y := by obtain ⟨W, h, _⟩ := h; exact h.r
theorem ny_b {w0 w : World} {v u : Value} {x y : List S68} (h : Ny w0 w v y u x) : Below w0.heap.size w0 w := by obtain ⟨W, h, _⟩ := h; exact h.b
theorem ny_now {w0 w : World} {v u : Value} {x y : List S68} (h : Ny w0 w v y u x) : Kd.R k68 68 w w0.heap.size (fun _ => True) u x := by obtain ⟨W, h, g⟩ := h; exact nx_now h g
theorem ny_ne {w0 w : World} {v u : Value} {x y : List S68} (h : Ny w0 w v y u x) {a b : Nat} (ha : v.ownBlock = some a) (hb : u.ownBlock = some b) : a ≠ b := by
  obtain ⟨W, h, g⟩ := h
  have h1 := h.f a ha
  have h2 := Kd.R_lt g b hb
  omega
theorem ny_below {w0 w w' : World} {v u : Value} {x y : List S68} (h : Ny w0 w v y u x) (hb : Below w.heap.size w w') : Ny w0 w' v y u x := by obtain ⟨W, h, g⟩ := h; exact ⟨W, nx_below h hb, g⟩
theorem ny_kp {w0 w w' : World} {g n cap : Nat} {u : Value} {x y z : List S68} (h : Ny w0 w (.slice (some ⟨g, 0, none⟩) n cap) y u x) (hk : Kp w0 w w' g n cap z) : Ny w0 w' (.slice (some ⟨g, 0, none⟩) n cap) z u x := by obtain ⟨W, h, r⟩ := h; exact ⟨W, nx_kp h hk, r⟩
theorem ny_cast {w0 w : World} {v u : Value} {x y z : List S68} (e : y = z) (h : Ny w0 w v y u x) : Ny w0 w v z u x := e ▸ h
theorem ny_store {w0 w : World} {g n cap : Nat} {u : Value} {x y : List S68} (h : Ny w0 w (.slice (some ⟨g, 0, none⟩) n cap) y u x) (i : Int) (h0 : 0 ≤ i) (h1 : i < n) (s : S68) :
    Ny w0 (((((w.setCell ⟨g, i.toNat * 5, none⟩ (.int .u64 s.f0)).setCell ⟨g, i.toNat * 5 + 1, none⟩ (.int .u64 s.f1)).setCell ⟨g, i.toNat * 5 + 2, none⟩ (.int .i64 s.f2)).setCell ⟨g, i.toNat * 5 + 3, none⟩ (.int .i64 s.f3)).setCell ⟨g, i.toNat * 5 + 4, none⟩ (.bool s.f4)) (.slice (some ⟨g, 0, none⟩) n cap) (y.set i.toNat s) u x := by obtain ⟨W, h, r⟩ := h; exact ⟨W, nx_store h i h0 h1 s, r⟩
def e68 (a b : S68) : Bool := a.f0 == b.f0 && (a.f1 == b.f1 && (a.f2 == b.f2 && (a.f3 == b.f3 && (a.f4 == b.f4))))
theorem e68_iff {a b : S68} : e68 a b = true ↔ a = b := by
  obtain ⟨a0, a1, a2, a3, a4⟩ := a
  obtain ⟨b0, b1, b2, b3, b4⟩ := b
  simp [e68]
noncomputable def mixR (y : List S68) (i : Nat) : List S68 := (y.map NR).take i ++ y.drop i
theorem mix_len (y : List S68) (i : Nat) : (mixR y i).length = y.length := by simp [mixR]; omega
theorem rd_at68 {y : List S68} {i : Nat} (h : i < y.length) : rd_T68 y (i : Int) = y[i] := by
  unfold rd_T68
  rw [Int.toNat_natCast, List.getD_eq_getElem?_getD, List.getElem?_eq_getElem h]
  rfl
theorem mix_rd {y : List S68} {i : Nat} (h : i < y.length) : rd_T68 (mixR y i) (i : Int) = rd_T68 y (i : Int) := by
  rw [rd_at68 h, rd_at68 (by rw [mix_len]; exact h)]
  unfold mixR
  have hm : min i y.length = i := by omega
  rw [List.getElem_append_right (by simp [hm])]
  simp [hm]
theorem mix_next {y : List S68} {i : Nat} (h : i < y.length) : (mixR y i).set i (NR (rd_T68 y (i : Int))) = mixR y (i + 1) := by
  unfold mixR
  have hm : min i y.length = i := by omega
  rw [List.set_append_right _ _ (by simp [hm]), List.drop_eq_getElem_cons h, rd_at68 h]
  have e : i - ((y.map NR).take i).length = 0 := by simp [hm]
  rw [e, List.set_cons_zero, List.take_succ_eq_append_getElem (by simpa using h)]
  simp
theorem mix_rd' {y : List S68} {i : Nat} (h : i < y.length) : rd_T68 (mixR y (i + 1)) (i : Int) = NR (rd_T68 y (i : Int)) := by
  have e := rd68_set (xs := mixR y i) (i := (i : Int)) (j := (i : Int)) (by omega) (by rw [mix_len]; omega) (by omega) (NR (rd_T68 y (i : Int)))
  rw [Int.toNat_natCast, if_pos rfl, mix_next h] at e
  exact e
theorem mix_zero (y : List S68) : mixR y 0 = y := by simp [mixR]
theorem mix_all (y : List S68) : mixR y y.length = y.map NR := by
  unfold mixR
  rw [List.take_of_length_le (by simp), List.drop_length, List.append_nil]
noncomputable def smB (x y : List S68) (i : Nat) : Bool := (List.range i).all fun j => e68 (NR (rd_T68 y (j : Int))) (rd_T68 x (j : Int))
theorem sm_succ (x y : List S68) (i : Nat) : smB x y (i + 1) = (smB x y i && e68 (NR (rd_T68 y (i : Int))) (rd_T68 x (i : Int))) := by simp [smB, List.range_succ]
theorem sm_iff {x y : List S68} (h : y.length = x.length) : smB x y x.length = true ↔ y.map NR = x := by
  unfold smB
  rw [List.all_eq_true]
  constructor
  · intro hs
    apply List.ext_getElem (by simpa using h)
    intro i h1 h2
    have := e68_iff.mp (hs i (List.mem_range.mpr h2))
    rw [rd_at68 h2, rd_at68 (by omega)] at this
    simpa using this
  · intro e j hj
    have hj := List.mem_range.mp hj
    rw [e68_iff, rd_at68 hj, rd_at68 (by omega)]
    have e2 := congrArg (fun l => l[j]?) e
    simp only [List.getElem?_map] at e2
    rw [List.getElem?_eq_getElem (by omega), List.getElem?_eq_getElem hj] at e2
    simpa using e2
theorem r68_elem {w : World} {base g n cap : Nat} {xs : List S68} (h : Kd.R k68 68 w base (fun _ => True) (.slice (some ⟨g, 0, none⟩) n cap) xs) (i : Int) (h0 : 0 ≤ i) (h1 : i < n) :
    w.cell? ⟨g, i.toNat * 5, none⟩ = some (.int .u64 (rd_T68 xs i).f0) ∧ w.cell? ⟨g, i.toNat * 5 + 1, none⟩ = some (.int .u64 (rd_T68 xs i).f1) ∧ w.cell? ⟨g, i.toNat * 5 + 2, none⟩ = some (.int .i64 (rd_T68 xs i).f2) ∧ w.cell? ⟨g, i.toNat * 5 + 3, none⟩ = some (.int .i64 (rd_T68 xs i).f3) ∧ w.cell? ⟨g, i.toNat * 5 + 4, none⟩ = some (.bool (rd_T68 xs i).f4) ∧
    w.frozen? ⟨g, i.toNat * 5, none⟩ = false ∧ w.frozen? ⟨g, i.toNat * 5 + 1, none⟩ = false ∧ w.frozen? ⟨g, i.toNat * 5 + 2, none⟩ = false ∧ w.frozen? ⟨g, i.toNat * 5 + 3, none⟩ = false ∧ w.frozen? ⟨g, i.toNat * 5 + 4, none⟩ = false := by
  obtain ⟨c, hl, hM, hc, hf⟩ := Kd.R_elem h z68 i h0 h1
  obtain rfl := k68_openM hM
  exact ⟨hc 0 _ rfl, hc 1 _ rfl, hc 2 _ rfl, hc 3 _ rfl, hc 4 _ rfl, hf 0, hf 1, hf 2, hf 3, hf 4⟩
theorem nrs_w {l : List S37} (h : ∀ i : Nat, i < l.length → vl (rd_T37 l i) = true) : W68 l.length (nrs l l.length) := by
  refine ⟨nrs_len l _, fun i h0 h1 => ?_⟩
  have hi : i.toNat < (nrs l l.length).length := by rw [nrs_len]; omega
  have e : rd_T68 (nrs l l.length) i = NR (mk68 (opn (rd_T37 l (i.toNat : Int)))) := by
    rw [show i = ((i.toNat : Nat) : Int) by omega, rd_at68 hi]
    simp [nrs]
  rw [e]
  exact (NR_rg (s := mk68 (opn (rd_T37 l (i.toNat : Int)))) (opn_rg (h i.toNat (by omega))).wf).wf
theorem w68_round {n : Nat} {qs : Nat → Rl} {nr : Nat} {x : List S68} (hq : ∀ j, j < nr → (qs j).inb n) (h : W68 n x) : W68 n (roundR qs nr x) := by
  have hp := h.dn (dn_pass qs nr 0 (fun j _ hj => hq j (by omega)) x h)
  refine ⟨by unfold roundR; rw [List.length_map]; exact hp.1, fun i h0 h1 => ?_⟩
  have hi : i.toNat < (passR qs nr 0 x).length := by rw [hp.1]; omega
  have e : rd_T68 (roundR qs nr x) i = NR (rd_T68 (passR qs nr 0 x) i) := by
    rw [show i = ((i.toNat : Nat) : Int) by omega, rd_at68 hi, rd_at68 (by unfold roundR; rw [List.length_map]; exact hi)]
    simp [roundR]
  rw [e]
  exact (NR_rg (hp.2 i h0 h1)).wf
theorem any_none {x : List S68} {qs : Nat → Rl} {nr : Nat} (h : ∀ j : Nat, j < x.length → (NR (rd_T68 (passR qs nr 0 x) (j : Int))).f4 = false) (hl : (passR qs nr 0 x).length = x.length) : (roundR qs nr x).any (·.f4) = false := by
  rw [Bool.eq_false_iff, ne_eq, List.any_eq_true]
  rintro ⟨s, hs, h4⟩
  obtain ⟨s0, hs0, rfl⟩ := List.mem_map.mp hs
  obtain ⟨i, hi, rfl⟩ := List.mem_iff_getElem.mp hs0
  have := h i (by omega)
  rw [rd_at68 hi] at this
  rw [this] at h4
  cases h4
theorem validR_k {r : S33} {n : Nat} (hl : r.f1.length ≤ 1000) {k : Nat} (hk : 1005 ≤ k) : manystrandref07_ValidRel.f k r.f0 r.f1 r.f2 n = some (validB r.f0 r.f1 n) := by
  have h0 := validR r.f0 r.f1 r.f2 n hl
  have : ∀ m, manystrandref07_ValidRel.f (r.f1.length + 5 + m) r.f0 r.f1 r.f2 n = some (validB r.f0 r.f1 n) := by
    intro m
    induction m with
    | zero => exact h0
    | succ m ih => exact manystrandref07_ValidRel.mono _ _ _ _ _ _ ih
  have := this (k - (r.f1.length + 5))
  rwa [show r.f1.length + 5 + (k - (r.f1.length + 5)) = k by omega] at this
section
variable (A0 : Option Addr) (c0 : Nat) (rels : List S33) (A1 : Option Addr) (c1 : Nat) (l : List S37) (w : World)
def FixEnd (out : List S37) (code : Int) (w : World) (e : Ending) (w' : World) : Prop := ∃ v, e = .returned (.tuple #[v, .int .i64 code]) ∧ Kd.R k37 37 w' w.heap.size (fun _ => True) v out ∧ Below w.heap.size w w'
set_option maxHeartbeats 8000000 in
set_option maxRecDepth 100000 in
theorem fixR_long (hn : ¬ l.length ≤ 40) (out : List S37) (code : Int) (hno : okB rels l = false → out = [] ∧ code = 2) :
    Calls Try.prog 12 #[.slice A0 rels.length c0, .slice A1 l.length c1] w (FixEnd out code w) := by
  obtain ⟨rfl, rfl⟩ := hno (ok_no (fun h => hn h.1.1))
  clear hno
  have q1 : decide ((40 : Int) < (l.length : Int)) = true := decide_eq_true (by omega)
  have q2 := eq_true (show (40 : Int) < (l.length : Int) by omega)
  clear hn
  go_enter Try.func12, Try.ntmps12
  go_wp2_with fail
  go_ret2
  exact ⟨_, rfl, Kd.R_nil _ _ _ _ _, Below.refl _ _⟩
set_option maxHeartbeats 8000000 in
set_option maxRecDepth 100000 in
theorem fixR_walk (hr0 : Kd.C k33 w A0 rels.length rels) (hc0 : rels.length ≤ c0) (hr1 : Kd.C k37 w A1 l.length l) (hc1 : l.length ≤ c1) (hn : l.length ≤ 40) (hrl : rels.length ≤ 1000) (hl : ∀ i : Nat, i < l.length → (rd_T37 l i).f0.length ≤ 1000 ∧ (rd_T37 l i).f1.length ≤ 1000) (hv : ∀ i : Nat, i < rels.length → (rd_T33 rels i).f1.length ≤ 1000)
    (out : List S37) (code : Int) (hno : okB rels l = false → out = [] ∧ code = 2)
    (hyes : okB rels l = true → ∃ m r, roundsR (qsOf rels) rels.length m (((xsOf l).map mk68).map NR) = some r ∧ (r = none → out = [] ∧ code = 60) ∧ ∀ z, r = some z → code = 0 ∧ ∃ Y, z = Y.map mk68 ∧ AN l.length Y ∧ out = (List.range l.length).map fun i : Nat => clo (rd_T59 Y i)) :
    Calls Try.prog 12 #[.slice A0 rels.length c0, .slice A1 l.length c1] w (FixEnd out code w) := by
  have HR0 := Aside0.mk (And.intro hr0 hc0)
  have HR1 := Aside0.mk (And.intro hr1 hc1)
  have HN := Aside0.mk (And.intro hn (And.intro hrl (And.intro hl hv)))
  have HNo := Aside0.mk hno
  have HYes := Aside0.mk hyes
  have q1 : decide ((40 : Int) < (l.length : Int)) = false := decide_eq_false (by omega)
  have q2 := eq_false (show ¬ (40 : Int) < (l.length : Int) by omega)
  clear hr0 hc0 hr1 hc1 hn hrl hl hv hno hyes
  go_enter Try.func12, Try.ntmps12
  go_upto_region 5 with fail
  clear q1 q2
  have HZ := Aside0.mk (show Below w.heap.size w w ∧ Kd.R k68 68 w w.heap.size (fun _ => True) (.slice none 0 0) (nrs l 0) from ⟨Below.refl _ _, Kd.R_nil _ _ _ _ _⟩)
  go_loopg [6, 7] l.length (fun kq v6 v7 w' => ∃ (i : Nat) (x : Int) (v : Value), v7 = .int .i64 x ∧ Aside0 (x = (i : Int)) ∧ v = v6 ∧ i + kq = l.length ∧ Aside0 (∀ j : Nat, j < i → vl (rd_T37 l j) = true) ∧ Aside0 (Below w.heap.size w w' ∧ Kd.R k68 68 w' w.heap.size (fun _ => True) v (nrs l i)))
  case atStart => exact ⟨0, 0, .slice none 0 0, rfl, ⟨rfl⟩, rfl, by omega, ⟨fun j hj => absurd hj (by omega)⟩, HZ⟩
  case round =>
    clear HZ
    obtain ⟨i, x, v, rfl, HX, rfl, hi, HT, HZ⟩ := hrel
    by_cases hlt : i < l.length
    · have d0 : decide (0 ≤ x) = true := decide_eq_true (by have := HX.out; omega)
      have d1 : decide (x < (l.length : Int)) = true := decide_eq_true (by have := HX.out; omega)
      have p0 := eq_true (show 0 ≤ x by have := HX.out; omega)
      have p1 := eq_true (show x < (l.length : Int) by have := HX.out; omega)
      obtain ⟨ad, B0, b0, B1, b1, rfl, x0, x1, x2, x3, m0, M0, m1, M1⟩ := at_T37 HR1.out.1 x (by have := HX.out; omega) (by have := HX.out; omega)
      have hB := HZ.out.1
      replace x0 := (hB.cell (World.block_lt_of_cell? w _ x0)).trans x0
      replace x1 := (hB.cell (World.block_lt_of_cell? w _ x1)).trans x1
      replace x2 := (hB.cell (World.block_lt_of_cell? w _ x2)).trans x2
      replace x3 := (hB.cell (World.block_lt_of_cell? w _ x3)).trans x3
      have HM := Aside0.mk (And.intro (Kd.C_below M0 hB) (And.intro m0 (And.intro (Kd.C_below M1 hB) m1)))
      have hsm := HN.out.2.2.1 i hlt
      rw [← HX.out] at hsm
      have HV := Aside0.mk (validR_f hsm.1 hsm.2 (k := 2000) (by decide))
      cases hvl : vl (rd_T37 l x) with
      | false =>
        rw [hvl] at HV
        obtain ⟨rfl, rfl⟩ := HNo.out (ok_no (fun h => by have := h.2.1 i hlt; rw [← HX.out, hvl] at this; cases this))
        clear M0 M1 m0 m1 hB hsm hvl HNo HYes
        go_wp2_with (go_at_call 23; (refine (manystrandref07_Valid.calls 2000 B0 b0 (rd_T37 l x).f0 B1 b1 (rd_T37 l x).f1 (rd_T37 l x).f2 (rd_T37 l x).f3 false _ HM.out.1 HM.out.2.1 HM.out.2.2.1 HM.out.2.2.2 HV.out).mono ?_); rintro e w2 ⟨rfl, hb⟩; have HB2 := Aside0.mk (below_then HZ.out.1 HZ.out.1.size hb); clear hb)
        go_ret2
        exact ⟨_, rfl, Kd.R_nil _ _ _ _ _, HB2.out⟩
      | true =>
        rw [hvl] at HV
        have HI := Aside0.mk (inR_f hsm.1 hsm.2 hvl (k := 2000) (by decide))
        have HN2 := Aside0.mk (normR (mk68 (opn (rd_T37 l x))) (opn_rg hvl).wf (k := 2000) (by decide))
        have HVL := Aside0.mk hvl
        have LM : Aside0 ((nrs l i).length + 1 ≤ 1000) := ⟨by rw [nrs_len]; have := HN.out.1; omega⟩
        clear M0 M1 m0 m1 hB hsm hvl
        go_wp2_with (first
          | (go_at_call 23; (refine (manystrandref07_Valid.calls 2000 B0 b0 (rd_T37 l x).f0 B1 b1 (rd_T37 l x).f1 (rd_T37 l x).f2 (rd_T37 l x).f3 true _ HM.out.1 HM.out.2.1 HM.out.2.2.1 HM.out.2.2.2 HV.out).mono ?_); rintro e w2 ⟨rfl, hb⟩; replace x0 := pw_cell_below hb x0; replace x1 := pw_cell_below hb x1; replace x2 := pw_cell_below hb x2; replace x3 := pw_cell_below hb x3; have HZ2 := Aside0.mk (And.intro (below_then HZ.out.1 HZ.out.1.size hb) (Kd.R_below HZ.out.2 hb)); have HM2 := Aside0.mk (And.intro (Kd.C_below HM.out.1 hb) (And.intro HM.out.2.1 (And.intro (Kd.C_below HM.out.2.2.1 hb) HM.out.2.2.2))); clear hb)
          | (go_at_call 41; (refine (manystrandref07_in.calls 2000 B0 b0 (rd_T37 l x).f0 B1 b1 (rd_T37 l x).f1 (rd_T37 l x).f2 (rd_T37 l x).f3 (opn (rd_T37 l x)).f0 (opn (rd_T37 l x)).f1 (opn (rd_T37 l x)).f2 (opn (rd_T37 l x)).f3 false _ HM2.out.1 HM2.out.2.1 HM2.out.2.2.1 HM2.out.2.2.2 HI.out).mono ?_); rintro e w3 ⟨rfl, hb⟩; have HZ3 := Aside0.mk (And.intro (below_then HZ2.out.1 HZ2.out.1.size hb) (Kd.R_below HZ2.out.2 hb)); clear hb)
          | (go_at_call 40; (refine (manystrandref07_normal.calls 2000 _ _ _ _ _ (NR (mk68 (opn (rd_T37 l x)))).f0 (NR (mk68 (opn (rd_T37 l x)))).f1 (NR (mk68 (opn (rd_T37 l x)))).f2 (NR (mk68 (opn (rd_T37 l x)))).f3 (NR (mk68 (opn (rd_T37 l x)))).f4 _ HN2.out).mono ?_); rintro e w4 ⟨rfl, hb⟩; have HZ4 := Aside0.mk (And.intro (below_then HZ3.out.1 HZ3.out.1.size hb) (Kd.R_below HZ3.out.2 hb)); clear hb)
          | (at_builtin; refine Kd.R_append k68 (w0 := w) w.heap.size rfl (.tmp 30) (.tmp 37) 65 68 (.agg #[.int .u64 0, .int .u64 0, .int .i64 0, .int .i64 0, .bool false]) 40 rfl Try.underlying65 info68 rfl (by decide) (by omega) v (nrs l i) (NR (mk68 (opn (rd_T37 l x)))) [.int .u64 (NR (mk68 (opn (rd_T37 l x)))).f0, .int .u64 (NR (mk68 (opn (rd_T37 l x)))).f1, .int .i64 (NR (mk68 (opn (rd_T37 l x)))).f2, .int .i64 (NR (mk68 (opn (rd_T37 l x)))).f3, .bool (NR (mk68 (opn (rd_T37 l x)))).f4] (fun _ => True) (fun _ => False) rfl rfl (k68_mkM _ _ _ _) (fun _ hk => hk.elim) ?aF ?aO ?aB ?aS ?aL ?_; (case aF => exact fun _ _ => trivial); (case aO => exact HZ4.out.2); (case aB => exact HZ4.out.1); (case aS => exact HZ4.out.1.size); (case aL => have := LM.out; omega); intro v1 w5 ho hb hg hat; have HW := Aside0.mk (And.intro hb ho); clear hb hg hat ho))
        go_roundg (l.length - (i + 1))
        case measure => omega
        case rel => exact ⟨i + 1, _, v1, (by first | rfl | (simp; done)), ⟨by rw [HX.out]; unfold wrap64; have := HN.out.1; omega⟩, rfl, by omega, ⟨fun j hj => by
          rcases Nat.lt_or_ge j i with h_ | h_
          · exact HT.out j h_
          · obtain rfl : j = i := by omega
            rw [← HX.out]
            exact HVL.out⟩, ⟨HW.out.1, by rw [nrs_succ, ← HX.out]; exact HW.out.2⟩⟩
    · obtain rfl : i = l.length := by omega
      have d1 : decide (x < (l.length : Int)) = false := decide_eq_false (by have := HX.out; omega)
      have p1 := eq_false (show ¬ x < (l.length : Int) by have := HX.out; omega)
      clear HX hi hlt
      go_upto_region 11 with fail
      clear d1 p1
      go_loopg [8] rels.length (fun kq v8 w' => ∃ (i : Nat) (x : Int), v8 = .int .i64 x ∧ Aside0 (x = (i : Int)) ∧ i + kq = rels.length ∧ Aside0 (∀ j : Nat, j < i → validB (rd_T33 rels j).f0 (rd_T33 rels j).f1 l.length = true) ∧ Aside0 (Below w.heap.size w w' ∧ Kd.R k68 68 w' w.heap.size (fun _ => True) v (nrs l l.length)))
      case atStart => exact ⟨0, 0, rfl, ⟨rfl⟩, by omega, ⟨fun j hj => absurd hj (by omega)⟩, HZ⟩
      case round =>
        clear HZ
        obtain ⟨i, x, rfl, HX, hi, HS, HZ⟩ := hrel
        by_cases hlt : i < rels.length
        · have d0 : decide (0 ≤ x) = true := decide_eq_true (by have := HX.out; omega)
          have d1 : decide (x < (rels.length : Int)) = true := decide_eq_true (by have := HX.out; omega)
          have p0 := eq_true (show 0 ≤ x by have := HX.out; omega)
          have p1 := eq_true (show x < (rels.length : Int) by have := HX.out; omega)
          obtain ⟨ad, B1, b1, rfl, x0, x1, x2, m1, M1⟩ := at_T33 HR0.out.1 x (by have := HX.out; omega) (by have := HX.out; omega)
          have hB := HZ.out.1
          replace x0 := (hB.cell (World.block_lt_of_cell? w _ x0)).trans x0
          replace x1 := (hB.cell (World.block_lt_of_cell? w _ x1)).trans x1
          replace x2 := (hB.cell (World.block_lt_of_cell? w _ x2)).trans x2
          have HM := Aside0.mk (And.intro (Kd.C_below M1 hB) m1)
          have hsm := HN.out.2.2.2 i hlt
          rw [← HX.out] at hsm
          have HVR := Aside0.mk (validR_k (r := rd_T33 rels x) (n := l.length) hsm (k := 2000) (by decide))
          cases hvl : validB (rd_T33 rels x).f0 (rd_T33 rels x).f1 l.length with
          | false =>
            rw [hvl] at HVR
            obtain ⟨rfl, rfl⟩ := HNo.out (ok_no (fun h => by have := h.2.2 i hlt; rw [← HX.out, hvl] at this; cases this))
            clear M1 m1 hB hsm hvl HNo HYes
            go_wp2_with (go_at_call 15; (refine (manystrandref07_ValidRel.calls 2000 (rd_T33 rels x).f0 B1 b1 (rd_T33 rels x).f1 (rd_T33 rels x).f2 l.length false _ HM.out.1 HM.out.2 HVR.out).mono ?_); rintro e w2 ⟨rfl, hb⟩; have HB2 := Aside0.mk (below_then HZ.out.1 HZ.out.1.size hb); clear hb)
            go_ret2
            exact ⟨_, rfl, Kd.R_nil _ _ _ _ _, HB2.out⟩
          | true =>
            rw [hvl] at HVR
            have HVL := Aside0.mk hvl
            clear M1 m1 hB hsm hvl
            go_wp2_with (go_at_call 15; (refine (manystrandref07_ValidRel.calls 2000 (rd_T33 rels x).f0 B1 b1 (rd_T33 rels x).f1 (rd_T33 rels x).f2 l.length true _ HM.out.1 HM.out.2 HVR.out).mono ?_); rintro e w2 ⟨rfl, hb⟩; have HB2 := Aside0.mk (And.intro (below_then HZ.out.1 HZ.out.1.size hb) (Kd.R_below HZ.out.2 hb)); clear hb)
            go_roundg (rels.length - (i + 1))
            case measure => omega
            case rel => exact ⟨i + 1, _, (by first | rfl | (simp; done)), ⟨by rw [HX.out]; unfold wrap64; have := HN.out.2.1; omega⟩, by omega, ⟨fun j hj => by
              rcases Nat.lt_or_ge j i with h_ | h_
              · exact HS.out j h_
              · obtain rfl : j = i := by omega
                rw [← HX.out]
                exact HVL.out⟩, HB2⟩
        · obtain rfl : i = rels.length := by omega
          have d1 : decide (x < (rels.length : Int)) = false := decide_eq_false (by have := HX.out; omega)
          have p1 := eq_false (show ¬ x < (rels.length : Int) by have := HX.out; omega)
          clear HX hi hlt
          by_cases h100 : rels.length ≤ 100
          · have hok : okB rels l = true := okB_iff.mpr ⟨⟨HN.out.1, h100⟩, HT.out, HS.out⟩
            obtain ⟨m0, r, hr, hrn, hrz⟩ := HYes.out hok
            have HRn := Aside0.mk hrn
            have HRz := Aside0.mk hrz
            have HQ := Aside0.mk (show ∀ j : Nat, j < rels.length → (qsOf rels j).inb l.length ∧ IsRl (rd_T33 rels j) (qsOf rels j) from fun j hj => ⟨(valid_rl (HS.out j hj)).2, (valid_rl (HS.out j hj)).1⟩)
            have hw0 := nrs_w HT.out
            rw [← nrs_all] at hr
            generalize nrs l l.length = x0 at hr HZ hw0
            have q1 : decide ((100 : Int) < (rels.length : Int)) = false := decide_eq_false (by omega)
            have q2 := eq_false (show ¬ (100 : Int) < (rels.length : Int) by omega)
            have HL0 := Aside0.mk (And.intro hr hw0)
            clear HNo HYes HT HS h100 hok hrn hrz hr hw0
            go_upto_region 17 with fail
            clear q1 q2 d1 p1
            go_loopg [6] m0 (fun kq v6 w' => ∃ (x : List S68), Aside0 (roundsR (qsOf rels) rels.length kq x = some r ∧ W68 l.length x) ∧ Aside0 (Below w.heap.size w w' ∧ Kd.R k68 68 w' w.heap.size (fun _ => True) v6 x))
            case atStart => exact ⟨x0, HL0, HZ⟩
            case round =>
              clear HZ HL0
              obtain ⟨x, HI, HZ⟩ := hrel
              cases gk with
              | zero => exact absurd HI.out.1 (by simp [roundsR])
              | succ m =>
                obtain ⟨vA, vc, rfl, hvl, hvC⟩ := Kd.R_reads HZ.out.2
                have HC := Aside0.mk hvC
                have LM : Aside0 (x.length ≤ 40) := ⟨by rw [HI.out.2.1]; exact HN.out.1⟩
                clear hvl hvC
                go_upto_region 19 with (at_builtin; refine Kd.R_append_rows k68 (Rr := k68.K wr) (w0 := w) w.heap.size rfl (.const (.slice none 0 0)) (.tmp 56) 65 68 (.agg #[.int .u64 0, .int .u64 0, .int .i64 0, .int .i64 0, .bool false]) 40 rfl Try.underlying65 info68 rfl (by decide) (by omega) (.slice none 0 0) [] x vA x.length vc (fun _ => True) (fun _ => False) rfl rfl ?aO ?aR ?aM (fun _ hk => hk.elim) ?aF ?aB ?aS ?aL ?_; (case aO => exact Kd.R_nil _ _ _ _ _); (case aR => exact HC.out); (case aM => exact fun x cs h => by rw [k68_open h]; exact k68_mkM _ _ _ x); (case aF => exact fun _ _ => trivial); (case aB => exact HZ.out.1); (case aS => exact HZ.out.1.size); (case aL => have := LM.out; simp only [List.length_nil]; omega); intro v1 w5 ho hb hg hat; have HX1 := Aside0.mk (show Ny w w5 v1 x (.slice vA x.length vc) x from ⟨wr, ⟨by rw [List.nil_append] at ho; exact ho, hb, fun i hi => hg.block i hi (by simp [Value.ownBlock]), fun g hg' => by (rcases hat with h | ⟨b, h, hle⟩; rw [h] at hg'; simp [Value.ownBlock] at hg'; rw [h] at hg'; cases hg'; exact hle), hg.size⟩, HZ.out.2⟩); clear ho hb hg hat)
                have HL1 := Aside0.mk (show passR (qsOf rels) rels.length 0 x = passR (qsOf rels) rels.length 0 x ∧ W68 l.length x from ⟨rfl, HI.out.2⟩)
                go_loopg [10] rels.length (fun kq v10 w' => ∃ (i : Nat) (xi : Int) (y : List S68), v10 = .int .i64 xi ∧ Aside0 (xi = (i : Int)) ∧ i + kq = rels.length ∧ Aside0 (passR (qsOf rels) kq i y = passR (qsOf rels) rels.length 0 x ∧ W68 l.length y) ∧ Aside0 (Ny w w' v1 y (.slice vA x.length vc) x))
                case atStart => exact ⟨0, 0, x, rfl, ⟨rfl⟩, by omega, HL1, HX1⟩
                case round =>
                  clear HX1 HL1
                  obtain ⟨i, xi, y, rfl, HX, hi, HP, HNx⟩ := hrel
                  by_cases hlt : i < rels.length
                  · have d0 : decide (0 ≤ xi) = true := decide_eq_true (by have := HX.out; omega)
                    have d1 : decide (xi < (rels.length : Int)) = true := decide_eq_true (by have := HX.out; omega)
                    have p0 := eq_true (show 0 ≤ xi by have := HX.out; omega)
                    have p1 := eq_true (show xi < (rels.length : Int) by have := HX.out; omega)
                    obtain ⟨ad, B1, b1, rfl, x0, x1, x2, m1, M1⟩ := at_T33 HR0.out.1 xi (by have := HX.out; omega) (by have := HX.out; omega)
                    have hB := ny_b HNx.out
                    replace x0 := (hB.cell (World.block_lt_of_cell? w _ x0)).trans x0
                    replace x1 := (hB.cell (World.block_lt_of_cell? w _ x1)).trans x1
                    replace x2 := (hB.cell (World.block_lt_of_cell? w _ x2)).trans x2
                    have hq := HQ.out i hlt
                    have hyl : y.length = l.length := HP.out.2.1
                    obtain ⟨g, cap, rfl, _, _⟩ := Kd.R_form (ny_r HNx.out) (by rw [hyl]; exact rl_pos hq.1)
                    have hK := keep_calls g y.length cap y (rd_T33 rels xi) (qsOf rels i) B1 b1 w _ _ (Kd.C_below M1 hB) (by rw [HX.out]; exact hq.2) (by rw [hyl]; exact hq.1) (kp_start (ny_r HNx.out) (ny_b HNx.out))
                    have HK := Aside0.mk hK
                    have HP2 := Aside0.mk (And.intro (show passR (qsOf rels) (rels.length - (i + 1)) (i + 1) (keepR (qsOf rels i) y) = passR (qsOf rels) rels.length 0 x by
                      have h := HP.out.1
                      have e : gk = rels.length - (i + 1) + 1 := by omega
                      rw [e] at h
                      exact h) (HP.out.2.dn (dn_keep hq.1 HP.out.2)))
                    clear M1 m1 hB hq hyl hK HP
                    go_wp2_with (go_at_call 42; (refine HK.out.mono ?_); rintro e w6 ⟨rfl, hk⟩; have HNx2 := Aside0.mk (ny_kp HNx.out hk); clear hk)
                    go_roundg (rels.length - (i + 1))
                    case measure => omega
                    case rel => exact ⟨i + 1, _, keepR (qsOf rels i) y, (by first | rfl | (simp; done)), ⟨by rw [HX.out]; unfold wrap64; have := HN.out.2.1; omega⟩, by omega, HP2, HNx2⟩
                  · obtain rfl : i = rels.length := by omega
                    obtain rfl : gk = 0 := by omega
                    have d1 : decide (xi < (rels.length : Int)) = false := decide_eq_false (by have := HX.out; omega)
                    have p1 := eq_false (show ¬ xi < (rels.length : Int) by have := HX.out; omega)
                    clear HX hi hlt
                    have HY := Aside0.mk (show y = passR (qsOf rels) rels.length 0 x from HP.out.1)
                    have HYW := Aside0.mk HP.out.2
                    have HYL : Aside0 (y.length = x.length) := ⟨by rw [HP.out.2.1, HI.out.2.1]⟩
                    obtain ⟨B, bc, rfl, _, _⟩ := Kd.R_reads (ny_r HNx.out)
                    clear HP
                    go_upto_region 24 with fail
                    clear d1 p1
                    have HM0 := Aside0.mk (ny_cast (mix_zero y).symm HNx.out)
                    clear HNx
                    go_loopg [11, 12] y.length (fun kq v11 v12 w' => ∃ (i : Nat) (xi : Int), v12 = .int .i64 xi ∧ Aside0 (xi = (i : Int)) ∧ v11 = .bool (smB x y i) ∧ i + kq = y.length ∧ Aside0 (∀ j : Nat, j < i → (NR (rd_T68 y (j : Int))).f4 = false) ∧ Aside0 (Ny w w' (.slice B y.length bc) (mixR y i) (.slice vA x.length vc) x))
                    case atStart => exact ⟨0, 0, rfl, ⟨rfl⟩, rfl, by omega, ⟨fun j hj => absurd hj (by omega)⟩, HM0⟩
                    case round =>
                      clear HM0
                      obtain ⟨i, xi, rfl, HX, rfl, hi, HNb, HNx⟩ := hrel
                      by_cases hlt : i < y.length
                      · have d0 : decide (0 ≤ xi) = true := decide_eq_true (by have := HX.out; omega)
                        have d1 : decide (xi < (y.length : Int)) = true := decide_eq_true (by have := HX.out; omega)
                        have p0 := eq_true (show 0 ≤ xi by have := HX.out; omega)
                        have p1 := eq_true (show xi < (y.length : Int) by have := HX.out; omega)
                        have d2 : decide (xi < (x.length : Int)) = true := decide_eq_true (by have := HX.out; have := HYL.out; omega)
                        have p2 := eq_true (show xi < (x.length : Int) by have := HX.out; have := HYL.out; omega)
                        have hxi0 : 0 ≤ xi := by have := HX.out; omega
                        have hxi1 : xi < (y.length : Int) := by have := HX.out; omega
                        have hxi2 : xi < (x.length : Int) := by have := HYL.out; omega
                        obtain ⟨g, cap, e_, _, _⟩ := Kd.R_form (ny_r HNx.out) (by rw [mix_len]; omega)
                        injection e_ with e1 e2 e3
                        subst e1
                        clear e2 e3
                        obtain ⟨gx, capx, e_, _, _⟩ := Kd.R_form (ny_now HNx.out) (by have := HYL.out; omega)
                        injection e_ with e1 e2 e3
                        subst e1
                        clear e2 e3
                        have hmr : rd_T68 (mixR y i) xi = rd_T68 y xi := by rw [HX.out]; exact mix_rd hlt
                        obtain ⟨c0_, c1_, c2_, c3_, c4_, z0_, z1_, z2_, z3_, z4_⟩ := r68_elem (ny_r HNx.out) xi hxi0 hxi1
                        rw [hmr] at c0_ c1_ c2_ c3_ c4_
                        have HNr := Aside0.mk (normR (rd_T68 y xi) (HYW.out.2 xi hxi0 (by rw [← HYW.out.1]; exact hxi1)) (k := 2000) (by decide))
                        have HIx := Aside0.mk (And.intro hxi0 (And.intro hxi1 hxi2))
                        clear hmr hxi0 hxi1 hxi2
                        go_upto_region 27 with (go_at_call 40; (refine (manystrandref07_normal.calls 2000 _ _ _ _ _ (NR (rd_T68 y xi)).f0 (NR (rd_T68 y xi)).f1 (NR (rd_T68 y xi)).f2 (NR (rd_T68 y xi)).f3 (NR (rd_T68 y xi)).f4 _ HNr.out).mono ?_); rintro e w7 ⟨rfl, hb⟩; have HN7 := Aside0.mk (ny_below HNx.out hb); obtain ⟨a0_, a1_, a2_, a3_, a4_, y0_, y1_, y2_, y3_, y4_⟩ := r68_elem (ny_r HN7.out) xi HIx.out.1 HIx.out.2.1; clear hb)
                        have HN8 := Aside0.mk (ny_cast (show (mixR y i).set xi.toNat (NR (rd_T68 y xi)) = mixR y (i + 1) by
                          have e := mix_next hlt
                          rw [← HX.out] at e
                          rw [show xi.toNat = i by have := HX.out; omega]
                          exact e) (ny_store HN7.out xi HIx.out.1 HIx.out.2.1 (NR (rd_T68 y xi))))
                        generalize ((((w7.setCell ⟨g, xi.toNat * 5, none⟩ (.int .u64 (NR (rd_T68 y xi)).f0)).setCell ⟨g, xi.toNat * 5 + 1, none⟩ (.int .u64 (NR (rd_T68 y xi)).f1)).setCell ⟨g, xi.toNat * 5 + 2, none⟩ (.int .i64 (NR (rd_T68 y xi)).f2)).setCell ⟨g, xi.toNat * 5 + 3, none⟩ (.int .i64 (NR (rd_T68 y xi)).f3)).setCell ⟨g, xi.toNat * 5 + 4, none⟩ (.bool (NR (rd_T68 y xi)).f4) = w8 at HN8 ⊢
                        have hmr : rd_T68 (mixR y (i + 1)) xi = NR (rd_T68 y xi) := by rw [HX.out]; exact mix_rd' hlt
                        obtain ⟨s0_, s1_, s2_, s3_, s4_, _, _, _, _, _⟩ := r68_elem (ny_r HN8.out) xi HIx.out.1 HIx.out.2.1
                        obtain ⟨n0_, n1_, n2_, n3_, n4_, _, _, _, _, _⟩ := r68_elem (ny_now HN8.out) xi HIx.out.1 HIx.out.2.2
                        rw [hmr] at s0_ s1_ s2_ s3_ s4_
                        clear hmr c0_ c1_ c2_ c3_ c4_ z0_ z1_ z2_ z3_ z4_ a0_ a1_ a2_ a3_ a4_ y0_ y1_ y2_ y3_ y4_ HN7
                        cases hb : (NR (rd_T68 y xi)).f4 with
                        | true =>
                          rw [hb] at s4_
                          have hrn : r = none := by
                            have h := HI.out.1
                            unfold roundsR at h
                            rw [if_pos (show (roundR (qsOf rels) rels.length x).any (·.f4) = true from any_nr (n := y.length) (by rw [← HY.out]) HIx.out.1 HIx.out.2.1 (by rw [← HY.out]; exact hb))] at h
                            exact (Option.some.inj h).symm
                          obtain ⟨rfl, rfl⟩ := HRn.out hrn
                          clear HRn HRz hrn hb
                          go_wp2_with fail
                          go_ret2
                          exact ⟨_, rfl, Kd.R_nil _ _ _ _ _, ny_b HN8.out⟩
                        | false =>
                          rw [hb] at s4_
                          have HNb2 := Aside0.mk (show ∀ j : Nat, j < i + 1 → (NR (rd_T68 y (j : Int))).f4 = false from fun j hj => by
                            rcases Nat.lt_or_ge j i with h_ | h_
                            · exact HNb.out j h_
                            · obtain rfl : j = i := by omega
                              rw [← HX.out]
                              exact hb)
                          have HB := Aside0.mk hb
                          clear hb
                          have HSM := Aside0.mk (show smB x y (i + 1) = (smB x y i && e68 (NR (rd_T68 y xi)) (rd_T68 x xi)) by rw [sm_succ, HX.out])
                          go_upto_region 29 with fail
                          cases hs : smB x y i
                          all_goals
                            rw [hs] at HSM
                            refine QuietLast.wp_region_qlast (by kernel_rfl) (by kernel_rfl) ?_
                            dsimp only [QuietLast.initL, QuietLast.lastL]
                            repeat (go_big_quiet_step (fail))
                            refine wpQuiet_nil ?_
                            intro _ hw'
                            obtain ⟨nq, hw''⟩ := hw'
                            subst hw''
                            go_wp2_with fail
                            go_roundg (y.length - (i + 1))
                            case measure => omega
                            case rel => exact ⟨i + 1, _, (by first | rfl | (simp; done)), ⟨by rw [HX.out]; unfold wrap64; have := LM.out; have := HYL.out; omega⟩, by rw [HSM.out]; first | rfl | (unfold e68; rw [HB.out]; generalize (rd_T68 x xi).f4 = f_; cases f_ <;> rfl), by omega, HNb2, ⟨ny_below HN8.out (pw_below_drewN (Below.refl _ _) _)⟩⟩
                      · obtain rfl : i = y.length := by omega
                        have d1 : decide (xi < (y.length : Int)) = false := decide_eq_false (by have := HX.out; omega)
                        have p1 := eq_false (show ¬ xi < (y.length : Int) by have := HX.out; omega)
                        clear HX hi hlt
                        have HA := Aside0.mk (show (roundR (qsOf rels) rels.length x).any (·.f4) = false from any_none (fun j hj => by rw [← HY.out]; exact HNb.out j (by rw [HYL.out]; exact hj)) (by rw [← HY.out]; exact HYL.out))
                        have HRD := Aside0.mk (show roundR (qsOf rels) rels.length x = y.map NR by unfold roundR; rw [← HY.out])
                        have HNz := Aside0.mk (ny_cast (show mixR y y.length = roundR (qsOf rels) rels.length x by rw [HRD.out]; exact mix_all y) HNx.out)
                        clear HNb HNx
                        obtain ⟨b, hb⟩ : ∃ b, smB x y y.length = b := ⟨_, rfl⟩
                        rw [hb]
                        have HSB := Aside0.mk hb
                        clear hb
                        cases b with
                        | false =>
                          have HI2 := Aside0.mk (show roundsR (qsOf rels) rels.length m (roundR (qsOf rels) rels.length x) = some r ∧ W68 l.length (roundR (qsOf rels) rels.length x) from ⟨by
                            have h := HI.out.1
                            unfold roundsR at h
                            rw [HA.out, if_neg (by simp), if_neg (fun e => by
                              have h2 := HSB.out
                              rw [HYL.out, (sm_iff HYL.out).mpr (HRD.out.symm.trans e)] at h2
                              cases h2)] at h
                            exact h, w68_round (fun j hj => (HQ.out j hj).1) HI.out.2⟩)
                          go_wp2_with fail
                          go_roundg m
                          case measure => omega
                          case rel => exact ⟨roundR (qsOf rels) rels.length x, HI2, ⟨ny_b HNz.out, ny_r HNz.out⟩⟩
                        | true =>
                          have hx : roundR (qsOf rels) rels.length x = x := by
                            have h2 := HSB.out
                            rw [HYL.out] at h2
                            exact HRD.out.trans ((sm_iff HYL.out).mp h2)
                          have hrx : r = some x := by
                            have h := HI.out.1
                            unfold roundsR at h
                            rw [HA.out, if_neg (by simp), if_pos hx] at h
                            exact (Option.some.inj h).symm
                          obtain ⟨rfl, Y, hY1, hY2, hY3⟩ := HRz.out x hrx
                          have HYY := Aside0.mk (And.intro hY1 (And.intro hY2 hY3))
                          have HXL := Aside0.mk HI.out.2.1
                          clear hx hrx HRz HRn hY1 hY2 hY3 HA HRD HSB HI HY HYW HYL HC
                          go_upto_region 34 with fail
                          clear d1 p1
                          have HO := Aside0.mk (show Below w.heap.size w wr ∧ Kd.R k68 68 wr w.heap.size (fun _ => True) (.slice vA x.length vc) x ∧ Kd.R k37 37 wr w.heap.size (fun k => some k ≠ (Value.slice vA x.length vc).ownBlock) (.slice none 0 0) [] from ⟨ny_b HNz.out, ny_now HNz.out, Kd.R_nil _ _ _ _ _⟩)
                          clear HNz
                          go_loopg [13, 14] x.length (fun kq v13 v14 w' => ∃ (i : Nat) (xi : Int) (v : Value), v14 = .int .i64 xi ∧ Aside0 (xi = (i : Int)) ∧ v = v13 ∧ i + kq = x.length ∧ Aside0 (Below w.heap.size w w' ∧ Kd.R k68 68 w' w.heap.size (fun _ => True) (.slice vA x.length vc) x ∧ Kd.R k37 37 w' w.heap.size (fun k => some k ≠ (Value.slice vA x.length vc).ownBlock) v ((List.range i).map fun j : Nat => clo (rd_T59 Y j))))
                          case atStart => exact ⟨0, 0, .slice none 0 0, rfl, ⟨rfl⟩, rfl, by omega, HO⟩
                          case round =>
                            clear HO
                            obtain ⟨i, xi, v, rfl, HX, rfl, hi, HO⟩ := hrel
                            by_cases hlt : i < x.length
                            · have d0 : decide (0 ≤ xi) = true := decide_eq_true (by have := HX.out; omega)
                              have d1 : decide (xi < (x.length : Int)) = true := decide_eq_true (by have := HX.out; omega)
                              have p0 := eq_true (show 0 ≤ xi by have := HX.out; omega)
                              have p1 := eq_true (show xi < (x.length : Int) by have := HX.out; omega)
                              obtain ⟨gx, capx, e_, _, _⟩ := Kd.R_form HO.out.2.1 (by omega)
                              injection e_ with e1 e2 e3
                              subst e1
                              clear e2 e3
                              obtain ⟨n0_, n1_, n2_, n3_, n4_, _, _, _, _, _⟩ := r68_elem HO.out.2.1 xi (by have := HX.out; omega) (by have := HX.out; omega)
                              have hYi : rd_T68 x xi = mk68 (rd_T59 Y (i : Int)) := by
                                rw [HYY.out.1, HX.out]
                                exact rd_mk HYY.out.2.1.1 (by omega) (by have := HXL.out; omega)
                              rw [hYi] at n0_ n1_ n2_ n3_ n4_
                              have HOut := Aside0.mk (outR_f (HYY.out.2.1.2 (i : Int) (by omega) (by have := HXL.out; omega)).wf false (k := 2000) (by decide))
                              have LM2 : Aside0 (((List.range i).map fun j : Nat => clo (rd_T59 Y j)).length + 1 ≤ 1000) := ⟨by rw [List.length_map, List.length_range]; have := LM.out; omega⟩
                              clear hYi
                              go_wp2_with (first
                                | (go_at_call 43; (refine (manystrandref07_out.calls 2000 _ _ _ _ _ (clo (rd_T59 Y (i : Int))).f0 (clo (rd_T59 Y (i : Int))).f1 (clo (rd_T59 Y (i : Int))).f2 (clo (rd_T59 Y (i : Int))).f3 _ HOut.out).mono ?_); rintro e w7 ⟨v0, v1, rfl, r0, r1, hb⟩; have HW7 := Aside0.mk (show (Kd.int .i64).R 3 w7 w.heap.size (fun k => wr.heap.size ≤ k) v0 (clo (rd_T59 Y (i : Int))).f0 ∧ (Kd.int .i64).R 3 w7 w.heap.size (fun k => wr.heap.size ≤ k) v1 (clo (rd_T59 Y (i : Int))).f1 ∧ Below w.heap.size w w7 ∧ Kd.R k68 68 w7 w.heap.size (fun _ => True) (.slice (some ⟨gx, 0, none⟩) x.length vc) x ∧ Kd.R k37 37 w7 w.heap.size (fun k => some k ≠ (Value.slice (some ⟨gx, 0, none⟩) x.length vc).ownBlock) v ((List.range i).map fun j : Nat => clo (rd_T59 Y j)) ∧ wr.heap.size ≤ w7.heap.size from ⟨rint_ok (Kd.R_lower r0 HO.out.1.size) (fun k hk => Kd.R_base r0 k hk), rint_ok (Kd.R_lower r1 HO.out.1.size) (fun k hk => Kd.R_base r1 k hk), below_then HO.out.1 HO.out.1.size hb, Kd.R_below HO.out.2.1 hb, Kd.R_below HO.out.2.2 hb, hb.size⟩); clear r0 r1 hb)
                                | (at_builtin; refine Kd.R_append k37 (w0 := w) w.heap.size rfl (.tmp 109) (.tmp 115) 23 37 (.agg #[.slice none 0 0, .slice none 0 0, .int .i64 0, .int .i64 0]) 64 rfl Try.underlying23 info37' rfl (by decide) (by omega) v ((List.range i).map fun j : Nat => clo (rd_T59 Y j)) (clo (rd_T59 Y (i : Int))) [v0, v1, .int .i64 (clo (rd_T59 Y (i : Int))).f2, .int .i64 (clo (rd_T59 Y (i : Int))).f3] (fun k => some k ≠ (Value.slice (some ⟨gx, 0, none⟩) x.length vc).ownBlock) (fun k => wr.heap.size ≤ k) rfl rfl (k37_mkM _ _ _ _ HW7.out.1 HW7.out.2.1) ?aK ?aF ?aO ?aB ?aS ?aL ?_; (case aK => exact fun k hk => ⟨fun e => by have := Kd.R_lt HO.out.2.1 k e.symm; omega, fun e => by have := Kd.R_lt HO.out.2.2 k e.symm; omega⟩); (case aF => exact fun k hk e => by have := Kd.R_lt HW7.out.2.2.2.1 k e.symm; omega); (case aO => exact HW7.out.2.2.2.2.1); (case aB => exact HW7.out.2.2.1); (case aS => exact HW7.out.2.2.1.size); (case aL => have := LM2.out; omega); intro v2 w8 ho hb hg hat; have HW8 := Aside0.mk (show Below w.heap.size w w8 ∧ Kd.R k68 68 w8 w.heap.size (fun _ => True) (.slice (some ⟨gx, 0, none⟩) x.length vc) x ∧ Kd.R k37 37 w8 w.heap.size (fun k => some k ≠ (Value.slice (some ⟨gx, 0, none⟩) x.length vc).ownBlock) v2 (((List.range i).map fun j : Nat => clo (rd_T59 Y j)) ++ [clo (rd_T59 Y (i : Int))]) from ⟨hb, r68_move HW7.out.2.2.2.1 (fun k hk => hg.block k (Kd.R_lt HW7.out.2.2.2.1 k hk) (fun e => HW7.out.2.2.2.2.1.1 k e.symm hk.symm)), ho⟩); clear ho hb hg hat))
                              go_roundg (x.length - (i + 1))
                              case measure => omega
                              case rel => exact ⟨i + 1, _, v2, (by first | rfl | (simp; done)), ⟨by rw [HX.out]; unfold wrap64; have := LM.out; omega⟩, rfl, by omega, ⟨HW8.out.1, HW8.out.2.1, by rw [List.range_succ, List.map_append]; exact HW8.out.2.2⟩⟩
                            · obtain rfl : i = x.length := by omega
                              have d1 : decide (xi < (x.length : Int)) = false := decide_eq_false (by have := HX.out; omega)
                              have p1 := eq_false (show ¬ xi < (x.length : Int) by have := HX.out; omega)
                              clear HX hi hlt
                              go_wp2_with fail
                              go_ret2
                              refine ⟨_, rfl, ?_, HO.out.1⟩
                              have h := Kd.R_mono HO.out.2.2 (ok' := fun _ => True) (fun _ _ => trivial)
                              rw [HXL.out] at h
                              rw [HYY.out.2.2]
                              exact h
          · obtain ⟨rfl, rfl⟩ := HNo.out (ok_no (fun h => h100 h.1.2))
            have q1 : decide ((100 : Int) < (rels.length : Int)) = true := decide_eq_true (by omega)
            have q2 := eq_true (show (100 : Int) < (rels.length : Int) by omega)
            clear HNo HYes h100
            go_wp2_with fail
            go_ret2
            exact ⟨_, rfl, Kd.R_nil _ _ _ _ _, HZ.out.1⟩
end
end Go.Proofs.Ytgfbgfbnmiainaa.Fam
/-! What comes out of Fix: one thing, whatever the order of the relations; and it is its own. -/
namespace Go.Proofs.Ytgfbgfbnmiainaa.Fam
set_option linter.unusedVariables false
set_option linter.unusedSimpArgs false
open Go.RowKit Go.Proofs.YtgfbgfbnmiainaaW.PrintWords Go.Proofs.YtgfbgfbnmiainaaW.PrintLast Go.Proofs.YtgfbgfbnmiainaaW.PrintMore Go.Proofs.Ytgfbgfbnmiainaa.Q
theorem fixOut_one {rels : List S33} {l out out' : List S37} {code code' : Int} (h : FixOut rels l out code) (h' : FixOut rels l out' code') : out = out' ∧ code = code' := by
  rcases h with ⟨a, b, c⟩ | ⟨a, b, c, d⟩ | ⟨a, c, X, d, e, f, g⟩ <;> rcases h' with ⟨a', b', c'⟩ | ⟨a', b', c', d'⟩ | ⟨a', c', X', d', e', f', g'⟩
  · exact ⟨b.trans b'.symm, c.trans c'.symm⟩
  · rw [a] at a'; cases a'
  · rw [a] at a'; cases a'
  · rw [a] at a'; cases a'
  · exact ⟨b.trans b'.symm, c.trans c'.symm⟩
  · exact absurd e' (d X' d')
  · rw [a] at a'; cases a'
  · exact absurd e (d' X d)
  · have : X = X' := LE.anti d.nm.rg d'.nm.rg (f X' d' e') (f' X d e)
    subst this
    exact ⟨g.trans g'.symm, c.trans c'.symm⟩
/-- The same relations, in whatever order. -/
structure Perm (rels other : List S33) : Prop where
  len : other.length = rels.length
  into_ : ∀ i : Nat, i < other.length → ∃ j : Nat, j < rels.length ∧ rd_T33 other i = rd_T33 rels j
  from_ : ∀ j : Nat, j < rels.length → ∃ i : Nat, i < other.length ∧ rd_T33 other i = rd_T33 rels j
theorem perm_all {rels other : List S33} (h : Perm rels other) (p : S33 → Prop) : (∀ i : Nat, i < other.length → p (rd_T33 other i)) ↔ ∀ j : Nat, j < rels.length → p (rd_T33 rels j) :=
  ⟨fun a j hj => by obtain ⟨i, hi, e⟩ := h.from_ j hj; rw [← e]; exact a i hi, fun a i hi => by obtain ⟨j, hj, e⟩ := h.into_ i hi; rw [e]; exact a j hj⟩
theorem perm_ok {rels other : List S33} (h : Perm rels other) (l : List S37) : okB other l = okB rels l := by
  rw [Bool.eq_iff_iff, okB_iff, okB_iff, h.len]
  have := perm_all h (fun r => validB r.f0 r.f1 l.length = true)
  rw [h.len] at this
  rw [this]
theorem perm_cl {rels other : List S33} (h : Perm rels other) {n : Nat} {P : List S59} : Cl n (qsOf other) other.length P ↔ Cl n (qsOf rels) rels.length P := by
  have := perm_all h (fun r => Qr (rlR r) P)
  exact ⟨fun c => ⟨c.nm, this.mp c.q⟩, fun c => ⟨c.nm, this.mpr c.q⟩⟩
theorem fixOut_perm {rels other : List S33} (h : Perm rels other) {l out : List S37} {code : Int} (ho : FixOut rels l out code) : FixOut other l out code := by
  rcases ho with ⟨a, b, c⟩ | ⟨a, b, c, d⟩ | ⟨a, c, X, d, e, f, g⟩
  · exact .inl ⟨(perm_ok h l).trans a, b, c⟩
  · exact .inr (.inl ⟨(perm_ok h l).trans a, b, c, fun P hP => d P ((perm_cl h).mp hP)⟩)
  · exact .inr (.inr ⟨(perm_ok h l).trans a, c, X, (perm_cl h).mpr d, e, fun P hP => f P ((perm_cl h).mp hP), g⟩)
theorem out_facts {rels : List S33} {l out : List S37} (h : FixOut rels l out 0) : out.length = l.length ∧ ∀ i : Nat, i < out.length → vl (rd_T37 out i) = true ∧ (rd_T37 out i).f0.length ≤ 64 ∧ (rd_T37 out i).f1.length ≤ 64 := by
  rcases h with ⟨_, _, c⟩ | ⟨_, _, c, _⟩ | ⟨_, _, X, d, _, _, g⟩
  · cases c
  · cases c
  · have hl : out.length = l.length := by rw [g]; simp
    refine ⟨hl, fun i hi => ?_⟩
    rw [g, rd_map37 (f := fun i : Nat => clo (rd_T59 X i)) (by omega)]
    have c0 := card_lsO (rd_T59 X i).f0
    have c1 := card_lsO (rd_T59 X i).f1
    have d0 := card_le (rd_T59 X i).f0
    have d1 := card_le (rd_T59 X i).f1
    exact ⟨vl_clo (d.nm.2 i (by omega) (by omega)).rg, by simp only [clo]; omega, by simp only [clo]; omega⟩
theorem fixOut_again {rels : List S33} {l out : List S37} (h : FixOut rels l out 0) : FixOut rels out out 0 := by
  obtain ⟨hl, hv⟩ := out_facts h
  rcases h with ⟨_, _, c⟩ | ⟨_, _, c, _⟩ | ⟨a, _, X, d, _, _, g⟩
  · cases c
  · cases c
  · have hx : xsOf out = X := by
      refine rd_ext (n := l.length) (by simp [xsOf, hl]) d.nm.1 (fun i h0 h1 => ?_)
      rw [rd_xsOf h0 (by omega), show i = ((i.toNat : Nat) : Int) by omega]
      conv => lhs; rw [g]
      rw [rd_map37 (f := fun i : Nat => clo (rd_T59 X i)) (by omega)]
      exact opn_clo (d.nm.2 _ (by omega) (by omega)).rg
    obtain ⟨⟨o1, o2⟩, o3, o4⟩ := okB_iff.mp a
    refine .inr (.inr ⟨okB_iff.mpr ⟨⟨by omega, o2⟩, fun i hi => (hv i hi).1, by rw [hl]; exact o4⟩, rfl, X, by rw [hl]; exact d, by rw [hx]; exact LE.refl _ _, fun P _ hP => by rw [hx] at hP; exact hP, by rw [hl]; exact g⟩)
theorem turn_perm (rels : List S33) (t : Nat) : Perm rels ((List.range rels.length).map fun i : Nat => rd_T33 rels (((rels.length - 1 - i + t) % rels.length : Nat) : Int)) := by
  have hat : ∀ i : Nat, i < rels.length → rd_T33 ((List.range rels.length).map fun i : Nat => rd_T33 rels (((rels.length - 1 - i + t) % rels.length : Nat) : Int)) (i : Int) = rd_T33 rels (((rels.length - 1 - i + t) % rels.length : Nat) : Int) := by
    intro i hi
    conv => lhs; unfold rd_T33
    rw [Int.toNat_natCast, List.getD_eq_getElem?_getD, List.getElem?_map, List.getElem?_range hi]
    rfl
  refine ⟨by simp, fun i hi => ?_, fun j hj => ?_⟩
  · have hi' : i < rels.length := by simpa using hi
    exact ⟨_, Nat.mod_lt _ (by omega), hat i hi'⟩
  · have hn : 0 < rels.length := by omega
    have hi := Nat.mod_lt (rels.length - 1 - j + t) hn
    refine ⟨(rels.length - 1 - j + t) % rels.length, by simpa using hi, ?_⟩
    rw [hat _ hi]
    congr 2
    have e := Nat.div_add_mod (rels.length - 1 - j + t) rels.length
    generalize hq : (rels.length - 1 - j + t) / rels.length = q at e
    generalize hm : (rels.length - 1 - j + t) % rels.length = m at e hi
    have e2 : rels.length - 1 - m + t = j + rels.length * q := by omega
    rw [e2, Nat.add_mul_mod_self_left, Nat.mod_eq_of_lt hj]
end Go.Proofs.Ytgfbgfbnmiainaa.Fam
/-! The reference's Fix answers as the program's does; ValidRel of both, for any number of families. -/
namespace Go.Proofs.Ytgfbgfbnmiainaa.Fam
set_option linter.unusedVariables false
set_option linter.unusedSimpArgs false
open Go.RowKit Go.Proofs.YtgfbgfbnmiainaaW.PrintWords Go.Proofs.YtgfbgfbnmiainaaW.PrintLast Go.Proofs.YtgfbgfbnmiainaaW.PrintMore Go.Proofs.Ytgfbgfbnmiainaa.Q
theorem fixR_calls {rels : List S33} {l out : List S37} {code : Int} (ho : FixOut rels l out code) (hrl : rels.length ≤ 1000) (hl : ∀ i : Nat, i < l.length → (rd_T37 l i).f0.length ≤ 1000 ∧ (rd_T37 l i).f1.length ≤ 1000) (hv : ∀ i : Nat, i < rels.length → (rd_T33 rels i).f1.length ≤ 1000)
    (A0 : Option Addr) (c0 : Nat) (A1 : Option Addr) (c1 : Nat) (w : World) (hr0 : Kd.C k33 w A0 rels.length rels) (hc0 : rels.length ≤ c0) (hr1 : Kd.C k37 w A1 l.length l) (hc1 : l.length ≤ c1) :
    Calls Try.prog 12 #[.slice A0 rels.length c0, .slice A1 l.length c1] w (FixEnd out code w) := by
  have hno : okB rels l = false → out = [] ∧ code = 2 := by
    intro h
    rcases ho with ⟨_, b, c⟩ | ⟨a, _⟩ | ⟨a, _⟩
    · exact ⟨b, c⟩
    · rw [h] at a; cases a
    · rw [h] at a; cases a
  by_cases hn : l.length ≤ 40
  · refine fixR_walk A0 c0 rels A1 c1 l w hr0 hc0 hr1 hc1 hn hrl hl hv out code hno (fun hok => ?_)
    obtain ⟨_, hvl, hvb⟩ := okB_iff.mp hok
    obtain ⟨m, r, h1, h2, h3⟩ := fixR_run (qsOf rels) rels.length (fun j hj => (valid_rl (hvb j hj)).2) (xsOf_rg hvl)
    refine ⟨m, r, h1, fun hr => ?_, fun z hz => ?_⟩
    · rcases ho with ⟨a, _⟩ | ⟨_, b, c, _⟩ | ⟨_, _, X, d, e, _⟩
      · rw [hok] at a; cases a
      · exact ⟨b, c⟩
      · exact absurd e (h2 hr X d)
    · obtain ⟨Y, y1, y2, y3, y4⟩ := h3 z hz
      rcases ho with ⟨a, _⟩ | ⟨_, _, _, d⟩ | ⟨_, c, X, d, e, f, g⟩
      · rw [hok] at a; cases a
      · exact absurd y3 (d Y y2)
      · have : X = Y := LE.anti d.nm.rg y2.nm.rg (f Y y2 y3) (y4 X d e)
        subst this
        exact ⟨c, X, y1, d.nm, g⟩
  · exact fixR_long A0 c0 rels A1 c1 l w hn out code hno
theorem validR_neg (kind : ByteArray) (vars : List Int) (n0 N : Int) (hl : vars.length ≤ 1000) (hN : N < 0) : manystrandref07_ValidRel.f (vars.length + 5) kind vars n0 N = some false := by
  have key : ∀ (ar : Int) (k : Nat), 0 < ar → vars.length < k → manystrandref07_ValidRel.l0 k N ar 0 kind vars n0 = some false := by
    intro ar k ha hk
    have h := validR_from kind vars n0 N ar hl vars.length 0 k (by omega) hk
    rw [List.drop_zero] at h
    rw [show (0 : Int) = ((0 : Nat) : Int) from rfl, h]
    congr 1
    cases vars with
    | nil => rw [decide_eq_false (by simp only [List.length_nil]; omega), Bool.and_false, Bool.false_and]
    | cons v vars => rw [inRg_cons]; by_cases h0 : 0 ≤ v
                     · rw [decide_eq_false (show ¬ v < N by omega)]; simp
                     · rw [decide_eq_false h0]; simp
  have hj2 : ∀ (ar : Int) (k : Nat), 0 < ar → vars.length + 1 < k → manystrandref07_ValidRel.j2 k N ar kind vars n0 = some false := by
    intro ar k ha hk
    obtain ⟨k, rfl⟩ : ∃ j, k = j + 1 := ⟨k - 1, by omega⟩
    unfold manystrandref07_ValidRel.j2
    exact key ar k ha (by omega)
  have hj1 : ∀ (x : ByteArray) (b : Bool) (k : Nat), vars.length + 2 < k → manystrandref07_ValidRel.j1 k N x b kind vars n0 = some false := by
    intro x b k hk
    obtain ⟨k, rfl⟩ : ∃ j, k = j + 1 := ⟨k - 1, by omega⟩
    unfold manystrandref07_ValidRel.j1
    repeat' split
    all_goals first | exact hj2 _ _ (by decide) (by omega) | rfl | (exfalso; omega)
  have hj0 : ∀ (x : ByteArray) (b : Bool) (k : Nat), vars.length + 3 < k → manystrandref07_ValidRel.j0 k N x b kind vars n0 = some false := by
    intro x b k hk
    obtain ⟨k, rfl⟩ : ∃ j, k = j + 1 := ⟨k - 1, by omega⟩
    unfold manystrandref07_ValidRel.j0
    repeat' split
    all_goals first | exact hj2 _ _ (by decide) (by omega) | exact hj1 _ _ _ (by omega) | (exfalso; omega)
  unfold manystrandref07_ValidRel.f
  split <;> exact hj0 _ _ _ (by omega)
theorem valid_any (r : S33) (N : Int) (hl : r.f1.length ≤ 1000) : ∃ b, family_ValidRel.f 2000 r.f0 r.f1 r.f2 N = some b ∧ manystrandref07_ValidRel.f 2000 r.f0 r.f1 r.f2 N = some b := by
  by_cases hN : N < 0
  · refine ⟨false, ?_, ?_⟩
    · unfold family_ValidRel.f
      rw [if_pos hN, j0F]
      rfl
    · have h0 := validR_neg r.f0 r.f1 r.f2 N hl hN
      have : ∀ m, manystrandref07_ValidRel.f (r.f1.length + 5 + m) r.f0 r.f1 r.f2 N = some false := by
        intro m
        induction m with
        | zero => exact h0
        | succ m ih => exact manystrandref07_ValidRel.mono _ _ _ _ _ _ ih
      have := this (2000 - (r.f1.length + 5))
      rwa [show r.f1.length + 5 + (2000 - (r.f1.length + 5)) = 2000 by omega] at this
  · have e : N = ((N.toNat : Nat) : Int) := by omega
    rw [e]
    exact ⟨_, validF_k hl (by decide), validR_k hl (by decide)⟩
end Go.Proofs.Ytgfbgfbnmiainaa.Fam
/-! alike: two lists of the same valid families. -/
namespace Go.Proofs.Ytgfbgfbnmiainaa.Fam
set_option linter.unusedVariables false
set_option linter.unusedSimpArgs false
open Go.RowKit Go.Proofs.YtgfbgfbnmiainaaW.PrintWords Go.Proofs.YtgfbgfbnmiainaaW.PrintLast Go.Proofs.YtgfbgfbnmiainaaW.PrintMore Go.Proofs.Ytgfbgfbnmiainaa.Q
attribute [local go_sem] Go.Proofs.YtgfbgfbnmiainaaW.OwnWords.isSome_setCell max2_int min2_int
set_option maxHeartbeats 4000000 in
set_option maxRecDepth 100000 in
theorem alike_same (A : Option Addr) (a : Nat) (B : Option Addr) (b : Nat) (l : List S37) (hl : l.length ≤ 1000) (hv : ∀ i : Nat, i < l.length → vl (rd_T37 l i) = true ∧ (rd_T37 l i).f0.length ≤ 64 ∧ (rd_T37 l i).f1.length ≤ 64) (w : World) (hA : Kd.C k37 w A l.length l) (ha : l.length ≤ a) (hB : Kd.C k37 w B l.length l) (hb : l.length ≤ b) :
    Calls Try.prog 13 #[.slice A l.length a, .slice B l.length b] w fun e w' => e = .returned (.bool true) ∧ Below w.heap.size w w' := by
  have HA := Aside0.mk hA
  have HB := Aside0.mk hB
  have HV := Aside0.mk hv
  have HL := Aside0.mk hl
  clear hA hB hv ha hb hl
  go_enter Try.func13, Try.ntmps13
  go_upto_region 4 with fail
  have HZ := Aside0.mk (Below.refl w.heap.size w)
  go_loopg [13] l.length (fun kq v13 w' => ∃ (i : Nat) (x : Int), v13 = .int .i64 x ∧ Aside0 (x = (i : Int)) ∧ i + kq = l.length ∧ Aside0 (Below w.heap.size w w'))
  case atStart => exact ⟨0, 0, rfl, ⟨rfl⟩, by omega, HZ⟩
  case round =>
    clear HZ
    obtain ⟨i, x, rfl, HX, hi, HZ⟩ := hrel
    by_cases hlt : i < l.length
    · have d0 : decide (0 ≤ x) = true := decide_eq_true (by have := HX.out; omega)
      have d1 : decide (x < (l.length : Int)) = true := decide_eq_true (by have := HX.out; omega)
      have p0 := eq_true (show 0 ≤ x by have := HX.out; omega)
      have p1 := eq_true (show x < (l.length : Int) by have := HX.out; omega)
      obtain ⟨ad, B0, b0, B1, b1, rfl, x0, x1, x2, x3, m0, M0, m1, M1⟩ := at_T37 HA.out x (by have := HX.out; omega) (by have := HX.out; omega)
      obtain ⟨bd, D0, d0', D1, d1', rfl, y0, y1, y2, y3, n0, N0, n1, N1⟩ := at_T37 HB.out x (by have := HX.out; omega) (by have := HX.out; omega)
      have hB := HZ.out
      replace x0 := (hB.cell (World.block_lt_of_cell? w _ x0)).trans x0
      replace x1 := (hB.cell (World.block_lt_of_cell? w _ x1)).trans x1
      replace x2 := (hB.cell (World.block_lt_of_cell? w _ x2)).trans x2
      replace x3 := (hB.cell (World.block_lt_of_cell? w _ x3)).trans x3
      replace y0 := (hB.cell (World.block_lt_of_cell? w _ y0)).trans y0
      replace y1 := (hB.cell (World.block_lt_of_cell? w _ y1)).trans y1
      replace y2 := (hB.cell (World.block_lt_of_cell? w _ y2)).trans y2
      replace y3 := (hB.cell (World.block_lt_of_cell? w _ y3)).trans y3
      have HM := Aside0.mk (And.intro (Kd.C_below M0 hB) (And.intro m0 (And.intro (Kd.C_below M1 hB) m1)))
      have HN := Aside0.mk (And.intro (Kd.C_below N0 hB) (And.intro n0 (And.intro (Kd.C_below N1 hB) n1)))
      have hvi := HV.out i hlt
      rw [← HX.out] at hvi
      have HS := Aside0.mk (same_self (by have := hvi.2.1; omega) (by have := hvi.2.2; omega) hvi.1 (k := 2000) (by decide))
      clear M0 M1 m0 m1 N0 N1 n0 n1 hB hvi
      go_upto_region 6 with fail
      obtain ⟨S, hS⟩ : ∃ S : World → Prop, S = fun w' => Below wr.heap.size wr w' ∧ w'.cell? (ad.add (x.toNat * 4)) = some (.slice B0 (rd_T37 l x).f0.length b0) ∧ w'.cell? ⟨(ad.add (x.toNat * 4)).block, (ad.add (x.toNat * 4)).off + 1, none⟩ = some (.slice B1 (rd_T37 l x).f1.length b1) ∧ w'.cell? ⟨(ad.add (x.toNat * 4)).block, (ad.add (x.toNat * 4)).off + 2, none⟩ = some (.int .i64 (rd_T37 l x).f2) ∧ w'.cell? ⟨(ad.add (x.toNat * 4)).block, (ad.add (x.toNat * 4)).off + 3, none⟩ = some (.int .i64 (rd_T37 l x).f3) ∧ w'.cell? (bd.add (x.toNat * 4)) = some (.slice D0 (rd_T37 l x).f0.length d0') ∧ w'.cell? ⟨(bd.add (x.toNat * 4)).block, (bd.add (x.toNat * 4)).off + 1, none⟩ = some (.slice D1 (rd_T37 l x).f1.length d1') ∧ w'.cell? ⟨(bd.add (x.toNat * 4)).block, (bd.add (x.toNat * 4)).off + 2, none⟩ = some (.int .i64 (rd_T37 l x).f2) ∧ w'.cell? ⟨(bd.add (x.toNat * 4)).block, (bd.add (x.toNat * 4)).off + 3, none⟩ = some (.int .i64 (rd_T37 l x).f3) := ⟨_, rfl⟩
      have hSb : ∀ w1 w2, S w1 → Below w1.heap.size w1 w2 → S w2 := by
        subst hS
        rintro w1 w2 ⟨a0, a1, a2, a3, a4, a5, a6, a7, a8⟩ hb
        exact ⟨below_then a0 a0.size hb, pw_cell_below hb a1, pw_cell_below hb a2, pw_cell_below hb a3, pw_cell_below hb a4, pw_cell_below hb a5, pw_cell_below hb a6, pw_cell_below hb a7, pw_cell_below hb a8⟩
      have HSb := Aside0.mk hSb
      have HS0 := Aside0.mk (show S wr by subst hS; exact ⟨Below.refl _ _, x0, x1, x2, x3, y0, y1, y2, y3⟩)
      have HS1 := Aside0.mk (hSb _ _ HS0.out (below_drew (Below.refl wr.heap.size wr)))
      subst hS
      clear hSb x0 x1 x2 x3 y0 y1 y2 y3
      go_region_held3 (fun w' => Below wr.heap.size wr w' ∧ w'.cell? (ad.add (x.toNat * 4)) = some (.slice B0 (rd_T37 l x).f0.length b0) ∧ w'.cell? ⟨(ad.add (x.toNat * 4)).block, (ad.add (x.toNat * 4)).off + 1, none⟩ = some (.slice B1 (rd_T37 l x).f1.length b1) ∧ w'.cell? ⟨(ad.add (x.toNat * 4)).block, (ad.add (x.toNat * 4)).off + 2, none⟩ = some (.int .i64 (rd_T37 l x).f2) ∧ w'.cell? ⟨(ad.add (x.toNat * 4)).block, (ad.add (x.toNat * 4)).off + 3, none⟩ = some (.int .i64 (rd_T37 l x).f3) ∧ w'.cell? (bd.add (x.toNat * 4)) = some (.slice D0 (rd_T37 l x).f0.length d0') ∧ w'.cell? ⟨(bd.add (x.toNat * 4)).block, (bd.add (x.toNat * 4)).off + 1, none⟩ = some (.slice D1 (rd_T37 l x).f1.length d1') ∧ w'.cell? ⟨(bd.add (x.toNat * 4)).block, (bd.add (x.toNat * 4)).off + 2, none⟩ = some (.int .i64 (rd_T37 l x).f2) ∧ w'.cell? ⟨(bd.add (x.toNat * 4)).block, (bd.add (x.toNat * 4)).off + 3, none⟩ = some (.int .i64 (rd_T37 l x).f3))
        (first | exact HU.out | exact HS1.out | exact HS0.out)
        ((go_at_call 18; (refine (famSameT.calls 2000 B0 b0 (rd_T37 l x).f0 B1 b1 (rd_T37 l x).f1 (rd_T37 l x).f2 (rd_T37 l x).f3 D0 d0' (rd_T37 l x).f0 D1 d1' (rd_T37 l x).f1 (rd_T37 l x).f2 (rd_T37 l x).f3 _ (Kd.C_below HM.out.1 HS1.out.1) HM.out.2.1 (Kd.C_below HM.out.2.2.1 HS1.out.1) HM.out.2.2.2 (Kd.C_below HN.out.1 HS1.out.1) HN.out.2.1 (Kd.C_below HN.out.2.2.1 HS1.out.1) HN.out.2.2.2 HS.out).mono ?_); rintro e w4 ⟨rfl, hb⟩; have HU := Aside0.mk (HSb.out _ _ HS1.out hb); clear hb))
      all_goals
        go_wp2_with fail
        go_roundg (l.length - (i + 1))
        case measure => omega
        case rel => exact ⟨i + 1, _, rfl, ⟨by rw [HX.out]; unfold wrap64; have := HL.out; omega⟩, by omega, ⟨below_then HZ.out HZ.out.size HU.out.1⟩⟩
    · obtain rfl : i = l.length := by omega
      have d1 : decide (x < (l.length : Int)) = false := decide_eq_false (by have := HX.out; omega)
      have p1 := eq_false (show ¬ x < (l.length : Int) by have := HX.out; omega)
      clear hlt hi HX
      go_wp2_with fail
      go_ret
      exact ⟨rfl, HZ.out⟩
end Go.Proofs.Ytgfbgfbnmiainaa.Fam
/-! light and lean, for any arguments. -/
namespace Go.Proofs.Ytgfbgfbnmiainaa.Fam
set_option linter.unusedVariables false
set_option linter.unusedSimpArgs false
open Go.RowKit Go.Proofs.YtgfbgfbnmiainaaW.PrintWords Go.Proofs.YtgfbgfbnmiainaaW.PrintLast Go.Proofs.YtgfbgfbnmiainaaW.PrintMore Go.Proofs.Ytgfbgfbnmiainaa.Q
theorem wrap_next' (i : Nat) (h : i < 9223372036854775807) : wrap64 ((i : Int) + 1) = ((i + 1 : Nat) : Int) := by
  unfold wrap64; omega
theorem rd37_at {l : List S37} {i : Nat} (h : i < l.length) : rd_T37 l (i : Int) = l[i] := by
  unfold rd_T37
  rw [Int.toNat_natCast, List.getD_eq_getElem?_getD, List.getElem?_eq_getElem h]
  rfl
theorem rd33_at {l : List S33} {i : Nat} (h : i < l.length) : rd_T33 l (i : Int) = l[i] := by
  unfold rd_T33
  rw [Int.toNat_natCast, List.getD_eq_getElem?_getD, List.getElem?_eq_getElem h]
  rfl
def okL (f : S37) : Bool := decide (f.f0.length ≤ 100) && decide (f.f1.length ≤ 100)
def okE (r : S33) : Bool := decide (r.f1.length ≤ 10) && decide (r.f0.size ≤ 100)
theorem light_from (l : List S37) (hl : l.length ≤ 9223372036854775807) : ∀ n i k, i + n = l.length → n < k → manystrandlaw07_light.l0 k l l (l.length : Int) (i : Int) = some ((l.drop i).all okL && decide (l.length ≤ 50)) := by
  intro n
  induction n with
  | zero =>
    intro i k hi hk
    obtain ⟨k, rfl⟩ : ∃ j, k = j + 1 := ⟨k - 1, by omega⟩
    unfold manystrandlaw07_light.l0
    rw [if_neg (by omega), List.drop_of_length_le (by omega)]
    simp only [List.all_nil, Bool.true_and]
    congr 1
    exact decide_eq_decide.mpr (by omega)
  | succ n ih =>
    intro i k hi hk
    obtain ⟨k, rfl⟩ : ∃ j, k = j + 1 := ⟨k - 1, by omega⟩
    have hlt : i < l.length := by omega
    unfold manystrandlaw07_light.l0
    rw [if_pos (by omega), if_pos (by omega), if_pos (by omega), rd37_at hlt, List.drop_eq_getElem_cons hlt, wrap_next' i (by omega), ih (i + 1) k (by omega) (by omega)]
    simp only [List.all_cons, okL]
    by_cases h0 : ((l[i].f0.length : Nat) : Int) > 100
    · rw [if_pos h0, decide_eq_false (show ¬ l[i].f0.length ≤ 100 by omega)]; rfl
    · rw [if_neg h0, decide_eq_true (show l[i].f0.length ≤ 100 by omega)]
      by_cases h1 : ((l[i].f1.length : Nat) : Int) > 100
      · rw [if_pos h1, decide_eq_false (show ¬ l[i].f1.length ≤ 100 by omega)]; rfl
      · rw [if_neg h1, decide_eq_true (show l[i].f1.length ≤ 100 by omega)]; rfl
theorem light_any (l : List S37) (hl : l.length ≤ 9223372036854775807) : ∃ k b, manystrandlaw07_light.f k l = some b ∧ (b = true → l.length ≤ 50 ∧ ∀ i : Nat, i < l.length → (rd_T37 l i).f0.length ≤ 100 ∧ (rd_T37 l i).f1.length ≤ 100) := by
  refine ⟨_, _, light_from l hl l.length 0 (l.length + 1) (by omega) (by omega), fun h => ?_⟩
  simp only [List.drop_zero, Bool.and_eq_true, decide_eq_true_eq, List.all_eq_true, okL] at h
  refine ⟨h.2, fun i hi => ?_⟩
  rw [rd37_at hi]
  exact h.1 _ (List.getElem_mem hi)
theorem lean_from (l : List S33) (hl : l.length ≤ 9223372036854775807) : ∀ n i k, i + n = l.length → n < k → manystrandlaw07_lean.l0 k l l (l.length : Int) (i : Int) = some ((l.drop i).all okE && decide (l.length ≤ 110)) := by
  intro n
  induction n with
  | zero =>
    intro i k hi hk
    obtain ⟨k, rfl⟩ : ∃ j, k = j + 1 := ⟨k - 1, by omega⟩
    unfold manystrandlaw07_lean.l0
    rw [if_neg (by omega), List.drop_of_length_le (by omega)]
    simp only [List.all_nil, Bool.true_and]
    congr 1
    exact decide_eq_decide.mpr (by omega)
  | succ n ih =>
    intro i k hi hk
    obtain ⟨k, rfl⟩ : ∃ j, k = j + 1 := ⟨k - 1, by omega⟩
    have hlt : i < l.length := by omega
    unfold manystrandlaw07_lean.l0
    rw [if_pos (by omega), if_pos (by omega), if_pos (by omega), rd33_at hlt, List.drop_eq_getElem_cons hlt, wrap_next' i (by omega), ih (i + 1) k (by omega) (by omega)]
    simp only [List.all_cons, okE]
    by_cases h0 : ((l[i].f1.length : Nat) : Int) > 10
    · rw [if_pos h0, decide_eq_false (show ¬ l[i].f1.length ≤ 10 by omega)]; rfl
    · rw [if_neg h0, decide_eq_true (show l[i].f1.length ≤ 10 by omega)]
      by_cases h1 : ((l[i].f0.size : Nat) : Int) > 100
      · rw [if_pos h1, decide_eq_false (show ¬ l[i].f0.size ≤ 100 by omega)]; rfl
      · rw [if_neg h1, decide_eq_true (show l[i].f0.size ≤ 100 by omega)]; rfl
theorem lean_any (l : List S33) (hl : l.length ≤ 9223372036854775807) : ∃ k b, manystrandlaw07_lean.f k l = some b ∧ (b = true → l.length ≤ 110 ∧ ∀ i : Nat, i < l.length → (rd_T33 l i).f1.length ≤ 10) := by
  refine ⟨_, _, lean_from l hl l.length 0 (l.length + 1) (by omega) (by omega), fun h => ?_⟩
  simp only [List.drop_zero, Bool.and_eq_true, decide_eq_true_eq, List.all_eq_true, okE] at h
  refine ⟨h.2, fun i hi => ?_⟩
  rw [rd33_at hi]
  exact (h.1 _ (List.getElem_mem hi)).1
end Go.Proofs.Ytgfbgfbnmiainaa.Fam
/-! Lists that are written out in memory. -/
namespace Go.Proofs.Ytgfbgfbnmiainaa.Fam
set_option linter.unusedVariables false
set_option linter.unusedSimpArgs false
open Go.RowKit Go.Proofs.YtgfbgfbnmiainaaW.PrintWords Go.Proofs.YtgfbgfbnmiainaaW.PrintLast Go.Proofs.YtgfbgfbnmiainaaW.PrintMore Go.Proofs.Ytgfbgfbnmiainaa.Q
theorem ints_lit {w : World} {b : Nat} {xs : List Int} {c : Array Value} {t : Nat} (h : w.heap[b]? = some (.cells c t)) (hc : c.toList = xs.map (.int .i64)) (hn : xs.length ≤ 9223372036854775807) : (Kd.int .i64).C w (some ⟨b, 0, none⟩) xs.length xs := by
  refine ⟨rfl, hn, fun _ => ⟨_, rfl, fun j p hj => ⟨[.int .i64 p], rfl, rfl, fun i u hu => ?_⟩⟩⟩
  have hi : i = 0 := by
    cases i with
    | zero => rfl
    | succ i => simp at hu
  subst hi
  have hu' : Value.int .i64 p = u := by simpa using hu
  subst hu'
  show w.cell? ((⟨b, 0, none⟩ : Addr).add (j * 1 + 0)) = _
  rw [add_plain, Nat.mul_one, Nat.add_zero, blk_cell h j]
  rw [← Array.getElem?_toList, hc, List.getElem?_map, hj]
  rfl
/-- A list of things of some cells each, in a block that is written out. -/
theorem rows_lit {α : Type} {d : Kd α} {w : World} {b : Nat} {ps : List α} {css : List (List Value)} {c : Array Value} {t : Nat} (h : w.heap[b]? = some (.cells c t)) (hl : css.length = ps.length) (hs : ∀ cs ∈ css, cs.length = d.sz) (hc : c.toList = css.flatten) (hn : ps.length ≤ 9223372036854775807)
    (hK : ∀ (j : Nat) (p : α) (cs : List Value), ps[j]? = some p → css[j]? = some cs → d.K w p cs) : d.C w (some ⟨b, 0, none⟩) ps.length ps := by
  refine ⟨rfl, hn, fun _ => ⟨_, rfl, fun j p hj => ?_⟩⟩
  have hjl : j < ps.length := (List.getElem?_eq_some_iff.1 hj).1
  have hjc : css[j]? = some css[j] := List.getElem?_eq_getElem (by omega)
  refine ⟨css[j], hs _ (List.getElem_mem _), hK j p _ hj hjc, fun i u hu => ?_⟩
  rw [add_plain, blk_cell h]
  rw [← Array.getElem?_toList, hc]
  have hi : i < d.sz := by
    rw [← hs _ (List.getElem_mem (l := css) (n := j) (by omega))]
    exact (List.getElem?_eq_some_iff.1 hu).1
  clear hK hj
  have key : ∀ (css : List (List Value)) (j : Nat) (cs : List Value), (∀ cs ∈ css, cs.length = d.sz) → css[j]? = some cs → css.flatten[j * d.sz + i]? = cs[i]? := by
    intro css
    induction css with
    | nil => intro j cs _ hj; simp at hj
    | cons c0 css ih =>
      intro j cs hs hj
      have h0 : c0.length = d.sz := hs _ List.mem_cons_self
      cases j with
      | zero =>
        simp only [List.getElem?_cons_zero, Option.some.injEq] at hj
        subst hj
        simp only [List.flatten_cons, Nat.zero_mul, Nat.zero_add]
        exact List.getElem?_append_left (by omega)
      | succ j =>
        rw [List.flatten_cons, List.getElem?_append_right (by rw [h0, Nat.succ_mul]; omega), h0]
        have e : (j + 1) * d.sz + i - d.sz = j * d.sz + i := by rw [Nat.succ_mul]; omega
        rw [e]
        exact ih j cs (fun x hx => hs x (List.mem_cons_of_mem _ hx)) (by simpa using hj)
  rw [key css j _ hs hjc]
  exact hu
theorem alloc_size (w : World) (o : Obj) : (w.alloc o).heap.size = w.heap.size + 1 := by
  have := World.alloc_eq w o
  simp [this]
theorem blk_new' {w W : World} {o : Obj} {n : Nat} (hW : W = w.alloc o) (hn : n = w.heap.size) : W.heap[n]? = some o ∧ W.heap.size = n + 1 := by
  subst hW hn
  exact ⟨blk_new w o, alloc_size w o⟩
theorem blk_old {w W : World} {o o' : Obj} {n : Nat} (hW : W = w.alloc o) (h : w.heap[n]? = some o') : W.heap[n]? = some o' := by
  subst hW
  exact blk_below h (below_alloc (Below.refl _ _) o)
theorem allocs7 (w : World) (o0 o1 o2 o3 o4 o5 o6 : Obj) : ∀ W, W = ((((((w.alloc o0).alloc o1).alloc o2).alloc o3).alloc o4).alloc o5).alloc o6 →
    W.heap[w.heap.size]? = some o0 ∧ W.heap[w.heap.size + 1]? = some o1 ∧ W.heap[w.heap.size + 1 + 1]? = some o2 ∧ W.heap[w.heap.size + 1 + 1 + 1]? = some o3 ∧ W.heap[w.heap.size + 1 + 1 + 1 + 1]? = some o4 ∧ W.heap[w.heap.size + 1 + 1 + 1 + 1 + 1]? = some o5 ∧ W.heap[w.heap.size + 1 + 1 + 1 + 1 + 1 + 1]? = some o6 ∧ W.heap.size = w.heap.size + 1 + 1 + 1 + 1 + 1 + 1 + 1 := by
  rintro W rfl
  obtain ⟨a0, s0⟩ := blk_new' (o := o0) rfl (rfl : w.heap.size = w.heap.size)
  obtain ⟨a1, s1⟩ := blk_new' (o := o1) rfl s0.symm
  obtain ⟨a2, s2⟩ := blk_new' (o := o2) rfl s1.symm
  obtain ⟨a3, s3⟩ := blk_new' (o := o3) rfl s2.symm
  obtain ⟨a4, s4⟩ := blk_new' (o := o4) rfl s3.symm
  obtain ⟨a5, s5⟩ := blk_new' (o := o5) rfl s4.symm
  obtain ⟨a6, s6⟩ := blk_new' (o := o6) rfl s5.symm
  exact ⟨blk_old rfl (blk_old rfl (blk_old rfl (blk_old rfl (blk_old rfl (blk_old rfl a0))))), blk_old rfl (blk_old rfl (blk_old rfl (blk_old rfl (blk_old rfl a1)))), blk_old rfl (blk_old rfl (blk_old rfl (blk_old rfl a2))), blk_old rfl (blk_old rfl (blk_old rfl a3)), blk_old rfl (blk_old rfl a4), blk_old rfl a5, a6, s6⟩
end Go.Proofs.Ytgfbgfbnmiainaa.Fam
/-! awake, the walk. -/
namespace Go.Proofs.Ytgfbgfbnmiainaa.Fam
set_option linter.unusedVariables false
set_option linter.unusedSimpArgs false
open Go.RowKit Go.Proofs.YtgfbgfbnmiainaaW.PrintWords Go.Proofs.YtgfbgfbnmiainaaW.PrintLast Go.Proofs.YtgfbgfbnmiainaaW.PrintMore Go.Proofs.Ytgfbgfbnmiainaa.Q
attribute [local go_sem] Go.Proofs.YtgfbgfbnmiainaaW.OwnWords.isSome_setCell max2_int min2_int
attribute [local go_sem high] eqA59
def aRels : List S33 := [⟨⟨#[112, 97, 114, 116]⟩, [0, 1], 0⟩, ⟨⟨#[115, 105, 122, 101]⟩, [1], 1⟩]
def aFams : List S37 := [⟨[3], [1, 3], 0, 64⟩, ⟨[], [2, 3], 0, 64⟩]
def aSp (i : Nat) : S59 × Bool := if i = 0 then (⟨8, 10, 0, 64⟩, true) else (⟨0, 12, 0, 64⟩, true)
def aQs (i : Nat) : Rl := if i = 0 then .part 0 1 else .size 1 1
def aT : St := ⟨[⟨8, 10, 1, 2⟩, ⟨0, 12, 0, 2⟩], false, true⟩
def aU : St := ⟨[⟨8, 8, 1, 1⟩, ⟨8, 8, 1, 1⟩], false, false⟩
theorem a_aux0 : openF 100 (rd_T37 aFams ((0 : Nat) : Int)) = some (aSp 0) := by kernel_rfl
theorem a_aux1 : openF 100 (rd_T37 aFams ((1 : Nat) : Int)) = some (aSp 1) := by kernel_rfl
theorem a_aux2 : family_ValidRel.f 100 (rd_T33 aRels ((0 : Nat) : Int)).f0 (rd_T33 aRels ((0 : Nat) : Int)).f1 (rd_T33 aRels ((0 : Nat) : Int)).f2 aFams.length = some true := by kernel_rfl
theorem a_aux3 : family_ValidRel.f 100 (rd_T33 aRels ((1 : Nat) : Int)).f0 (rd_T33 aRels ((1 : Nat) : Int)).f1 (rd_T33 aRels ((1 : Nat) : Int)).f2 aFams.length = some true := by kernel_rfl
theorem a_aux4 : closeF 100 (rd_T59 aU.xs ((0 : Nat) : Int)) = some ⟨[3], [3], 1, 1⟩ := by kernel_rfl
theorem a_aux5 : closeF 100 (rd_T59 aU.xs ((1 : Nat) : Int)) = some ⟨[3], [3], 1, 1⟩ := by kernel_rfl
theorem a_open : ∀ i : Nat, i < aFams.length → openF 100 (rd_T37 aFams i) = some (aSp i) := by
  intro i hi
  match i, hi with
  | 0, _ => exact a_aux0
  | 1, _ => exact a_aux1
theorem a_valid : ∀ i : Nat, i < aRels.length → family_ValidRel.f 100 (rd_T33 aRels i).f0 (rd_T33 aRels i).f1 (rd_T33 aRels i).f2 aFams.length = some true := by
  intro i hi
  match i, hi with
  | 0, _ => exact a_aux2
  | 1, _ => exact a_aux3
theorem a_init : initF 100 aFams.length 0 ⟨spans aSp aFams.length, false, false⟩ = some aT := by kernel_rfl
theorem a_round : roundF 100 aQs aRels.length 100 ⟨aT.xs, aT.fail, true⟩ = some aU := by kernel_rfl
theorem a_close : ∀ i : Nat, i < aFams.length → closeF 100 (rd_T59 aU.xs i) = some ⟨[3], [3], 1, 1⟩ := by
  intro i hi
  match i, hi with
  | 0, _ => exact a_aux4
  | 1, _ => exact a_aux5
theorem a_same : famSameT.f 100 [3] [3] 1 1 [3] [3] 1 1 = some true := by kernel_rfl
theorem a_rels : RelsAre aRels aQs aFams.length := by
  intro i hi
  match i, hi with
  | 0, _ => exact ⟨⟨rfl, rfl⟩, ⟨by decide, by decide⟩, by decide, by decide⟩
  | 1, _ => exact ⟨⟨rfl, rfl, rfl⟩, by decide, by decide⟩
def aOut : List S37 := [⟨[3], [3], 1, 1⟩, ⟨[3], [3], 1, 1⟩]
/-- Fix of the two families, wherever they lie. -/
theorem a_fix (A0 : Option Addr) (c0 : Nat) (A1 : Option Addr) (c1 : Nat) (w : World) (hr0 : Kd.C k33 w A0 2 aRels) (hc0 : 2 ≤ c0) (hr1 : Kd.C k37 w A1 2 aFams) (hc1 : 2 ≤ c1) :
    Calls Try.prog 11 #[.slice A0 2 c0, .slice A1 2 c1] w fun e w' => ∃ v, e = .returned (.tuple #[v, .int .i64 0]) ∧ Kd.R k37 37 w' w.heap.size (fun _ => True) v aOut ∧ Below w.heap.size w w' :=
  fix_walk 100 aSp A0 c0 aRels A1 c1 aFams w hr0 hc0 hr1 hc1 a_open (by decide) (fun _ => true) a_valid (by decide) true ⟨rfl⟩ aOut 0
    ⟨fun _ => ⟨aQs, aT, aU, 100, a_rels, a_init, a_round, fun h => (by cases h), fun _ => ⟨rfl, fun _ => ⟨[3], [3], 1, 1⟩, a_close, rfl⟩⟩⟩ ⟨fun h => (by cases h)⟩
abbrev aW (w : World) : World := ((((((w.alloc (.cells #[.int .i64 0, .int .i64 1] 3)).alloc (.cells #[.int .i64 1] 3)).alloc (.cells #[.string ⟨#[112, 97, 114, 116]⟩, .slice (some ⟨w.heap.size, 0, none⟩) 2 2, .int .i64 0, .string ⟨#[115, 105, 122, 101]⟩, .slice (some ⟨w.heap.size + 1, 0, none⟩) 1 1, .int .i64 1] 33)).alloc (.cells #[.int .i64 3] 3)).alloc (.cells #[.int .i64 1, .int .i64 3] 3)).alloc (.cells #[.int .i64 2, .int .i64 3] 3)).alloc
  (.cells #[.slice (some ⟨w.heap.size + 1 + 1 + 1, 0, none⟩) 1 1, .slice (some ⟨w.heap.size + 1 + 1 + 1 + 1, 0, none⟩) 2 2, .int .i64 0, .int .i64 64, .slice none 0 0, .slice (some ⟨w.heap.size + 1 + 1 + 1 + 1 + 1, 0, none⟩) 2 2, .int .i64 0, .int .i64 64] 37)
theorem a_args (w : World) : Kd.C k33 (aW w) (some ⟨w.heap.size + 1 + 1, 0, none⟩) 2 aRels ∧ Kd.C k37 (aW w) (some ⟨w.heap.size + 1 + 1 + 1 + 1 + 1 + 1, 0, none⟩) 2 aFams := by
  obtain ⟨b0, b1, b2, b3, b4, b5, b6, _⟩ := allocs7 w _ _ _ _ _ _ _ (aW w) rfl
  refine ⟨rows_lit (css := [[.string ⟨#[112, 97, 114, 116]⟩, .slice (some ⟨w.heap.size, 0, none⟩) 2 2, .int .i64 0], [.string ⟨#[115, 105, 122, 101]⟩, .slice (some ⟨w.heap.size + 1, 0, none⟩) 1 1, .int .i64 1]]) b2 rfl ?_ rfl (by decide) ?_, rows_lit (css := [[.slice (some ⟨w.heap.size + 1 + 1 + 1, 0, none⟩) 1 1, .slice (some ⟨w.heap.size + 1 + 1 + 1 + 1, 0, none⟩) 2 2, .int .i64 0, .int .i64 64], [.slice none 0 0, .slice (some ⟨w.heap.size + 1 + 1 + 1 + 1 + 1, 0, none⟩) 2 2, .int .i64 0, .int .i64 64]]) b6 rfl ?_ rfl (by decide) ?_⟩
  · intro cs hcs
    simp only [List.mem_cons, List.not_mem_nil, or_false] at hcs
    rcases hcs with rfl | rfl <;> rfl
  · intro j p cs hp hc
    match j with
    | 0 => cases hp; cases hc; exact k33_mk _ ⟨⟨#[112, 97, 114, 116]⟩, [0, 1], 0⟩ (by decide) (ints_lit (xs := [0, 1]) b0 rfl (by decide))
    | 1 => cases hp; cases hc; exact k33_mk _ ⟨⟨#[115, 105, 122, 101]⟩, [1], 1⟩ (by decide) (ints_lit (xs := [1]) b1 rfl (by decide))
    | j + 2 => cases hp
  · intro cs hcs
    simp only [List.mem_cons, List.not_mem_nil, or_false] at hcs
    rcases hcs with rfl | rfl <;> rfl
  · intro j p cs hp hc
    match j with
    | 0 => cases hp; cases hc; exact k37_mk _ ⟨[3], [1, 3], 0, 64⟩ (by decide) (ints_lit (xs := [3]) b3 rfl (by decide)) (by decide) (ints_lit (xs := [1, 3]) b4 rfl (by decide))
    | 1 => cases hp; cases hc; exact k37_mk _ ⟨[], [2, 3], 0, 64⟩ (by decide) (Kd.C_nil _ _) (by decide) (ints_lit (xs := [2, 3]) b5 rfl (by decide))
    | j + 2 => cases hp
end Go.Proofs.Ytgfbgfbnmiainaa.Fam
/-! awake, the walk. -/
namespace Go.Proofs.Ytgfbgfbnmiainaa.Fam
set_option linter.unusedVariables false
set_option linter.unusedSimpArgs false
open Go.RowKit Go.Proofs.YtgfbgfbnmiainaaW.PrintWords Go.Proofs.YtgfbgfbnmiainaaW.PrintLast Go.Proofs.YtgfbgfbnmiainaaW.PrintMore Go.Proofs.Ytgfbgfbnmiainaa.Q
attribute [local go_sem] Go.Proofs.YtgfbgfbnmiainaaW.OwnWords.isSome_setCell max2_int min2_int
attribute [local go_sem high] eqA59
def aS (gb : Nat) (B0 : Option Addr) (b0 : Nat) (B1 : Option Addr) (b1 : Nat) (D0 : Option Addr) (d0 : Nat) (D1 : Option Addr) (d1 : Nat) (w2 w' : World) : Prop :=
  Below w2.heap.size w2 w' ∧ w'.cell? ⟨gb, 0, none⟩ = some (.slice B0 1 b0) ∧ w'.cell? ⟨gb, 1, none⟩ = some (.slice B1 1 b1) ∧ w'.cell? ⟨gb, 2, none⟩ = some (.int .i64 1) ∧ w'.cell? ⟨gb, 3, none⟩ = some (.int .i64 1) ∧ w'.cell? ⟨gb, 4, none⟩ = some (.slice D0 1 d0) ∧ w'.cell? ⟨gb, 5, none⟩ = some (.slice D1 1 d1) ∧ w'.cell? ⟨gb, 6, none⟩ = some (.int .i64 1) ∧ w'.cell? ⟨gb, 7, none⟩ = some (.int .i64 1)
theorem aS_below {gb : Nat} {B0 : Option Addr} {b0 : Nat} {B1 : Option Addr} {b1 : Nat} {D0 : Option Addr} {d0 : Nat} {D1 : Option Addr} {d1 : Nat} {w2 w w' : World} (h : aS gb B0 b0 B1 b1 D0 d0 D1 d1 w2 w) (hb : Below w.heap.size w w') : aS gb B0 b0 B1 b1 D0 d0 D1 d1 w2 w' := by
  obtain ⟨h0, a0, a1, a2, a3, a4, a5, a6, a7⟩ := h
  exact ⟨below_then h0 h0.size hb, pw_cell_below hb a0, pw_cell_below hb a1, pw_cell_below hb a2, pw_cell_below hb a3, pw_cell_below hb a4, pw_cell_below hb a5, pw_cell_below hb a6, pw_cell_below hb a7⟩
theorem aS_alloc {gb : Nat} {B0 : Option Addr} {b0 : Nat} {B1 : Option Addr} {b1 : Nat} {D0 : Option Addr} {d0 : Nat} {D1 : Option Addr} {d1 : Nat} {w2 w : World} (h : aS gb B0 b0 B1 b1 D0 d0 D1 d1 w2 w) (o : Obj) : aS gb B0 b0 B1 b1 D0 d0 D1 d1 w2 (w.alloc o) := aS_below h (below_alloc (Below.refl _ _) o)
theorem aS_drew {gb : Nat} {B0 : Option Addr} {b0 : Nat} {B1 : Option Addr} {b1 : Nat} {D0 : Option Addr} {d0 : Nat} {D1 : Option Addr} {d1 : Nat} {w2 w : World} (h : aS gb B0 b0 B1 b1 D0 d0 D1 d1 w2 w) : aS gb B0 b0 B1 b1 D0 d0 D1 d1 w2 w.drew := aS_below h (below_drew (Below.refl _ _))
set_option maxHeartbeats 8000000 in
set_option maxRecDepth 100000 in
theorem awake_walk (w : World) :
    Calls Try.prog 10 #[] w fun e w' => e = .returned (.bool true) ∧ Below w.heap.size w w' := by
  have HA := Aside0.mk (a_args w)
  have HB0 := Aside0.mk (show Below w.heap.size w (aW w) from below_alloc (below_alloc (below_alloc (below_alloc (below_alloc (below_alloc (below_alloc (Below.refl _ _) _) _) _) _) _) _) _)
  go_enter Try.func10, Try.ntmps10
  go_upto_region 2 with (first | (go_at_call 11; (refine (a_fix _ 2 _ 2 _ HA.out.1 (by decide) HA.out.2 (by decide)).mono ?_); rintro e w2 ⟨v, rfl, hR, hb2⟩; obtain ⟨gb, cp, rfl⟩ : ∃ gb cp, v = .slice (some ⟨gb, 0, none⟩) 2 cp := (by obtain ⟨gb, cp, h_, _⟩ := Kd.R_form hR (by decide); exact ⟨gb, cp, h_⟩); have HR := Aside0.mk hR; have HB := Aside0.mk (below_then HB0.out HB0.out.size hb2); clear hR hb2))
  obtain ⟨k1, k2, hC⟩ := Kd.R_reads' HR.out
  clear k1 k2
  obtain ⟨ad, B0, b0, B1, b1, e0, x0, x1, x2, x3, m0, M0, m1, M1⟩ := at_T37 hC 0 (by decide) (by decide)
  cases e0
  obtain ⟨ad, D0, d0, D1, d1, e0, y0, y1, y2, y3, n0, N0, n1, N1⟩ := at_T37 hC 1 (by decide) (by decide)
  cases e0
  have HM0 : Aside0 ([3].length ≤ b0 ∧ (Kd.int .i64).C w2 B0 [3].length [3]) := ⟨m0, M0⟩
  have HM1 : Aside0 ([3].length ≤ b1 ∧ (Kd.int .i64).C w2 B1 [3].length [3]) := ⟨m1, M1⟩
  have HM2 : Aside0 ([3].length ≤ d0 ∧ (Kd.int .i64).C w2 D0 [3].length [3]) := ⟨n0, N0⟩
  have HM3 : Aside0 ([3].length ≤ d1 ∧ (Kd.int .i64).C w2 D1 [3].length [3]) := ⟨n1, N1⟩
  clear hC m0 M0 m1 M1 n0 N0 n1 N1
  replace x0 : w2.cell? ⟨gb, 0, none⟩ = some (.slice B0 1 b0) := x0
  replace x1 : w2.cell? ⟨gb, 1, none⟩ = some (.slice B1 1 b1) := x1
  replace x2 : w2.cell? ⟨gb, 2, none⟩ = some (.int .i64 1) := x2
  replace x3 : w2.cell? ⟨gb, 3, none⟩ = some (.int .i64 1) := x3
  replace y0 : w2.cell? ⟨gb, 4, none⟩ = some (.slice D0 1 d0) := y0
  replace y1 : w2.cell? ⟨gb, 5, none⟩ = some (.slice D1 1 d1) := y1
  replace y2 : w2.cell? ⟨gb, 6, none⟩ = some (.int .i64 1) := y2
  replace y3 : w2.cell? ⟨gb, 7, none⟩ = some (.int .i64 1) := y3
  have HS := Aside0.mk (show aS gb B0 b0 B1 b1 D0 d0 D1 d1 w2 w2 from ⟨Below.refl _ _, x0, x1, x2, x3, y0, y1, y2, y3⟩)
  have HS1 := Aside0.mk (aS_drew (aS_alloc HS.out (.cells #[.int .i64 3] 3)))
  have HS2 := Aside0.mk (aS_drew (aS_alloc (aS_alloc HS.out (.cells #[.int .i64 3] 3)) (.cells #[.int .i64 3] 3)))
  have HL1 := Aside0.mk (Kd.C_drew (Kd.C_alloc (ints_lit (xs := [3]) (blk_new w2 (.cells #[.int .i64 3] 3)) rfl (by decide)) (.cells #[.int .i64 3] 3)))
  have HL2 := Aside0.mk (Kd.C_drew (ints_lit (xs := [3]) (blk_new' (w := w2.alloc (.cells #[.int .i64 3] 3)) (o := .cells #[.int .i64 3] 3) (n := w2.heap.size + 1) rfl (by simp)).1 rfl (by decide)))
  clear x0 x1 x2 x3 y0 y1 y2 y3
  go_region_held3 (fun w' => Below w2.heap.size w2 w' ∧ w'.cell? ⟨gb, 0, none⟩ = some (.slice B0 1 b0) ∧ w'.cell? ⟨gb, 1, none⟩ = some (.slice B1 1 b1) ∧ w'.cell? ⟨gb, 2, none⟩ = some (.int .i64 1) ∧ w'.cell? ⟨gb, 3, none⟩ = some (.int .i64 1) ∧ w'.cell? ⟨gb, 4, none⟩ = some (.slice D0 1 d0) ∧ w'.cell? ⟨gb, 5, none⟩ = some (.slice D1 1 d1) ∧ w'.cell? ⟨gb, 6, none⟩ = some (.int .i64 1) ∧ w'.cell? ⟨gb, 7, none⟩ = some (.int .i64 1))
    (first | exact HT.out | exact HU.out | exact HS.out | exact aS_drew HS.out | exact HS1.out | exact HS2.out)
    (first
      | (go_at_call 18; (refine (famSameT.calls 100 B0 b0 [3] B1 b1 [3] 1 1 D0 d0 [3] D1 d1 [3] 1 1 _ (Kd.C_below HM0.out.2 HT.out.1) HM0.out.1 (Kd.C_below HM1.out.2 HT.out.1) HM1.out.1 (Kd.C_below HM2.out.2 HT.out.1) HM2.out.1 (Kd.C_below HM3.out.2 HT.out.1) HM3.out.1 a_same).mono ?_); rintro e w4 ⟨rfl, hb⟩; have HU := Aside0.mk (aS_below HT.out hb); clear hb)
      | (go_at_call 18; (refine (famSameT.calls 100 B0 b0 [3] B1 b1 [3] 1 1 _ 1 [3] _ 1 [3] 1 1 _ (Kd.C_below HM0.out.2 HS2.out.1) HM0.out.1 (Kd.C_below HM1.out.2 HS2.out.1) HM1.out.1 ?r2 ?c2 ?r3 ?c3 a_same).mono ?_); (case r2 => first | exact HL1.out | exact HL2.out); (case c2 => decide); (case r3 => first | exact HL1.out | exact HL2.out); (case c3 => decide); rintro e w3 ⟨rfl, hb⟩; have HT := Aside0.mk (aS_below HS2.out hb); clear hb))
  all_goals
    try go_wp2
    go_ret
    first
      | exact ⟨rfl, below_then HB.out HB.out.size HU.out.1⟩
      | (trace_state; fail)
end Go.Proofs.Ytgfbgfbnmiainaa.Fam
