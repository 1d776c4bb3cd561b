import Derived.Deep.QuietTactic
import Derived.BigQuiet
/-! A region that draws its order, whose operations only read, but for the last one (a call, say), which waits for all others: one walk of the order of the text, then the last operation. -/
namespace Go.Proofs.Ytelmcnngocklfaa.QuietLast
set_option linter.unusedVariables false
set_option linter.unusedSimpArgs false
open Go
section
variable {P : Program} {ops : Array Oper} {md : Region.Mode} {C : World → Prop}
def closed (md : Region.Mode) (ops : Array Oper) (listed : Array Bool) : Prop :=
  ∀ k ok, ops[k]? = some ok → listed.getD k true = true → ∀ e ∈ ok.after, Region.binds md e = true → listed.getD e.on false = true
def coverB (md : Region.Mode) (ops : Array Oper) (c : Nat) : Bool :=
  (List.range ops.size).all fun i => i == c || (List.range ops.size).any fun k => match ops[k]? with
    | some ok => ok.after.any (fun e => Region.binds md e && e.on == i)
    | none => false
def endB (md : Region.Mode) (ops : Array Oper) (c : Nat) (listed : Array Bool) : Bool :=
  Region.ready md ops listed == [c] && (Region.ready md ops (listed.setIfInBounds c true)).isEmpty && (List.range ops.size).all fun j => j == c || listed.getD j true
def lexLB (md : Region.Mode) (ops : Array Oper) : Nat → Nat → Array Bool → Bool
  | 0, k, listed => endB md ops k listed
  | fuel + 1, k, listed => (Region.ready md ops listed).contains k && Region.free md ops listed k && lexLB md ops fuel (k + 1) (listed.setIfInBounds k true)
def wpAnyL (P : Program) (md : Region.Mode) (ops : Array Oper) (C : World → Prop) (c : Nat) (Q : Act → Prop) : Nat → Array Bool → Act → Prop
  | 0, listed, a => endB md ops c listed = true ∧ Q a
  | fuel + 1, listed, a => Region.ready md ops listed ≠ [] ∧ ∀ i ∈ Region.ready md ops listed, i ≠ c ∧ qOp P ops C i (wpAnyL P md ops C c Q fuel (listed.setIfInBounds i true)) a
theorem unlisted {listed : Array Bool} {i : Nat} (h0 : listed.getD i true = false) (h1 : listed.getD i false = true) : False := by
  rcases Nat.lt_or_ge i listed.size with h' | h'
  · simp [h'] at h0 h1
    rw [h0] at h1
    cases h1
  · simp [Array.getElem?_eq_none h'] at h1
theorem closed_set {listed : Array Bool} {j : Nat} (hc : closed md ops listed) (hj : j ∈ Region.ready md ops listed) : closed md ops (listed.setIfInBounds j true) := by
  intro k ok hk hl e he hb
  by_cases hjk : j = k
  · subst hjk
    obtain ⟨_, o, ho, hall⟩ := mem_ready.1 hj
    rw [ho] at hk
    cases hk
    exact getD_set_true (hall e he hb)
  · rw [getD_set_ne true hjk] at hl
    exact getD_set_true (hc k ok hk hl e he hb)
theorem wpAnyL_first {Q : Act → Prop} {c i : Nat} {oi : Oper} {v : Value} (hi : ops[i]? = some oi) (hic : i ≠ c) (hsel : ∀ (j : Nat) (o : Oper) cs b, ops[j]? = some o → o.op ≠ .select cs b) (hcov : coverB md ops c = true) :
    ∀ (fuel : Nat) (listed : Array Bool) (a : Act), closed md ops listed →
      (∀ j oj, ops[j]? = some oj → j ≠ i → listed.getD j true = false → (∀ e ∈ oj.after, Region.binds md e = true → e.on ≠ i) → oi.apart ops oj = true) →
      i ∈ Region.ready md ops listed → YieldsIn P ops C oi v a →
      wpAnyL P md ops C c Q fuel (listed.setIfInBounds i true) (a.put oi.dst v) → wpAnyL P md ops C c Q (fuel + 1) listed a := by
  intro fuel
  induction fuel with
  | zero =>
    intro listed a hcl _ hr hy H
    refine ⟨fun h => (by rw [h] at hr; cases hr), fun j hj => ?_⟩
    by_cases hji : j = i
    · subst hji; exact ⟨hic, hy.qOp hi H⟩
    · exfalso
      obtain ⟨hiun, oi', hoi', hiall⟩ := mem_ready.1 hr
      obtain ⟨hjun, oj, hoj, hall⟩ := mem_ready.1 hj
      have hE := H.1
      simp only [endB, Bool.and_eq_true, List.all_eq_true, List.mem_range, Bool.or_eq_true, beq_iff_eq] at hE
      obtain ⟨_, hE⟩ := hE
      have hlt : ∀ {k o}, ops[k]? = some o → k < ops.size := fun h => (Array.getElem?_eq_some_iff.1 h).1
      have hjc : j = c := by
        rcases hE j (hlt hoj) with h | h
        · exact h
        · rw [getD_set_ne true (Ne.symm hji), hjun] at h
          cases h
      subst hjc
      have hcv := hcov
      simp only [coverB, List.all_eq_true, List.mem_range, Bool.or_eq_true, beq_iff_eq] at hcv
      rcases hcv i (hlt hi) with h | h
      · exact hic h
      · obtain ⟨k, _, hk⟩ := List.any_eq_true.1 h
        cases hok : ops[k]? with
        | none => simp [hok] at hk
        | some ok =>
          simp only [hok] at hk
          obtain ⟨e, he, hbe⟩ := Array.any_eq_true'.1 hk
          simp only [Bool.and_eq_true, beq_iff_eq] at hbe
          obtain ⟨hb, hon⟩ := hbe
          by_cases hkj : k = j
          · subst hkj
            rw [hoj] at hok
            cases hok
            exact unlisted hiun (hon ▸ hall e he hb)
          · by_cases hki : k = i
            · subst hki
              rw [hoi'] at hok
              cases hok
              exact unlisted hiun (hon ▸ hiall e he hb)
            · rcases hE k (hlt hok) with h | h
              · exact hkj h
              · rw [getD_set_ne true (Ne.symm hki)] at h
                exact unlisted hiun (hon ▸ hcl k ok hok h e he hb)
  | succ fuel ih =>
    intro listed a hcl hfree hr hy H
    refine ⟨fun h => (by rw [h] at hr; cases hr), fun j hj => ?_⟩
    by_cases hji : j = i
    · subst hji; exact ⟨hic, hy.qOp hi H⟩
    · obtain ⟨hjc, h1⟩ := H.2 j (ready_mono hj hji)
      refine ⟨hjc, ?_⟩
      obtain ⟨hjun, oj, hoj, hall⟩ := mem_ready.1 hj
      have hnot : ∀ e ∈ oj.after, Region.binds md e = true → e.on ≠ i := fun e he hb heq => unlisted (mem_ready.1 hr).1 (heq ▸ hall e he hb)
      have h2 := qOp_put hoj (hfree j oj hoj hji hjun hnot) (fun cs b => hsel i oi cs b hi) (fun cs b => hsel j oj cs b hoj) hy h1
      have hfree' : ∀ k ok, ops[k]? = some ok → k ≠ i → (listed.setIfInBounds j true).getD k true = false →
          (∀ e ∈ ok.after, Region.binds md e = true → e.on ≠ i) → oi.apart ops ok = true := fun k ok hk hki hun hno => by
        refine hfree k ok hk hki ?_ hno
        by_cases hjk : j = k
        · subst hjk; exact hjun
        · rw [getD_set_ne true hjk] at hun; exact hun
      refine qOp_mono (fun a' h3 => ih (listed.setIfInBounds j true) a' (closed_set hcl hj) hfree' (ready_mono hr (Ne.symm hji)) h3.1 ?_) h2
      rw [Array.setIfInBounds_comm _ _ hji]
      exact h3.2
theorem wpAnyL_lex {Q : Act → Prop} {c : Nat} (hs : Region.noSelect ops = true) (hcov : coverB md ops c = true) : ∀ (l : List Oper) (k : Nat) (listed : Array Bool) (a : Act), k + l.length = c → (∀ j, j < l.length → l[j]? = ops[k + j]?) →
    closed md ops listed → lexLB md ops l.length k listed = true → wpQuiet P ops C Q l a → wpAnyL P md ops C c Q l.length listed a
  | [], k, _, _, hc, _, _, hB, h => by
    obtain rfl : k = c := by simpa using hc
    exact ⟨hB, h⟩
  | o :: l, k, listed, a, hc, hl, hcl, hB, h => by
    have h0 : ops[k]? = some o := by simpa using (hl 0 (by simp)).symm
    simp only [List.length_cons] at hc
    simp only [List.length_cons, lexLB, Bool.and_eq_true] at hB
    obtain ⟨⟨hr, hf⟩, hB'⟩ := hB
    have hst : qOp P ops C k (wpQuiet P ops C Q l) a := by unfold qOp; simp only [h0]; exact h
    obtain ⟨v, hy, hK⟩ := yieldsIn_of_qOp h0 hst
    exact wpAnyL_first h0 (by omega) (Region.noSelect_spec hs) hcov l.length listed a hcl (Region.free_spec h0 hf) (by simpa using hr) hy
      (wpAnyL_lex hs hcov l (k + 1) _ _ (by omega) (fun j hj => by have := hl (j + 1) (by simp; omega); simpa [Nat.add_assoc, Nat.add_comm 1 j] using this) (closed_set hcl (by simpa using hr)) hB' hK)
theorem wpAny_of_L {Q : Act → Prop} {c : Nat} {Q' : Exit → Act → World → Prop} (hQ : ∀ a w, C w → Q a → wpOp P ops Q' c (fun a w => Q' .normal a w) a w) : ∀ (fuel : Nat) (listed : Array Bool) (a : Act) (w : World), C w →
    wpAnyL P md ops C c Q fuel listed a → wpAny P md ops Q' (fuel + 1) listed a w
  | 0, listed, a, w, hw, h => by
    obtain ⟨hE, h⟩ := h
    simp only [endB, Bool.and_eq_true, beq_iff_eq, List.isEmpty_iff] at hE
    obtain ⟨⟨h1, h2⟩, _⟩ := hE
    refine ⟨fun h0 => (by rw [h1] at h0; cases h0), fun i hi => ?_⟩
    rw [h1, List.mem_singleton] at hi
    subst hi
    exact wpOp_mono (fun a w h => ⟨h2, h⟩) (hQ a w hw h)
  | fuel + 1, listed, a, w, hw, h => ⟨fun h0 => absurd h0 h.1, fun i hi => wpOp_of_qOp hw (fun a' w' hw' => wpAny_of_L hQ fuel _ a' w' hw') (h.2 i hi).2⟩
def initL : List Oper → List Oper
  | [] => []
  | [_] => []
  | o :: o' :: r => o :: initL (o' :: r)
def lastL : List Oper → List Oper
  | [] => []
  | [o] => [o]
  | _ :: o' :: r => lastL (o' :: r)
theorem init_last : ∀ (l : List Oper), initL l ++ lastL l = l
  | [] => rfl
  | [_] => rfl
  | o :: o' :: r => by simp only [initL, lastL, List.cons_append, init_last (o' :: r)]
theorem last_some : ∀ (l : List Oper), l ≠ [] → ∃ c, lastL l = [c]
  | [], h => absurd rfl h
  | [o], _ => ⟨o, rfl⟩
  | _ :: o' :: r, _ => by
    obtain ⟨c, h⟩ := last_some (o' :: r) (by simp)
    exact ⟨c, by simp only [lastL, h]⟩
def lastB (L : List Oper) : Bool := !L.isEmpty && Region.noSelect L.toArray && coverB .any L.toArray (initL L).length && lexLB .any L.toArray (initL L).length 0 (Array.replicate L.toArray.size false)
/-- One walk of the order of the text, then the last operation, in the world after some draws. -/
theorem wp_region_qlast {id : Nat} {Q : Exit → Act → World → Prop} {a : Act} {w : World} {L : List Oper} (hm : P.follows .mixedOrders = true) (hB : lastB L = true)
    (h : wpQuiet P L.toArray (fun w' => ∃ n, w' = w.drewN n) (fun a' => ∀ w', (∃ n, w' = w.drewN n) → wpList P L.toArray Q (lastL L) a' w') (initL L) a) : (Code.region id L.toArray true).wp P Q a w := by
  simp only [lastB, Bool.and_eq_true, Bool.not_eq_true', List.isEmpty_eq_false_iff] at hB
  obtain ⟨⟨⟨hne, hs⟩, hcov⟩, hlex⟩ := hB
  obtain ⟨c, hc⟩ := last_some L hne
  have hL : initL L ++ [c] = L := by rw [← hc]; exact init_last L
  have hsz : L.toArray.size = (initL L).length + 1 := by
    have := congrArg List.length hL
    simp only [List.length_append, List.length_singleton] at this
    simpa using this.symm
  have hget : L.toArray[(initL L).length]? = some c := by
    have : L[(initL L).length]? = some c := by
      have h5 : (initL L ++ [c])[(initL L).length]? = some c := List.getElem?_concat_length
      rw [hL] at h5
      exact h5
    simpa using this
  refine wp_region_any hm ?_
  have := wpAnyL_lex (P := P) (C := fun w' => ∃ n, w' = w.drewN n) (md := .any) (c := (initL L).length) hs hcov (initL L) 0 (Array.replicate L.toArray.size false) a (by simp) (fun j hj => by
      have h2 : L[j]? = (initL L)[j]? := by
        have h5 : (initL L ++ [c])[j]? = (initL L)[j]? := List.getElem?_append_left hj
        rw [hL] at h5
        exact h5
      simpa using h2.symm) (fun k ok hk hl => by
      have hlt := (Array.getElem?_eq_some_iff.1 hk).1
      exfalso
      have hlt' : k < L.length := by simpa using hlt
      simp [Array.getElem?_replicate, hlt'] at hl) hlex h
  have h3 := wpAny_of_L (Q' := Q) (fun a' w' hw' hq => (by
    have h4 := hq w' hw'
    rw [hc] at h4
    unfold wpOp
    simp only [hget]
    exact h4)) _ _ a { w with drawn := w.drawn + 1 } ⟨1, rfl⟩ this
  rw [← hsz] at h3
  exact h3
end
end Go.Proofs.Ytelmcnngocklfaa.QuietLast
