import Derived.Deep.QuietTactic
import Derived.Orders
/-! A region that draws its order, by an invariant over which of its operations are done: each operation that may be next is walked once, alone. -/
namespace Go.Proofs.Ytelmcnngocklfaa.RegInv
set_option linter.unusedVariables false
set_option linter.unusedSimpArgs false
open Go
section
variable {P : Program} {ops : Array Oper} {md : Region.Mode} {Q : Exit → Act → World → Prop}
/-- Q at every way out but the plain one, where K stands. -/
def Then (Q : Exit → Act → World → Prop) (K : Act → World → Prop) : Exit → Act → World → Prop
  | .normal, a, w => K a w
  | e, a, w => Q e a w
theorem wp_then {o : Oper} {a : Act} {w : World} {K : Act → World → Prop} (h : o.wp P a w K (Then Q K)) : o.wp P a w K Q := by
  unfold Oper.wp at *
  generalize (execOp a.eval o).run P w = r at *
  cases r with
  | ok n w' =>
    cases n <;> simp only [Oper.upon] at h ⊢ <;>
      first
        | exact h
        | exact Calls.mono h (fun e w'' he => by cases e <;> first | exact he | (simp only at he ⊢; obtain ⟨a, w, hq⟩ := he; exact ⟨a, w, hq⟩))
  | halt x w' => cases x <;> simp only [Oper.upon] at h ⊢ <;> exact h
theorem op_of_list {i : Nat} {o : Oper} {K : Act → World → Prop} {a : Act} {w : World} (ho : ops[i]? = some o) (h : wpList P ops (Then Q K) [o] a w) : wpOp P ops Q i K a w := by
  unfold wpOp
  simp only [ho]
  simp only [wpList] at h
  split
  · rename_i hw
    rw [if_pos hw] at h
    rcases h with h | ⟨h1, a', w', h2⟩
    · exact .inl (wp_then h)
    · exact .inr ⟨h1, a', w', h2⟩
  · rename_i hw
    rw [if_neg hw] at h
    exact h
theorem count_set {l : Array Bool} {i : Nat} {n : Nat} (hn : l.toList.count false ≤ n + 1) (hi : l.getD i true = false) : (l.setIfInBounds i true).toList.count false ≤ n := by
  have hlt : i < l.size := by
    rcases Nat.lt_or_ge i l.size with h | h
    · exact h
    · simp [Array.getElem?_eq_none h] at hi
  have hv : l.toList[i]'(by simpa using hlt) = false := by simpa [hlt] using hi
  rw [Array.toList_setIfInBounds, List.count_set (by simpa using hlt), hv]
  simp only [Array.count_toList] at hn ⊢
  simp
  omega
theorem wpAny_inv (I : Array Bool → Act → World → Prop)
    (hs : ∀ listed a w i o, ops[i]? = some o → listed.size = ops.size → listed.getD i true = false → (∀ e ∈ o.after, Region.binds md e = true → listed.getD e.on false = true) → I listed a w → wpList P ops (Then Q (I (listed.setIfInBounds i true))) [o] a w)
    (he : ∀ listed a w, listed.size = ops.size → Region.ready md ops listed = [] → I listed a w → Q .normal a w) :
    ∀ fuel listed a w, listed.size = ops.size → listed.toList.count false ≤ fuel → I listed a w → wpAny P md ops Q fuel listed a w := by
  intro fuel
  induction fuel with
  | zero =>
    intro listed a w hz hc h
    have hr : Region.ready md ops listed = [] := by
      rw [List.eq_nil_iff_forall_not_mem]
      intro j hj
      obtain ⟨h1, _⟩ := mem_ready.1 hj
      have := count_set (n := 0) (by omega) h1
      have hm : false ∈ listed.toList := by
        rcases Nat.lt_or_ge j listed.size with g | g
        · have hv : listed.toList[j]'(by simpa using g) = false := by simpa [g] using h1
          rw [← hv]
          exact List.getElem_mem _
        · simp [Array.getElem?_eq_none g] at h1
      have := List.count_pos_iff.2 hm
      omega
    exact ⟨hr, he listed a w hz hr h⟩
  | succ n ih =>
    intro listed a w hz hc h
    refine ⟨fun hr => he listed a w hz hr h, fun i hi => ?_⟩
    obtain ⟨h1, o, ho, h2⟩ := mem_ready.1 hi
    exact wpOp_mono (fun a' w' hI => ih _ a' w' (by simpa using hz) (count_set hc h1) hI) (op_of_list ho (hs listed a w i o ho hz h1 h2 h))
def early (ops : Array Oper) : Bool := (List.range ops.size).all fun i => match ops[i]? with
  | some o => o.after.all fun e => !Region.binds .any e || decide (e.on < i)
  | none => true
theorem all_listed (hm : md = .any) (hB : early ops = true) {listed : Array Bool} (hz : listed.size = ops.size) (hr : Region.ready md ops listed = []) : ∀ i, i < ops.size → listed.getD i false = true := by
  intro i
  induction i using Nat.strongRecOn with
  | ind i ih =>
    intro hi
    have hi' : i < listed.size := by omega
    cases hb : listed[i] with
    | true => simp [hi', hb]
    | false =>
      exfalso
      have hm : i ∈ Region.ready md ops listed := by
        refine mem_ready.2 ⟨by simp [hi', hb], ops[i], Array.getElem?_eq_getElem hi, fun e he hbn => ?_⟩
        simp only [early, List.all_eq_true, List.mem_range] at hB
        have h1 := hB i hi
        rw [Array.getElem?_eq_getElem hi] at h1
        simp only [Array.all_eq_true'] at h1
        subst hm
        have h2 := h1 e he
        rw [hbn] at h2
        have h2 := of_decide_eq_true h2
        exact ih e.on h2 (by omega)
      rw [hr] at hm
      cases hm
/-- The rule. -/
theorem wp_region_inv {id : Nat} {a : Act} {w : World} (hm : P.follows .mixedOrders = true) (hB : early ops = true) (I : Array Bool → Act → World → Prop)
    (h0 : I (Array.replicate ops.size false) a { w with drawn := w.drawn + 1 })
    (hs : ∀ listed a w i o, ops[i]? = some o → listed.size = ops.size → listed.getD i true = false → (∀ e ∈ o.after, Region.binds .any e = true → listed.getD e.on false = true) → I listed a w → wpList P ops (Then Q (I (listed.setIfInBounds i true))) [o] a w)
    (he : ∀ listed a w, (∀ i, i < ops.size → listed.getD i false = true) → I listed a w → Q .normal a w) : (Code.region id ops true).wp P Q a w := by
  refine wp_region_any hm (wpAny_inv I hs (fun listed a w hz hr hI => he listed a w (all_listed rfl hB hz hr) hI) _ _ _ _ (by simp) ?_ h0)
  simp
/-- The same, where the invariant speaks of the frame ahead of the region. -/
theorem wp_region_inv' {id : Nat} {a : Act} {w : World} (hm : P.follows .mixedOrders = true) (hB : early ops = true) (J : Act → Array Bool → Act → World → Prop)
    (h0 : J a (Array.replicate ops.size false) a { w with drawn := w.drawn + 1 })
    (hs : ∀ listed a' w i o, ops[i]? = some o → listed.size = ops.size → listed.getD i true = false → (∀ e ∈ o.after, Region.binds .any e = true → listed.getD e.on false = true) → J a listed a' w → wpList P ops (Then Q (J a (listed.setIfInBounds i true))) [o] a' w)
    (he : ∀ listed a' w, (∀ i, i < ops.size → listed.getD i false = true) → J a listed a' w → Q .normal a' w) : (Code.region id ops true).wp P Q a w :=
  wp_region_inv hm hB (J a) h0 hs he
end
end Go.Proofs.Ytelmcnngocklfaa.RegInv
namespace Go.Proofs.Ytelmcnngocklfaa.Need
open Go
theorem set_self (t : Array Value) (i : Nat) : t.setIfInBounds i (t.getD i undef) = t := by
  apply Array.ext
  · simp
  · intro j h1 h2
    rw [Array.getElem_setIfInBounds (by simpa using h1)]
    split
    · rename_i e
      subst e
      simp [h2]
    · rfl
end Go.Proofs.Ytelmcnngocklfaa.Need
