import Derived.Test.YtgfbgfbnmiainaaFamApp
import Derived.Test.YtgfbgfbnmiainaaFamOne
/-! apply, whole: against a Lean function over relations. -/
namespace Go.Proofs.Ytgfbgfbnmiainaa.Fam
set_option linter.unusedVariables false
set_option linter.unusedSimpArgs false
open Go.RowKit Go.Proofs.YtgfbgfbnmiainaaW.PrintWords Go.Proofs.YtgfbgfbnmiainaaW.PrintLast Go.Proofs.YtgfbgfbnmiainaaW.PrintMore Go.Proofs.Ytgfbgfbnmiainaa.Q
/-- A relation that is valid. -/
inductive Rl
  | part (a b : Int) | apart (a b : Int) | union (a b c : Int) | meet (a b c : Int) | minus (a b c : Int) | has (a N : Int) | lacks (a N : Int) | size (a N : Int)
def IsRl (r : S33) : Rl → Prop
  | .part a b => r.f0 = ⟨#[112, 97, 114, 116]⟩ ∧ r.f1 = [a, b]
  | .apart a b => r.f0 = ⟨#[97, 112, 97, 114, 116]⟩ ∧ r.f1 = [a, b]
  | .union a b c => r.f0 = ⟨#[117, 110, 105, 111, 110]⟩ ∧ r.f1 = [a, b, c]
  | .meet a b c => r.f0 = ⟨#[109, 101, 101, 116]⟩ ∧ r.f1 = [a, b, c]
  | .minus a b c => r.f0 = ⟨#[109, 105, 110, 117, 115]⟩ ∧ r.f1 = [a, b, c]
  | .has a N => r.f0 = ⟨#[104, 97, 115]⟩ ∧ r.f1 = [a] ∧ r.f2 = N
  | .lacks a N => r.f0 = ⟨#[108, 97, 99, 107, 115]⟩ ∧ r.f1 = [a] ∧ r.f2 = N
  | .size a N => r.f0 = ⟨#[115, 105, 122, 101]⟩ ∧ r.f1 = [a] ∧ r.f2 = N
def Inb (n : Nat) (a : Int) : Prop := 0 ≤ a ∧ a < n
def Rl.inb (n : Nat) : Rl → Prop
  | .part a b | .apart a b => Inb n a ∧ Inb n b
  | .union a b c | .meet a b c | .minus a b c => Inb n a ∧ Inb n b ∧ Inb n c
  | .has a _ | .lacks a _ | .size a _ => Inb n a
def hasL (k : Nat) (a N : Int) (t : St) : Option St := if 0 ≤ N ∧ N ≤ 63 then putL k a (intoS t.xs a (IntKind.u64.wrap (2 ^ N.toNat))) t else some ⟨t.xs, true, t.moved⟩
def lacksL (k : Nat) (a N : Int) (t : St) : Option St := if 0 ≤ N ∧ N ≤ 63 then putL k a (onlyS t.xs a (Go.bits .xor .u64 (IntKind.max .u64) (IntKind.u64.wrap (2 ^ N.toNat)))) t else some t
def sizeL (k : Nat) (a N : Int) (t : St) : Option St := if 0 ≤ N ∧ N ≤ 64 then (putL k a (leastS t.xs a N) t).bind fun t => putL k a (greatestS t.xs a N) t else some ⟨t.xs, true, t.moved⟩
def applyR (k : Nat) : Rl → St → Option St
  | .part a b => partL k a b
  | .apart a b => apartL k a b
  | .union a b c => unionL k a b c
  | .meet a b c => meetL k a b c
  | .minus a b c => minusL k a b c
  | .has a N => hasL k a N
  | .lacks a N => lacksL k a N
  | .size a N => sizeL k a N
theorem cells_of {w : World} {A : Option Addr} {xs : List Int} (h : (Kd.int .i64).C w A xs.length xs) (h0 : 0 < xs.length) : ∃ ab ao, A = some ⟨ab, ao, none⟩ ∧ w.cell? ⟨ab, ao, none⟩ = some (.int .i64 (rd xs 0)) ∧ ∀ j : Nat, 0 < j → j < xs.length → w.cell? ⟨ab, ao + j, none⟩ = some (.int .i64 (rd xs j)) := by
  obtain ⟨ad, e, hc⟩ := Kd.at_int h 0 (by omega) (by omega)
  have hc0 : w.cell? ad = some (.int .i64 (rd xs 0)) := hc
  obtain ⟨ab, ao, sp⟩ := ad
  cases sp with
  | some s =>
    exfalso
    unfold World.cell? at hc0
    simp only [Option.isSome_some, if_true] at hc0
    split at hc0 <;> simp at hc0
  | none =>
    refine ⟨ab, ao, e, hc0, fun j hj hlt => ?_⟩
    obtain ⟨ad', e', hc'⟩ := Kd.at_int h j (by omega) (by omega)
    rw [e] at e'
    cases e'
    have : (⟨ab, ao, none⟩ : Addr).add (j : Int).toNat = ⟨ab, ao + j, none⟩ := by
      unfold Addr.add
      rw [if_neg (by omega)]
      simp
    rw [this] at hc'
    exact hc'
theorem apply_calls (k g gs cap n : Nat) (t u : St) (r : S33) (q : Rl) (A : Option Addr) (vc : Nat) (w0 w1 w : World) (hC : (Kd.int .i64).C w A r.f1.length r.f1) (hq : IsRl r q) (hi : q.inb n) (hF : Fx w0 w1 w g (.slice (some ⟨gs, 0, none⟩) n cap) t.xs t.fail t.moved) (hn : applyR k q t = some u) :
    Calls Try.prog 38 #[.pointer (some ⟨g, 0, none⟩), .agg #[.string r.f0, .slice A r.f1.length vc, .int .i64 r.f2]] w (FxEnd w0 w1 g (.slice (some ⟨gs, 0, none⟩) n cap) u.xs u.fail u.moved) := by
  obtain ⟨f0, f1, f2⟩ := r
  cases q with
  | part a b =>
    obtain ⟨rfl, rfl⟩ := hq
    obtain ⟨⟨la, ra⟩, lb, rb⟩ := hi
    obtain ⟨ab, ao, rfl, q0, qj⟩ := cells_of hC (by simp)
    exact apply_part k g gs cap n t u ab ao vc a b f2 w0 w1 w la ra lb rb q0 (qj 1 (by omega) (by simp)) hF hn
  | apart a b =>
    obtain ⟨rfl, rfl⟩ := hq
    obtain ⟨⟨la, ra⟩, lb, rb⟩ := hi
    obtain ⟨ab, ao, rfl, q0, qj⟩ := cells_of hC (by simp)
    exact apply_apart k g gs cap n t u ab ao vc a b f2 w0 w1 w la ra lb rb q0 (qj 1 (by omega) (by simp)) hF hn
  | union a b c =>
    obtain ⟨rfl, rfl⟩ := hq
    obtain ⟨⟨la, ra⟩, ⟨lb, rb⟩, lc, rc⟩ := hi
    obtain ⟨ab, ao, rfl, q0, qj⟩ := cells_of hC (by simp)
    exact apply_union k g gs cap n t u ab ao vc a b c f2 w0 w1 w la ra lb rb lc rc q0 (qj 1 (by omega) (by simp)) (qj 2 (by omega) (by simp)) hF hn
  | meet a b c =>
    obtain ⟨rfl, rfl⟩ := hq
    obtain ⟨⟨la, ra⟩, ⟨lb, rb⟩, lc, rc⟩ := hi
    obtain ⟨ab, ao, rfl, q0, qj⟩ := cells_of hC (by simp)
    exact apply_meet k g gs cap n t u ab ao vc a b c f2 w0 w1 w la ra lb rb lc rc q0 (qj 1 (by omega) (by simp)) (qj 2 (by omega) (by simp)) hF hn
  | minus a b c =>
    obtain ⟨rfl, rfl⟩ := hq
    obtain ⟨⟨la, ra⟩, ⟨lb, rb⟩, lc, rc⟩ := hi
    obtain ⟨ab, ao, rfl, q0, qj⟩ := cells_of hC (by simp)
    exact apply_minus k g gs cap n t u ab ao vc a b c f2 w0 w1 w la ra lb rb lc rc q0 (qj 1 (by omega) (by simp)) (qj 2 (by omega) (by simp)) hF hn
  | has a N =>
    obtain ⟨rfl, rfl, rfl⟩ := hq
    obtain ⟨la, ra⟩ := hi
    obtain ⟨ab, ao, rfl, q0, qj⟩ := cells_of hC (by simp)
    refine apply_has g _ t u ab ao vc a _ w0 w1 w q0 hF (fun w' hF' => ?_)
    simp only [applyR, hasL] at hn
    by_cases h : 0 ≤ f2 ∧ f2 ≤ 63
    · rw [if_pos h] at hn
      exact one_has_in k g gs cap n t u _ a _ w0 w1 w' la ra h.1 h.2 hF' hn
    · rw [if_neg h, Option.some.injEq] at hn
      subst hn
      by_cases h2 : f2 < 0
      · exact one_has_lo k g gs cap n t t _ a _ w0 w1 w' la ra h2 hF'
      · exact one_has_hi k g gs cap n t t _ a _ w0 w1 w' la ra (show 63 < f2 by omega) hF'
  | lacks a N =>
    obtain ⟨rfl, rfl, rfl⟩ := hq
    obtain ⟨la, ra⟩ := hi
    obtain ⟨ab, ao, rfl, q0, qj⟩ := cells_of hC (by simp)
    refine apply_lacks g _ t u ab ao vc a _ w0 w1 w q0 hF (fun w' hF' => ?_)
    simp only [applyR, lacksL] at hn
    by_cases h : 0 ≤ f2 ∧ f2 ≤ 63
    · rw [if_pos h] at hn
      exact one_lacks_in k g gs cap n t u _ a _ w0 w1 w' la ra h.1 h.2 hF' hn
    · rw [if_neg h, Option.some.injEq] at hn
      subst hn
      by_cases h2 : f2 < 0
      · exact one_lacks_lo k g gs cap n t t _ a _ w0 w1 w' la ra h2 hF'
      · exact one_lacks_hi k g gs cap n t t _ a _ w0 w1 w' la ra (show 63 < f2 by omega) hF'
  | size a N =>
    obtain ⟨rfl, rfl, rfl⟩ := hq
    obtain ⟨la, ra⟩ := hi
    obtain ⟨ab, ao, rfl, q0, qj⟩ := cells_of hC (by simp)
    refine apply_size g _ t u ab ao vc a _ w0 w1 w q0 hF (fun w' hF' => ?_)
    simp only [applyR, sizeL] at hn
    by_cases h : 0 ≤ f2 ∧ f2 ≤ 64
    · rw [if_pos h] at hn
      obtain ⟨s, hn1, hn2⟩ := Option.bind_eq_some_iff.mp hn
      exact one_size_ok k g gs cap n t u _ a _ w0 w1 w' la ra h.1 h.2 s hF' hn1 hn2
    · rw [if_neg h, Option.some.injEq] at hn
      subst hn
      by_cases h2 : f2 < 0
      · exact one_size_lo k g gs cap n t t _ a _ w0 w1 w' la ra h2 hF'
      · exact one_size_hi k g gs cap n t t _ a _ w0 w1 w' la ra (show 64 < f2 by omega) hF'
end Go.Proofs.Ytgfbgfbnmiainaa.Fam
