-- Walks of Go functions; written by own_print.py of this repo (see NOTES.md).
import Derived.Test.YtelmcnngocklfaaQ0
namespace Go.Proofs.Ytelmcnngocklfaa.Q
open Go.RowKit Go.Proofs.YtelmcnngocklfaaW.PrintWords Go.Proofs.YtelmcnngocklfaaW.PrintLast Go.Proofs.YtelmcnngocklfaaW.PrintMore
attribute [local go_sem] Go.Proofs.YtelmcnngocklfaaW.OwnWords.isSome_setCell max2_int min2_int max_two min_two max_three min_three max_four min_four
set_option linter.unusedVariables false
set_option linter.unusedSimpArgs false

/-! ### needs_layer: function 24 -/
mutual
def needs_layer.j0 : Nat → ByteArray → Bool → Option (Int)
 | 0, _, _ => none
 | k + 1, x3, x4 => if x4 = true then (some 0) else (if x3.toList = ([98, 121, 110, 101, 101, 100] : List UInt8) then (needs_layer.j1 k x3 (x3.toList == ([98, 121, 110, 101, 101, 100] : List UInt8))) else (needs_layer.j1 k x3 (x3.toList == ([110, 101, 101, 100] : List UInt8))))
def needs_layer.j1 : Nat → ByteArray → Bool → Option (Int)
 | 0, _, _ => none
 | k + 1, x3, x30 => if x30 = true then (some 2) else (if x3.toList = ([110, 101, 119, 110, 97, 109, 101] : List UInt8) then (needs_layer.j2 k x3 (x3.toList == ([110, 101, 119, 110, 97, 109, 101] : List UInt8))) else (if x3.toList = ([99, 104, 117, 110, 107] : List UInt8) then (needs_layer.j2 k x3 (x3.toList == ([99, 104, 117, 110, 107] : List UInt8))) else (needs_layer.j2 k x3 (x3.toList == ([118, 105, 101, 119] : List UInt8)))))
def needs_layer.j2 : Nat → ByteArray → Bool → Option (Int)
 | 0, _, _ => none
 | k + 1, x3, x33 => if x33 = true then (some 4) else (if x3.toList = ([112, 111, 114, 116] : List UInt8) then (needs_layer.j3 k x3 (x3.toList == ([112, 111, 114, 116] : List UInt8))) else (needs_layer.j3 k x3 (x3.toList == ([115, 101, 110, 100] : List UInt8))))
def needs_layer.j3 : Nat → ByteArray → Bool → Option (Int)
 | 0, _, _ => none
 | k + 1, x3, x37 => if x37 = true then (some 5) else (if x3.toList = ([100, 101, 116] : List UInt8) then (needs_layer.j4 k x3 (x3.toList == ([100, 101, 116] : List UInt8))) else (if x3.toList = ([99, 101, 108, 108] : List UInt8) then (needs_layer.j4 k x3 (x3.toList == ([99, 101, 108, 108] : List UInt8))) else (if x3.toList = ([103, 101, 116] : List UInt8) then (needs_layer.j4 k x3 (x3.toList == ([103, 101, 116] : List UInt8))) else (if x3.toList = ([115, 101, 116] : List UInt8) then (needs_layer.j4 k x3 (x3.toList == ([115, 101, 116] : List UInt8))) else (if x3.toList = ([115, 119, 97, 112] : List UInt8) then (needs_layer.j4 k x3 (x3.toList == ([115, 119, 97, 112] : List UInt8))) else (if x3.toList = ([108, 111, 99, 107] : List UInt8) then (needs_layer.j4 k x3 (x3.toList == ([108, 111, 99, 107] : List UInt8))) else (if x3.toList = ([116, 97, 107, 101] : List UInt8) then (needs_layer.j4 k x3 (x3.toList == ([116, 97, 107, 101] : List UInt8))) else (if x3.toList = ([103, 105, 118, 101] : List UInt8) then (needs_layer.j4 k x3 (x3.toList == ([103, 105, 118, 101] : List UInt8))) else (if x3.toList = ([100, 105, 99, 116] : List UInt8) then (needs_layer.j4 k x3 (x3.toList == ([100, 105, 99, 116] : List UInt8))) else (if x3.toList = ([97, 114, 114, 97, 121] : List UInt8) then (needs_layer.j4 k x3 (x3.toList == ([97, 114, 114, 97, 121] : List UInt8))) else (if x3.toList = ([112, 117, 116] : List UInt8) then (needs_layer.j4 k x3 (x3.toList == ([112, 117, 116] : List UInt8))) else (if x3.toList = ([114, 101, 109, 111, 118, 101] : List UInt8) then (needs_layer.j4 k x3 (x3.toList == ([114, 101, 109, 111, 118, 101] : List UInt8))) else (if x3.toList = ([107, 101, 121, 115] : List UInt8) then (needs_layer.j4 k x3 (x3.toList == ([107, 101, 121, 115] : List UInt8))) else (if x3.toList = ([112, 114, 105, 111, 114, 105, 116, 121] : List UInt8) then (needs_layer.j4 k x3 (x3.toList == ([112, 114, 105, 111, 114, 105, 116, 121] : List UInt8))) else (needs_layer.j4 k x3 (x3.toList == ([115, 101, 108, 102] : List UInt8)))))))))))))))))
def needs_layer.j4 : Nat → ByteArray → Bool → Option (Int)
 | 0, _, _ => none
 | k + 1, x3, x40 => if x40 = true then (some 6) else (if x3.toList = ([115, 112, 97, 99, 101] : List UInt8) then (needs_layer.j5 k x3 (x3.toList == ([115, 112, 97, 99, 101] : List UInt8))) else (if x3.toList = ([97, 115, 107] : List UInt8) then (needs_layer.j5 k x3 (x3.toList == ([97, 115, 107] : List UInt8))) else (if x3.toList = ([99, 111, 109, 109, 105, 116] : List UInt8) then (needs_layer.j5 k x3 (x3.toList == ([99, 111, 109, 109, 105, 116] : List UInt8))) else (if x3.toList = ([99, 108, 111, 110, 101] : List UInt8) then (needs_layer.j5 k x3 (x3.toList == ([99, 108, 111, 110, 101] : List UInt8))) else (if x3.toList = ([109, 101, 114, 103, 101] : List UInt8) then (needs_layer.j5 k x3 (x3.toList == ([109, 101, 114, 103, 101] : List UInt8))) else (if x3.toList = ([105, 110, 106, 101, 99, 116] : List UInt8) then (needs_layer.j5 k x3 (x3.toList == ([105, 110, 106, 101, 99, 116] : List UInt8))) else (needs_layer.j5 k x3 (x3.toList == ([107, 105, 108, 108] : List UInt8)))))))))
def needs_layer.j5 : Nat → ByteArray → Bool → Option (Int)
 | 0, _, _ => none
 | k + 1, x3, x56 => if x56 = true then (some 7) else (if x3.toList = ([102, 97, 105, 108] : List UInt8) then (some 8) else (some (-1)))
end
def needs_layer.f (k : Nat) (a0 : ByteArray) : Option (Int) := if a0.toList = ([43] : List UInt8) then (needs_layer.j0 k a0 (a0.toList == ([43] : List UInt8))) else (if a0.toList = ([45] : List UInt8) then (needs_layer.j0 k a0 (a0.toList == ([45] : List UInt8))) else (if a0.toList = ([42] : List UInt8) then (needs_layer.j0 k a0 (a0.toList == ([42] : List UInt8))) else (if a0.toList = ([100, 105, 118] : List UInt8) then (needs_layer.j0 k a0 (a0.toList == ([100, 105, 118] : List UInt8))) else (if a0.toList = ([109, 111, 100] : List UInt8) then (needs_layer.j0 k a0 (a0.toList == ([109, 111, 100] : List UInt8))) else (if a0.toList = ([126] : List UInt8) then (needs_layer.j0 k a0 (a0.toList == ([126] : List UInt8))) else (if a0.toList = ([60] : List UInt8) then (needs_layer.j0 k a0 (a0.toList == ([60] : List UInt8))) else (if a0.toList = ([61, 60] : List UInt8) then (needs_layer.j0 k a0 (a0.toList == ([61, 60] : List UInt8))) else (if a0.toList = ([62] : List UInt8) then (needs_layer.j0 k a0 (a0.toList == ([62] : List UInt8))) else (if a0.toList = ([62, 61] : List UInt8) then (needs_layer.j0 k a0 (a0.toList == ([62, 61] : List UInt8))) else (if a0.toList = ([61, 61] : List UInt8) then (needs_layer.j0 k a0 (a0.toList == ([61, 61] : List UInt8))) else (if a0.toList = ([92, 61] : List UInt8) then (needs_layer.j0 k a0 (a0.toList == ([92, 61] : List UInt8))) else (if a0.toList = ([108, 97, 98, 101, 108] : List UInt8) then (needs_layer.j0 k a0 (a0.toList == ([108, 97, 98, 101, 108] : List UInt8))) else (if a0.toList = ([97, 114, 105, 116, 121] : List UInt8) then (needs_layer.j0 k a0 (a0.toList == ([97, 114, 105, 116, 121] : List UInt8))) else (if a0.toList = ([119, 105, 100, 116, 104] : List UInt8) then (needs_layer.j0 k a0 (a0.toList == ([119, 105, 100, 116, 104] : List UInt8))) else (if a0.toList = ([100, 111, 116] : List UInt8) then (needs_layer.j0 k a0 (a0.toList == ([100, 111, 116] : List UInt8))) else (if a0.toList = ([104, 97, 115] : List UInt8) then (needs_layer.j0 k a0 (a0.toList == ([104, 97, 115] : List UInt8))) else (if a0.toList = ([112, 97, 114, 116, 115] : List UInt8) then (needs_layer.j0 k a0 (a0.toList == ([112, 97, 114, 116, 115] : List UInt8))) else (if a0.toList = ([97, 100, 106, 111, 105, 110] : List UInt8) then (needs_layer.j0 k a0 (a0.toList == ([97, 100, 106, 111, 105, 110] : List UInt8))) else (if a0.toList = ([109, 97, 107, 101] : List UInt8) then (needs_layer.j0 k a0 (a0.toList == ([109, 97, 107, 101] : List UInt8))) else (if a0.toList = ([119, 97, 105, 116] : List UInt8) then (needs_layer.j0 k a0 (a0.toList == ([119, 97, 105, 116] : List UInt8))) else (if a0.toList = ([115, 104, 111, 119] : List UInt8) then (needs_layer.j0 k a0 (a0.toList == ([115, 104, 111, 119] : List UInt8))) else (if a0.toList = ([110, 111, 109, 97, 116, 99, 104] : List UInt8) then (needs_layer.j0 k a0 (a0.toList == ([110, 111, 109, 97, 116, 99, 104] : List UInt8))) else (if a0.toList = ([100, 111, 109, 97, 105, 110] : List UInt8) then (needs_layer.j0 k a0 (a0.toList == ([100, 111, 109, 97, 105, 110] : List UInt8))) else (needs_layer.j0 k a0 (a0.toList == ([112, 111, 115, 116] : List UInt8))))))))))))))))))))))))))
theorem needs_layer.mono_l : ∀ k, (∀ y0 y1, LeO (needs_layer.j0 k y0 y1) (needs_layer.j0 (k + 1) y0 y1)) ∧ (∀ y0 y1, LeO (needs_layer.j1 k y0 y1) (needs_layer.j1 (k + 1) y0 y1)) ∧ (∀ y0 y1, LeO (needs_layer.j2 k y0 y1) (needs_layer.j2 (k + 1) y0 y1)) ∧ (∀ y0 y1, LeO (needs_layer.j3 k y0 y1) (needs_layer.j3 (k + 1) y0 y1)) ∧ (∀ y0 y1, LeO (needs_layer.j4 k y0 y1) (needs_layer.j4 (k + 1) y0 y1)) ∧ (∀ y0 y1, LeO (needs_layer.j5 k y0 y1) (needs_layer.j5 (k + 1) y0 y1))
 | 0 => ⟨fun _ _ r h => by simp [needs_layer.j0] at h, fun _ _ r h => by simp [needs_layer.j1] at h, fun _ _ r h => by simp [needs_layer.j2] at h, fun _ _ r h => by simp [needs_layer.j3] at h, fun _ _ r h => by simp [needs_layer.j4] at h, fun _ _ r h => by simp [needs_layer.j5] at h⟩
 | k + 1 => by
  obtain ⟨ih0, ih1, ih2, ih3, ih4, ih5⟩ := needs_layer.mono_l k
  refine ⟨?_, ?_, ?_, ?_, ?_, ?_⟩
  ·intro y0 y1
   unfold needs_layer.j0
   repeat' first
   | (with_reducible exact ih0 _ _)
   | (with_reducible exact ih1 _ _)
   | (with_reducible exact ih2 _ _)
   | (with_reducible exact ih3 _ _)
   | (with_reducible exact ih4 _ _)
   | (with_reducible exact ih5 _ _)
   | (with_reducible exact LeO.refl _)
   | (with_reducible exact LeO.none _)
   | (with_reducible refine LeO.ite ?_ ?_)
   | (with_reducible refine LeO.bind ?_ (fun _ => ?_))
   | exact ih0 _ _
   | exact ih1 _ _
   | exact ih2 _ _
   | exact ih3 _ _
   | exact ih4 _ _
   | exact ih5 _ _
   | exact LeO.none _
   | refine LeO.ite ?_ ?_
   | refine LeO.bind ?_ (fun _ => ?_)
  ·intro y0 y1
   unfold needs_layer.j1
   repeat' first
   | (with_reducible exact ih0 _ _)
   | (with_reducible exact ih1 _ _)
   | (with_reducible exact ih2 _ _)
   | (with_reducible exact ih3 _ _)
   | (with_reducible exact ih4 _ _)
   | (with_reducible exact ih5 _ _)
   | (with_reducible exact LeO.refl _)
   | (with_reducible exact LeO.none _)
   | (with_reducible refine LeO.ite ?_ ?_)
   | (with_reducible refine LeO.bind ?_ (fun _ => ?_))
   | exact ih0 _ _
   | exact ih1 _ _
   | exact ih2 _ _
   | exact ih3 _ _
   | exact ih4 _ _
   | exact ih5 _ _
   | exact LeO.none _
   | refine LeO.ite ?_ ?_
   | refine LeO.bind ?_ (fun _ => ?_)
  ·intro y0 y1
   unfold needs_layer.j2
   repeat' first
   | (with_reducible exact ih0 _ _)
   | (with_reducible exact ih1 _ _)
   | (with_reducible exact ih2 _ _)
   | (with_reducible exact ih3 _ _)
   | (with_reducible exact ih4 _ _)
   | (with_reducible exact ih5 _ _)
   | (with_reducible exact LeO.refl _)
   | (with_reducible exact LeO.none _)
   | (with_reducible refine LeO.ite ?_ ?_)
   | (with_reducible refine LeO.bind ?_ (fun _ => ?_))
   | exact ih0 _ _
   | exact ih1 _ _
   | exact ih2 _ _
   | exact ih3 _ _
   | exact ih4 _ _
   | exact ih5 _ _
   | exact LeO.none _
   | refine LeO.ite ?_ ?_
   | refine LeO.bind ?_ (fun _ => ?_)
  ·intro y0 y1
   unfold needs_layer.j3
   repeat' first
   | (with_reducible exact ih0 _ _)
   | (with_reducible exact ih1 _ _)
   | (with_reducible exact ih2 _ _)
   | (with_reducible exact ih3 _ _)
   | (with_reducible exact ih4 _ _)
   | (with_reducible exact ih5 _ _)
   | (with_reducible exact LeO.refl _)
   | (with_reducible exact LeO.none _)
   | (with_reducible refine LeO.ite ?_ ?_)
   | (with_reducible refine LeO.bind ?_ (fun _ => ?_))
   | exact ih0 _ _
   | exact ih1 _ _
   | exact ih2 _ _
   | exact ih3 _ _
   | exact ih4 _ _
   | exact ih5 _ _
   | exact LeO.none _
   | refine LeO.ite ?_ ?_
   | refine LeO.bind ?_ (fun _ => ?_)
  ·intro y0 y1
   unfold needs_layer.j4
   repeat' first
   | (with_reducible exact ih0 _ _)
   | (with_reducible exact ih1 _ _)
   | (with_reducible exact ih2 _ _)
   | (with_reducible exact ih3 _ _)
   | (with_reducible exact ih4 _ _)
   | (with_reducible exact ih5 _ _)
   | (with_reducible exact LeO.refl _)
   | (with_reducible exact LeO.none _)
   | (with_reducible refine LeO.ite ?_ ?_)
   | (with_reducible refine LeO.bind ?_ (fun _ => ?_))
   | exact ih0 _ _
   | exact ih1 _ _
   | exact ih2 _ _
   | exact ih3 _ _
   | exact ih4 _ _
   | exact ih5 _ _
   | exact LeO.none _
   | refine LeO.ite ?_ ?_
   | refine LeO.bind ?_ (fun _ => ?_)
  ·intro y0 y1
   unfold needs_layer.j5
   repeat' first
   | (with_reducible exact ih0 _ _)
   | (with_reducible exact ih1 _ _)
   | (with_reducible exact ih2 _ _)
   | (with_reducible exact ih3 _ _)
   | (with_reducible exact ih4 _ _)
   | (with_reducible exact ih5 _ _)
   | (with_reducible exact LeO.refl _)
   | (with_reducible exact LeO.none _)
   | (with_reducible refine LeO.ite ?_ ?_)
   | (with_reducible refine LeO.bind ?_ (fun _ => ?_))
   | exact ih0 _ _
   | exact ih1 _ _
   | exact ih2 _ _
   | exact ih3 _ _
   | exact ih4 _ _
   | exact ih5 _ _
   | exact LeO.none _
   | refine LeO.ite ?_ ?_
   | refine LeO.bind ?_ (fun _ => ?_)
theorem needs_layer.mono : ∀ a0 k, LeO (needs_layer.f k a0) (needs_layer.f (k + 1) a0) := by
 intro a0 k
 obtain ⟨ih0, ih1, ih2, ih3, ih4, ih5⟩ := needs_layer.mono_l k
 unfold needs_layer.f
 repeat' first
   | (with_reducible exact ih0 _ _)
   | (with_reducible exact ih1 _ _)
   | (with_reducible exact ih2 _ _)
   | (with_reducible exact ih3 _ _)
   | (with_reducible exact ih4 _ _)
   | (with_reducible exact ih5 _ _)
   | (with_reducible exact LeO.refl _)
   | (with_reducible exact LeO.none _)
   | (with_reducible refine LeO.ite ?_ ?_)
   | (with_reducible refine LeO.bind ?_ (fun _ => ?_))
   | exact ih0 _ _
   | exact ih1 _ _
   | exact ih2 _ _
   | exact ih3 _ _
   | exact ih4 _ _
   | exact ih5 _ _
   | exact LeO.none _
   | refine LeO.ite ?_ ?_
   | refine LeO.bind ?_ (fun _ => ?_)
set_option maxHeartbeats 8000000 in
set_option maxRecDepth 100000 in
theorem needs_layer.calls (k : Nat) (a0 : ByteArray) (r : Int) (w : World) (h : needs_layer.f k a0 = some r) :
  Calls Try.prog 24 #[.string a0] w fun e w' => e = .returned (.int .i64 r) ∧ Drawn0 w w' := by
 have H : (if a0.toList = ([43] : List UInt8) then (needs_layer.j0 k a0 (a0.toList == ([43] : List UInt8))) else (if a0.toList = ([45] : List UInt8) then (needs_layer.j0 k a0 (a0.toList == ([45] : List UInt8))) else (if a0.toList = ([42] : List UInt8) then (needs_layer.j0 k a0 (a0.toList == ([42] : List UInt8))) else (if a0.toList = ([100, 105, 118] : List UInt8) then (needs_layer.j0 k a0 (a0.toList == ([100, 105, 118] : List UInt8))) else (if a0.toList = ([109, 111, 100] : List UInt8) then (needs_layer.j0 k a0 (a0.toList == ([109, 111, 100] : List UInt8))) else (if a0.toList = ([126] : List UInt8) then (needs_layer.j0 k a0 (a0.toList == ([126] : List UInt8))) else (if a0.toList = ([60] : List UInt8) then (needs_layer.j0 k a0 (a0.toList == ([60] : List UInt8))) else (if a0.toList = ([61, 60] : List UInt8) then (needs_layer.j0 k a0 (a0.toList == ([61, 60] : List UInt8))) else (if a0.toList = ([62] : List UInt8) then (needs_layer.j0 k a0 (a0.toList == ([62] : List UInt8))) else (if a0.toList = ([62, 61] : List UInt8) then (needs_layer.j0 k a0 (a0.toList == ([62, 61] : List UInt8))) else (if a0.toList = ([61, 61] : List UInt8) then (needs_layer.j0 k a0 (a0.toList == ([61, 61] : List UInt8))) else (if a0.toList = ([92, 61] : List UInt8) then (needs_layer.j0 k a0 (a0.toList == ([92, 61] : List UInt8))) else (if a0.toList = ([108, 97, 98, 101, 108] : List UInt8) then (needs_layer.j0 k a0 (a0.toList == ([108, 97, 98, 101, 108] : List UInt8))) else (if a0.toList = ([97, 114, 105, 116, 121] : List UInt8) then (needs_layer.j0 k a0 (a0.toList == ([97, 114, 105, 116, 121] : List UInt8))) else (if a0.toList = ([119, 105, 100, 116, 104] : List UInt8) then (needs_layer.j0 k a0 (a0.toList == ([119, 105, 100, 116, 104] : List UInt8))) else (if a0.toList = ([100, 111, 116] : List UInt8) then (needs_layer.j0 k a0 (a0.toList == ([100, 111, 116] : List UInt8))) else (if a0.toList = ([104, 97, 115] : List UInt8) then (needs_layer.j0 k a0 (a0.toList == ([104, 97, 115] : List UInt8))) else (if a0.toList = ([112, 97, 114, 116, 115] : List UInt8) then (needs_layer.j0 k a0 (a0.toList == ([112, 97, 114, 116, 115] : List UInt8))) else (if a0.toList = ([97, 100, 106, 111, 105, 110] : List UInt8) then (needs_layer.j0 k a0 (a0.toList == ([97, 100, 106, 111, 105, 110] : List UInt8))) else (if a0.toList = ([109, 97, 107, 101] : List UInt8) then (needs_layer.j0 k a0 (a0.toList == ([109, 97, 107, 101] : List UInt8))) else (if a0.toList = ([119, 97, 105, 116] : List UInt8) then (needs_layer.j0 k a0 (a0.toList == ([119, 97, 105, 116] : List UInt8))) else (if a0.toList = ([115, 104, 111, 119] : List UInt8) then (needs_layer.j0 k a0 (a0.toList == ([115, 104, 111, 119] : List UInt8))) else (if a0.toList = ([110, 111, 109, 97, 116, 99, 104] : List UInt8) then (needs_layer.j0 k a0 (a0.toList == ([110, 111, 109, 97, 116, 99, 104] : List UInt8))) else (if a0.toList = ([100, 111, 109, 97, 105, 110] : List UInt8) then (needs_layer.j0 k a0 (a0.toList == ([100, 111, 109, 97, 105, 110] : List UInt8))) else (needs_layer.j0 k a0 (a0.toList == ([112, 111, 115, 116] : List UInt8))))))))))))))))))))))))))) = some r := h
 clear h
 have HC2 := Aside0.mk H
 clear H
 go_enter Try.func24, Try.ntmps24
 go_upto_if 4 with (fail)
 go_cut [4] (fun v4 wc => ∃ (kq : Nat) (x4_1 : Bool), v4 = .bool x4_1 ∧ Aside0 (needs_layer.j0 kq a0 x4_1 = some r) ∧ Aside0 (kq ≤ k) ∧ Drawn0 w wc)
 case first =>
  have H := HC2.out
  clear HC2
  by_cases c3 : a0.toList = ([43] : List UInt8)
  ·rw [if_pos c3] at H
   have c3b0 : (a0.toList == ([43] : List UInt8)) = true := beq_iff_eq.mpr c3
   have c3b1 : (a0.toList != ([43] : List UInt8)) = false := bne_eq_false_iff_eq.mpr c3
   clear c3
   (first | rw [c3b0] | (simp only [i64_w, i32_w]; rw [c3b0]) | skip)
   have H' := Aside0.mk H
   clear H
   go_wp2
   go_meet
   case rel => exact ⟨_, ((a0.toList == ([43] : List UInt8))), (by first | rfl | (simp; done) | (simp [*]; done)), H', ⟨by first | omega | exact Nat.le_refl _⟩, by repeat (first | exact Drawn0.refl _ | apply Drawn0.step)⟩
  ·rw [if_neg c3] at H
   have c3b0 : (a0.toList == ([43] : List UInt8)) = false := beq_eq_false_iff_ne.mpr c3
   have c3b1 : (a0.toList != ([43] : List UInt8)) = true := bne_iff_ne.mpr c3
   (first | rw [c3b0] | (simp only [i64_w, i32_w]; rw [c3b0]) | skip)
   by_cases c4 : a0.toList = ([45] : List UInt8)
   ·rw [if_pos c4] at H
    have c4b0 : (a0.toList == ([45] : List UInt8)) = true := beq_iff_eq.mpr c4
    have c4b1 : (a0.toList != ([45] : List UInt8)) = false := bne_eq_false_iff_eq.mpr c4
    clear c4
    have H' := Aside0.mk H
    clear H
    go_wp2
    go_meet
    case rel => exact ⟨_, ((a0.toList == ([45] : List UInt8))), (by first | rfl | (simp; done) | (simp [*]; done)), H', ⟨by first | omega | exact Nat.le_refl _⟩, by repeat (first | exact Drawn0.refl _ | apply Drawn0.step)⟩
   ·rw [if_neg c4] at H
    have c4b0 : (a0.toList == ([45] : List UInt8)) = false := beq_eq_false_iff_ne.mpr c4
    have c4b1 : (a0.toList != ([45] : List UInt8)) = true := bne_iff_ne.mpr c4
    by_cases c5 : a0.toList = ([42] : List UInt8)
    ·rw [if_pos c5] at H
     have c5b0 : (a0.toList == ([42] : List UInt8)) = true := beq_iff_eq.mpr c5
     have c5b1 : (a0.toList != ([42] : List UInt8)) = false := bne_eq_false_iff_eq.mpr c5
     clear c5
     have H' := Aside0.mk H
     clear H
     go_wp2
     go_meet
     case rel => exact ⟨_, ((a0.toList == ([42] : List UInt8))), (by first | rfl | (simp; done) | (simp [*]; done)), H', ⟨by first | omega | exact Nat.le_refl _⟩, by repeat (first | exact Drawn0.refl _ | apply Drawn0.step)⟩
    ·rw [if_neg c5] at H
     have c5b0 : (a0.toList == ([42] : List UInt8)) = false := beq_eq_false_iff_ne.mpr c5
     have c5b1 : (a0.toList != ([42] : List UInt8)) = true := bne_iff_ne.mpr c5
     by_cases c6 : a0.toList = ([100, 105, 118] : List UInt8)
     ·rw [if_pos c6] at H
      have c6b0 : (a0.toList == ([100, 105, 118] : List UInt8)) = true := beq_iff_eq.mpr c6
      have c6b1 : (a0.toList != ([100, 105, 118] : List UInt8)) = false := bne_eq_false_iff_eq.mpr c6
      clear c6
      have H' := Aside0.mk H
      clear H
      go_wp2
      go_meet
      case rel => exact ⟨_, ((a0.toList == ([100, 105, 118] : List UInt8))), (by first | rfl | (simp; done) | (simp [*]; done)), H', ⟨by first | omega | exact Nat.le_refl _⟩, by repeat (first | exact Drawn0.refl _ | apply Drawn0.step)⟩
     ·rw [if_neg c6] at H
      have c6b0 : (a0.toList == ([100, 105, 118] : List UInt8)) = false := beq_eq_false_iff_ne.mpr c6
      have c6b1 : (a0.toList != ([100, 105, 118] : List UInt8)) = true := bne_iff_ne.mpr c6
      by_cases c7 : a0.toList = ([109, 111, 100] : List UInt8)
      ·rw [if_pos c7] at H
       have c7b0 : (a0.toList == ([109, 111, 100] : List UInt8)) = true := beq_iff_eq.mpr c7
       have c7b1 : (a0.toList != ([109, 111, 100] : List UInt8)) = false := bne_eq_false_iff_eq.mpr c7
       clear c7
       have H' := Aside0.mk H
       clear H
       go_wp2
       go_meet
       case rel => exact ⟨_, ((a0.toList == ([109, 111, 100] : List UInt8))), (by first | rfl | (simp; done) | (simp [*]; done)), H', ⟨by first | omega | exact Nat.le_refl _⟩, by repeat (first | exact Drawn0.refl _ | apply Drawn0.step)⟩
      ·rw [if_neg c7] at H
       have c7b0 : (a0.toList == ([109, 111, 100] : List UInt8)) = false := beq_eq_false_iff_ne.mpr c7
       have c7b1 : (a0.toList != ([109, 111, 100] : List UInt8)) = true := bne_iff_ne.mpr c7
       by_cases c8 : a0.toList = ([126] : List UInt8)
       ·rw [if_pos c8] at H
        have c8b0 : (a0.toList == ([126] : List UInt8)) = true := beq_iff_eq.mpr c8
        have c8b1 : (a0.toList != ([126] : List UInt8)) = false := bne_eq_false_iff_eq.mpr c8
        clear c8
        have H' := Aside0.mk H
        clear H
        go_wp2
        go_meet
        case rel => exact ⟨_, ((a0.toList == ([126] : List UInt8))), (by first | rfl | (simp; done) | (simp [*]; done)), H', ⟨by first | omega | exact Nat.le_refl _⟩, by repeat (first | exact Drawn0.refl _ | apply Drawn0.step)⟩
       ·rw [if_neg c8] at H
        have c8b0 : (a0.toList == ([126] : List UInt8)) = false := beq_eq_false_iff_ne.mpr c8
        have c8b1 : (a0.toList != ([126] : List UInt8)) = true := bne_iff_ne.mpr c8
        by_cases c9 : a0.toList = ([60] : List UInt8)
        ·rw [if_pos c9] at H
         have c9b0 : (a0.toList == ([60] : List UInt8)) = true := beq_iff_eq.mpr c9
         have c9b1 : (a0.toList != ([60] : List UInt8)) = false := bne_eq_false_iff_eq.mpr c9
         clear c9
         have H' := Aside0.mk H
         clear H
         go_wp2
         go_meet
         case rel => exact ⟨_, ((a0.toList == ([60] : List UInt8))), (by first | rfl | (simp; done) | (simp [*]; done)), H', ⟨by first | omega | exact Nat.le_refl _⟩, by repeat (first | exact Drawn0.refl _ | apply Drawn0.step)⟩
        ·rw [if_neg c9] at H
         have c9b0 : (a0.toList == ([60] : List UInt8)) = false := beq_eq_false_iff_ne.mpr c9
         have c9b1 : (a0.toList != ([60] : List UInt8)) = true := bne_iff_ne.mpr c9
         by_cases c10 : a0.toList = ([61, 60] : List UInt8)
         ·rw [if_pos c10] at H
          have c10b0 : (a0.toList == ([61, 60] : List UInt8)) = true := beq_iff_eq.mpr c10
          have c10b1 : (a0.toList != ([61, 60] : List UInt8)) = false := bne_eq_false_iff_eq.mpr c10
          clear c10
          have H' := Aside0.mk H
          clear H
          go_wp2
          go_meet
          case rel => exact ⟨_, ((a0.toList == ([61, 60] : List UInt8))), (by first | rfl | (simp; done) | (simp [*]; done)), H', ⟨by first | omega | exact Nat.le_refl _⟩, by repeat (first | exact Drawn0.refl _ | apply Drawn0.step)⟩
         ·rw [if_neg c10] at H
          have c10b0 : (a0.toList == ([61, 60] : List UInt8)) = false := beq_eq_false_iff_ne.mpr c10
          have c10b1 : (a0.toList != ([61, 60] : List UInt8)) = true := bne_iff_ne.mpr c10
          by_cases c11 : a0.toList = ([62] : List UInt8)
          ·rw [if_pos c11] at H
           have c11b0 : (a0.toList == ([62] : List UInt8)) = true := beq_iff_eq.mpr c11
           have c11b1 : (a0.toList != ([62] : List UInt8)) = false := bne_eq_false_iff_eq.mpr c11
           clear c11
           have H' := Aside0.mk H
           clear H
           go_wp2
           go_meet
           case rel => exact ⟨_, ((a0.toList == ([62] : List UInt8))), (by first | rfl | (simp; done) | (simp [*]; done)), H', ⟨by first | omega | exact Nat.le_refl _⟩, by repeat (first | exact Drawn0.refl _ | apply Drawn0.step)⟩
          ·rw [if_neg c11] at H
           have c11b0 : (a0.toList == ([62] : List UInt8)) = false := beq_eq_false_iff_ne.mpr c11
           have c11b1 : (a0.toList != ([62] : List UInt8)) = true := bne_iff_ne.mpr c11
           by_cases c12 : a0.toList = ([62, 61] : List UInt8)
           ·rw [if_pos c12] at H
            have c12b0 : (a0.toList == ([62, 61] : List UInt8)) = true := beq_iff_eq.mpr c12
            have c12b1 : (a0.toList != ([62, 61] : List UInt8)) = false := bne_eq_false_iff_eq.mpr c12
            clear c12
            have H' := Aside0.mk H
            clear H
            go_wp2
            go_meet
            case rel => exact ⟨_, ((a0.toList == ([62, 61] : List UInt8))), (by first | rfl | (simp; done) | (simp [*]; done)), H', ⟨by first | omega | exact Nat.le_refl _⟩, by repeat (first | exact Drawn0.refl _ | apply Drawn0.step)⟩
           ·rw [if_neg c12] at H
            have c12b0 : (a0.toList == ([62, 61] : List UInt8)) = false := beq_eq_false_iff_ne.mpr c12
            have c12b1 : (a0.toList != ([62, 61] : List UInt8)) = true := bne_iff_ne.mpr c12
            by_cases c13 : a0.toList = ([61, 61] : List UInt8)
            ·rw [if_pos c13] at H
             have c13b0 : (a0.toList == ([61, 61] : List UInt8)) = true := beq_iff_eq.mpr c13
             have c13b1 : (a0.toList != ([61, 61] : List UInt8)) = false := bne_eq_false_iff_eq.mpr c13
             clear c13
             have H' := Aside0.mk H
             clear H
             go_wp2
             go_meet
             case rel => exact ⟨_, ((a0.toList == ([61, 61] : List UInt8))), (by first | rfl | (simp; done) | (simp [*]; done)), H', ⟨by first | omega | exact Nat.le_refl _⟩, by repeat (first | exact Drawn0.refl _ | apply Drawn0.step)⟩
            ·rw [if_neg c13] at H
             have c13b0 : (a0.toList == ([61, 61] : List UInt8)) = false := beq_eq_false_iff_ne.mpr c13
             have c13b1 : (a0.toList != ([61, 61] : List UInt8)) = true := bne_iff_ne.mpr c13
             by_cases c14 : a0.toList = ([92, 61] : List UInt8)
             ·rw [if_pos c14] at H
              have c14b0 : (a0.toList == ([92, 61] : List UInt8)) = true := beq_iff_eq.mpr c14
              have c14b1 : (a0.toList != ([92, 61] : List UInt8)) = false := bne_eq_false_iff_eq.mpr c14
              clear c14
              have H' := Aside0.mk H
              clear H
              go_wp2
              go_meet
              case rel => exact ⟨_, ((a0.toList == ([92, 61] : List UInt8))), (by first | rfl | (simp; done) | (simp [*]; done)), H', ⟨by first | omega | exact Nat.le_refl _⟩, by repeat (first | exact Drawn0.refl _ | apply Drawn0.step)⟩
             ·rw [if_neg c14] at H
              have c14b0 : (a0.toList == ([92, 61] : List UInt8)) = false := beq_eq_false_iff_ne.mpr c14
              have c14b1 : (a0.toList != ([92, 61] : List UInt8)) = true := bne_iff_ne.mpr c14
              by_cases c15 : a0.toList = ([108, 97, 98, 101, 108] : List UInt8)
              ·rw [if_pos c15] at H
               have c15b0 : (a0.toList == ([108, 97, 98, 101, 108] : List UInt8)) = true := beq_iff_eq.mpr c15
               have c15b1 : (a0.toList != ([108, 97, 98, 101, 108] : List UInt8)) = false := bne_eq_false_iff_eq.mpr c15
               clear c15
               have H' := Aside0.mk H
               clear H
               go_wp2
               go_meet
               case rel => exact ⟨_, ((a0.toList == ([108, 97, 98, 101, 108] : List UInt8))), (by first | rfl | (simp; done) | (simp [*]; done)), H', ⟨by first | omega | exact Nat.le_refl _⟩, by repeat (first | exact Drawn0.refl _ | apply Drawn0.step)⟩
              ·rw [if_neg c15] at H
               have c15b0 : (a0.toList == ([108, 97, 98, 101, 108] : List UInt8)) = false := beq_eq_false_iff_ne.mpr c15
               have c15b1 : (a0.toList != ([108, 97, 98, 101, 108] : List UInt8)) = true := bne_iff_ne.mpr c15
               by_cases c16 : a0.toList = ([97, 114, 105, 116, 121] : List UInt8)
               ·rw [if_pos c16] at H
                have c16b0 : (a0.toList == ([97, 114, 105, 116, 121] : List UInt8)) = true := beq_iff_eq.mpr c16
                have c16b1 : (a0.toList != ([97, 114, 105, 116, 121] : List UInt8)) = false := bne_eq_false_iff_eq.mpr c16
                clear c16
                have H' := Aside0.mk H
                clear H
                go_wp2
                go_meet
                case rel => exact ⟨_, ((a0.toList == ([97, 114, 105, 116, 121] : List UInt8))), (by first | rfl | (simp; done) | (simp [*]; done)), H', ⟨by first | omega | exact Nat.le_refl _⟩, by repeat (first | exact Drawn0.refl _ | apply Drawn0.step)⟩
               ·rw [if_neg c16] at H
                have c16b0 : (a0.toList == ([97, 114, 105, 116, 121] : List UInt8)) = false := beq_eq_false_iff_ne.mpr c16
                have c16b1 : (a0.toList != ([97, 114, 105, 116, 121] : List UInt8)) = true := bne_iff_ne.mpr c16
                by_cases c17 : a0.toList = ([119, 105, 100, 116, 104] : List UInt8)
                ·rw [if_pos c17] at H
                 have c17b0 : (a0.toList == ([119, 105, 100, 116, 104] : List UInt8)) = true := beq_iff_eq.mpr c17
                 have c17b1 : (a0.toList != ([119, 105, 100, 116, 104] : List UInt8)) = false := bne_eq_false_iff_eq.mpr c17
                 clear c17
                 have H' := Aside0.mk H
                 clear H
                 go_wp2
                 go_meet
                 case rel => exact ⟨_, ((a0.toList == ([119, 105, 100, 116, 104] : List UInt8))), (by first | rfl | (simp; done) | (simp [*]; done)), H', ⟨by first | omega | exact Nat.le_refl _⟩, by repeat (first | exact Drawn0.refl _ | apply Drawn0.step)⟩
                ·rw [if_neg c17] at H
                 have c17b0 : (a0.toList == ([119, 105, 100, 116, 104] : List UInt8)) = false := beq_eq_false_iff_ne.mpr c17
                 have c17b1 : (a0.toList != ([119, 105, 100, 116, 104] : List UInt8)) = true := bne_iff_ne.mpr c17
                 by_cases c18 : a0.toList = ([100, 111, 116] : List UInt8)
                 ·rw [if_pos c18] at H
                  have c18b0 : (a0.toList == ([100, 111, 116] : List UInt8)) = true := beq_iff_eq.mpr c18
                  have c18b1 : (a0.toList != ([100, 111, 116] : List UInt8)) = false := bne_eq_false_iff_eq.mpr c18
                  clear c18
                  have H' := Aside0.mk H
                  clear H
                  go_wp2
                  go_meet
                  case rel => exact ⟨_, ((a0.toList == ([100, 111, 116] : List UInt8))), (by first | rfl | (simp; done) | (simp [*]; done)), H', ⟨by first | omega | exact Nat.le_refl _⟩, by repeat (first | exact Drawn0.refl _ | apply Drawn0.step)⟩
                 ·rw [if_neg c18] at H
                  have c18b0 : (a0.toList == ([100, 111, 116] : List UInt8)) = false := beq_eq_false_iff_ne.mpr c18
                  have c18b1 : (a0.toList != ([100, 111, 116] : List UInt8)) = true := bne_iff_ne.mpr c18
                  by_cases c19 : a0.toList = ([104, 97, 115] : List UInt8)
                  ·rw [if_pos c19] at H
                   have c19b0 : (a0.toList == ([104, 97, 115] : List UInt8)) = true := beq_iff_eq.mpr c19
                   have c19b1 : (a0.toList != ([104, 97, 115] : List UInt8)) = false := bne_eq_false_iff_eq.mpr c19
                   clear c19
                   have H' := Aside0.mk H
                   clear H
                   go_wp2
                   go_meet
                   case rel => exact ⟨_, ((a0.toList == ([104, 97, 115] : List UInt8))), (by first | rfl | (simp; done) | (simp [*]; done)), H', ⟨by first | omega | exact Nat.le_refl _⟩, by repeat (first | exact Drawn0.refl _ | apply Drawn0.step)⟩
                  ·rw [if_neg c19] at H
                   have c19b0 : (a0.toList == ([104, 97, 115] : List UInt8)) = false := beq_eq_false_iff_ne.mpr c19
                   have c19b1 : (a0.toList != ([104, 97, 115] : List UInt8)) = true := bne_iff_ne.mpr c19
                   by_cases c20 : a0.toList = ([112, 97, 114, 116, 115] : List UInt8)
                   ·rw [if_pos c20] at H
                    have c20b0 : (a0.toList == ([112, 97, 114, 116, 115] : List UInt8)) = true := beq_iff_eq.mpr c20
                    have c20b1 : (a0.toList != ([112, 97, 114, 116, 115] : List UInt8)) = false := bne_eq_false_iff_eq.mpr c20
                    clear c20
                    have H' := Aside0.mk H
                    clear H
                    go_wp2
                    go_meet
                    case rel => exact ⟨_, ((a0.toList == ([112, 97, 114, 116, 115] : List UInt8))), (by first | rfl | (simp; done) | (simp [*]; done)), H', ⟨by first | omega | exact Nat.le_refl _⟩, by repeat (first | exact Drawn0.refl _ | apply Drawn0.step)⟩
                   ·rw [if_neg c20] at H
                    have c20b0 : (a0.toList == ([112, 97, 114, 116, 115] : List UInt8)) = false := beq_eq_false_iff_ne.mpr c20
                    have c20b1 : (a0.toList != ([112, 97, 114, 116, 115] : List UInt8)) = true := bne_iff_ne.mpr c20
                    by_cases c21 : a0.toList = ([97, 100, 106, 111, 105, 110] : List UInt8)
                    ·rw [if_pos c21] at H
                     have c21b0 : (a0.toList == ([97, 100, 106, 111, 105, 110] : List UInt8)) = true := beq_iff_eq.mpr c21
                     have c21b1 : (a0.toList != ([97, 100, 106, 111, 105, 110] : List UInt8)) = false := bne_eq_false_iff_eq.mpr c21
                     clear c21
                     have H' := Aside0.mk H
                     clear H
                     go_wp2
                     go_meet
                     case rel => exact ⟨_, ((a0.toList == ([97, 100, 106, 111, 105, 110] : List UInt8))), (by first | rfl | (simp; done) | (simp [*]; done)), H', ⟨by first | omega | exact Nat.le_refl _⟩, by repeat (first | exact Drawn0.refl _ | apply Drawn0.step)⟩
                    ·rw [if_neg c21] at H
                     have c21b0 : (a0.toList == ([97, 100, 106, 111, 105, 110] : List UInt8)) = false := beq_eq_false_iff_ne.mpr c21
                     have c21b1 : (a0.toList != ([97, 100, 106, 111, 105, 110] : List UInt8)) = true := bne_iff_ne.mpr c21
                     by_cases c22 : a0.toList = ([109, 97, 107, 101] : List UInt8)
                     ·rw [if_pos c22] at H
                      have c22b0 : (a0.toList == ([109, 97, 107, 101] : List UInt8)) = true := beq_iff_eq.mpr c22
                      have c22b1 : (a0.toList != ([109, 97, 107, 101] : List UInt8)) = false := bne_eq_false_iff_eq.mpr c22
                      clear c22
                      have H' := Aside0.mk H
                      clear H
                      go_wp2
                      go_meet
                      case rel => exact ⟨_, ((a0.toList == ([109, 97, 107, 101] : List UInt8))), (by first | rfl | (simp; done) | (simp [*]; done)), H', ⟨by first | omega | exact Nat.le_refl _⟩, by repeat (first | exact Drawn0.refl _ | apply Drawn0.step)⟩
                     ·rw [if_neg c22] at H
                      have c22b0 : (a0.toList == ([109, 97, 107, 101] : List UInt8)) = false := beq_eq_false_iff_ne.mpr c22
                      have c22b1 : (a0.toList != ([109, 97, 107, 101] : List UInt8)) = true := bne_iff_ne.mpr c22
                      by_cases c23 : a0.toList = ([119, 97, 105, 116] : List UInt8)
                      ·rw [if_pos c23] at H
                       have c23b0 : (a0.toList == ([119, 97, 105, 116] : List UInt8)) = true := beq_iff_eq.mpr c23
                       have c23b1 : (a0.toList != ([119, 97, 105, 116] : List UInt8)) = false := bne_eq_false_iff_eq.mpr c23
                       clear c23
                       have H' := Aside0.mk H
                       clear H
                       go_wp2
                       go_meet
                       case rel => exact ⟨_, ((a0.toList == ([119, 97, 105, 116] : List UInt8))), (by first | rfl | (simp; done) | (simp [*]; done)), H', ⟨by first | omega | exact Nat.le_refl _⟩, by repeat (first | exact Drawn0.refl _ | apply Drawn0.step)⟩
                      ·rw [if_neg c23] at H
                       have c23b0 : (a0.toList == ([119, 97, 105, 116] : List UInt8)) = false := beq_eq_false_iff_ne.mpr c23
                       have c23b1 : (a0.toList != ([119, 97, 105, 116] : List UInt8)) = true := bne_iff_ne.mpr c23
                       by_cases c24 : a0.toList = ([115, 104, 111, 119] : List UInt8)
                       ·rw [if_pos c24] at H
                        have c24b0 : (a0.toList == ([115, 104, 111, 119] : List UInt8)) = true := beq_iff_eq.mpr c24
                        have c24b1 : (a0.toList != ([115, 104, 111, 119] : List UInt8)) = false := bne_eq_false_iff_eq.mpr c24
                        clear c24
                        have H' := Aside0.mk H
                        clear H
                        go_wp2
                        go_meet
                        case rel => exact ⟨_, ((a0.toList == ([115, 104, 111, 119] : List UInt8))), (by first | rfl | (simp; done) | (simp [*]; done)), H', ⟨by first | omega | exact Nat.le_refl _⟩, by repeat (first | exact Drawn0.refl _ | apply Drawn0.step)⟩
                       ·rw [if_neg c24] at H
                        have c24b0 : (a0.toList == ([115, 104, 111, 119] : List UInt8)) = false := beq_eq_false_iff_ne.mpr c24
                        have c24b1 : (a0.toList != ([115, 104, 111, 119] : List UInt8)) = true := bne_iff_ne.mpr c24
                        by_cases c25 : a0.toList = ([110, 111, 109, 97, 116, 99, 104] : List UInt8)
                        ·rw [if_pos c25] at H
                         have c25b0 : (a0.toList == ([110, 111, 109, 97, 116, 99, 104] : List UInt8)) = true := beq_iff_eq.mpr c25
                         have c25b1 : (a0.toList != ([110, 111, 109, 97, 116, 99, 104] : List UInt8)) = false := bne_eq_false_iff_eq.mpr c25
                         clear c25
                         have H' := Aside0.mk H
                         clear H
                         go_wp2
                         go_meet
                         case rel => exact ⟨_, ((a0.toList == ([110, 111, 109, 97, 116, 99, 104] : List UInt8))), (by first | rfl | (simp; done) | (simp [*]; done)), H', ⟨by first | omega | exact Nat.le_refl _⟩, by repeat (first | exact Drawn0.refl _ | apply Drawn0.step)⟩
                        ·rw [if_neg c25] at H
                         have c25b0 : (a0.toList == ([110, 111, 109, 97, 116, 99, 104] : List UInt8)) = false := beq_eq_false_iff_ne.mpr c25
                         have c25b1 : (a0.toList != ([110, 111, 109, 97, 116, 99, 104] : List UInt8)) = true := bne_iff_ne.mpr c25
                         by_cases c26 : a0.toList = ([100, 111, 109, 97, 105, 110] : List UInt8)
                         ·rw [if_pos c26] at H
                          have c26b0 : (a0.toList == ([100, 111, 109, 97, 105, 110] : List UInt8)) = true := beq_iff_eq.mpr c26
                          have c26b1 : (a0.toList != ([100, 111, 109, 97, 105, 110] : List UInt8)) = false := bne_eq_false_iff_eq.mpr c26
                          clear c26
                          have H' := Aside0.mk H
                          clear H
                          go_wp2
                          go_meet
                          case rel => exact ⟨_, ((a0.toList == ([100, 111, 109, 97, 105, 110] : List UInt8))), (by first | rfl | (simp; done) | (simp [*]; done)), H', ⟨by first | omega | exact Nat.le_refl _⟩, by repeat (first | exact Drawn0.refl _ | apply Drawn0.step)⟩
                         ·rw [if_neg c26] at H
                          have c26b0 : (a0.toList == ([100, 111, 109, 97, 105, 110] : List UInt8)) = false := beq_eq_false_iff_ne.mpr c26
                          have c26b1 : (a0.toList != ([100, 111, 109, 97, 105, 110] : List UInt8)) = true := bne_iff_ne.mpr c26
                          have H' := Aside0.mk H
                          clear H
                          go_wp2
                          go_meet
                          case rel => exact ⟨_, ((a0.toList == ([112, 111, 115, 116] : List UInt8))), (by first | rfl | (simp; done) | (simp [*]; done)), H', ⟨by first | omega | exact Nat.le_refl _⟩, by repeat (first | exact Drawn0.refl _ | apply Drawn0.step)⟩
 case rest =>
  clear HC2
  try clear c1
  try clear c2
  try clear p2
  try clear c3
  try clear c3b0
  try clear c3b1
  try clear c4
  try clear c4b0
  try clear c4b1
  try clear c5
  try clear c5b0
  try clear c5b1
  try clear c6
  try clear c6b0
  try clear c6b1
  try clear c7
  try clear c7b0
  try clear c7b1
  try clear c8
  try clear c8b0
  try clear c8b1
  try clear c9
  try clear c9b0
  try clear c9b1
  try clear c10
  try clear c10b0
  try clear c10b1
  try clear c11
  try clear c11b0
  try clear c11b1
  try clear c12
  try clear c12b0
  try clear c12b1
  try clear c13
  try clear c13b0
  try clear c13b1
  try clear c14
  try clear c14b0
  try clear c14b1
  try clear c15
  try clear c15b0
  try clear c15b1
  try clear c16
  try clear c16b0
  try clear c16b1
  try clear c17
  try clear c17b0
  try clear c17b1
  try clear c18
  try clear c18b0
  try clear c18b1
  try clear c19
  try clear c19b0
  try clear c19b1
  try clear c20
  try clear c20b0
  try clear c20b1
  try clear c21
  try clear c21b0
  try clear c21b1
  try clear c22
  try clear c22b0
  try clear c22b1
  try clear c23
  try clear c23b0
  try clear c23b1
  try clear c24
  try clear c24b0
  try clear c24b1
  try clear c25
  try clear c25b0
  try clear c25b1
  try clear c26
  try clear c26b0
  try clear c26b1
  obtain ⟨kq, x4_1, rfl, HA, HJ1, ⟨mc1, rfl⟩⟩ := hcut
  cases kq with
  | zero => exact absurd HA.out (by simp [needs_layer.j0])
  | succ kj1 =>
   have H := HA.out
   clear HA
   simp only [needs_layer.j0] at H
   by_cases c27 : x4_1 = true
   ·subst c27
    have H1 : (some 0) = some r := by rw [if_pos rfl] at H; exact H
    clear H
    have H := H1
    clear H1
    obtain rfl := Option.some.inj H
    go_wp2
    go_ret
    exact ⟨by first | rfl | (simp; done) | (simp [*]; done), by repeat (first | exact Drawn0.refl _ | apply Drawn0.step)⟩
   ·replace c27 := Bool.eq_false_iff.mpr c27
    subst c27
    have H1 : (if a0.toList = ([98, 121, 110, 101, 101, 100] : List UInt8) then (needs_layer.j1 kj1 a0 (a0.toList == ([98, 121, 110, 101, 101, 100] : List UInt8))) else (needs_layer.j1 kj1 a0 (a0.toList == ([110, 101, 101, 100] : List UInt8)))) = some r := by rw [if_neg (show ¬ (false = true) by decide)] at H; exact H
    clear H
    have H := H1
    clear H1
    have HC28 := Aside0.mk H
    clear H
    go_upto_if 30 with (fail)
    go_cut [30] (fun v30 wc => ∃ (kq : Nat) (x30_27 : Bool), v30 = .bool x30_27 ∧ Aside0 (needs_layer.j1 kq a0 x30_27 = some r) ∧ Aside0 (kq ≤ kj1) ∧ Drawn0 w wc)
    case first =>
     have H := HC28.out
     clear HC28
     by_cases c29 : a0.toList = ([98, 121, 110, 101, 101, 100] : List UInt8)
     ·rw [if_pos c29] at H
      have c29b0 : (a0.toList == ([98, 121, 110, 101, 101, 100] : List UInt8)) = true := beq_iff_eq.mpr c29
      have c29b1 : (a0.toList != ([98, 121, 110, 101, 101, 100] : List UInt8)) = false := bne_eq_false_iff_eq.mpr c29
      clear c29
      (first | rw [c29b0] | (simp only [i64_w, i32_w]; rw [c29b0]) | skip)
      have H' := Aside0.mk H
      clear H
      go_wp2
      go_meet
      case rel => exact ⟨_, ((a0.toList == ([98, 121, 110, 101, 101, 100] : List UInt8))), (by first | rfl | (simp; done) | (simp [*]; done)), H', ⟨by have := HJ1.out; first | omega | exact Nat.le_refl _⟩, by repeat (first | exact Drawn0.refl _ | apply Drawn0.step)⟩
     ·rw [if_neg c29] at H
      have c29b0 : (a0.toList == ([98, 121, 110, 101, 101, 100] : List UInt8)) = false := beq_eq_false_iff_ne.mpr c29
      have c29b1 : (a0.toList != ([98, 121, 110, 101, 101, 100] : List UInt8)) = true := bne_iff_ne.mpr c29
      (first | rw [c29b0] | (simp only [i64_w, i32_w]; rw [c29b0]) | skip)
      have H' := Aside0.mk H
      clear H
      go_wp2
      go_meet
      case rel => exact ⟨_, ((a0.toList == ([110, 101, 101, 100] : List UInt8))), (by first | rfl | (simp; done) | (simp [*]; done)), H', ⟨by have := HJ1.out; first | omega | exact Nat.le_refl _⟩, by repeat (first | exact Drawn0.refl _ | apply Drawn0.step)⟩
    case rest =>
     clear HC28
     try clear c1
     try clear c2
     try clear p2
     try clear c3
     try clear c3b0
     try clear c3b1
     try clear c4
     try clear c4b0
     try clear c4b1
     try clear c5
     try clear c5b0
     try clear c5b1
     try clear c6
     try clear c6b0
     try clear c6b1
     try clear c7
     try clear c7b0
     try clear c7b1
     try clear c8
     try clear c8b0
     try clear c8b1
     try clear c9
     try clear c9b0
     try clear c9b1
     try clear c10
     try clear c10b0
     try clear c10b1
     try clear c11
     try clear c11b0
     try clear c11b1
     try clear c12
     try clear c12b0
     try clear c12b1
     try clear c13
     try clear c13b0
     try clear c13b1
     try clear c14
     try clear c14b0
     try clear c14b1
     try clear c15
     try clear c15b0
     try clear c15b1
     try clear c16
     try clear c16b0
     try clear c16b1
     try clear c17
     try clear c17b0
     try clear c17b1
     try clear c18
     try clear c18b0
     try clear c18b1
     try clear c19
     try clear c19b0
     try clear c19b1
     try clear c20
     try clear c20b0
     try clear c20b1
     try clear c21
     try clear c21b0
     try clear c21b1
     try clear c22
     try clear c22b0
     try clear c22b1
     try clear c23
     try clear c23b0
     try clear c23b1
     try clear c24
     try clear c24b0
     try clear c24b1
     try clear c25
     try clear c25b0
     try clear c25b1
     try clear c26
     try clear c26b0
     try clear c26b1
     try clear c27
     try clear c29
     try clear c29b0
     try clear c29b1
     try clear p2
     obtain ⟨kq, x30_27, rfl, HA, HJ27, ⟨mc27, rfl⟩⟩ := hcut
     cases kq with
     | zero => exact absurd HA.out (by simp [needs_layer.j1])
     | succ kj27 =>
      have H := HA.out
      clear HA
      simp only [needs_layer.j1] at H
      by_cases c30 : x30_27 = true
      ·subst c30
       have H1 : (some 2) = some r := by rw [if_pos rfl] at H; exact H
       clear H
       have H := H1
       clear H1
       obtain rfl := Option.some.inj H
       go_wp2
       go_ret
       exact ⟨by first | rfl | (simp; done) | (simp [*]; done), by repeat (first | exact Drawn0.refl _ | apply Drawn0.step)⟩
      ·replace c30 := Bool.eq_false_iff.mpr c30
       subst c30
       have H1 : (if a0.toList = ([110, 101, 119, 110, 97, 109, 101] : List UInt8) then (needs_layer.j2 kj27 a0 (a0.toList == ([110, 101, 119, 110, 97, 109, 101] : List UInt8))) else (if a0.toList = ([99, 104, 117, 110, 107] : List UInt8) then (needs_layer.j2 kj27 a0 (a0.toList == ([99, 104, 117, 110, 107] : List UInt8))) else (needs_layer.j2 kj27 a0 (a0.toList == ([118, 105, 101, 119] : List UInt8))))) = some r := by rw [if_neg (show ¬ (false = true) by decide)] at H; exact H
       clear H
       have H := H1
       clear H1
       have HC31 := Aside0.mk H
       clear H
       go_upto_if 33 with (fail)
       go_cut [33] (fun v33 wc => ∃ (kq : Nat) (x33_30 : Bool), v33 = .bool x33_30 ∧ Aside0 (needs_layer.j2 kq a0 x33_30 = some r) ∧ Aside0 (kq ≤ kj27) ∧ Drawn0 w wc)
       case first =>
        have H := HC31.out
        clear HC31
        by_cases c32 : a0.toList = ([110, 101, 119, 110, 97, 109, 101] : List UInt8)
        ·rw [if_pos c32] at H
         have c32b0 : (a0.toList == ([110, 101, 119, 110, 97, 109, 101] : List UInt8)) = true := beq_iff_eq.mpr c32
         have c32b1 : (a0.toList != ([110, 101, 119, 110, 97, 109, 101] : List UInt8)) = false := bne_eq_false_iff_eq.mpr c32
         clear c32
         (first | rw [c32b0] | (simp only [i64_w, i32_w]; rw [c32b0]) | skip)
         have H' := Aside0.mk H
         clear H
         go_wp2
         go_meet
         case rel => exact ⟨_, ((a0.toList == ([110, 101, 119, 110, 97, 109, 101] : List UInt8))), (by first | rfl | (simp; done) | (simp [*]; done)), H', ⟨by have := HJ1.out; have := HJ27.out; first | omega | exact Nat.le_refl _⟩, by repeat (first | exact Drawn0.refl _ | apply Drawn0.step)⟩
        ·rw [if_neg c32] at H
         have c32b0 : (a0.toList == ([110, 101, 119, 110, 97, 109, 101] : List UInt8)) = false := beq_eq_false_iff_ne.mpr c32
         have c32b1 : (a0.toList != ([110, 101, 119, 110, 97, 109, 101] : List UInt8)) = true := bne_iff_ne.mpr c32
         (first | rw [c32b0] | (simp only [i64_w, i32_w]; rw [c32b0]) | skip)
         by_cases c33 : a0.toList = ([99, 104, 117, 110, 107] : List UInt8)
         ·rw [if_pos c33] at H
          have c33b0 : (a0.toList == ([99, 104, 117, 110, 107] : List UInt8)) = true := beq_iff_eq.mpr c33
          have c33b1 : (a0.toList != ([99, 104, 117, 110, 107] : List UInt8)) = false := bne_eq_false_iff_eq.mpr c33
          clear c33
          have H' := Aside0.mk H
          clear H
          go_wp2
          go_meet
          case rel => exact ⟨_, ((a0.toList == ([99, 104, 117, 110, 107] : List UInt8))), (by first | rfl | (simp; done) | (simp [*]; done)), H', ⟨by have := HJ1.out; have := HJ27.out; first | omega | exact Nat.le_refl _⟩, by repeat (first | exact Drawn0.refl _ | apply Drawn0.step)⟩
         ·rw [if_neg c33] at H
          have c33b0 : (a0.toList == ([99, 104, 117, 110, 107] : List UInt8)) = false := beq_eq_false_iff_ne.mpr c33
          have c33b1 : (a0.toList != ([99, 104, 117, 110, 107] : List UInt8)) = true := bne_iff_ne.mpr c33
          have H' := Aside0.mk H
          clear H
          go_wp2
          go_meet
          case rel => exact ⟨_, ((a0.toList == ([118, 105, 101, 119] : List UInt8))), (by first | rfl | (simp; done) | (simp [*]; done)), H', ⟨by have := HJ1.out; have := HJ27.out; first | omega | exact Nat.le_refl _⟩, by repeat (first | exact Drawn0.refl _ | apply Drawn0.step)⟩
       case rest =>
        clear HC31
        try clear c1
        try clear c2
        try clear p2
        try clear c3
        try clear c3b0
        try clear c3b1
        try clear c4
        try clear c4b0
        try clear c4b1
        try clear c5
        try clear c5b0
        try clear c5b1
        try clear c6
        try clear c6b0
        try clear c6b1
        try clear c7
        try clear c7b0
        try clear c7b1
        try clear c8
        try clear c8b0
        try clear c8b1
        try clear c9
        try clear c9b0
        try clear c9b1
        try clear c10
        try clear c10b0
        try clear c10b1
        try clear c11
        try clear c11b0
        try clear c11b1
        try clear c12
        try clear c12b0
        try clear c12b1
        try clear c13
        try clear c13b0
        try clear c13b1
        try clear c14
        try clear c14b0
        try clear c14b1
        try clear c15
        try clear c15b0
        try clear c15b1
        try clear c16
        try clear c16b0
        try clear c16b1
        try clear c17
        try clear c17b0
        try clear c17b1
        try clear c18
        try clear c18b0
        try clear c18b1
        try clear c19
        try clear c19b0
        try clear c19b1
        try clear c20
        try clear c20b0
        try clear c20b1
        try clear c21
        try clear c21b0
        try clear c21b1
        try clear c22
        try clear c22b0
        try clear c22b1
        try clear c23
        try clear c23b0
        try clear c23b1
        try clear c24
        try clear c24b0
        try clear c24b1
        try clear c25
        try clear c25b0
        try clear c25b1
        try clear c26
        try clear c26b0
        try clear c26b1
        try clear c27
        try clear c29
        try clear c29b0
        try clear c29b1
        try clear c30
        try clear c32
        try clear c32b0
        try clear c32b1
        try clear c33
        try clear c33b0
        try clear c33b1
        try clear p2
        obtain ⟨kq, x33_30, rfl, HA, HJ30, ⟨mc30, rfl⟩⟩ := hcut
        cases kq with
        | zero => exact absurd HA.out (by simp [needs_layer.j2])
        | succ kj30 =>
         have H := HA.out
         clear HA
         simp only [needs_layer.j2] at H
         by_cases c34 : x33_30 = true
         ·subst c34
          have H1 : (some 4) = some r := by rw [if_pos rfl] at H; exact H
          clear H
          have H := H1
          clear H1
          obtain rfl := Option.some.inj H
          go_wp2
          go_ret
          exact ⟨by first | rfl | (simp; done) | (simp [*]; done), by repeat (first | exact Drawn0.refl _ | apply Drawn0.step)⟩
         ·replace c34 := Bool.eq_false_iff.mpr c34
          subst c34
          have H1 : (if a0.toList = ([112, 111, 114, 116] : List UInt8) then (needs_layer.j3 kj30 a0 (a0.toList == ([112, 111, 114, 116] : List UInt8))) else (needs_layer.j3 kj30 a0 (a0.toList == ([115, 101, 110, 100] : List UInt8)))) = some r := by rw [if_neg (show ¬ (false = true) by decide)] at H; exact H
          clear H
          have H := H1
          clear H1
          have HC35 := Aside0.mk H
          clear H
          go_upto_if 37 with (fail)
          go_cut [37] (fun v37 wc => ∃ (kq : Nat) (x37_34 : Bool), v37 = .bool x37_34 ∧ Aside0 (needs_layer.j3 kq a0 x37_34 = some r) ∧ Aside0 (kq ≤ kj30) ∧ Drawn0 w wc)
          case first =>
           have H := HC35.out
           clear HC35
           by_cases c36 : a0.toList = ([112, 111, 114, 116] : List UInt8)
           ·rw [if_pos c36] at H
            have c36b0 : (a0.toList == ([112, 111, 114, 116] : List UInt8)) = true := beq_iff_eq.mpr c36
            have c36b1 : (a0.toList != ([112, 111, 114, 116] : List UInt8)) = false := bne_eq_false_iff_eq.mpr c36
            clear c36
            (first | rw [c36b0] | (simp only [i64_w, i32_w]; rw [c36b0]) | skip)
            have H' := Aside0.mk H
            clear H
            go_wp2
            go_meet
            case rel => exact ⟨_, ((a0.toList == ([112, 111, 114, 116] : List UInt8))), (by first | rfl | (simp; done) | (simp [*]; done)), H', ⟨by have := HJ1.out; have := HJ27.out; have := HJ30.out; first | omega | exact Nat.le_refl _⟩, by repeat (first | exact Drawn0.refl _ | apply Drawn0.step)⟩
           ·rw [if_neg c36] at H
            have c36b0 : (a0.toList == ([112, 111, 114, 116] : List UInt8)) = false := beq_eq_false_iff_ne.mpr c36
            have c36b1 : (a0.toList != ([112, 111, 114, 116] : List UInt8)) = true := bne_iff_ne.mpr c36
            (first | rw [c36b0] | (simp only [i64_w, i32_w]; rw [c36b0]) | skip)
            have H' := Aside0.mk H
            clear H
            go_wp2
            go_meet
            case rel => exact ⟨_, ((a0.toList == ([115, 101, 110, 100] : List UInt8))), (by first | rfl | (simp; done) | (simp [*]; done)), H', ⟨by have := HJ1.out; have := HJ27.out; have := HJ30.out; first | omega | exact Nat.le_refl _⟩, by repeat (first | exact Drawn0.refl _ | apply Drawn0.step)⟩
          case rest =>
           clear HC35
           try clear c1
           try clear c2
           try clear p2
           try clear c3
           try clear c3b0
           try clear c3b1
           try clear c4
           try clear c4b0
           try clear c4b1
           try clear c5
           try clear c5b0
           try clear c5b1
           try clear c6
           try clear c6b0
           try clear c6b1
           try clear c7
           try clear c7b0
           try clear c7b1
           try clear c8
           try clear c8b0
           try clear c8b1
           try clear c9
           try clear c9b0
           try clear c9b1
           try clear c10
           try clear c10b0
           try clear c10b1
           try clear c11
           try clear c11b0
           try clear c11b1
           try clear c12
           try clear c12b0
           try clear c12b1
           try clear c13
           try clear c13b0
           try clear c13b1
           try clear c14
           try clear c14b0
           try clear c14b1
           try clear c15
           try clear c15b0
           try clear c15b1
           try clear c16
           try clear c16b0
           try clear c16b1
           try clear c17
           try clear c17b0
           try clear c17b1
           try clear c18
           try clear c18b0
           try clear c18b1
           try clear c19
           try clear c19b0
           try clear c19b1
           try clear c20
           try clear c20b0
           try clear c20b1
           try clear c21
           try clear c21b0
           try clear c21b1
           try clear c22
           try clear c22b0
           try clear c22b1
           try clear c23
           try clear c23b0
           try clear c23b1
           try clear c24
           try clear c24b0
           try clear c24b1
           try clear c25
           try clear c25b0
           try clear c25b1
           try clear c26
           try clear c26b0
           try clear c26b1
           try clear c27
           try clear c29
           try clear c29b0
           try clear c29b1
           try clear c30
           try clear c32
           try clear c32b0
           try clear c32b1
           try clear c33
           try clear c33b0
           try clear c33b1
           try clear c34
           try clear c36
           try clear c36b0
           try clear c36b1
           try clear p2
           obtain ⟨kq, x37_34, rfl, HA, HJ34, ⟨mc34, rfl⟩⟩ := hcut
           cases kq with
           | zero => exact absurd HA.out (by simp [needs_layer.j3])
           | succ kj34 =>
            have H := HA.out
            clear HA
            simp only [needs_layer.j3] at H
            by_cases c37 : x37_34 = true
            ·subst c37
             have H1 : (some 5) = some r := by rw [if_pos rfl] at H; exact H
             clear H
             have H := H1
             clear H1
             obtain rfl := Option.some.inj H
             go_wp2
             go_ret
             exact ⟨by first | rfl | (simp; done) | (simp [*]; done), by repeat (first | exact Drawn0.refl _ | apply Drawn0.step)⟩
            ·replace c37 := Bool.eq_false_iff.mpr c37
             subst c37
             have H1 : (if a0.toList = ([100, 101, 116] : List UInt8) then (needs_layer.j4 kj34 a0 (a0.toList == ([100, 101, 116] : List UInt8))) else (if a0.toList = ([99, 101, 108, 108] : List UInt8) then (needs_layer.j4 kj34 a0 (a0.toList == ([99, 101, 108, 108] : List UInt8))) else (if a0.toList = ([103, 101, 116] : List UInt8) then (needs_layer.j4 kj34 a0 (a0.toList == ([103, 101, 116] : List UInt8))) else (if a0.toList = ([115, 101, 116] : List UInt8) then (needs_layer.j4 kj34 a0 (a0.toList == ([115, 101, 116] : List UInt8))) else (if a0.toList = ([115, 119, 97, 112] : List UInt8) then (needs_layer.j4 kj34 a0 (a0.toList == ([115, 119, 97, 112] : List UInt8))) else (if a0.toList = ([108, 111, 99, 107] : List UInt8) then (needs_layer.j4 kj34 a0 (a0.toList == ([108, 111, 99, 107] : List UInt8))) else (if a0.toList = ([116, 97, 107, 101] : List UInt8) then (needs_layer.j4 kj34 a0 (a0.toList == ([116, 97, 107, 101] : List UInt8))) else (if a0.toList = ([103, 105, 118, 101] : List UInt8) then (needs_layer.j4 kj34 a0 (a0.toList == ([103, 105, 118, 101] : List UInt8))) else (if a0.toList = ([100, 105, 99, 116] : List UInt8) then (needs_layer.j4 kj34 a0 (a0.toList == ([100, 105, 99, 116] : List UInt8))) else (if a0.toList = ([97, 114, 114, 97, 121] : List UInt8) then (needs_layer.j4 kj34 a0 (a0.toList == ([97, 114, 114, 97, 121] : List UInt8))) else (if a0.toList = ([112, 117, 116] : List UInt8) then (needs_layer.j4 kj34 a0 (a0.toList == ([112, 117, 116] : List UInt8))) else (if a0.toList = ([114, 101, 109, 111, 118, 101] : List UInt8) then (needs_layer.j4 kj34 a0 (a0.toList == ([114, 101, 109, 111, 118, 101] : List UInt8))) else (if a0.toList = ([107, 101, 121, 115] : List UInt8) then (needs_layer.j4 kj34 a0 (a0.toList == ([107, 101, 121, 115] : List UInt8))) else (if a0.toList = ([112, 114, 105, 111, 114, 105, 116, 121] : List UInt8) then (needs_layer.j4 kj34 a0 (a0.toList == ([112, 114, 105, 111, 114, 105, 116, 121] : List UInt8))) else (needs_layer.j4 kj34 a0 (a0.toList == ([115, 101, 108, 102] : List UInt8))))))))))))))))) = some r := by rw [if_neg (show ¬ (false = true) by decide)] at H; exact H
             clear H
             have H := H1
             clear H1
             have HC38 := Aside0.mk H
             clear H
             go_upto_if 40 with (fail)
             go_cut [40] (fun v40 wc => ∃ (kq : Nat) (x40_37 : Bool), v40 = .bool x40_37 ∧ Aside0 (needs_layer.j4 kq a0 x40_37 = some r) ∧ Aside0 (kq ≤ kj34) ∧ Drawn0 w wc)
             case first =>
              have H := HC38.out
              clear HC38
              by_cases c39 : a0.toList = ([100, 101, 116] : List UInt8)
              ·rw [if_pos c39] at H
               have c39b0 : (a0.toList == ([100, 101, 116] : List UInt8)) = true := beq_iff_eq.mpr c39
               have c39b1 : (a0.toList != ([100, 101, 116] : List UInt8)) = false := bne_eq_false_iff_eq.mpr c39
               clear c39
               (first | rw [c39b0] | (simp only [i64_w, i32_w]; rw [c39b0]) | skip)
               have H' := Aside0.mk H
               clear H
               go_wp2
               go_meet
               case rel => exact ⟨_, ((a0.toList == ([100, 101, 116] : List UInt8))), (by first | rfl | (simp; done) | (simp [*]; done)), H', ⟨by have := HJ1.out; have := HJ27.out; have := HJ30.out; have := HJ34.out; first | omega | exact Nat.le_refl _⟩, by repeat (first | exact Drawn0.refl _ | apply Drawn0.step)⟩
              ·rw [if_neg c39] at H
               have c39b0 : (a0.toList == ([100, 101, 116] : List UInt8)) = false := beq_eq_false_iff_ne.mpr c39
               have c39b1 : (a0.toList != ([100, 101, 116] : List UInt8)) = true := bne_iff_ne.mpr c39
               (first | rw [c39b0] | (simp only [i64_w, i32_w]; rw [c39b0]) | skip)
               by_cases c40 : a0.toList = ([99, 101, 108, 108] : List UInt8)
               ·rw [if_pos c40] at H
                have c40b0 : (a0.toList == ([99, 101, 108, 108] : List UInt8)) = true := beq_iff_eq.mpr c40
                have c40b1 : (a0.toList != ([99, 101, 108, 108] : List UInt8)) = false := bne_eq_false_iff_eq.mpr c40
                clear c40
                have H' := Aside0.mk H
                clear H
                go_wp2
                go_meet
                case rel => exact ⟨_, ((a0.toList == ([99, 101, 108, 108] : List UInt8))), (by first | rfl | (simp; done) | (simp [*]; done)), H', ⟨by have := HJ1.out; have := HJ27.out; have := HJ30.out; have := HJ34.out; first | omega | exact Nat.le_refl _⟩, by repeat (first | exact Drawn0.refl _ | apply Drawn0.step)⟩
               ·rw [if_neg c40] at H
                have c40b0 : (a0.toList == ([99, 101, 108, 108] : List UInt8)) = false := beq_eq_false_iff_ne.mpr c40
                have c40b1 : (a0.toList != ([99, 101, 108, 108] : List UInt8)) = true := bne_iff_ne.mpr c40
                by_cases c41 : a0.toList = ([103, 101, 116] : List UInt8)
                ·rw [if_pos c41] at H
                 have c41b0 : (a0.toList == ([103, 101, 116] : List UInt8)) = true := beq_iff_eq.mpr c41
                 have c41b1 : (a0.toList != ([103, 101, 116] : List UInt8)) = false := bne_eq_false_iff_eq.mpr c41
                 clear c41
                 have H' := Aside0.mk H
                 clear H
                 go_wp2
                 go_meet
                 case rel => exact ⟨_, ((a0.toList == ([103, 101, 116] : List UInt8))), (by first | rfl | (simp; done) | (simp [*]; done)), H', ⟨by have := HJ1.out; have := HJ27.out; have := HJ30.out; have := HJ34.out; first | omega | exact Nat.le_refl _⟩, by repeat (first | exact Drawn0.refl _ | apply Drawn0.step)⟩
                ·rw [if_neg c41] at H
                 have c41b0 : (a0.toList == ([103, 101, 116] : List UInt8)) = false := beq_eq_false_iff_ne.mpr c41
                 have c41b1 : (a0.toList != ([103, 101, 116] : List UInt8)) = true := bne_iff_ne.mpr c41
                 by_cases c42 : a0.toList = ([115, 101, 116] : List UInt8)
                 ·rw [if_pos c42] at H
                  have c42b0 : (a0.toList == ([115, 101, 116] : List UInt8)) = true := beq_iff_eq.mpr c42
                  have c42b1 : (a0.toList != ([115, 101, 116] : List UInt8)) = false := bne_eq_false_iff_eq.mpr c42
                  clear c42
                  have H' := Aside0.mk H
                  clear H
                  go_wp2
                  go_meet
                  case rel => exact ⟨_, ((a0.toList == ([115, 101, 116] : List UInt8))), (by first | rfl | (simp; done) | (simp [*]; done)), H', ⟨by have := HJ1.out; have := HJ27.out; have := HJ30.out; have := HJ34.out; first | omega | exact Nat.le_refl _⟩, by repeat (first | exact Drawn0.refl _ | apply Drawn0.step)⟩
                 ·rw [if_neg c42] at H
                  have c42b0 : (a0.toList == ([115, 101, 116] : List UInt8)) = false := beq_eq_false_iff_ne.mpr c42
                  have c42b1 : (a0.toList != ([115, 101, 116] : List UInt8)) = true := bne_iff_ne.mpr c42
                  by_cases c43 : a0.toList = ([115, 119, 97, 112] : List UInt8)
                  ·rw [if_pos c43] at H
                   have c43b0 : (a0.toList == ([115, 119, 97, 112] : List UInt8)) = true := beq_iff_eq.mpr c43
                   have c43b1 : (a0.toList != ([115, 119, 97, 112] : List UInt8)) = false := bne_eq_false_iff_eq.mpr c43
                   clear c43
                   have H' := Aside0.mk H
                   clear H
                   go_wp2
                   go_meet
                   case rel => exact ⟨_, ((a0.toList == ([115, 119, 97, 112] : List UInt8))), (by first | rfl | (simp; done) | (simp [*]; done)), H', ⟨by have := HJ1.out; have := HJ27.out; have := HJ30.out; have := HJ34.out; first | omega | exact Nat.le_refl _⟩, by repeat (first | exact Drawn0.refl _ | apply Drawn0.step)⟩
                  ·rw [if_neg c43] at H
                   have c43b0 : (a0.toList == ([115, 119, 97, 112] : List UInt8)) = false := beq_eq_false_iff_ne.mpr c43
                   have c43b1 : (a0.toList != ([115, 119, 97, 112] : List UInt8)) = true := bne_iff_ne.mpr c43
                   by_cases c44 : a0.toList = ([108, 111, 99, 107] : List UInt8)
                   ·rw [if_pos c44] at H
                    have c44b0 : (a0.toList == ([108, 111, 99, 107] : List UInt8)) = true := beq_iff_eq.mpr c44
                    have c44b1 : (a0.toList != ([108, 111, 99, 107] : List UInt8)) = false := bne_eq_false_iff_eq.mpr c44
                    clear c44
                    have H' := Aside0.mk H
                    clear H
                    go_wp2
                    go_meet
                    case rel => exact ⟨_, ((a0.toList == ([108, 111, 99, 107] : List UInt8))), (by first | rfl | (simp; done) | (simp [*]; done)), H', ⟨by have := HJ1.out; have := HJ27.out; have := HJ30.out; have := HJ34.out; first | omega | exact Nat.le_refl _⟩, by repeat (first | exact Drawn0.refl _ | apply Drawn0.step)⟩
                   ·rw [if_neg c44] at H
                    have c44b0 : (a0.toList == ([108, 111, 99, 107] : List UInt8)) = false := beq_eq_false_iff_ne.mpr c44
                    have c44b1 : (a0.toList != ([108, 111, 99, 107] : List UInt8)) = true := bne_iff_ne.mpr c44
                    by_cases c45 : a0.toList = ([116, 97, 107, 101] : List UInt8)
                    ·rw [if_pos c45] at H
                     have c45b0 : (a0.toList == ([116, 97, 107, 101] : List UInt8)) = true := beq_iff_eq.mpr c45
                     have c45b1 : (a0.toList != ([116, 97, 107, 101] : List UInt8)) = false := bne_eq_false_iff_eq.mpr c45
                     clear c45
                     have H' := Aside0.mk H
                     clear H
                     go_wp2
                     go_meet
                     case rel => exact ⟨_, ((a0.toList == ([116, 97, 107, 101] : List UInt8))), (by first | rfl | (simp; done) | (simp [*]; done)), H', ⟨by have := HJ1.out; have := HJ27.out; have := HJ30.out; have := HJ34.out; first | omega | exact Nat.le_refl _⟩, by repeat (first | exact Drawn0.refl _ | apply Drawn0.step)⟩
                    ·rw [if_neg c45] at H
                     have c45b0 : (a0.toList == ([116, 97, 107, 101] : List UInt8)) = false := beq_eq_false_iff_ne.mpr c45
                     have c45b1 : (a0.toList != ([116, 97, 107, 101] : List UInt8)) = true := bne_iff_ne.mpr c45
                     by_cases c46 : a0.toList = ([103, 105, 118, 101] : List UInt8)
                     ·rw [if_pos c46] at H
                      have c46b0 : (a0.toList == ([103, 105, 118, 101] : List UInt8)) = true := beq_iff_eq.mpr c46
                      have c46b1 : (a0.toList != ([103, 105, 118, 101] : List UInt8)) = false := bne_eq_false_iff_eq.mpr c46
                      clear c46
                      have H' := Aside0.mk H
                      clear H
                      go_wp2
                      go_meet
                      case rel => exact ⟨_, ((a0.toList == ([103, 105, 118, 101] : List UInt8))), (by first | rfl | (simp; done) | (simp [*]; done)), H', ⟨by have := HJ1.out; have := HJ27.out; have := HJ30.out; have := HJ34.out; first | omega | exact Nat.le_refl _⟩, by repeat (first | exact Drawn0.refl _ | apply Drawn0.step)⟩
                     ·rw [if_neg c46] at H
                      have c46b0 : (a0.toList == ([103, 105, 118, 101] : List UInt8)) = false := beq_eq_false_iff_ne.mpr c46
                      have c46b1 : (a0.toList != ([103, 105, 118, 101] : List UInt8)) = true := bne_iff_ne.mpr c46
                      by_cases c47 : a0.toList = ([100, 105, 99, 116] : List UInt8)
                      ·rw [if_pos c47] at H
                       have c47b0 : (a0.toList == ([100, 105, 99, 116] : List UInt8)) = true := beq_iff_eq.mpr c47
                       have c47b1 : (a0.toList != ([100, 105, 99, 116] : List UInt8)) = false := bne_eq_false_iff_eq.mpr c47
                       clear c47
                       have H' := Aside0.mk H
                       clear H
                       go_wp2
                       go_meet
                       case rel => exact ⟨_, ((a0.toList == ([100, 105, 99, 116] : List UInt8))), (by first | rfl | (simp; done) | (simp [*]; done)), H', ⟨by have := HJ1.out; have := HJ27.out; have := HJ30.out; have := HJ34.out; first | omega | exact Nat.le_refl _⟩, by repeat (first | exact Drawn0.refl _ | apply Drawn0.step)⟩
                      ·rw [if_neg c47] at H
                       have c47b0 : (a0.toList == ([100, 105, 99, 116] : List UInt8)) = false := beq_eq_false_iff_ne.mpr c47
                       have c47b1 : (a0.toList != ([100, 105, 99, 116] : List UInt8)) = true := bne_iff_ne.mpr c47
                       by_cases c48 : a0.toList = ([97, 114, 114, 97, 121] : List UInt8)
                       ·rw [if_pos c48] at H
                        have c48b0 : (a0.toList == ([97, 114, 114, 97, 121] : List UInt8)) = true := beq_iff_eq.mpr c48
                        have c48b1 : (a0.toList != ([97, 114, 114, 97, 121] : List UInt8)) = false := bne_eq_false_iff_eq.mpr c48
                        clear c48
                        have H' := Aside0.mk H
                        clear H
                        go_wp2
                        go_meet
                        case rel => exact ⟨_, ((a0.toList == ([97, 114, 114, 97, 121] : List UInt8))), (by first | rfl | (simp; done) | (simp [*]; done)), H', ⟨by have := HJ1.out; have := HJ27.out; have := HJ30.out; have := HJ34.out; first | omega | exact Nat.le_refl _⟩, by repeat (first | exact Drawn0.refl _ | apply Drawn0.step)⟩
                       ·rw [if_neg c48] at H
                        have c48b0 : (a0.toList == ([97, 114, 114, 97, 121] : List UInt8)) = false := beq_eq_false_iff_ne.mpr c48
                        have c48b1 : (a0.toList != ([97, 114, 114, 97, 121] : List UInt8)) = true := bne_iff_ne.mpr c48
                        by_cases c49 : a0.toList = ([112, 117, 116] : List UInt8)
                        ·rw [if_pos c49] at H
                         have c49b0 : (a0.toList == ([112, 117, 116] : List UInt8)) = true := beq_iff_eq.mpr c49
                         have c49b1 : (a0.toList != ([112, 117, 116] : List UInt8)) = false := bne_eq_false_iff_eq.mpr c49
                         clear c49
                         have H' := Aside0.mk H
                         clear H
                         go_wp2
                         go_meet
                         case rel => exact ⟨_, ((a0.toList == ([112, 117, 116] : List UInt8))), (by first | rfl | (simp; done) | (simp [*]; done)), H', ⟨by have := HJ1.out; have := HJ27.out; have := HJ30.out; have := HJ34.out; first | omega | exact Nat.le_refl _⟩, by repeat (first | exact Drawn0.refl _ | apply Drawn0.step)⟩
                        ·rw [if_neg c49] at H
                         have c49b0 : (a0.toList == ([112, 117, 116] : List UInt8)) = false := beq_eq_false_iff_ne.mpr c49
                         have c49b1 : (a0.toList != ([112, 117, 116] : List UInt8)) = true := bne_iff_ne.mpr c49
                         by_cases c50 : a0.toList = ([114, 101, 109, 111, 118, 101] : List UInt8)
                         ·rw [if_pos c50] at H
                          have c50b0 : (a0.toList == ([114, 101, 109, 111, 118, 101] : List UInt8)) = true := beq_iff_eq.mpr c50
                          have c50b1 : (a0.toList != ([114, 101, 109, 111, 118, 101] : List UInt8)) = false := bne_eq_false_iff_eq.mpr c50
                          clear c50
                          have H' := Aside0.mk H
                          clear H
                          go_wp2
                          go_meet
                          case rel => exact ⟨_, ((a0.toList == ([114, 101, 109, 111, 118, 101] : List UInt8))), (by first | rfl | (simp; done) | (simp [*]; done)), H', ⟨by have := HJ1.out; have := HJ27.out; have := HJ30.out; have := HJ34.out; first | omega | exact Nat.le_refl _⟩, by repeat (first | exact Drawn0.refl _ | apply Drawn0.step)⟩
                         ·rw [if_neg c50] at H
                          have c50b0 : (a0.toList == ([114, 101, 109, 111, 118, 101] : List UInt8)) = false := beq_eq_false_iff_ne.mpr c50
                          have c50b1 : (a0.toList != ([114, 101, 109, 111, 118, 101] : List UInt8)) = true := bne_iff_ne.mpr c50
                          by_cases c51 : a0.toList = ([107, 101, 121, 115] : List UInt8)
                          ·rw [if_pos c51] at H
                           have c51b0 : (a0.toList == ([107, 101, 121, 115] : List UInt8)) = true := beq_iff_eq.mpr c51
                           have c51b1 : (a0.toList != ([107, 101, 121, 115] : List UInt8)) = false := bne_eq_false_iff_eq.mpr c51
                           clear c51
                           have H' := Aside0.mk H
                           clear H
                           go_wp2
                           go_meet
                           case rel => exact ⟨_, ((a0.toList == ([107, 101, 121, 115] : List UInt8))), (by first | rfl | (simp; done) | (simp [*]; done)), H', ⟨by have := HJ1.out; have := HJ27.out; have := HJ30.out; have := HJ34.out; first | omega | exact Nat.le_refl _⟩, by repeat (first | exact Drawn0.refl _ | apply Drawn0.step)⟩
                          ·rw [if_neg c51] at H
                           have c51b0 : (a0.toList == ([107, 101, 121, 115] : List UInt8)) = false := beq_eq_false_iff_ne.mpr c51
                           have c51b1 : (a0.toList != ([107, 101, 121, 115] : List UInt8)) = true := bne_iff_ne.mpr c51
                           by_cases c52 : a0.toList = ([112, 114, 105, 111, 114, 105, 116, 121] : List UInt8)
                           ·rw [if_pos c52] at H
                            have c52b0 : (a0.toList == ([112, 114, 105, 111, 114, 105, 116, 121] : List UInt8)) = true := beq_iff_eq.mpr c52
                            have c52b1 : (a0.toList != ([112, 114, 105, 111, 114, 105, 116, 121] : List UInt8)) = false := bne_eq_false_iff_eq.mpr c52
                            clear c52
                            have H' := Aside0.mk H
                            clear H
                            go_wp2
                            go_meet
                            case rel => exact ⟨_, ((a0.toList == ([112, 114, 105, 111, 114, 105, 116, 121] : List UInt8))), (by first | rfl | (simp; done) | (simp [*]; done)), H', ⟨by have := HJ1.out; have := HJ27.out; have := HJ30.out; have := HJ34.out; first | omega | exact Nat.le_refl _⟩, by repeat (first | exact Drawn0.refl _ | apply Drawn0.step)⟩
                           ·rw [if_neg c52] at H
                            have c52b0 : (a0.toList == ([112, 114, 105, 111, 114, 105, 116, 121] : List UInt8)) = false := beq_eq_false_iff_ne.mpr c52
                            have c52b1 : (a0.toList != ([112, 114, 105, 111, 114, 105, 116, 121] : List UInt8)) = true := bne_iff_ne.mpr c52
                            have H' := Aside0.mk H
                            clear H
                            go_wp2
                            go_meet
                            case rel => exact ⟨_, ((a0.toList == ([115, 101, 108, 102] : List UInt8))), (by first | rfl | (simp; done) | (simp [*]; done)), H', ⟨by have := HJ1.out; have := HJ27.out; have := HJ30.out; have := HJ34.out; first | omega | exact Nat.le_refl _⟩, by repeat (first | exact Drawn0.refl _ | apply Drawn0.step)⟩
             case rest =>
              clear HC38
              try clear c1
              try clear c2
              try clear p2
              try clear c3
              try clear c3b0
              try clear c3b1
              try clear c4
              try clear c4b0
              try clear c4b1
              try clear c5
              try clear c5b0
              try clear c5b1
              try clear c6
              try clear c6b0
              try clear c6b1
              try clear c7
              try clear c7b0
              try clear c7b1
              try clear c8
              try clear c8b0
              try clear c8b1
              try clear c9
              try clear c9b0
              try clear c9b1
              try clear c10
              try clear c10b0
              try clear c10b1
              try clear c11
              try clear c11b0
              try clear c11b1
              try clear c12
              try clear c12b0
              try clear c12b1
              try clear c13
              try clear c13b0
              try clear c13b1
              try clear c14
              try clear c14b0
              try clear c14b1
              try clear c15
              try clear c15b0
              try clear c15b1
              try clear c16
              try clear c16b0
              try clear c16b1
              try clear c17
              try clear c17b0
              try clear c17b1
              try clear c18
              try clear c18b0
              try clear c18b1
              try clear c19
              try clear c19b0
              try clear c19b1
              try clear c20
              try clear c20b0
              try clear c20b1
              try clear c21
              try clear c21b0
              try clear c21b1
              try clear c22
              try clear c22b0
              try clear c22b1
              try clear c23
              try clear c23b0
              try clear c23b1
              try clear c24
              try clear c24b0
              try clear c24b1
              try clear c25
              try clear c25b0
              try clear c25b1
              try clear c26
              try clear c26b0
              try clear c26b1
              try clear c27
              try clear c29
              try clear c29b0
              try clear c29b1
              try clear c30
              try clear c32
              try clear c32b0
              try clear c32b1
              try clear c33
              try clear c33b0
              try clear c33b1
              try clear c34
              try clear c36
              try clear c36b0
              try clear c36b1
              try clear c37
              try clear c39
              try clear c39b0
              try clear c39b1
              try clear c40
              try clear c40b0
              try clear c40b1
              try clear c41
              try clear c41b0
              try clear c41b1
              try clear c42
              try clear c42b0
              try clear c42b1
              try clear c43
              try clear c43b0
              try clear c43b1
              try clear c44
              try clear c44b0
              try clear c44b1
              try clear c45
              try clear c45b0
              try clear c45b1
              try clear c46
              try clear c46b0
              try clear c46b1
              try clear c47
              try clear c47b0
              try clear c47b1
              try clear c48
              try clear c48b0
              try clear c48b1
              try clear c49
              try clear c49b0
              try clear c49b1
              try clear c50
              try clear c50b0
              try clear c50b1
              try clear c51
              try clear c51b0
              try clear c51b1
              try clear c52
              try clear c52b0
              try clear c52b1
              try clear p2
              obtain ⟨kq, x40_37, rfl, HA, HJ37, ⟨mc37, rfl⟩⟩ := hcut
              cases kq with
              | zero => exact absurd HA.out (by simp [needs_layer.j4])
              | succ kj37 =>
               have H := HA.out
               clear HA
               simp only [needs_layer.j4] at H
               by_cases c53 : x40_37 = true
               ·subst c53
                have H1 : (some 6) = some r := by rw [if_pos rfl] at H; exact H
                clear H
                have H := H1
                clear H1
                obtain rfl := Option.some.inj H
                go_wp2
                go_ret
                exact ⟨by first | rfl | (simp; done) | (simp [*]; done), by repeat (first | exact Drawn0.refl _ | apply Drawn0.step)⟩
               ·replace c53 := Bool.eq_false_iff.mpr c53
                subst c53
                have H1 : (if a0.toList = ([115, 112, 97, 99, 101] : List UInt8) then (needs_layer.j5 kj37 a0 (a0.toList == ([115, 112, 97, 99, 101] : List UInt8))) else (if a0.toList = ([97, 115, 107] : List UInt8) then (needs_layer.j5 kj37 a0 (a0.toList == ([97, 115, 107] : List UInt8))) else (if a0.toList = ([99, 111, 109, 109, 105, 116] : List UInt8) then (needs_layer.j5 kj37 a0 (a0.toList == ([99, 111, 109, 109, 105, 116] : List UInt8))) else (if a0.toList = ([99, 108, 111, 110, 101] : List UInt8) then (needs_layer.j5 kj37 a0 (a0.toList == ([99, 108, 111, 110, 101] : List UInt8))) else (if a0.toList = ([109, 101, 114, 103, 101] : List UInt8) then (needs_layer.j5 kj37 a0 (a0.toList == ([109, 101, 114, 103, 101] : List UInt8))) else (if a0.toList = ([105, 110, 106, 101, 99, 116] : List UInt8) then (needs_layer.j5 kj37 a0 (a0.toList == ([105, 110, 106, 101, 99, 116] : List UInt8))) else (needs_layer.j5 kj37 a0 (a0.toList == ([107, 105, 108, 108] : List UInt8))))))))) = some r := by rw [if_neg (show ¬ (false = true) by decide)] at H; exact H
                clear H
                have H := H1
                clear H1
                have HC54 := Aside0.mk H
                clear H
                go_upto_if 56 with (fail)
                go_cut [56] (fun v56 wc => ∃ (kq : Nat) (x56_53 : Bool), v56 = .bool x56_53 ∧ Aside0 (needs_layer.j5 kq a0 x56_53 = some r) ∧ Aside0 (kq ≤ kj37) ∧ Drawn0 w wc)
                case first =>
                 have H := HC54.out
                 clear HC54
                 by_cases c55 : a0.toList = ([115, 112, 97, 99, 101] : List UInt8)
                 ·rw [if_pos c55] at H
                  have c55b0 : (a0.toList == ([115, 112, 97, 99, 101] : List UInt8)) = true := beq_iff_eq.mpr c55
                  have c55b1 : (a0.toList != ([115, 112, 97, 99, 101] : List UInt8)) = false := bne_eq_false_iff_eq.mpr c55
                  clear c55
                  (first | rw [c55b0] | (simp only [i64_w, i32_w]; rw [c55b0]) | skip)
                  have H' := Aside0.mk H
                  clear H
                  go_wp2
                  go_meet
                  case rel => exact ⟨_, ((a0.toList == ([115, 112, 97, 99, 101] : List UInt8))), (by first | rfl | (simp; done) | (simp [*]; done)), H', ⟨by have := HJ1.out; have := HJ27.out; have := HJ30.out; have := HJ34.out; have := HJ37.out; first | omega | exact Nat.le_refl _⟩, by repeat (first | exact Drawn0.refl _ | apply Drawn0.step)⟩
                 ·rw [if_neg c55] at H
                  have c55b0 : (a0.toList == ([115, 112, 97, 99, 101] : List UInt8)) = false := beq_eq_false_iff_ne.mpr c55
                  have c55b1 : (a0.toList != ([115, 112, 97, 99, 101] : List UInt8)) = true := bne_iff_ne.mpr c55
                  (first | rw [c55b0] | (simp only [i64_w, i32_w]; rw [c55b0]) | skip)
                  by_cases c56 : a0.toList = ([97, 115, 107] : List UInt8)
                  ·rw [if_pos c56] at H
                   have c56b0 : (a0.toList == ([97, 115, 107] : List UInt8)) = true := beq_iff_eq.mpr c56
                   have c56b1 : (a0.toList != ([97, 115, 107] : List UInt8)) = false := bne_eq_false_iff_eq.mpr c56
                   clear c56
                   have H' := Aside0.mk H
                   clear H
                   go_wp2
                   go_meet
                   case rel => exact ⟨_, ((a0.toList == ([97, 115, 107] : List UInt8))), (by first | rfl | (simp; done) | (simp [*]; done)), H', ⟨by have := HJ1.out; have := HJ27.out; have := HJ30.out; have := HJ34.out; have := HJ37.out; first | omega | exact Nat.le_refl _⟩, by repeat (first | exact Drawn0.refl _ | apply Drawn0.step)⟩
                  ·rw [if_neg c56] at H
                   have c56b0 : (a0.toList == ([97, 115, 107] : List UInt8)) = false := beq_eq_false_iff_ne.mpr c56
                   have c56b1 : (a0.toList != ([97, 115, 107] : List UInt8)) = true := bne_iff_ne.mpr c56
                   by_cases c57 : a0.toList = ([99, 111, 109, 109, 105, 116] : List UInt8)
                   ·rw [if_pos c57] at H
                    have c57b0 : (a0.toList == ([99, 111, 109, 109, 105, 116] : List UInt8)) = true := beq_iff_eq.mpr c57
                    have c57b1 : (a0.toList != ([99, 111, 109, 109, 105, 116] : List UInt8)) = false := bne_eq_false_iff_eq.mpr c57
                    clear c57
                    have H' := Aside0.mk H
                    clear H
                    go_wp2
                    go_meet
                    case rel => exact ⟨_, ((a0.toList == ([99, 111, 109, 109, 105, 116] : List UInt8))), (by first | rfl | (simp; done) | (simp [*]; done)), H', ⟨by have := HJ1.out; have := HJ27.out; have := HJ30.out; have := HJ34.out; have := HJ37.out; first | omega | exact Nat.le_refl _⟩, by repeat (first | exact Drawn0.refl _ | apply Drawn0.step)⟩
                   ·rw [if_neg c57] at H
                    have c57b0 : (a0.toList == ([99, 111, 109, 109, 105, 116] : List UInt8)) = false := beq_eq_false_iff_ne.mpr c57
                    have c57b1 : (a0.toList != ([99, 111, 109, 109, 105, 116] : List UInt8)) = true := bne_iff_ne.mpr c57
                    by_cases c58 : a0.toList = ([99, 108, 111, 110, 101] : List UInt8)
                    ·rw [if_pos c58] at H
                     have c58b0 : (a0.toList == ([99, 108, 111, 110, 101] : List UInt8)) = true := beq_iff_eq.mpr c58
                     have c58b1 : (a0.toList != ([99, 108, 111, 110, 101] : List UInt8)) = false := bne_eq_false_iff_eq.mpr c58
                     clear c58
                     have H' := Aside0.mk H
                     clear H
                     go_wp2
                     go_meet
                     case rel => exact ⟨_, ((a0.toList == ([99, 108, 111, 110, 101] : List UInt8))), (by first | rfl | (simp; done) | (simp [*]; done)), H', ⟨by have := HJ1.out; have := HJ27.out; have := HJ30.out; have := HJ34.out; have := HJ37.out; first | omega | exact Nat.le_refl _⟩, by repeat (first | exact Drawn0.refl _ | apply Drawn0.step)⟩
                    ·rw [if_neg c58] at H
                     have c58b0 : (a0.toList == ([99, 108, 111, 110, 101] : List UInt8)) = false := beq_eq_false_iff_ne.mpr c58
                     have c58b1 : (a0.toList != ([99, 108, 111, 110, 101] : List UInt8)) = true := bne_iff_ne.mpr c58
                     by_cases c59 : a0.toList = ([109, 101, 114, 103, 101] : List UInt8)
                     ·rw [if_pos c59] at H
                      have c59b0 : (a0.toList == ([109, 101, 114, 103, 101] : List UInt8)) = true := beq_iff_eq.mpr c59
                      have c59b1 : (a0.toList != ([109, 101, 114, 103, 101] : List UInt8)) = false := bne_eq_false_iff_eq.mpr c59
                      clear c59
                      have H' := Aside0.mk H
                      clear H
                      go_wp2
                      go_meet
                      case rel => exact ⟨_, ((a0.toList == ([109, 101, 114, 103, 101] : List UInt8))), (by first | rfl | (simp; done) | (simp [*]; done)), H', ⟨by have := HJ1.out; have := HJ27.out; have := HJ30.out; have := HJ34.out; have := HJ37.out; first | omega | exact Nat.le_refl _⟩, by repeat (first | exact Drawn0.refl _ | apply Drawn0.step)⟩
                     ·rw [if_neg c59] at H
                      have c59b0 : (a0.toList == ([109, 101, 114, 103, 101] : List UInt8)) = false := beq_eq_false_iff_ne.mpr c59
                      have c59b1 : (a0.toList != ([109, 101, 114, 103, 101] : List UInt8)) = true := bne_iff_ne.mpr c59
                      by_cases c60 : a0.toList = ([105, 110, 106, 101, 99, 116] : List UInt8)
                      ·rw [if_pos c60] at H
                       have c60b0 : (a0.toList == ([105, 110, 106, 101, 99, 116] : List UInt8)) = true := beq_iff_eq.mpr c60
                       have c60b1 : (a0.toList != ([105, 110, 106, 101, 99, 116] : List UInt8)) = false := bne_eq_false_iff_eq.mpr c60
                       clear c60
                       have H' := Aside0.mk H
                       clear H
                       go_wp2
                       go_meet
                       case rel => exact ⟨_, ((a0.toList == ([105, 110, 106, 101, 99, 116] : List UInt8))), (by first | rfl | (simp; done) | (simp [*]; done)), H', ⟨by have := HJ1.out; have := HJ27.out; have := HJ30.out; have := HJ34.out; have := HJ37.out; first | omega | exact Nat.le_refl _⟩, by repeat (first | exact Drawn0.refl _ | apply Drawn0.step)⟩
                      ·rw [if_neg c60] at H
                       have c60b0 : (a0.toList == ([105, 110, 106, 101, 99, 116] : List UInt8)) = false := beq_eq_false_iff_ne.mpr c60
                       have c60b1 : (a0.toList != ([105, 110, 106, 101, 99, 116] : List UInt8)) = true := bne_iff_ne.mpr c60
                       have H' := Aside0.mk H
                       clear H
                       go_wp2
                       go_meet
                       case rel => exact ⟨_, ((a0.toList == ([107, 105, 108, 108] : List UInt8))), (by first | rfl | (simp; done) | (simp [*]; done)), H', ⟨by have := HJ1.out; have := HJ27.out; have := HJ30.out; have := HJ34.out; have := HJ37.out; first | omega | exact Nat.le_refl _⟩, by repeat (first | exact Drawn0.refl _ | apply Drawn0.step)⟩
                case rest =>
                 clear HC54
                 try clear c1
                 try clear c2
                 try clear p2
                 try clear c3
                 try clear c3b0
                 try clear c3b1
                 try clear c4
                 try clear c4b0
                 try clear c4b1
                 try clear c5
                 try clear c5b0
                 try clear c5b1
                 try clear c6
                 try clear c6b0
                 try clear c6b1
                 try clear c7
                 try clear c7b0
                 try clear c7b1
                 try clear c8
                 try clear c8b0
                 try clear c8b1
                 try clear c9
                 try clear c9b0
                 try clear c9b1
                 try clear c10
                 try clear c10b0
                 try clear c10b1
                 try clear c11
                 try clear c11b0
                 try clear c11b1
                 try clear c12
                 try clear c12b0
                 try clear c12b1
                 try clear c13
                 try clear c13b0
                 try clear c13b1
                 try clear c14
                 try clear c14b0
                 try clear c14b1
                 try clear c15
                 try clear c15b0
                 try clear c15b1
                 try clear c16
                 try clear c16b0
                 try clear c16b1
                 try clear c17
                 try clear c17b0
                 try clear c17b1
                 try clear c18
                 try clear c18b0
                 try clear c18b1
                 try clear c19
                 try clear c19b0
                 try clear c19b1
                 try clear c20
                 try clear c20b0
                 try clear c20b1
                 try clear c21
                 try clear c21b0
                 try clear c21b1
                 try clear c22
                 try clear c22b0
                 try clear c22b1
                 try clear c23
                 try clear c23b0
                 try clear c23b1
                 try clear c24
                 try clear c24b0
                 try clear c24b1
                 try clear c25
                 try clear c25b0
                 try clear c25b1
                 try clear c26
                 try clear c26b0
                 try clear c26b1
                 try clear c27
                 try clear c29
                 try clear c29b0
                 try clear c29b1
                 try clear c30
                 try clear c32
                 try clear c32b0
                 try clear c32b1
                 try clear c33
                 try clear c33b0
                 try clear c33b1
                 try clear c34
                 try clear c36
                 try clear c36b0
                 try clear c36b1
                 try clear c37
                 try clear c39
                 try clear c39b0
                 try clear c39b1
                 try clear c40
                 try clear c40b0
                 try clear c40b1
                 try clear c41
                 try clear c41b0
                 try clear c41b1
                 try clear c42
                 try clear c42b0
                 try clear c42b1
                 try clear c43
                 try clear c43b0
                 try clear c43b1
                 try clear c44
                 try clear c44b0
                 try clear c44b1
                 try clear c45
                 try clear c45b0
                 try clear c45b1
                 try clear c46
                 try clear c46b0
                 try clear c46b1
                 try clear c47
                 try clear c47b0
                 try clear c47b1
                 try clear c48
                 try clear c48b0
                 try clear c48b1
                 try clear c49
                 try clear c49b0
                 try clear c49b1
                 try clear c50
                 try clear c50b0
                 try clear c50b1
                 try clear c51
                 try clear c51b0
                 try clear c51b1
                 try clear c52
                 try clear c52b0
                 try clear c52b1
                 try clear c53
                 try clear c55
                 try clear c55b0
                 try clear c55b1
                 try clear c56
                 try clear c56b0
                 try clear c56b1
                 try clear c57
                 try clear c57b0
                 try clear c57b1
                 try clear c58
                 try clear c58b0
                 try clear c58b1
                 try clear c59
                 try clear c59b0
                 try clear c59b1
                 try clear c60
                 try clear c60b0
                 try clear c60b1
                 try clear p2
                 obtain ⟨kq, x56_53, rfl, HA, HJ53, ⟨mc53, rfl⟩⟩ := hcut
                 cases kq with
                 | zero => exact absurd HA.out (by simp [needs_layer.j5])
                 | succ kj53 =>
                  have H := HA.out
                  clear HA
                  simp only [needs_layer.j5] at H
                  by_cases c61 : x56_53 = true
                  ·subst c61
                   have H1 : (some 7) = some r := by rw [if_pos rfl] at H; exact H
                   clear H
                   have H := H1
                   clear H1
                   obtain rfl := Option.some.inj H
                   go_wp2
                   go_ret
                   exact ⟨by first | rfl | (simp; done) | (simp [*]; done), by repeat (first | exact Drawn0.refl _ | apply Drawn0.step)⟩
                  ·replace c61 := Bool.eq_false_iff.mpr c61
                   subst c61
                   have H1 : (if a0.toList = ([102, 97, 105, 108] : List UInt8) then (some 8) else (some (-1))) = some r := by rw [if_neg (show ¬ (false = true) by decide)] at H; exact H
                   clear H
                   have H := H1
                   clear H1
                   by_cases c62 : a0.toList = ([102, 97, 105, 108] : List UInt8)
                   ·rw [if_pos c62] at H
                    have c62b0 : (a0.toList == ([102, 97, 105, 108] : List UInt8)) = true := beq_iff_eq.mpr c62
                    have c62b1 : (a0.toList != ([102, 97, 105, 108] : List UInt8)) = false := bne_eq_false_iff_eq.mpr c62
                    clear c62
                    obtain rfl := Option.some.inj H
                    go_wp2
                    go_ret
                    exact ⟨by first | rfl | (simp; done) | (simp [*]; done), by repeat (first | exact Drawn0.refl _ | apply Drawn0.step)⟩
                   ·rw [if_neg c62] at H
                    have c62b0 : (a0.toList == ([102, 97, 105, 108] : List UInt8)) = false := beq_eq_false_iff_ne.mpr c62
                    have c62b1 : (a0.toList != ([102, 97, 105, 108] : List UInt8)) = true := bne_iff_ne.mpr c62
                    obtain rfl := Option.some.inj H
                    go_wp2
                    go_ret
                    exact ⟨by first | rfl | (simp; done) | (simp [*]; done), by repeat (first | exact Drawn0.refl _ | apply Drawn0.step)⟩

end Go.Proofs.Ytelmcnngocklfaa.Q
