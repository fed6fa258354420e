/- The law FnExactSentenceCuts: at every input the call answers true (this text: contracts on its way, by a program of this session's; no condition of ours). -/
import Derived.Test.YtiabgmddnddeiaaDoorQFnExactSentenceCutsx0
import Derived.Test.YtiabgmddnddeiaaDoorQFnExactSentenceCutsx1
import Derived.Test.YtiabgmddnddeiaaDoorQFnExactSentenceCutsx3
import Derived.Test.YtiabgmddnddeiaaDoorQFnExactSentenceCutsx4
namespace Go.Proofs.YtiabgmddnddeiaaDoor.QFnExactSentenceCuts
open Go.RowKit Go.Proofs.YtiabgmddnddeiaaDoorW.PrintWords Go.Proofs.YtiabgmddnddeiaaDoorW.PrintLast Go.Proofs.YtiabgmddnddeiaaDoorW.PrintMore
attribute [local go_sem] max2_int min2_int max_two min_two max_three min_three max_four min_four   -- for this text's walks alone
set_option linter.unusedVariables false
set_option linter.unusedSimpArgs false

/-! ### spec_l08Closes: function 111 -/
mutual
def spec_l08Closes.j1 : Nat → List Int → Int → Bool → Option (Int × Bool)
 | 0, _, _, _ => none
 | k + 1, x0, x6, x7 => spec_l08Closes.l1 k x0 x6 x7
def spec_l08Closes.j3 : Nat → List Int → Int → Bool → Option (Int × Bool)
 | 0, _, _, _ => none
 | k + 1, x0, x6, x7 => spec_l08Closes.l2 k x0 x6 x7 x6
def spec_l08Closes.j5 : Nat → List Int → Int → Bool → Int → Option (Int × Bool)
 | 0, _, _, _, _ => none
 | k + 1, x0, x6, x7, x8 => spec_l08Closes.l3 k x0 x6 x7 x8 x6
def spec_l08Closes.j7 : Nat → List Int → Int → Bool → Int → Int → Option (Int × Bool)
 | 0, _, _, _, _, _ => none
 | k + 1, x0, x6, x7, x8, x9 => if x7 = true then (spec_l08Closes.j8 k x0 x6 x8 x9 (decide (x9 < (x0.length : Int)))) else (spec_l08Closes.j8 k x0 x6 x8 x9 false)
def spec_l08Closes.j8 : Nat → List Int → Int → Int → Int → Bool → Option (Int × Bool)
 | 0, _, _, _, _, _ => none
 | k + 1, x0, x6, x8, x9, x82 => if x82 = true then (if 0 ≤ x9 then (if x9 < (x0.length : Int) then ((spec_l01Cat.f (rd x0 x9)).bind fun t162 => (if t162 = 5 then (some (x6,false)) else (if x6 = x8 then ((spec_l06Cased.f (rd x0 x9)).bind fun t164 => (if t164 = true then (some (x6,false)) else (if t162 = 7 then (some (x6,false)) else (if t162 = 8 then (some (x6,false)) else (some (x6,true)))))) else (some (x6,true))))) else (none)) else (none)) else (some (x6,true))
def spec_l08Closes.l3 : Nat → List Int → Int → Bool → Int → Int → Option (Int × Bool)
 | 0, _, _, _, _, _ => none
 | k + 1, x0, x6, x7, x8, x9 => if x9 < (x0.length : Int) then (if 0 ≤ x9 then ((spec_l01Cat.f (rd x0 x9)).bind fun t160 => (if t160 = 3 then (spec_l08Closes.l3 k x0 x6 x7 x8 (wrap64 (x9 + 1))) else (spec_l08Closes.j7 k x0 x6 x7 x8 x9))) else (none)) else (spec_l08Closes.j7 k x0 x6 x7 x8 x9)
def spec_l08Closes.l2 : Nat → List Int → Int → Bool → Int → Option (Int × Bool)
 | 0, _, _, _, _ => none
 | k + 1, x0, x6, x7, x8 => if x6 < (x0.length : Int) then (if 0 ≤ x6 then ((spec_l01Cat.f (rd x0 x6)).bind fun t158 => (if t158 = 2 then (spec_l08Closes.l2 k x0 (wrap64 (x6 + 1)) x7 x8) else (spec_l08Closes.j5 k x0 x6 x7 x8))) else (none)) else (spec_l08Closes.j5 k x0 x6 x7 x8)
def spec_l08Closes.l1 : Nat → List Int → Int → Bool → Option (Int × Bool)
 | 0, _, _, _ => none
 | k + 1, x0, x6, x7 => if x6 < (x0.length : Int) then (if 0 ≤ x6 then ((W_spec_l08In.f (rd x0 x6) (⟨#[41, 93, 125, 34, 39]⟩ : ByteArray)).bind fun t156 => (if t156 = true then (spec_l08Closes.l1 k x0 (wrap64 (x6 + 1)) x7) else (spec_l08Closes.j3 k x0 x6 x7))) else (none)) else (spec_l08Closes.j3 k x0 x6 x7)
def spec_l08Closes.l0 : Nat → List Int → Int → Bool → Option (Int × Bool)
 | 0, _, _, _ => none
 | k + 1, x0, x6, x7 => if x6 < (x0.length : Int) then (if 0 ≤ x6 then ((W_spec_l08In.f (rd x0 x6) (⟨#[46, 33, 63]⟩ : ByteArray)).bind fun t153 => (if t153 = true then (if x7 = true then (spec_l08Closes.l0 k x0 (wrap64 (x6 + 1)) ((rd x0 x6) == 46)) else (spec_l08Closes.l0 k x0 (wrap64 (x6 + 1)) false)) else (spec_l08Closes.j1 k x0 x6 x7))) else (none)) else (spec_l08Closes.j1 k x0 x6 x7)
end
def spec_l08Closes.f (k : Nat) (l0 : List Int) (a1 : Int) : Option (Int × Bool) := spec_l08Closes.l0 k l0 a1 true
theorem spec_l08Closes.mono_l : ∀ k, (∀ y0 y1 y2, LeO (spec_l08Closes.j1 k y0 y1 y2) (spec_l08Closes.j1 (k + 1) y0 y1 y2)) ∧ (∀ y0 y1 y2, LeO (spec_l08Closes.j3 k y0 y1 y2) (spec_l08Closes.j3 (k + 1) y0 y1 y2)) ∧ (∀ y0 y1 y2 y3, LeO (spec_l08Closes.j5 k y0 y1 y2 y3) (spec_l08Closes.j5 (k + 1) y0 y1 y2 y3)) ∧ (∀ y0 y1 y2 y3 y4, LeO (spec_l08Closes.j7 k y0 y1 y2 y3 y4) (spec_l08Closes.j7 (k + 1) y0 y1 y2 y3 y4)) ∧ (∀ y0 y1 y2 y3 y4, LeO (spec_l08Closes.j8 k y0 y1 y2 y3 y4) (spec_l08Closes.j8 (k + 1) y0 y1 y2 y3 y4)) ∧ (∀ y0 y1 y2 y3 y4, LeO (spec_l08Closes.l3 k y0 y1 y2 y3 y4) (spec_l08Closes.l3 (k + 1) y0 y1 y2 y3 y4)) ∧ (∀ y0 y1 y2 y3, LeO (spec_l08Closes.l2 k y0 y1 y2 y3) (spec_l08Closes.l2 (k + 1) y0 y1 y2 y3)) ∧ (∀ y0 y1 y2, LeO (spec_l08Closes.l1 k y0 y1 y2) (spec_l08Closes.l1 (k + 1) y0 y1 y2)) ∧ (∀ y0 y1 y2, LeO (spec_l08Closes.l0 k y0 y1 y2) (spec_l08Closes.l0 (k + 1) y0 y1 y2))
 | 0 => ⟨fun _ _ _ r h => by simp [spec_l08Closes.j1] at h, fun _ _ _ r h => by simp [spec_l08Closes.j3] at h, fun _ _ _ _ r h => by simp [spec_l08Closes.j5] at h, fun _ _ _ _ _ r h => by simp [spec_l08Closes.j7] at h, fun _ _ _ _ _ r h => by simp [spec_l08Closes.j8] at h, fun _ _ _ _ _ r h => by simp [spec_l08Closes.l3] at h, fun _ _ _ _ r h => by simp [spec_l08Closes.l2] at h, fun _ _ _ r h => by simp [spec_l08Closes.l1] at h, fun _ _ _ r h => by simp [spec_l08Closes.l0] at h⟩
 | k + 1 => by
  obtain ⟨ih0, ih1, ih2, ih3, ih4, ih5, ih6, ih7, ih8⟩ := spec_l08Closes.mono_l k; refine ⟨?_, ?_, ?_, ?_, ?_, ?_, ?_, ?_, ?_⟩
  ·intro y0 y1 y2
   unfold spec_l08Closes.j1
   repeat' first
   | (with_reducible exact ih0 _ _ _)
   | (with_reducible exact ih1 _ _ _)
   | (with_reducible exact ih2 _ _ _ _)
   | (with_reducible exact ih3 _ _ _ _ _)
   | (with_reducible exact ih4 _ _ _ _ _)
   | (with_reducible exact ih5 _ _ _ _ _)
   | (with_reducible exact ih6 _ _ _ _)
   | (with_reducible exact ih7 _ _ _)
   | (with_reducible exact ih8 _ _ _)
   | (with_reducible exact LeO.refl _)
   | (with_reducible exact LeO.none _)
   | (with_reducible refine LeO.ite ?_ ?_)
   | (with_reducible refine LeO.bind ?_ (fun _ => ?_))
   | exact ih0 _ _ _
   | exact ih1 _ _ _
   | exact ih2 _ _ _ _
   | exact ih3 _ _ _ _ _
   | exact ih4 _ _ _ _ _
   | exact ih5 _ _ _ _ _
   | exact ih6 _ _ _ _
   | exact ih7 _ _ _
   | exact ih8 _ _ _
   | exact LeO.none _
   | refine LeO.ite ?_ ?_
   | refine LeO.bind ?_ (fun _ => ?_)
  ·intro y0 y1 y2
   unfold spec_l08Closes.j3
   repeat' first
   | (with_reducible exact ih0 _ _ _)
   | (with_reducible exact ih1 _ _ _)
   | (with_reducible exact ih2 _ _ _ _)
   | (with_reducible exact ih3 _ _ _ _ _)
   | (with_reducible exact ih4 _ _ _ _ _)
   | (with_reducible exact ih5 _ _ _ _ _)
   | (with_reducible exact ih6 _ _ _ _)
   | (with_reducible exact ih7 _ _ _)
   | (with_reducible exact ih8 _ _ _)
   | (with_reducible exact LeO.refl _)
   | (with_reducible exact LeO.none _)
   | (with_reducible refine LeO.ite ?_ ?_)
   | (with_reducible refine LeO.bind ?_ (fun _ => ?_))
   | exact ih0 _ _ _
   | exact ih1 _ _ _
   | exact ih2 _ _ _ _
   | exact ih3 _ _ _ _ _
   | exact ih4 _ _ _ _ _
   | exact ih5 _ _ _ _ _
   | exact ih6 _ _ _ _
   | exact ih7 _ _ _
   | exact ih8 _ _ _
   | exact LeO.none _
   | refine LeO.ite ?_ ?_
   | refine LeO.bind ?_ (fun _ => ?_)
  ·intro y0 y1 y2 y3
   unfold spec_l08Closes.j5
   repeat' first
   | (with_reducible exact ih0 _ _ _)
   | (with_reducible exact ih1 _ _ _)
   | (with_reducible exact ih2 _ _ _ _)
   | (with_reducible exact ih3 _ _ _ _ _)
   | (with_reducible exact ih4 _ _ _ _ _)
   | (with_reducible exact ih5 _ _ _ _ _)
   | (with_reducible exact ih6 _ _ _ _)
   | (with_reducible exact ih7 _ _ _)
   | (with_reducible exact ih8 _ _ _)
   | (with_reducible exact LeO.refl _)
   | (with_reducible exact LeO.none _)
   | (with_reducible refine LeO.ite ?_ ?_)
   | (with_reducible refine LeO.bind ?_ (fun _ => ?_))
   | exact ih0 _ _ _
   | exact ih1 _ _ _
   | exact ih2 _ _ _ _
   | exact ih3 _ _ _ _ _
   | exact ih4 _ _ _ _ _
   | exact ih5 _ _ _ _ _
   | exact ih6 _ _ _ _
   | exact ih7 _ _ _
   | exact ih8 _ _ _
   | exact LeO.none _
   | refine LeO.ite ?_ ?_
   | refine LeO.bind ?_ (fun _ => ?_)
  ·intro y0 y1 y2 y3 y4
   unfold spec_l08Closes.j7
   repeat' first
   | (with_reducible exact ih0 _ _ _)
   | (with_reducible exact ih1 _ _ _)
   | (with_reducible exact ih2 _ _ _ _)
   | (with_reducible exact ih3 _ _ _ _ _)
   | (with_reducible exact ih4 _ _ _ _ _)
   | (with_reducible exact ih5 _ _ _ _ _)
   | (with_reducible exact ih6 _ _ _ _)
   | (with_reducible exact ih7 _ _ _)
   | (with_reducible exact ih8 _ _ _)
   | (with_reducible exact LeO.refl _)
   | (with_reducible exact LeO.none _)
   | (with_reducible refine LeO.ite ?_ ?_)
   | (with_reducible refine LeO.bind ?_ (fun _ => ?_))
   | exact ih0 _ _ _
   | exact ih1 _ _ _
   | exact ih2 _ _ _ _
   | exact ih3 _ _ _ _ _
   | exact ih4 _ _ _ _ _
   | exact ih5 _ _ _ _ _
   | exact ih6 _ _ _ _
   | exact ih7 _ _ _
   | exact ih8 _ _ _
   | exact LeO.none _
   | refine LeO.ite ?_ ?_
   | refine LeO.bind ?_ (fun _ => ?_)
  ·intro y0 y1 y2 y3 y4
   unfold spec_l08Closes.j8
   repeat' first
   | (with_reducible exact ih0 _ _ _)
   | (with_reducible exact ih1 _ _ _)
   | (with_reducible exact ih2 _ _ _ _)
   | (with_reducible exact ih3 _ _ _ _ _)
   | (with_reducible exact ih4 _ _ _ _ _)
   | (with_reducible exact ih5 _ _ _ _ _)
   | (with_reducible exact ih6 _ _ _ _)
   | (with_reducible exact ih7 _ _ _)
   | (with_reducible exact ih8 _ _ _)
   | (with_reducible exact LeO.refl _)
   | (with_reducible exact LeO.none _)
   | (with_reducible refine LeO.ite ?_ ?_)
   | (with_reducible refine LeO.bind ?_ (fun _ => ?_))
   | exact ih0 _ _ _
   | exact ih1 _ _ _
   | exact ih2 _ _ _ _
   | exact ih3 _ _ _ _ _
   | exact ih4 _ _ _ _ _
   | exact ih5 _ _ _ _ _
   | exact ih6 _ _ _ _
   | exact ih7 _ _ _
   | exact ih8 _ _ _
   | exact LeO.none _
   | refine LeO.ite ?_ ?_
   | refine LeO.bind ?_ (fun _ => ?_)
  ·intro y0 y1 y2 y3 y4
   unfold spec_l08Closes.l3
   repeat' first
   | (with_reducible exact ih0 _ _ _)
   | (with_reducible exact ih1 _ _ _)
   | (with_reducible exact ih2 _ _ _ _)
   | (with_reducible exact ih3 _ _ _ _ _)
   | (with_reducible exact ih4 _ _ _ _ _)
   | (with_reducible exact ih5 _ _ _ _ _)
   | (with_reducible exact ih6 _ _ _ _)
   | (with_reducible exact ih7 _ _ _)
   | (with_reducible exact ih8 _ _ _)
   | (with_reducible exact LeO.refl _)
   | (with_reducible exact LeO.none _)
   | (with_reducible refine LeO.ite ?_ ?_)
   | (with_reducible refine LeO.bind ?_ (fun _ => ?_))
   | exact ih0 _ _ _
   | exact ih1 _ _ _
   | exact ih2 _ _ _ _
   | exact ih3 _ _ _ _ _
   | exact ih4 _ _ _ _ _
   | exact ih5 _ _ _ _ _
   | exact ih6 _ _ _ _
   | exact ih7 _ _ _
   | exact ih8 _ _ _
   | exact LeO.none _
   | refine LeO.ite ?_ ?_
   | refine LeO.bind ?_ (fun _ => ?_)
  ·intro y0 y1 y2 y3
   unfold spec_l08Closes.l2
   repeat' first
   | (with_reducible exact ih0 _ _ _)
   | (with_reducible exact ih1 _ _ _)
   | (with_reducible exact ih2 _ _ _ _)
   | (with_reducible exact ih3 _ _ _ _ _)
   | (with_reducible exact ih4 _ _ _ _ _)
   | (with_reducible exact ih5 _ _ _ _ _)
   | (with_reducible exact ih6 _ _ _ _)
   | (with_reducible exact ih7 _ _ _)
   | (with_reducible exact ih8 _ _ _)
   | (with_reducible exact LeO.refl _)
   | (with_reducible exact LeO.none _)
   | (with_reducible refine LeO.ite ?_ ?_)
   | (with_reducible refine LeO.bind ?_ (fun _ => ?_))
   | exact ih0 _ _ _
   | exact ih1 _ _ _
   | exact ih2 _ _ _ _
   | exact ih3 _ _ _ _ _
   | exact ih4 _ _ _ _ _
   | exact ih5 _ _ _ _ _
   | exact ih6 _ _ _ _
   | exact ih7 _ _ _
   | exact ih8 _ _ _
   | exact LeO.none _
   | refine LeO.ite ?_ ?_
   | refine LeO.bind ?_ (fun _ => ?_)
  ·intro y0 y1 y2
   unfold spec_l08Closes.l1
   repeat' first
   | (with_reducible exact ih0 _ _ _)
   | (with_reducible exact ih1 _ _ _)
   | (with_reducible exact ih2 _ _ _ _)
   | (with_reducible exact ih3 _ _ _ _ _)
   | (with_reducible exact ih4 _ _ _ _ _)
   | (with_reducible exact ih5 _ _ _ _ _)
   | (with_reducible exact ih6 _ _ _ _)
   | (with_reducible exact ih7 _ _ _)
   | (with_reducible exact ih8 _ _ _)
   | (with_reducible exact LeO.refl _)
   | (with_reducible exact LeO.none _)
   | (with_reducible refine LeO.ite ?_ ?_)
   | (with_reducible refine LeO.bind ?_ (fun _ => ?_))
   | exact ih0 _ _ _
   | exact ih1 _ _ _
   | exact ih2 _ _ _ _
   | exact ih3 _ _ _ _ _
   | exact ih4 _ _ _ _ _
   | exact ih5 _ _ _ _ _
   | exact ih6 _ _ _ _
   | exact ih7 _ _ _
   | exact ih8 _ _ _
   | exact LeO.none _
   | refine LeO.ite ?_ ?_
   | refine LeO.bind ?_ (fun _ => ?_)
  intro y0 y1 y2
  unfold spec_l08Closes.l0
  repeat' first
  | (with_reducible exact ih0 _ _ _)
  | (with_reducible exact ih1 _ _ _)
  | (with_reducible exact ih2 _ _ _ _)
  | (with_reducible exact ih3 _ _ _ _ _)
  | (with_reducible exact ih4 _ _ _ _ _)
  | (with_reducible exact ih5 _ _ _ _ _)
  | (with_reducible exact ih6 _ _ _ _)
  | (with_reducible exact ih7 _ _ _)
  | (with_reducible exact ih8 _ _ _)
  | (with_reducible exact LeO.refl _)
  | (with_reducible exact LeO.none _)
  | (with_reducible refine LeO.ite ?_ ?_)
  | (with_reducible refine LeO.bind ?_ (fun _ => ?_))
  | exact ih0 _ _ _
  | exact ih1 _ _ _
  | exact ih2 _ _ _ _
  | exact ih3 _ _ _ _ _
  | exact ih4 _ _ _ _ _
  | exact ih5 _ _ _ _ _
  | exact ih6 _ _ _ _
  | exact ih7 _ _ _
  | exact ih8 _ _ _
  | exact LeO.none _
  | refine LeO.ite ?_ ?_
  | refine LeO.bind ?_ (fun _ => ?_)
theorem spec_l08Closes.mono : ∀ a0 a1 k, LeO (spec_l08Closes.f k a0 a1) (spec_l08Closes.f (k + 1) a0 a1) := by
 intro a0 a1 k
 obtain ⟨ih0, ih1, ih2, ih3, ih4, ih5, ih6, ih7, ih8⟩ := spec_l08Closes.mono_l k
 unfold spec_l08Closes.f
 repeat' first
   | (with_reducible exact ih0 _ _ _)
   | (with_reducible exact ih1 _ _ _)
   | (with_reducible exact ih2 _ _ _ _)
   | (with_reducible exact ih3 _ _ _ _ _)
   | (with_reducible exact ih4 _ _ _ _ _)
   | (with_reducible exact ih5 _ _ _ _ _)
   | (with_reducible exact ih6 _ _ _ _)
   | (with_reducible exact ih7 _ _ _)
   | (with_reducible exact ih8 _ _ _)
   | (with_reducible exact LeO.refl _)
   | (with_reducible exact LeO.none _)
   | (with_reducible refine LeO.ite ?_ ?_)
   | (with_reducible refine LeO.bind ?_ (fun _ => ?_))
   | exact ih0 _ _ _
   | exact ih1 _ _ _
   | exact ih2 _ _ _ _
   | exact ih3 _ _ _ _ _
   | exact ih4 _ _ _ _ _
   | exact ih5 _ _ _ _ _
   | exact ih6 _ _ _ _
   | exact ih7 _ _ _
   | exact ih8 _ _ _
   | exact LeO.none _
   | refine LeO.ite ?_ ?_
   | refine LeO.bind ?_ (fun _ => ?_)
set_option maxHeartbeats 8000000 in
set_option maxRecDepth 100000 in
theorem spec_l08Closes.calls (k : Nat) (A0 : Option Addr) (c0 : Nat) (l0 : List Int) (a1 : Int) (r1 : Int) (r2 : Bool) (w : World) (hr0 : Kd.C (Kd.int .i64) w A0 l0.length l0) (hc0 : l0.length ≤ c0) (h : spec_l08Closes.f k l0 a1 = some (r1, r2)) :
  Calls Tryd.prog 111 #[.slice A0 l0.length c0, .int .i64 a1] w fun e w' => e = .returned (.tuple #[.int .i64 r1, .bool r2]) ∧ Below w.heap.size w w' := by
 have HR0 := Aside0.mk hr0
 have HC0 := Aside0.mk hc0
 clear hr0 hc0
 have HB := Aside0.mk (Below.refl w.heap.size w)
 have H : (spec_l08Closes.l0 k l0 a1 true) = some (r1, r2) := h
 clear h
 have HC3 := Aside0.mk H
 clear H
 go_enter Tryd.func111, Tryd.ntmps111
 go_upto_block 0 with (fail)
 go_cut [6, 7] (fun v6 v7 wc => ∃ (kq : Nat) (x6_2 : Int) (x7_2 : Bool), v6 = .int .i64 x6_2 ∧ v7 = .bool x7_2 ∧ Aside0 (spec_l08Closes.j1 kq l0 x6_2 x7_2 = some (r1, r2)) ∧ Aside0 (kq ≤ k) ∧ Aside0 (Below w.heap.size w wc))
 case first =>
  have H := HC3.out; clear HC3; have H' := Aside0.mk H; clear H
  go_wp2
  go_loopg [6, 7] k (fun kq v6 v7 w' => ∃ (x6_1 : Int) (x7_1 : Bool), v6 = .int .i64 x6_1 ∧ v7 = .bool x7_1 ∧ Aside0 (spec_l08Closes.l0 kq l0 x6_1 x7_1 = some (r1, r2)) ∧ Aside0 (kq ≤ k) ∧ Aside0 (Below w.heap.size w w'))
  case atStart => exact ⟨(a1), (true), (by first | rfl | (simp; done) | (simp [*]; done)), (by first | rfl | (simp; done) | (simp [*]; done)), H', ⟨Nat.le_refl _⟩, ⟨belowA⟩⟩
  case round =>
   clear H'
   try clear c1; try clear p2
   obtain ⟨x6_1, x7_1, rfl, rfl, HA, HK1, HB⟩ := hrel
   cases gk with
   | zero => exact absurd HA.out (by simp [spec_l08Closes.l0])
   | succ k1 =>
    have H := HA.out; clear HA; simp only [spec_l08Closes.l0] at H
    by_cases c4 : x6_1 < (l0.length : Int)
    ·rw [if_pos c4] at H
     have c4b0 : decide (x6_1 < (l0.length : Int)) = true := decide_eq_true c4; clear c4
     (first | rw [c4b0] | (simp only [i64_w, i32_w]; rw [c4b0]) | skip)
     by_cases c5 : 0 ≤ x6_1
     ·rw [if_pos c5] at H
      have c5b0 : decide (0 ≤ x6_1) = true := decide_eq_true c5; clear c5; replace H := Option.bind_eq_some_iff.mp H; obtain ⟨t153, A60, H⟩ := H
      try dsimp only at H
      have A6 := Aside0.mk A60; clear A60
      by_cases c7 : t153 = true
      ·subst c7
       have H1 : (if x7_1 = true then (spec_l08Closes.l0 k1 l0 (wrap64 (x6_1 + 1)) ((rd l0 x6_1) == 46)) else (spec_l08Closes.l0 k1 l0 (wrap64 (x6_1 + 1)) false)) = some (r1, r2) := by rw [if_pos rfl] at H; exact H
       clear H; have H := H1; clear H1
       by_cases c8 : x7_1 = true
       ·subst c8
        have H1 : (spec_l08Closes.l0 k1 l0 (wrap64 (x6_1 + 1)) ((rd l0 x6_1) == 46)) = some (r1, r2) := by rw [if_pos rfl] at H; exact H
        clear H; have H := H1; clear H1; have H' := Aside0.mk H; clear H
        have p152 : 0 ≤ (x6_1 : Int) := of_decide_eq_true (by first | (with_reducible assumption) | assumption)
        have q152 : x6_1 < (l0.length : Int) := of_decide_eq_true (by first | (with_reducible assumption) | assumption)
        obtain ⟨ad152, e152, hx152_0⟩ := Kd.at_int HR0.out x6_1 p152 q152; cases e152; replace hx152_0 := (HB.out.cell (World.block_lt_of_cell? w _ hx152_0)).trans hx152_0; replace p152 := eq_true p152; replace q152 := eq_true q152
        go_wp2_with (first | (go_at_call 110; (with_reducible refine (W_spec_l08In.calls (rd l0 x6_1) (⟨#[46, 33, 63]⟩ : ByteArray) true _ A6.out).mono ?_); rintro e w' ⟨rfl, ⟨nd, rfl⟩⟩; have p154 : 0 ≤ (x6_1 : Int) := of_decide_eq_true (by first | (with_reducible assumption) | assumption); have q154 : x6_1 < (l0.length : Int) := of_decide_eq_true (by first | (with_reducible assumption) | assumption); obtain ⟨ad154, e154, hx154_0⟩ := Kd.at_int HR0.out x6_1 p154 q154; obtain rfl : ad152 = ad154 := (by injection e154); replace hx154_0 := (HB.out.cell (World.block_lt_of_cell? w _ hx154_0)).trans hx154_0; replace p154 := eq_true p154; replace q154 := eq_true q154))
        go_roundg k1
        case measure => have := HK1.out; omega
        case rel => exact ⟨(wrap64 (x6_1 + 1)), (((rd l0 x6_1) == 46)), (by first | rfl | (simp; done) | (simp [*]; done)), (by first | rfl | (simp; done) | (simp [*]; done)), H', ⟨by have := HK1.out; omega⟩, ⟨belowA⟩⟩
       replace c8 := Bool.eq_false_iff.mpr c8; subst c8
       have H1 : (spec_l08Closes.l0 k1 l0 (wrap64 (x6_1 + 1)) false) = some (r1, r2) := by rw [if_neg (show ¬ (false = true) by decide)] at H; exact H
       clear H; have H := H1; clear H1; have H' := Aside0.mk H; clear H
       have p152 : 0 ≤ (x6_1 : Int) := of_decide_eq_true (by first | (with_reducible assumption) | assumption)
       have q152 : x6_1 < (l0.length : Int) := of_decide_eq_true (by first | (with_reducible assumption) | assumption)
       obtain ⟨ad152, e152, hx152_0⟩ := Kd.at_int HR0.out x6_1 p152 q152; cases e152; replace hx152_0 := (HB.out.cell (World.block_lt_of_cell? w _ hx152_0)).trans hx152_0; replace p152 := eq_true p152; replace q152 := eq_true q152
       go_wp2_with (first | (go_at_call 110; (with_reducible refine (W_spec_l08In.calls (rd l0 x6_1) (⟨#[46, 33, 63]⟩ : ByteArray) true _ A6.out).mono ?_); rintro e w' ⟨rfl, ⟨nd, rfl⟩⟩))
       go_roundg k1
       case measure => have := HK1.out; omega
       case rel => exact ⟨(wrap64 (x6_1 + 1)), (false), (by first | rfl | (simp; done) | (simp [*]; done)), (by first | rfl | (simp; done) | (simp [*]; done)), H', ⟨by have := HK1.out; omega⟩, ⟨belowA⟩⟩
      replace c7 := Bool.eq_false_iff.mpr c7; subst c7
      have H1 : (spec_l08Closes.j1 k1 l0 x6_1 x7_1) = some (r1, r2) := by rw [if_neg (show ¬ (false = true) by decide)] at H; exact H
      clear H; have H := H1; clear H1; have H' := Aside0.mk H; clear H
      have p152 : 0 ≤ (x6_1 : Int) := of_decide_eq_true (by first | (with_reducible assumption) | assumption)
      have q152 : x6_1 < (l0.length : Int) := of_decide_eq_true (by first | (with_reducible assumption) | assumption)
      obtain ⟨ad152, e152, hx152_0⟩ := Kd.at_int HR0.out x6_1 p152 q152; cases e152; replace hx152_0 := (HB.out.cell (World.block_lt_of_cell? w _ hx152_0)).trans hx152_0; replace p152 := eq_true p152; replace q152 := eq_true q152
      go_wp2_with (first | (go_at_call 110; (with_reducible refine (W_spec_l08In.calls (rd l0 x6_1) (⟨#[46, 33, 63]⟩ : ByteArray) false _ A6.out).mono ?_); rintro e w' ⟨rfl, ⟨nd, rfl⟩⟩))
      go_meet
      case rel => exact ⟨_, (x6_1), (x7_1), (by first | rfl | (simp; done) | (simp [*]; done)), (by first | rfl | (simp; done) | (simp [*]; done)), H', ⟨by have := HK1.out; first | omega | exact Nat.le_refl _⟩, ⟨belowA⟩⟩
     rw [if_neg c5] at H
     exact absurd H (by simp)
    rw [if_neg c4] at H; have c4b0 : decide (x6_1 < (l0.length : Int)) = false := decide_eq_false c4; clear c4
    (first | rw [c4b0] | (simp only [i64_w, i32_w]; rw [c4b0]) | skip)
    have H' := Aside0.mk H; clear H
    go_wp2
    go_meet
    case rel => exact ⟨_, (x6_1), (x7_1), (by first | rfl | (simp; done) | (simp [*]; done)), (by first | rfl | (simp; done) | (simp [*]; done)), H', ⟨by have := HK1.out; first | omega | exact Nat.le_refl _⟩, ⟨belowA⟩⟩
 case rest =>
  clear HC3
  try clear c1; try clear p1; try clear q1; try clear hx1; try clear p2; try clear c4; try clear c4b0; try clear c5; try clear c5b0; try clear p6; try clear c7; try clear c8; try clear hx152_0; try clear hx154_0; try clear p152; try clear p154; try clear p2; try clear q152; try clear q154
  obtain ⟨kq, x6_2, x7_2, rfl, rfl, HA, HJ2, HB⟩ := hcut
  cases kq with
  | zero => exact absurd HA.out (by simp [spec_l08Closes.j1])
  | succ kj2 =>
   have H := HA.out; clear HA; simp only [spec_l08Closes.j1] at H; have HC9 := Aside0.mk H; clear H
   go_upto_block 2 with (fail)
   go_cut [6] (fun v6 wc => ∃ (kq : Nat) (x6_8 : Int), v6 = .int .i64 x6_8 ∧ Aside0 (spec_l08Closes.j3 kq l0 x6_8 x7_2 = some (r1, r2)) ∧ Aside0 (kq ≤ kj2) ∧ Aside0 (Below w.heap.size w wc))
   case first =>
    have H := HC9.out; clear HC9; have H' := Aside0.mk H; clear H
    go_wp2
    go_loopg [6] kj2 (fun kq v6 w' => ∃ (x6_2 : Int), v6 = .int .i64 x6_2 ∧ Aside0 (spec_l08Closes.l1 kq l0 x6_2 x7_2 = some (r1, r2)) ∧ Aside0 (kq ≤ kj2) ∧ Aside0 (Below w.heap.size w w'))
    case atStart => exact ⟨(x6_2), (by first | rfl | (simp; done) | (simp [*]; done)), H', ⟨Nat.le_refl _⟩, ⟨belowA⟩⟩
    case round =>
     clear H'
     try clear c1; try clear p1; try clear q1; try clear hx1; try clear p2; try clear c4; try clear c4b0; try clear c5; try clear c5b0; try clear p6; try clear c7; try clear c8; try clear hx152_0; try clear hx154_0; try clear p1; try clear p152; try clear p154; try clear p2; try clear p6; try clear q1; try clear q152; try clear q154
     obtain ⟨x6_2, rfl, HA, HK2, HB⟩ := hrel
     cases gk with
     | zero => exact absurd HA.out (by simp [spec_l08Closes.l1])
     | succ k2 =>
      have H := HA.out; clear HA; simp only [spec_l08Closes.l1] at H
      by_cases c10 : x6_2 < (l0.length : Int)
      ·rw [if_pos c10] at H
       have c10b0 : decide (x6_2 < (l0.length : Int)) = true := decide_eq_true c10; clear c10
       (first | rw [c10b0] | (simp only [i64_w, i32_w]; rw [c10b0]) | skip)
       by_cases c11 : 0 ≤ x6_2
       ·rw [if_pos c11] at H
        have c11b0 : decide (0 ≤ x6_2) = true := decide_eq_true c11; clear c11; replace H := Option.bind_eq_some_iff.mp H; obtain ⟨t156, A120, H⟩ := H
        try dsimp only at H
        have A12 := Aside0.mk A120; clear A120
        by_cases c13 : t156 = true
        ·subst c13
         have H1 : (spec_l08Closes.l1 k2 l0 (wrap64 (x6_2 + 1)) x7_2) = some (r1, r2) := by rw [if_pos rfl] at H; exact H
         clear H; have H := H1; clear H1; have H' := Aside0.mk H; clear H
         have p155 : 0 ≤ (x6_2 : Int) := of_decide_eq_true (by first | (with_reducible assumption) | assumption)
         have q155 : x6_2 < (l0.length : Int) := of_decide_eq_true (by first | (with_reducible assumption) | assumption)
         obtain ⟨ad155, e155, hx155_0⟩ := Kd.at_int HR0.out x6_2 p155 q155; cases e155; replace hx155_0 := (HB.out.cell (World.block_lt_of_cell? w _ hx155_0)).trans hx155_0; replace p155 := eq_true p155; replace q155 := eq_true q155
         go_wp2_with (first | (go_at_call 110; (with_reducible refine (W_spec_l08In.calls (rd l0 x6_2) (⟨#[41, 93, 125, 34, 39]⟩ : ByteArray) true _ A12.out).mono ?_); rintro e w' ⟨rfl, ⟨nd, rfl⟩⟩))
         go_roundg k2
         case measure => have := HJ2.out; have := HK2.out; omega
         case rel => exact ⟨(wrap64 (x6_2 + 1)), (by first | rfl | (simp; done) | (simp [*]; done)), H', ⟨by have := HJ2.out; have := HK2.out; omega⟩, ⟨belowA⟩⟩
        replace c13 := Bool.eq_false_iff.mpr c13; subst c13
        have H1 : (spec_l08Closes.j3 k2 l0 x6_2 x7_2) = some (r1, r2) := by rw [if_neg (show ¬ (false = true) by decide)] at H; exact H
        clear H; have H := H1; clear H1; have H' := Aside0.mk H; clear H
        have p155 : 0 ≤ (x6_2 : Int) := of_decide_eq_true (by first | (with_reducible assumption) | assumption)
        have q155 : x6_2 < (l0.length : Int) := of_decide_eq_true (by first | (with_reducible assumption) | assumption)
        obtain ⟨ad155, e155, hx155_0⟩ := Kd.at_int HR0.out x6_2 p155 q155; cases e155; replace hx155_0 := (HB.out.cell (World.block_lt_of_cell? w _ hx155_0)).trans hx155_0; replace p155 := eq_true p155; replace q155 := eq_true q155
        go_wp2_with (first | (go_at_call 110; (with_reducible refine (W_spec_l08In.calls (rd l0 x6_2) (⟨#[41, 93, 125, 34, 39]⟩ : ByteArray) false _ A12.out).mono ?_); rintro e w' ⟨rfl, ⟨nd, rfl⟩⟩))
        go_meet
        case rel => exact ⟨_, (x6_2), (by first | rfl | (simp; done) | (simp [*]; done)), H', ⟨by have := HJ2.out; have := HK2.out; first | omega | exact Nat.le_refl _⟩, ⟨belowA⟩⟩
       rw [if_neg c11] at H
       exact absurd H (by simp)
      rw [if_neg c10] at H; have c10b0 : decide (x6_2 < (l0.length : Int)) = false := decide_eq_false c10; clear c10
      (first | rw [c10b0] | (simp only [i64_w, i32_w]; rw [c10b0]) | skip)
      have H' := Aside0.mk H; clear H
      go_wp2
      go_meet
      case rel => exact ⟨_, (x6_2), (by first | rfl | (simp; done) | (simp [*]; done)), H', ⟨by have := HJ2.out; have := HK2.out; first | omega | exact Nat.le_refl _⟩, ⟨belowA⟩⟩
   case rest =>
    clear HC9
    try clear c1; try clear p1; try clear q1; try clear hx1; try clear p2; try clear c4; try clear c4b0; try clear c5; try clear c5b0; try clear p6; try clear c7; try clear c8; try clear c10; try clear c10b0; try clear c11; try clear c11b0; try clear c13; try clear hx152_0; try clear hx154_0; try clear hx155_0; try clear p1; try clear p152; try clear p154; try clear p155; try clear p2; try clear p6; try clear q1; try clear q152; try clear q154; try clear q155
    obtain ⟨kq, x6_8, rfl, HA, HJ8, HB⟩ := hcut
    cases kq with
    | zero => exact absurd HA.out (by simp [spec_l08Closes.j3])
    | succ kj8 =>
     have H := HA.out; clear HA; simp only [spec_l08Closes.j3] at H; have HC14 := Aside0.mk H; clear H
     go_upto_block 4 with (fail)
     go_cut [6] (fun v6 wc => ∃ (kq : Nat) (x6_13 : Int), v6 = .int .i64 x6_13 ∧ Aside0 (spec_l08Closes.j5 kq l0 x6_13 x7_2 x6_8 = some (r1, r2)) ∧ Aside0 (kq ≤ kj8) ∧ Aside0 (Below w.heap.size w wc))
     case first =>
      have H := HC14.out; clear HC14; have H' := Aside0.mk H; clear H
      go_wp2
      go_loopg [6] kj8 (fun kq v6 w' => ∃ (x6_3 : Int), v6 = .int .i64 x6_3 ∧ Aside0 (spec_l08Closes.l2 kq l0 x6_3 x7_2 x6_8 = some (r1, r2)) ∧ Aside0 (kq ≤ kj8) ∧ Aside0 (Below w.heap.size w w'))
      case atStart => exact ⟨(x6_8), (by first | rfl | (simp; done) | (simp [*]; done)), H', ⟨Nat.le_refl _⟩, ⟨belowA⟩⟩
      case round =>
       clear H'
       try clear c1; try clear p1; try clear q1; try clear hx1; try clear p2; try clear c4; try clear c4b0; try clear c5; try clear c5b0; try clear p6; try clear c7; try clear c8; try clear c10; try clear c10b0; try clear c11; try clear c11b0; try clear c13; try clear hx152_0; try clear hx154_0; try clear hx155_0; try clear p1; try clear p152; try clear p154; try clear p155; try clear p2; try clear p6; try clear q1; try clear q152; try clear q154; try clear q155
       obtain ⟨x6_3, rfl, HA, HK3, HB⟩ := hrel
       cases gk with
       | zero => exact absurd HA.out (by simp [spec_l08Closes.l2])
       | succ k3 =>
        have H := HA.out; clear HA; simp only [spec_l08Closes.l2] at H
        by_cases c15 : x6_3 < (l0.length : Int)
        ·rw [if_pos c15] at H
         have c15b0 : decide (x6_3 < (l0.length : Int)) = true := decide_eq_true c15; clear c15
         (first | rw [c15b0] | (simp only [i64_w, i32_w]; rw [c15b0]) | skip)
         by_cases c16 : 0 ≤ x6_3
         ·rw [if_pos c16] at H
          have c16b0 : decide (0 ≤ x6_3) = true := decide_eq_true c16; clear c16; replace H := Option.bind_eq_some_iff.mp H; obtain ⟨t158, A170, H⟩ := H
          try dsimp only at H
          have A17 := Aside0.mk A170; clear A170
          by_cases c18 : t158 = 2
          ·rw [if_pos c18] at H
           have c18b0 : (t158 == 2) = true := beq_iff_eq.mpr c18; have c18b1 : (t158 != 2) = false := bne_eq_false_iff_eq.mpr c18; clear c18; have H' := Aside0.mk H; clear H
           have p157 : 0 ≤ (x6_3 : Int) := of_decide_eq_true (by first | (with_reducible assumption) | assumption)
           have q157 : x6_3 < (l0.length : Int) := of_decide_eq_true (by first | (with_reducible assumption) | assumption)
           obtain ⟨ad157, e157, hx157_0⟩ := Kd.at_int HR0.out x6_3 p157 q157; cases e157; replace hx157_0 := (HB.out.cell (World.block_lt_of_cell? w _ hx157_0)).trans hx157_0; replace p157 := eq_true p157; replace q157 := eq_true q157
           go_wp2_with (first | (go_at_call 181; (with_reducible refine (spec_l01Cat.calls (rd l0 x6_3) t158 _ A17.out).mono ?_); rintro e w19 ⟨rfl, hb⟩; have n0_ := Aside0.mk (below_step (belowA) hb); clear HB; have HB := n0_; clear n0_; (try clear hb); (try clear hb2); (try clear hk); (try clear hi)))
           go_roundg k3
           case measure => have := HJ2.out; have := HJ8.out; have := HK3.out; omega
           case rel => exact ⟨(wrap64 (x6_3 + 1)), (by first | rfl | (simp; done) | (simp [*]; done)), H', ⟨by have := HJ2.out; have := HJ8.out; have := HK3.out; omega⟩, ⟨belowA⟩⟩
          rw [if_neg c18] at H; have c18b0 : (t158 == 2) = false := beq_eq_false_iff_ne.mpr c18; have c18b1 : (t158 != 2) = true := bne_iff_ne.mpr c18; have H' := Aside0.mk H; clear H
          have p157 : 0 ≤ (x6_3 : Int) := of_decide_eq_true (by first | (with_reducible assumption) | assumption)
          have q157 : x6_3 < (l0.length : Int) := of_decide_eq_true (by first | (with_reducible assumption) | assumption)
          obtain ⟨ad157, e157, hx157_0⟩ := Kd.at_int HR0.out x6_3 p157 q157; cases e157; replace hx157_0 := (HB.out.cell (World.block_lt_of_cell? w _ hx157_0)).trans hx157_0; replace p157 := eq_true p157; replace q157 := eq_true q157
          go_wp2_with (first | (go_at_call 181; (with_reducible refine (spec_l01Cat.calls (rd l0 x6_3) t158 _ A17.out).mono ?_); rintro e w20 ⟨rfl, hb⟩; have n0_ := Aside0.mk (below_step (belowA) hb); clear HB; have HB := n0_; clear n0_; (try clear hb); (try clear hb2); (try clear hk); (try clear hi)))
          go_meet
          case rel => exact ⟨_, (x6_3), (by first | rfl | (simp; done) | (simp [*]; done)), H', ⟨by have := HJ2.out; have := HJ8.out; have := HK3.out; first | omega | exact Nat.le_refl _⟩, ⟨belowA⟩⟩
         rw [if_neg c16] at H
         exact absurd H (by simp)
        rw [if_neg c15] at H; have c15b0 : decide (x6_3 < (l0.length : Int)) = false := decide_eq_false c15; clear c15
        (first | rw [c15b0] | (simp only [i64_w, i32_w]; rw [c15b0]) | skip)
        have H' := Aside0.mk H; clear H
        go_wp2
        go_meet
        case rel => exact ⟨_, (x6_3), (by first | rfl | (simp; done) | (simp [*]; done)), H', ⟨by have := HJ2.out; have := HJ8.out; have := HK3.out; first | omega | exact Nat.le_refl _⟩, ⟨belowA⟩⟩
     case rest =>
      clear HC14
      try clear c1; try clear p1; try clear q1; try clear hx1; try clear p2; try clear c4; try clear c4b0; try clear c5; try clear c5b0; try clear p6; try clear c7; try clear c8; try clear c10; try clear c10b0; try clear c11; try clear c11b0; try clear c13; try clear c15; try clear c15b0; try clear p15; try clear q15; try clear hx15; try clear c16; try clear c16b0; try clear c18; try clear c18b0; try clear c18b1; try clear hx152_0; try clear hx154_0; try clear hx155_0; try clear hx157_0; try clear p1; try clear p152; try clear p154; try clear p155; try clear p157; try clear p2; try clear p6; try clear q1; try clear q152; try clear q154; try clear q155; try clear q157
      obtain ⟨kq, x6_13, rfl, HA, HJ13, HB⟩ := hcut
      cases kq with
      | zero => exact absurd HA.out (by simp [spec_l08Closes.j5])
      | succ kj13 =>
       have H := HA.out; clear HA; simp only [spec_l08Closes.j5] at H; have HC21 := Aside0.mk H; clear H
       go_upto_block 6 with (fail)
       go_cut [9] (fun v9 wc => ∃ (kq : Nat) (x9_20 : Int), v9 = .int .i64 x9_20 ∧ Aside0 (spec_l08Closes.j7 kq l0 x6_13 x7_2 x6_8 x9_20 = some (r1, r2)) ∧ Aside0 (kq ≤ kj13) ∧ Aside0 (Below w.heap.size w wc))
       case first =>
        have H := HC21.out; clear HC21; have H' := Aside0.mk H; clear H
        go_wp2
        go_loopg [9] kj13 (fun kq v9 w' => ∃ (x9_4 : Int), v9 = .int .i64 x9_4 ∧ Aside0 (spec_l08Closes.l3 kq l0 x6_13 x7_2 x6_8 x9_4 = some (r1, r2)) ∧ Aside0 (kq ≤ kj13) ∧ Aside0 (Below w.heap.size w w'))
        case atStart => exact ⟨(x6_13), (by first | rfl | (simp; done) | (simp [*]; done)), H', ⟨Nat.le_refl _⟩, ⟨belowA⟩⟩
        case round =>
         clear H'
         try clear c1; try clear p1; try clear q1; try clear hx1; try clear p2; try clear c4; try clear c4b0; try clear c5; try clear c5b0; try clear p6; try clear c7; try clear c8; try clear c10; try clear c10b0; try clear c11; try clear c11b0; try clear c13; try clear c15; try clear c15b0; try clear p15; try clear q15; try clear hx15; try clear c16; try clear c16b0; try clear c18; try clear c18b0; try clear c18b1; try clear hx152_0; try clear hx154_0; try clear hx155_0; try clear hx157_0; try clear p1; try clear p15; try clear p152; try clear p154; try clear p155; try clear p157; try clear p2; try clear p6; try clear q1; try clear q15; try clear q152; try clear q154; try clear q155; try clear q157
         obtain ⟨x9_4, rfl, HA, HK4, HB⟩ := hrel
         cases gk with
         | zero => exact absurd HA.out (by simp [spec_l08Closes.l3])
         | succ k4 =>
          have H := HA.out; clear HA; simp only [spec_l08Closes.l3] at H
          by_cases c22 : x9_4 < (l0.length : Int)
          ·rw [if_pos c22] at H
           have c22b0 : decide (x9_4 < (l0.length : Int)) = true := decide_eq_true c22; clear c22
           (first | rw [c22b0] | (simp only [i64_w, i32_w]; rw [c22b0]) | skip)
           by_cases c23 : 0 ≤ x9_4
           ·rw [if_pos c23] at H
            have c23b0 : decide (0 ≤ x9_4) = true := decide_eq_true c23; clear c23; replace H := Option.bind_eq_some_iff.mp H; obtain ⟨t160, A240, H⟩ := H
            try dsimp only at H
            have A24 := Aside0.mk A240; clear A240
            by_cases c25 : t160 = 3
            ·rw [if_pos c25] at H
             have c25b0 : (t160 == 3) = true := beq_iff_eq.mpr c25; have c25b1 : (t160 != 3) = false := bne_eq_false_iff_eq.mpr c25; clear c25; have H' := Aside0.mk H; clear H
             have p159 : 0 ≤ (x9_4 : Int) := of_decide_eq_true (by first | (with_reducible assumption) | assumption)
             have q159 : x9_4 < (l0.length : Int) := of_decide_eq_true (by first | (with_reducible assumption) | assumption)
             obtain ⟨ad159, e159, hx159_0⟩ := Kd.at_int HR0.out x9_4 p159 q159; cases e159; replace hx159_0 := (HB.out.cell (World.block_lt_of_cell? w _ hx159_0)).trans hx159_0; replace p159 := eq_true p159; replace q159 := eq_true q159
             go_wp2_with (first | (go_at_call 181; (with_reducible refine (spec_l01Cat.calls (rd l0 x9_4) t160 _ A24.out).mono ?_); rintro e w26 ⟨rfl, hb⟩; have n0_ := Aside0.mk (below_step (belowA) hb); clear HB; have HB := n0_; clear n0_; (try clear hb); (try clear hb2); (try clear hk); (try clear hi)))
             go_roundg k4
             case measure => have := HJ2.out; have := HJ8.out; have := HJ13.out; have := HK4.out; omega
             case rel => exact ⟨(wrap64 (x9_4 + 1)), (by first | rfl | (simp; done) | (simp [*]; done)), H', ⟨by have := HJ2.out; have := HJ8.out; have := HJ13.out; have := HK4.out; omega⟩, ⟨belowA⟩⟩
            rw [if_neg c25] at H; have c25b0 : (t160 == 3) = false := beq_eq_false_iff_ne.mpr c25; have c25b1 : (t160 != 3) = true := bne_iff_ne.mpr c25; have H' := Aside0.mk H; clear H
            have p159 : 0 ≤ (x9_4 : Int) := of_decide_eq_true (by first | (with_reducible assumption) | assumption)
            have q159 : x9_4 < (l0.length : Int) := of_decide_eq_true (by first | (with_reducible assumption) | assumption)
            obtain ⟨ad159, e159, hx159_0⟩ := Kd.at_int HR0.out x9_4 p159 q159; cases e159; replace hx159_0 := (HB.out.cell (World.block_lt_of_cell? w _ hx159_0)).trans hx159_0; replace p159 := eq_true p159; replace q159 := eq_true q159
            go_wp2_with (first | (go_at_call 181; (with_reducible refine (spec_l01Cat.calls (rd l0 x9_4) t160 _ A24.out).mono ?_); rintro e w27 ⟨rfl, hb⟩; have n0_ := Aside0.mk (below_step (belowA) hb); clear HB; have HB := n0_; clear n0_; (try clear hb); (try clear hb2); (try clear hk); (try clear hi)))
            go_meet
            case rel => exact ⟨_, (x9_4), (by first | rfl | (simp; done) | (simp [*]; done)), H', ⟨by have := HJ2.out; have := HJ8.out; have := HJ13.out; have := HK4.out; first | omega | exact Nat.le_refl _⟩, ⟨belowA⟩⟩
           rw [if_neg c23] at H
           exact absurd H (by simp)
          rw [if_neg c22] at H; have c22b0 : decide (x9_4 < (l0.length : Int)) = false := decide_eq_false c22; clear c22
          (first | rw [c22b0] | (simp only [i64_w, i32_w]; rw [c22b0]) | skip)
          have H' := Aside0.mk H; clear H
          go_wp2
          go_meet
          case rel => exact ⟨_, (x9_4), (by first | rfl | (simp; done) | (simp [*]; done)), H', ⟨by have := HJ2.out; have := HJ8.out; have := HJ13.out; have := HK4.out; first | omega | exact Nat.le_refl _⟩, ⟨belowA⟩⟩
       case rest =>
        clear HC21
        try clear c1; try clear p1; try clear q1; try clear hx1; try clear c2; try clear p2; try clear c4; try clear c4b0; try clear c5; try clear c5b0; try clear p6; try clear c7; try clear c8; try clear c10; try clear c10b0; try clear c11; try clear c11b0; try clear c13; try clear c15; try clear c15b0; try clear p15; try clear q15; try clear hx15; try clear c16; try clear c16b0; try clear c18; try clear c18b0; try clear c18b1; try clear c22; try clear c22b0; try clear c23; try clear c23b0; try clear c25; try clear c25b0; try clear c25b1; try clear hx152_0; try clear hx154_0; try clear hx155_0; try clear hx157_0; try clear hx159_0; try clear p1; try clear p15; try clear p152; try clear p154; try clear p155; try clear p157; try clear p159; try clear p2; try clear p6; try clear q1; try clear q15; try clear q152; try clear q154; try clear q155; try clear q157; try clear q159
        obtain ⟨kq, x9_20, rfl, HA, HJ20, HB⟩ := hcut
        cases kq with
        | zero => exact absurd HA.out (by simp [spec_l08Closes.j7])
        | succ kj20 =>
         have H := HA.out; clear HA; simp only [spec_l08Closes.j7] at H; have HC28 := Aside0.mk H; clear H
         go_upto_region 14 with (fail)
         go_cut [82] (fun v82 wc => ∃ (kq : Nat) (x82_27 : Bool), v82 = .bool x82_27 ∧ Aside0 (spec_l08Closes.j8 kq l0 x6_13 x6_8 x9_20 x82_27 = some (r1, r2)) ∧ Aside0 (kq ≤ kj20) ∧ Aside0 (Below w.heap.size w wc))
         case first =>
          have H := HC28.out; clear HC28
          by_cases c29 : x7_2 = true
          ·subst c29
           have H1 : (spec_l08Closes.j8 kj20 l0 x6_13 x6_8 x9_20 (decide (x9_20 < (l0.length : Int)))) = some (r1, r2) := by rw [if_pos rfl] at H; exact H
           clear H; have H := H1; clear H1; have H' := Aside0.mk H; clear H
           go_wp2
           go_meet
           case rel => exact ⟨_, (decide (x9_20 < (l0.length : Int))), (by first | rfl | (simp; done) | (simp [*]; done)), H', ⟨by have := HJ2.out; have := HJ8.out; have := HJ13.out; have := HJ20.out; first | omega | exact Nat.le_refl _⟩, ⟨belowA⟩⟩
          replace c29 := Bool.eq_false_iff.mpr c29; subst c29
          have H1 : (spec_l08Closes.j8 kj20 l0 x6_13 x6_8 x9_20 false) = some (r1, r2) := by rw [if_neg (show ¬ (false = true) by decide)] at H; exact H
          clear H; have H := H1; clear H1; have H' := Aside0.mk H; clear H
          go_wp2
          go_meet
          case rel => exact ⟨_, (false), (by first | rfl | (simp; done) | (simp [*]; done)), H', ⟨by have := HJ2.out; have := HJ8.out; have := HJ13.out; have := HJ20.out; first | omega | exact Nat.le_refl _⟩, ⟨belowA⟩⟩
         case rest =>
          clear HC28
          try clear c1; try clear p1; try clear q1; try clear hx1; try clear c2; try clear p2; try clear c4; try clear c4b0; try clear c5; try clear c5b0; try clear p6; try clear c7; try clear c8; try clear c10; try clear c10b0; try clear c11; try clear c11b0; try clear c13; try clear c15; try clear c15b0; try clear p15; try clear q15; try clear hx15; try clear c16; try clear c16b0; try clear c18; try clear c18b0; try clear c18b1; try clear c22; try clear c22b0; try clear c23; try clear c23b0; try clear c25; try clear c25b0; try clear c25b1; try clear c29; try clear hx152_0; try clear hx154_0; try clear hx155_0; try clear hx157_0; try clear hx159_0; try clear p1; try clear p15; try clear p152; try clear p154; try clear p155; try clear p157; try clear p159; try clear p2; try clear p6; try clear q1; try clear q15; try clear q152; try clear q154; try clear q155; try clear q157; try clear q159
          obtain ⟨kq, x82_27, rfl, HA, HJ27, HB⟩ := hcut
          cases kq with
          | zero => exact absurd HA.out (by simp [spec_l08Closes.j8])
          | succ kj27 =>
           have H := HA.out; clear HA; simp only [spec_l08Closes.j8] at H
           by_cases c30 : x82_27 = true
           ·subst c30
            have H1 : (if 0 ≤ x9_20 then (if x9_20 < (l0.length : Int) then ((spec_l01Cat.f (rd l0 x9_20)).bind fun t162 => (if t162 = 5 then (some (x6_13,false)) else (if x6_13 = x6_8 then ((spec_l06Cased.f (rd l0 x9_20)).bind fun t164 => (if t164 = true then (some (x6_13,false)) else (if t162 = 7 then (some (x6_13,false)) else (if t162 = 8 then (some (x6_13,false)) else (some (x6_13,true)))))) else (some (x6_13,true))))) else (none)) else (none)) = some (r1, r2) := by rw [if_pos rfl] at H; exact H
            clear H; have H := H1; clear H1
            by_cases c31 : 0 ≤ x9_20
            ·rw [if_pos c31] at H
             have c31b0 : decide (0 ≤ x9_20) = true := decide_eq_true c31; clear c31
             by_cases c32 : x9_20 < (l0.length : Int)
             ·rw [if_pos c32] at H
              have c32b0 : decide (x9_20 < (l0.length : Int)) = true := decide_eq_true c32; clear c32; replace H := Option.bind_eq_some_iff.mp H; obtain ⟨t162, A330, H⟩ := H
              try dsimp only at H
              have A33 := Aside0.mk A330; clear A330
              by_cases c34 : t162 = 5
              ·rw [if_pos c34] at H
               have c34b0 : (t162 == 5) = true := beq_iff_eq.mpr c34; have c34b1 : (t162 != 5) = false := bne_eq_false_iff_eq.mpr c34; clear c34; simp only [Option.some.injEq, Prod.mk.injEq] at H; obtain ⟨rfl, rfl⟩ := H
               have p161 : 0 ≤ (x9_20 : Int) := of_decide_eq_true (by first | (with_reducible assumption) | assumption)
               have q161 : x9_20 < (l0.length : Int) := of_decide_eq_true (by first | (with_reducible assumption) | assumption)
               obtain ⟨ad161, e161, hx161_0⟩ := Kd.at_int HR0.out x9_20 p161 q161; cases e161; replace hx161_0 := (HB.out.cell (World.block_lt_of_cell? w _ hx161_0)).trans hx161_0; replace p161 := eq_true p161; replace q161 := eq_true q161
               go_wp2_with (first | ((with_reducible refine gate_callee (f := 181) rfl ?_); refine goesL_ (some 87) rfl rfl Tryd.func181 (by kernel_rfl) rfl #[.int .i64 (rd l0 x9_20)] rfl (by (try simp only [List.map_toArray, List.map_cons, List.map_nil]); first | done | rfl) ?_; (with_reducible refine (spec_l01Cat.calls (rd l0 x9_20) t162 _ A33.out).mono ?_); rintro e w35 ⟨rfl, hb⟩; refine ⟨_, rfl, ?_⟩; have n0_ := Aside0.mk (below_step (belowA) hb); clear HB; have HB := n0_; clear n0_; (try clear hb); (try clear hb2); (try clear hk); (try clear hi)))
               go_ret2
               exact ⟨by first | rfl | (simp [errW_none, errW_some] <;> rfl) | (simp [*, errW_none, errW_some] <;> rfl), belowA⟩
              rw [if_neg c34] at H; have c34b0 : (t162 == 5) = false := beq_eq_false_iff_ne.mpr c34; have c34b1 : (t162 != 5) = true := bne_iff_ne.mpr c34
              by_cases c36 : x6_13 = x6_8
              ·rw [if_pos c36] at H
               have c36b0 : (x6_13 == x6_8) = true := beq_iff_eq.mpr c36; have c36b1 : (x6_13 != x6_8) = false := bne_eq_false_iff_eq.mpr c36; clear c36; replace H := Option.bind_eq_some_iff.mp H; obtain ⟨t164, A370, H⟩ := H
               try dsimp only at H
               have A37 := Aside0.mk A370; clear A370
               by_cases c38 : t164 = true
               ·subst c38
                have H1 : (some (x6_13,false)) = some (r1, r2) := by rw [if_pos rfl] at H; exact H
                clear H; have H := H1; clear H1; simp only [Option.some.injEq, Prod.mk.injEq] at H; obtain ⟨rfl, rfl⟩ := H
                have p161 : 0 ≤ (x9_20 : Int) := of_decide_eq_true (by first | (with_reducible assumption) | assumption)
                have q161 : x9_20 < (l0.length : Int) := of_decide_eq_true (by first | (with_reducible assumption) | assumption)
                obtain ⟨ad161, e161, hx161_0⟩ := Kd.at_int HR0.out x9_20 p161 q161; cases e161; replace hx161_0 := (HB.out.cell (World.block_lt_of_cell? w _ hx161_0)).trans hx161_0; replace p161 := eq_true p161; replace q161 := eq_true q161
                go_wp2_with (first | ((with_reducible refine gate_callee (f := 181) rfl ?_); refine goesL_ (some 87) rfl rfl Tryd.func181 (by kernel_rfl) rfl #[.int .i64 (rd l0 x9_20)] rfl (by (try simp only [List.map_toArray, List.map_cons, List.map_nil]); first | done | rfl) ?_; (with_reducible refine (spec_l01Cat.calls (rd l0 x9_20) t162 _ A33.out).mono ?_); rintro e w39 ⟨rfl, hb⟩; refine ⟨_, rfl, ?_⟩; have n0_ := Aside0.mk (below_step (belowA) hb); clear HB; have HB := n0_; clear n0_; (try clear hb); (try clear hb2); (try clear hk); (try clear hi); have p163 : 0 ≤ (x9_20 : Int) := of_decide_eq_true (by first | (with_reducible assumption) | assumption); have q163 : x9_20 < (l0.length : Int) := of_decide_eq_true (by first | (with_reducible assumption) | assumption); obtain ⟨ad163, e163, hx163_0⟩ := Kd.at_int HR0.out x9_20 p163 q163; obtain rfl : ad161 = ad163 := (by injection e163); replace hx163_0 := (HB.out.cell (World.block_lt_of_cell? w _ hx163_0)).trans hx163_0; replace p163 := eq_true p163; replace q163 := eq_true q163) | (go_at_call 159; (with_reducible refine (spec_l06Cased.calls (rd l0 x9_20) true _ A37.out).mono ?_); rintro e w40 ⟨rfl, hb⟩; have n0_ := Aside0.mk (below_step (belowA) hb); clear HB; have HB := n0_; clear n0_; (try clear hb); (try clear hb2); (try clear hk); (try clear hi)))
                go_ret2
                exact ⟨by first | rfl | (simp [errW_none, errW_some] <;> rfl) | (simp [*, errW_none, errW_some] <;> rfl), belowA⟩
               replace c38 := Bool.eq_false_iff.mpr c38; subst c38
               have H1 : (if t162 = 7 then (some (x6_13,false)) else (if t162 = 8 then (some (x6_13,false)) else (some (x6_13,true)))) = some (r1, r2) := by rw [if_neg (show ¬ (false = true) by decide)] at H; exact H
               clear H; have H := H1; clear H1
               by_cases c41 : t162 = 7
               ·rw [if_pos c41] at H
                have c41b0 : (t162 == 7) = true := beq_iff_eq.mpr c41; have c41b1 : (t162 != 7) = false := bne_eq_false_iff_eq.mpr c41; clear c41; simp only [Option.some.injEq, Prod.mk.injEq] at H; obtain ⟨rfl, rfl⟩ := H
                have p161 : 0 ≤ (x9_20 : Int) := of_decide_eq_true (by first | (with_reducible assumption) | assumption)
                have q161 : x9_20 < (l0.length : Int) := of_decide_eq_true (by first | (with_reducible assumption) | assumption)
                obtain ⟨ad161, e161, hx161_0⟩ := Kd.at_int HR0.out x9_20 p161 q161; cases e161; replace hx161_0 := (HB.out.cell (World.block_lt_of_cell? w _ hx161_0)).trans hx161_0; replace p161 := eq_true p161; replace q161 := eq_true q161
                go_wp2_with (first | ((with_reducible refine gate_callee (f := 181) rfl ?_); refine goesL_ (some 87) rfl rfl Tryd.func181 (by kernel_rfl) rfl #[.int .i64 (rd l0 x9_20)] rfl (by (try simp only [List.map_toArray, List.map_cons, List.map_nil]); first | done | rfl) ?_; (with_reducible refine (spec_l01Cat.calls (rd l0 x9_20) t162 _ A33.out).mono ?_); rintro e w42 ⟨rfl, hb⟩; refine ⟨_, rfl, ?_⟩; have n0_ := Aside0.mk (below_step (belowA) hb); clear HB; have HB := n0_; clear n0_; (try clear hb); (try clear hb2); (try clear hk); (try clear hi); have p163 : 0 ≤ (x9_20 : Int) := of_decide_eq_true (by first | (with_reducible assumption) | assumption); have q163 : x9_20 < (l0.length : Int) := of_decide_eq_true (by first | (with_reducible assumption) | assumption); obtain ⟨ad163, e163, hx163_0⟩ := Kd.at_int HR0.out x9_20 p163 q163; obtain rfl : ad161 = ad163 := (by injection e163); replace hx163_0 := (HB.out.cell (World.block_lt_of_cell? w _ hx163_0)).trans hx163_0; replace p163 := eq_true p163; replace q163 := eq_true q163) | (go_at_call 159; (with_reducible refine (spec_l06Cased.calls (rd l0 x9_20) false _ A37.out).mono ?_); rintro e w43 ⟨rfl, hb⟩; have n0_ := Aside0.mk (below_step (belowA) hb); clear HB; have HB := n0_; clear n0_; (try clear hb); (try clear hb2); (try clear hk); (try clear hi)))
                go_ret2
                exact ⟨by first | rfl | (simp [errW_none, errW_some] <;> rfl) | (simp [*, errW_none, errW_some] <;> rfl), belowA⟩
               rw [if_neg c41] at H; have c41b0 : (t162 == 7) = false := beq_eq_false_iff_ne.mpr c41; have c41b1 : (t162 != 7) = true := bne_iff_ne.mpr c41
               by_cases c44 : t162 = 8
               ·rw [if_pos c44] at H
                have c44b0 : (t162 == 8) = true := beq_iff_eq.mpr c44; have c44b1 : (t162 != 8) = false := bne_eq_false_iff_eq.mpr c44; clear c44; simp only [Option.some.injEq, Prod.mk.injEq] at H; obtain ⟨rfl, rfl⟩ := H
                have p161 : 0 ≤ (x9_20 : Int) := of_decide_eq_true (by first | (with_reducible assumption) | assumption)
                have q161 : x9_20 < (l0.length : Int) := of_decide_eq_true (by first | (with_reducible assumption) | assumption)
                obtain ⟨ad161, e161, hx161_0⟩ := Kd.at_int HR0.out x9_20 p161 q161; cases e161; replace hx161_0 := (HB.out.cell (World.block_lt_of_cell? w _ hx161_0)).trans hx161_0; replace p161 := eq_true p161; replace q161 := eq_true q161
                go_wp2_with (first | ((with_reducible refine gate_callee (f := 181) rfl ?_); refine goesL_ (some 87) rfl rfl Tryd.func181 (by kernel_rfl) rfl #[.int .i64 (rd l0 x9_20)] rfl (by (try simp only [List.map_toArray, List.map_cons, List.map_nil]); first | done | rfl) ?_; (with_reducible refine (spec_l01Cat.calls (rd l0 x9_20) t162 _ A33.out).mono ?_); rintro e w45 ⟨rfl, hb⟩; refine ⟨_, rfl, ?_⟩; have n0_ := Aside0.mk (below_step (belowA) hb); clear HB; have HB := n0_; clear n0_; (try clear hb); (try clear hb2); (try clear hk); (try clear hi); have p163 : 0 ≤ (x9_20 : Int) := of_decide_eq_true (by first | (with_reducible assumption) | assumption); have q163 : x9_20 < (l0.length : Int) := of_decide_eq_true (by first | (with_reducible assumption) | assumption); obtain ⟨ad163, e163, hx163_0⟩ := Kd.at_int HR0.out x9_20 p163 q163; obtain rfl : ad161 = ad163 := (by injection e163); replace hx163_0 := (HB.out.cell (World.block_lt_of_cell? w _ hx163_0)).trans hx163_0; replace p163 := eq_true p163; replace q163 := eq_true q163) | (go_at_call 159; (with_reducible refine (spec_l06Cased.calls (rd l0 x9_20) false _ A37.out).mono ?_); rintro e w46 ⟨rfl, hb⟩; have n0_ := Aside0.mk (below_step (belowA) hb); clear HB; have HB := n0_; clear n0_; (try clear hb); (try clear hb2); (try clear hk); (try clear hi)))
                go_ret2
                exact ⟨by first | rfl | (simp [errW_none, errW_some] <;> rfl) | (simp [*, errW_none, errW_some] <;> rfl), belowA⟩
               rw [if_neg c44] at H; have c44b0 : (t162 == 8) = false := beq_eq_false_iff_ne.mpr c44; have c44b1 : (t162 != 8) = true := bne_iff_ne.mpr c44; simp only [Option.some.injEq, Prod.mk.injEq] at H; obtain ⟨rfl, rfl⟩ := H
               have p161 : 0 ≤ (x9_20 : Int) := of_decide_eq_true (by first | (with_reducible assumption) | assumption)
               have q161 : x9_20 < (l0.length : Int) := of_decide_eq_true (by first | (with_reducible assumption) | assumption)
               obtain ⟨ad161, e161, hx161_0⟩ := Kd.at_int HR0.out x9_20 p161 q161; cases e161; replace hx161_0 := (HB.out.cell (World.block_lt_of_cell? w _ hx161_0)).trans hx161_0; replace p161 := eq_true p161; replace q161 := eq_true q161
               go_wp2_with (first | ((with_reducible refine gate_callee (f := 181) rfl ?_); refine goesL_ (some 87) rfl rfl Tryd.func181 (by kernel_rfl) rfl #[.int .i64 (rd l0 x9_20)] rfl (by (try simp only [List.map_toArray, List.map_cons, List.map_nil]); first | done | rfl) ?_; (with_reducible refine (spec_l01Cat.calls (rd l0 x9_20) t162 _ A33.out).mono ?_); rintro e w47 ⟨rfl, hb⟩; refine ⟨_, rfl, ?_⟩; have n0_ := Aside0.mk (below_step (belowA) hb); clear HB; have HB := n0_; clear n0_; (try clear hb); (try clear hb2); (try clear hk); (try clear hi); have p163 : 0 ≤ (x9_20 : Int) := of_decide_eq_true (by first | (with_reducible assumption) | assumption); have q163 : x9_20 < (l0.length : Int) := of_decide_eq_true (by first | (with_reducible assumption) | assumption); obtain ⟨ad163, e163, hx163_0⟩ := Kd.at_int HR0.out x9_20 p163 q163; obtain rfl : ad161 = ad163 := (by injection e163); replace hx163_0 := (HB.out.cell (World.block_lt_of_cell? w _ hx163_0)).trans hx163_0; replace p163 := eq_true p163; replace q163 := eq_true q163) | (go_at_call 159; (with_reducible refine (spec_l06Cased.calls (rd l0 x9_20) false _ A37.out).mono ?_); rintro e w48 ⟨rfl, hb⟩; have n0_ := Aside0.mk (below_step (belowA) hb); clear HB; have HB := n0_; clear n0_; (try clear hb); (try clear hb2); (try clear hk); (try clear hi)))
               go_ret2
               exact ⟨by first | rfl | (simp [errW_none, errW_some] <;> rfl) | (simp [*, errW_none, errW_some] <;> rfl), belowA⟩
              rw [if_neg c36] at H; have c36b0 : (x6_13 == x6_8) = false := beq_eq_false_iff_ne.mpr c36; have c36b1 : (x6_13 != x6_8) = true := bne_iff_ne.mpr c36; simp only [Option.some.injEq, Prod.mk.injEq] at H; obtain ⟨rfl, rfl⟩ := H
              have p161 : 0 ≤ (x9_20 : Int) := of_decide_eq_true (by first | (with_reducible assumption) | assumption)
              have q161 : x9_20 < (l0.length : Int) := of_decide_eq_true (by first | (with_reducible assumption) | assumption)
              obtain ⟨ad161, e161, hx161_0⟩ := Kd.at_int HR0.out x9_20 p161 q161; cases e161; replace hx161_0 := (HB.out.cell (World.block_lt_of_cell? w _ hx161_0)).trans hx161_0; replace p161 := eq_true p161; replace q161 := eq_true q161
              go_wp2_with (first | ((with_reducible refine gate_callee (f := 181) rfl ?_); refine goesL_ (some 87) rfl rfl Tryd.func181 (by kernel_rfl) rfl #[.int .i64 (rd l0 x9_20)] rfl (by (try simp only [List.map_toArray, List.map_cons, List.map_nil]); first | done | rfl) ?_; (with_reducible refine (spec_l01Cat.calls (rd l0 x9_20) t162 _ A33.out).mono ?_); rintro e w49 ⟨rfl, hb⟩; refine ⟨_, rfl, ?_⟩; have n0_ := Aside0.mk (below_step (belowA) hb); clear HB; have HB := n0_; clear n0_; (try clear hb); (try clear hb2); (try clear hk); (try clear hi)))
              go_ret2
              exact ⟨by first | rfl | (simp [errW_none, errW_some] <;> rfl) | (simp [*, errW_none, errW_some] <;> rfl), belowA⟩
             rw [if_neg c32] at H
             exact absurd H (by simp)
            rw [if_neg c31] at H
            exact absurd H (by simp)
           replace c30 := Bool.eq_false_iff.mpr c30; subst c30
           have H1 : (some (x6_13,true)) = some (r1, r2) := by rw [if_neg (show ¬ (false = true) by decide)] at H; exact H
           clear H; have H := H1; clear H1; simp only [Option.some.injEq, Prod.mk.injEq] at H; obtain ⟨rfl, rfl⟩ := H
           go_wp2
           go_ret2
           exact ⟨by first | rfl | (simp [errW_none, errW_some] <;> rfl) | (simp [*, errW_none, errW_some] <;> rfl), belowA⟩

def W_spec_l08Closes.f (l : List Int) (i : Int) : Option (Int × Bool) := if 0 ≤ i ∧ i ≤ (l.length : Int) ∧ l.length ≤ 1000000000 then some ((((YtiabgmddnddeiaaDoorSen.closes l i.toNat).1 : Nat) : Int), (YtiabgmddnddeiaaDoorSen.closes l i.toNat).2) else none
theorem spec_l08Closes.cat (p : Int) : spec_l01Cat.f p = some (YtiabgmddnddeiaaDoorCas.kind p).1 := rfl
theorem spec_l08Closes.get {l : List Int} {i : Nat} (h : i < l.length) : rd l (i : Int) = l[i] := by simp [rd, List.getD, h]
theorem spec_l08Closes.s7 (l : List Int) (c b d : Nat) (x : Bool) (hd : d ≤ l.length) : ∀ k, spec_l08Closes.j7 (k + 2) l (c : Int) x (b : Int) (d : Int) = some ((c : Int), YtiabgmddnddeiaaDoorSen.fin l x c b d) := by
  intro k
  have key : ∀ y : Bool, y = (x && decide (d < l.length)) → spec_l08Closes.j8 (k + 1) l (c : Int) (b : Int) (d : Int) y = some ((c : Int), YtiabgmddnddeiaaDoorSen.fin l x c b d) := by
    intro y hy
    simp only [spec_l08Closes.j8]
    unfold YtiabgmddnddeiaaDoorSen.fin
    rw [← hy]
    cases y with
    | false => rw [if_neg (by decide)]; rfl
    | true =>
      have hdl : d < l.length := by
        cases x with
        | false => cases hy
        | true => exact of_decide_eq_true hy.symm
      have hg : l.getD d 0 = l[d] := by simp [List.getD, hdl]
      rw [if_pos rfl, if_pos (by omega), if_pos (by omega), spec_l08Closes.get hdl, spec_l08Closes.cat, hg]
      simp only [Option.bind_some]
      generalize hK : (YtiabgmddnddeiaaDoorCas.kind l[d]).1 = K
      by_cases k5 : K = 5
      · rw [if_pos k5, k5]; rfl
      rw [if_neg k5, show (K == 5) = false by simpa using k5]
      by_cases cb : c = b
      · rw [if_pos (by omega), decide_eq_true cb]
        unfold spec_l06Cased.f
        rw [spec_l08Closes.cat, hK]
        simp only [Option.bind_some]
        by_cases k4 : K = 4
        · rw [if_pos k4, k4]; rfl
        rw [if_neg k4, if_neg k5]
        simp only [Option.bind_some]
        by_cases k6 : K = 6
        · rw [k6]; rfl
        rw [show (K == 6) = false by simpa using k6, if_neg (by decide)]
        by_cases k7 : K = 7
        · rw [if_pos k7, k7]; rfl
        rw [if_neg k7, decide_eq_false (show ¬ (4 ≤ K ∧ K ≤ 7) by omega)]
        by_cases k8 : K = 8
        · rw [if_pos k8, k8]; rfl
        · rw [if_neg k8, show (K == 8) = false by simpa using k8]; rfl
      · rw [if_neg (by omega), decide_eq_false cb]; rfl
  show spec_l08Closes.j7 (k + 1 + 1) l (c : Int) x (b : Int) (d : Int) = _
  simp only [spec_l08Closes.j7]
  cases x with
  | true => rw [if_pos rfl]; exact key _ (by rw [Bool.true_and]; exact decide_eq_decide.2 (by omega))
  | false => rw [if_neg (by decide)]; exact key _ rfl
theorem spec_l08Closes.s3 (l : List Int) (hl : l.length ≤ 1000000000) (c b : Nat) (x : Bool) (n : Nat) : ∀ i : Nat, l.length - i = n → i ≤ l.length → ∃ k, spec_l08Closes.l3 k l (c : Int) x (b : Int) (i : Int) = some ((c : Int), YtiabgmddnddeiaaDoorSen.fin l x c b (YtiabgmddnddeiaaDoorSen.skip YtiabgmddnddeiaaDoorSen.mk l i)) := by
  induction n with
  | zero =>
    intro i h0 h1
    refine ⟨3, ?_⟩
    simp only [spec_l08Closes.l3]
    rw [if_neg (by omega), YtiabgmddnddeiaaDoorSen.skip_end (by omega)]
    exact spec_l08Closes.s7 l c b i x h1 0
  | succ n ih =>
    intro i h0 h1
    have hlt : i < l.length := by omega
    have hw : wrap64 ((i : Int) + 1) = ((i + 1 : Nat) : Int) := by unfold wrap64; omega
    cases e : YtiabgmddnddeiaaDoorSen.mk l[i] with
    | true =>
      obtain ⟨k, hk⟩ := ih (i + 1) (by omega) (by omega)
      refine ⟨k + 1, ?_⟩
      simp only [spec_l08Closes.l3]
      rw [if_pos (by omega), if_pos (by omega), spec_l08Closes.get hlt, spec_l08Closes.cat, YtiabgmddnddeiaaDoorSen.skip_yes hlt e]
      simp only [Option.bind_some]
      rw [if_pos (by simpa [YtiabgmddnddeiaaDoorSen.mk] using e), hw]
      exact hk
    | false =>
      refine ⟨3, ?_⟩
      simp only [spec_l08Closes.l3]
      rw [if_pos (by omega), if_pos (by omega), spec_l08Closes.get hlt, spec_l08Closes.cat, YtiabgmddnddeiaaDoorSen.skip_no hlt e]
      simp only [Option.bind_some]
      rw [if_neg (by simpa [YtiabgmddnddeiaaDoorSen.mk] using e)]
      exact spec_l08Closes.s7 l c b i x h1 0
theorem spec_l08Closes.s2 (l : List Int) (hl : l.length ≤ 1000000000) (b : Nat) (x : Bool) (n : Nat) : ∀ i : Nat, l.length - i = n → i ≤ l.length → ∃ k, spec_l08Closes.l2 k l (i : Int) x (b : Int) = some ((((YtiabgmddnddeiaaDoorSen.skip YtiabgmddnddeiaaDoorSen.sp l i : Nat)) : Int), YtiabgmddnddeiaaDoorSen.fin l x (YtiabgmddnddeiaaDoorSen.skip YtiabgmddnddeiaaDoorSen.sp l i) b (YtiabgmddnddeiaaDoorSen.skip YtiabgmddnddeiaaDoorSen.mk l (YtiabgmddnddeiaaDoorSen.skip YtiabgmddnddeiaaDoorSen.sp l i))) := by
  induction n with
  | zero =>
    intro i h0 h1
    obtain ⟨k, hk⟩ := spec_l08Closes.s3 l hl i b x _ i rfl h1
    refine ⟨k + 2, ?_⟩
    simp only [spec_l08Closes.l2, spec_l08Closes.j5]
    rw [if_neg (by omega), YtiabgmddnddeiaaDoorSen.skip_end (f := YtiabgmddnddeiaaDoorSen.sp) (by omega)]
    exact hk
  | succ n ih =>
    intro i h0 h1
    have hlt : i < l.length := by omega
    have hw : wrap64 ((i : Int) + 1) = ((i + 1 : Nat) : Int) := by unfold wrap64; omega
    cases e : YtiabgmddnddeiaaDoorSen.sp l[i] with
    | true =>
      obtain ⟨k, hk⟩ := ih (i + 1) (by omega) (by omega)
      refine ⟨k + 1, ?_⟩
      simp only [spec_l08Closes.l2]
      rw [if_pos (by omega), if_pos (by omega), spec_l08Closes.get hlt, spec_l08Closes.cat, YtiabgmddnddeiaaDoorSen.skip_yes hlt e]
      simp only [Option.bind_some]
      rw [if_pos (by simpa [YtiabgmddnddeiaaDoorSen.sp] using e), hw]
      exact hk
    | false =>
      obtain ⟨k, hk⟩ := spec_l08Closes.s3 l hl i b x _ i rfl h1
      refine ⟨k + 2, ?_⟩
      simp only [spec_l08Closes.l2, spec_l08Closes.j5]
      rw [if_pos (by omega), if_pos (by omega), spec_l08Closes.get hlt, spec_l08Closes.cat, YtiabgmddnddeiaaDoorSen.skip_no hlt e]
      simp only [Option.bind_some]
      rw [if_neg (by simpa [YtiabgmddnddeiaaDoorSen.sp] using e)]
      exact hk
def spec_l08Closes.R1 (l : List Int) (x : Bool) (b : Nat) : Int × Bool := ((((YtiabgmddnddeiaaDoorSen.skip YtiabgmddnddeiaaDoorSen.sp l b : Nat)) : Int), YtiabgmddnddeiaaDoorSen.fin l x (YtiabgmddnddeiaaDoorSen.skip YtiabgmddnddeiaaDoorSen.sp l b) b (YtiabgmddnddeiaaDoorSen.skip YtiabgmddnddeiaaDoorSen.mk l (YtiabgmddnddeiaaDoorSen.skip YtiabgmddnddeiaaDoorSen.sp l b)))
theorem spec_l08Closes.s1 (l : List Int) (hl : l.length ≤ 1000000000) (x : Bool) (n : Nat) : ∀ i : Nat, l.length - i = n → i ≤ l.length → ∃ k, spec_l08Closes.l1 k l (i : Int) x = some (spec_l08Closes.R1 l x (YtiabgmddnddeiaaDoorSen.skip YtiabgmddnddeiaaDoorSen.cl l i)) := by
  induction n with
  | zero =>
    intro i h0 h1
    obtain ⟨k, hk⟩ := spec_l08Closes.s2 l hl i x _ i rfl h1
    refine ⟨k + 2, ?_⟩
    simp only [spec_l08Closes.l1, spec_l08Closes.j3]
    rw [if_neg (by omega), YtiabgmddnddeiaaDoorSen.skip_end (f := YtiabgmddnddeiaaDoorSen.cl) (by omega)]
    exact hk
  | succ n ih =>
    intro i h0 h1
    have hlt : i < l.length := by omega
    have hw : wrap64 ((i : Int) + 1) = ((i + 1 : Nat) : Int) := by unfold wrap64; omega
    cases e : YtiabgmddnddeiaaDoorSen.cl l[i] with
    | true =>
      obtain ⟨k, hk⟩ := ih (i + 1) (by omega) (by omega)
      refine ⟨k + 1, ?_⟩
      simp only [spec_l08Closes.l1]
      rw [if_pos (by omega), if_pos (by omega), spec_l08Closes.get hlt, W_spec_l08In.cl, e, YtiabgmddnddeiaaDoorSen.skip_yes hlt e]
      simp only [Option.bind_some]
      rw [if_pos trivial, hw]
      exact hk
    | false =>
      obtain ⟨k, hk⟩ := spec_l08Closes.s2 l hl i x _ i rfl h1
      refine ⟨k + 2, ?_⟩
      simp only [spec_l08Closes.l1, spec_l08Closes.j3]
      rw [if_pos (by omega), if_pos (by omega), spec_l08Closes.get hlt, W_spec_l08In.cl, e, YtiabgmddnddeiaaDoorSen.skip_no hlt e]
      simp only [Option.bind_some]
      rw [if_neg (by decide)]
      exact hk
theorem spec_l08Closes.s0 (l : List Int) (hl : l.length ≤ 1000000000) (n : Nat) : ∀ (i : Nat) (x : Bool), l.length - i = n → i ≤ l.length → ∃ k, spec_l08Closes.l0 k l (i : Int) x = some (spec_l08Closes.R1 l (x && YtiabgmddnddeiaaDoorSen.dots l i) (YtiabgmddnddeiaaDoorSen.skip YtiabgmddnddeiaaDoorSen.cl l (YtiabgmddnddeiaaDoorSen.skip YtiabgmddnddeiaaDoorSen.st l i))) := by
  induction n with
  | zero =>
    intro i x h0 h1
    obtain ⟨k, hk⟩ := spec_l08Closes.s1 l hl x _ i rfl h1
    refine ⟨k + 2, ?_⟩
    simp only [spec_l08Closes.l0, spec_l08Closes.j1]
    rw [if_neg (by omega), YtiabgmddnddeiaaDoorSen.skip_end (f := YtiabgmddnddeiaaDoorSen.st) (by omega), YtiabgmddnddeiaaDoorSen.dots_end (by omega), Bool.and_true]
    exact hk
  | succ n ih =>
    intro i x h0 h1
    have hlt : i < l.length := by omega
    have hw : wrap64 ((i : Int) + 1) = ((i + 1 : Nat) : Int) := by unfold wrap64; omega
    cases e : YtiabgmddnddeiaaDoorSen.st l[i] with
    | true =>
      obtain ⟨k, hk⟩ := ih (i + 1) (x && l[i] == 46) (by omega) (by omega)
      refine ⟨k + 1, ?_⟩
      simp only [spec_l08Closes.l0]
      rw [if_pos (by omega), if_pos (by omega), spec_l08Closes.get hlt, W_spec_l08In.st, e, YtiabgmddnddeiaaDoorSen.skip_yes hlt e, YtiabgmddnddeiaaDoorSen.dots_yes hlt e, ← Bool.and_assoc]
      simp only [Option.bind_some]
      rw [if_pos trivial, hw]
      cases x with
      | true => rw [if_pos rfl]; rw [Bool.true_and] at hk; exact hk
      | false => rw [if_neg (by decide)]; exact hk
    | false =>
      obtain ⟨k, hk⟩ := spec_l08Closes.s1 l hl x _ i rfl h1
      refine ⟨k + 2, ?_⟩
      simp only [spec_l08Closes.l0, spec_l08Closes.j1]
      rw [if_pos (by omega), if_pos (by omega), spec_l08Closes.get hlt, W_spec_l08In.st, e, YtiabgmddnddeiaaDoorSen.skip_no hlt e, YtiabgmddnddeiaaDoorSen.dots_no hlt e, Bool.and_true]
      simp only [Option.bind_some]
      rw [if_neg (by decide)]
      exact hk
theorem W_spec_l08Closes.to {l : List Int} {i : Int} {r : Int × Bool} (h : W_spec_l08Closes.f l i = some r) : ∃ k, spec_l08Closes.f k l i = some r := by
  unfold W_spec_l08Closes.f at h
  split at h
  · rename_i hp
    obtain ⟨n, rfl⟩ : ∃ n : Nat, i = n := ⟨i.toNat, by omega⟩
    obtain ⟨k, hk⟩ := spec_l08Closes.s0 l hp.2.2 _ n true rfl (by omega)
    refine ⟨k, ?_⟩
    rw [← h, Int.toNat_natCast]
    rw [Bool.true_and] at hk
    exact hk
  · cases h
theorem W_spec_l08Closes.calls (A0 : Option Addr) (c0 : Nat) (l0 : List Int) (a1 : Int) (r1 : Int) (r2 : Bool) (w : World) (hr0 : Kd.C (Kd.int .i64) w A0 l0.length l0) (hc0 : l0.length ≤ c0) (h : W_spec_l08Closes.f l0 a1 = some (r1, r2)) :
    Calls Tryd.prog 111 #[.slice A0 l0.length c0, .int .i64 a1] w fun e w' => e = .returned (.tuple #[.int .i64 r1, .bool r2]) ∧ Below w.heap.size w w' := by
  obtain ⟨k, hk⟩ := W_spec_l08Closes.to h
  exact spec_l08Closes.calls k A0 c0 l0 a1 r1 r2 w hr0 hc0 hk

end Go.Proofs.YtiabgmddnddeiaaDoor.QFnExactSentenceCuts
