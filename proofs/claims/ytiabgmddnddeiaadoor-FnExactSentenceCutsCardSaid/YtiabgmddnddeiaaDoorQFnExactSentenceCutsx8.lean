/- The law FnExactSentenceCuts: at every input the call answers true (this text: contracts on its way, by a program of this session's; no condition of ours). -/
import Derived.Test.YtiabgmddnddeiaaDoorQFnExactSentenceCutsx0
import Derived.Test.YtiabgmddnddeiaaDoorQFnExactSentenceCutsx1
import Derived.Test.YtiabgmddnddeiaaDoorQFnExactSentenceCutsx6
import Derived.Test.YtiabgmddnddeiaaDoorQFnExactSentenceCutsx7
namespace Go.Proofs.YtiabgmddnddeiaaDoor.QFnExactSentenceCuts
open Go.RowKit Go.Proofs.YtiabgmddnddeiaaDoorW.PrintWords Go.Proofs.YtiabgmddnddeiaaDoorW.PrintLast Go.Proofs.YtiabgmddnddeiaaDoorW.PrintMore
attribute [local go_sem] max2_int min2_int max_two min_two max_three min_three max_four min_four   -- for this text's walks alone
set_option linter.unusedVariables false
set_option linter.unusedSimpArgs false

/-! ### spec_l07Char: function 112 -/
mutual
def spec_l07Char.j0 : Nat → List Int → Int → Int → Int → Bool → Option (Bool)
 | 0, _, _, _, _, _ => none
 | k + 1, x0, x1, x5, x6, x17 => if x17 = true then (some false) else ((spec_l07Control.f x5).bind fun t176 => (if t176 = true then (spec_l07Char.j1 k x0 x1 x5 x6 true) else ((spec_l07Control.f x6).bind fun t177 => (spec_l07Char.j1 k x0 x1 x5 x6 t177))))
def spec_l07Char.j1 : Nat → List Int → Int → Int → Int → Bool → Option (Bool)
 | 0, _, _, _, _, _ => none
 | k + 1, x0, x1, x5, x6, x24 => if x24 = true then (some true) else ((W_spec_l07Syllable.f x5 x6).bind fun t178 => (if t178 = true then (spec_l07Char.j2 k x0 x1 x5 x6 true) else ((spec_l07Mark.f x6).bind fun t179 => (spec_l07Char.j2 k x0 x1 x5 x6 t179))))
def spec_l07Char.j2 : Nat → List Int → Int → Int → Int → Bool → Option (Bool)
 | 0, _, _, _, _, _ => none
 | k + 1, x0, x1, x5, x6, x31 => if x31 = true then (some false) else (if x6 ≥ 1536 then (if x6 ≤ 1567 then ((W_spec_l07Bound.f x0 (wrap64 (x1 - 1))).bind fun t180 => (spec_l07Char.j3 k x0 x1 x5 x6 t180)) else (spec_l07Char.j3 k x0 x1 x5 x6 false)) else (spec_l07Char.j3 k x0 x1 x5 x6 false))
def spec_l07Char.j3 : Nat → List Int → Int → Int → Int → Bool → Option (Bool)
 | 0, _, _, _, _, _ => none
 | k + 1, x0, x1, x5, x6, x39 => if x39 = true then (some false) else (if x5 = 7936 then ((spec_l07Picture.f x6).bind fun t181 => (spec_l07Char.j4 k x0 x1 x5 x6 t181)) else (spec_l07Char.j4 k x0 x1 x5 x6 false))
def spec_l07Char.j4 : Nat → List Int → Int → Int → Int → Bool → Option (Bool)
 | 0, _, _, _, _, _ => none
 | k + 1, x0, x1, x5, x6, x52 => if x52 = true then (spec_l07Char.l0 k x0 (wrap64 (x1 - 2))) else ((spec_l07Flag.f x5).bind fun t188 => (if t188 = true then ((spec_l07Flag.f x6).bind fun t189 => (if t189 = true then ((W_spec_l07Flags.f x0 (wrap64 (x1 - 1))).bind fun t190 => (some ((Int.tmod t190 2) == 0))) else (some true))) else (some true)))
def spec_l07Char.l0 : Nat → List Int → Int → Option (Bool)
 | 0, _, _ => none
 | k + 1, x0, x7 => if x7 ≥ 0 then (if 0 ≤ x7 then (if x7 < (x0.length : Int) then ((spec_l07Mark.f (rd x0 x7)).bind fun t183 => (if t183 = true then (spec_l07Char.l0 k x0 (wrap64 (x7 - 1))) else (if x7 < 0 then (some true) else ((spec_l07Picture.f (rd x0 x7)).bind fun t185 => (some (!t185)))))) else (none)) else (none)) else (if x7 < 0 then (some true) else (if 0 ≤ x7 then (if x7 < (x0.length : Int) then ((spec_l07Picture.f (rd x0 x7)).bind fun t187 => (some (!t187))) else (none)) else (none)))
end
def spec_l07Char.f (k : Nat) (l0 : List Int) (a1 : Int) : Option (Bool) := if 0 ≤ (wrap64 (a1 - 1)) then (if (wrap64 (a1 - 1)) < (l0.length : Int) then (if 0 ≤ a1 then (if a1 < (l0.length : Int) then (if (rd l0 (wrap64 (a1 - 1))) = 13 then (spec_l07Char.j0 k l0 a1 (rd l0 (wrap64 (a1 - 1))) (rd l0 a1) ((rd l0 a1) == 10)) else (spec_l07Char.j0 k l0 a1 (rd l0 (wrap64 (a1 - 1))) (rd l0 a1) false)) else (none)) else (none)) else (none)) else (none)
theorem spec_l07Char.mono_l : ∀ k, (∀ y0 y1 y2 y3 y4, LeO (spec_l07Char.j0 k y0 y1 y2 y3 y4) (spec_l07Char.j0 (k + 1) y0 y1 y2 y3 y4)) ∧ (∀ y0 y1 y2 y3 y4, LeO (spec_l07Char.j1 k y0 y1 y2 y3 y4) (spec_l07Char.j1 (k + 1) y0 y1 y2 y3 y4)) ∧ (∀ y0 y1 y2 y3 y4, LeO (spec_l07Char.j2 k y0 y1 y2 y3 y4) (spec_l07Char.j2 (k + 1) y0 y1 y2 y3 y4)) ∧ (∀ y0 y1 y2 y3 y4, LeO (spec_l07Char.j3 k y0 y1 y2 y3 y4) (spec_l07Char.j3 (k + 1) y0 y1 y2 y3 y4)) ∧ (∀ y0 y1 y2 y3 y4, LeO (spec_l07Char.j4 k y0 y1 y2 y3 y4) (spec_l07Char.j4 (k + 1) y0 y1 y2 y3 y4)) ∧ (∀ y0 y1, LeO (spec_l07Char.l0 k y0 y1) (spec_l07Char.l0 (k + 1) y0 y1))
 | 0 => ⟨fun _ _ _ _ _ r h => by simp [spec_l07Char.j0] at h, fun _ _ _ _ _ r h => by simp [spec_l07Char.j1] at h, fun _ _ _ _ _ r h => by simp [spec_l07Char.j2] at h, fun _ _ _ _ _ r h => by simp [spec_l07Char.j3] at h, fun _ _ _ _ _ r h => by simp [spec_l07Char.j4] at h, fun _ _ r h => by simp [spec_l07Char.l0] at h⟩
 | k + 1 => by
  obtain ⟨ih0, ih1, ih2, ih3, ih4, ih5⟩ := spec_l07Char.mono_l k; refine ⟨?_, ?_, ?_, ?_, ?_, ?_⟩
  ·intro y0 y1 y2 y3 y4
   unfold spec_l07Char.j0
   repeat' first
   | (with_reducible exact ih0 _ _ _ _ _)
   | (with_reducible exact ih1 _ _ _ _ _)
   | (with_reducible exact ih2 _ _ _ _ _)
   | (with_reducible exact ih3 _ _ _ _ _)
   | (with_reducible exact ih4 _ _ _ _ _)
   | (with_reducible exact ih5 _ _)
   | (with_reducible exact LeO.refl _)
   | (with_reducible exact LeO.none _)
   | (with_reducible refine LeO.ite ?_ ?_)
   | (with_reducible refine LeO.bind ?_ (fun _ => ?_))
   | exact ih0 _ _ _ _ _
   | exact ih1 _ _ _ _ _
   | exact ih2 _ _ _ _ _
   | exact ih3 _ _ _ _ _
   | exact ih4 _ _ _ _ _
   | exact ih5 _ _
   | exact LeO.none _
   | refine LeO.ite ?_ ?_
   | refine LeO.bind ?_ (fun _ => ?_)
  ·intro y0 y1 y2 y3 y4
   unfold spec_l07Char.j1
   repeat' first
   | (with_reducible exact ih0 _ _ _ _ _)
   | (with_reducible exact ih1 _ _ _ _ _)
   | (with_reducible exact ih2 _ _ _ _ _)
   | (with_reducible exact ih3 _ _ _ _ _)
   | (with_reducible exact ih4 _ _ _ _ _)
   | (with_reducible exact ih5 _ _)
   | (with_reducible exact LeO.refl _)
   | (with_reducible exact LeO.none _)
   | (with_reducible refine LeO.ite ?_ ?_)
   | (with_reducible refine LeO.bind ?_ (fun _ => ?_))
   | exact ih0 _ _ _ _ _
   | exact ih1 _ _ _ _ _
   | exact ih2 _ _ _ _ _
   | exact ih3 _ _ _ _ _
   | exact ih4 _ _ _ _ _
   | exact ih5 _ _
   | exact LeO.none _
   | refine LeO.ite ?_ ?_
   | refine LeO.bind ?_ (fun _ => ?_)
  ·intro y0 y1 y2 y3 y4
   unfold spec_l07Char.j2
   repeat' first
   | (with_reducible exact ih0 _ _ _ _ _)
   | (with_reducible exact ih1 _ _ _ _ _)
   | (with_reducible exact ih2 _ _ _ _ _)
   | (with_reducible exact ih3 _ _ _ _ _)
   | (with_reducible exact ih4 _ _ _ _ _)
   | (with_reducible exact ih5 _ _)
   | (with_reducible exact LeO.refl _)
   | (with_reducible exact LeO.none _)
   | (with_reducible refine LeO.ite ?_ ?_)
   | (with_reducible refine LeO.bind ?_ (fun _ => ?_))
   | exact ih0 _ _ _ _ _
   | exact ih1 _ _ _ _ _
   | exact ih2 _ _ _ _ _
   | exact ih3 _ _ _ _ _
   | exact ih4 _ _ _ _ _
   | exact ih5 _ _
   | exact LeO.none _
   | refine LeO.ite ?_ ?_
   | refine LeO.bind ?_ (fun _ => ?_)
  ·intro y0 y1 y2 y3 y4
   unfold spec_l07Char.j3
   repeat' first
   | (with_reducible exact ih0 _ _ _ _ _)
   | (with_reducible exact ih1 _ _ _ _ _)
   | (with_reducible exact ih2 _ _ _ _ _)
   | (with_reducible exact ih3 _ _ _ _ _)
   | (with_reducible exact ih4 _ _ _ _ _)
   | (with_reducible exact ih5 _ _)
   | (with_reducible exact LeO.refl _)
   | (with_reducible exact LeO.none _)
   | (with_reducible refine LeO.ite ?_ ?_)
   | (with_reducible refine LeO.bind ?_ (fun _ => ?_))
   | exact ih0 _ _ _ _ _
   | exact ih1 _ _ _ _ _
   | exact ih2 _ _ _ _ _
   | exact ih3 _ _ _ _ _
   | exact ih4 _ _ _ _ _
   | exact ih5 _ _
   | exact LeO.none _
   | refine LeO.ite ?_ ?_
   | refine LeO.bind ?_ (fun _ => ?_)
  ·intro y0 y1 y2 y3 y4
   unfold spec_l07Char.j4
   repeat' first
   | (with_reducible exact ih0 _ _ _ _ _)
   | (with_reducible exact ih1 _ _ _ _ _)
   | (with_reducible exact ih2 _ _ _ _ _)
   | (with_reducible exact ih3 _ _ _ _ _)
   | (with_reducible exact ih4 _ _ _ _ _)
   | (with_reducible exact ih5 _ _)
   | (with_reducible exact LeO.refl _)
   | (with_reducible exact LeO.none _)
   | (with_reducible refine LeO.ite ?_ ?_)
   | (with_reducible refine LeO.bind ?_ (fun _ => ?_))
   | exact ih0 _ _ _ _ _
   | exact ih1 _ _ _ _ _
   | exact ih2 _ _ _ _ _
   | exact ih3 _ _ _ _ _
   | exact ih4 _ _ _ _ _
   | exact ih5 _ _
   | exact LeO.none _
   | refine LeO.ite ?_ ?_
   | refine LeO.bind ?_ (fun _ => ?_)
  intro y0 y1
  unfold spec_l07Char.l0
  repeat' first
  | (with_reducible exact ih0 _ _ _ _ _)
  | (with_reducible exact ih1 _ _ _ _ _)
  | (with_reducible exact ih2 _ _ _ _ _)
  | (with_reducible exact ih3 _ _ _ _ _)
  | (with_reducible exact ih4 _ _ _ _ _)
  | (with_reducible exact ih5 _ _)
  | (with_reducible exact LeO.refl _)
  | (with_reducible exact LeO.none _)
  | (with_reducible refine LeO.ite ?_ ?_)
  | (with_reducible refine LeO.bind ?_ (fun _ => ?_))
  | exact ih0 _ _ _ _ _
  | exact ih1 _ _ _ _ _
  | exact ih2 _ _ _ _ _
  | exact ih3 _ _ _ _ _
  | exact ih4 _ _ _ _ _
  | exact ih5 _ _
  | exact LeO.none _
  | refine LeO.ite ?_ ?_
  | refine LeO.bind ?_ (fun _ => ?_)
theorem spec_l07Char.mono : ∀ a0 a1 k, LeO (spec_l07Char.f k a0 a1) (spec_l07Char.f (k + 1) a0 a1) := by
 intro a0 a1 k
 obtain ⟨ih0, ih1, ih2, ih3, ih4, ih5⟩ := spec_l07Char.mono_l k
 unfold spec_l07Char.f
 repeat' first
   | (with_reducible exact ih0 _ _ _ _ _)
   | (with_reducible exact ih1 _ _ _ _ _)
   | (with_reducible exact ih2 _ _ _ _ _)
   | (with_reducible exact ih3 _ _ _ _ _)
   | (with_reducible exact ih4 _ _ _ _ _)
   | (with_reducible exact ih5 _ _)
   | (with_reducible exact LeO.refl _)
   | (with_reducible exact LeO.none _)
   | (with_reducible refine LeO.ite ?_ ?_)
   | (with_reducible refine LeO.bind ?_ (fun _ => ?_))
   | exact ih0 _ _ _ _ _
   | exact ih1 _ _ _ _ _
   | exact ih2 _ _ _ _ _
   | exact ih3 _ _ _ _ _
   | exact ih4 _ _ _ _ _
   | exact ih5 _ _
   | exact LeO.none _
   | refine LeO.ite ?_ ?_
   | refine LeO.bind ?_ (fun _ => ?_)
set_option maxHeartbeats 8000000 in
set_option maxRecDepth 100000 in
theorem spec_l07Char.calls (k : Nat) (A0 : Option Addr) (c0 : Nat) (l0 : List Int) (a1 : Int) (r : Bool) (w : World) (hr0 : Kd.C (Kd.int .i64) w A0 l0.length l0) (hc0 : l0.length ≤ c0) (h : spec_l07Char.f k l0 a1 = some r) :
  Calls Tryd.prog 112 #[.slice A0 l0.length c0, .int .i64 a1] w fun e w' => e = .returned (.bool r) ∧ Below w.heap.size w w' := by
 have HR0 := Aside0.mk hr0
 have HC0 := Aside0.mk hc0
 clear hr0 hc0
 have HB := Aside0.mk (Below.refl w.heap.size w)
 have H : (if 0 ≤ (wrap64 (a1 - 1)) then (if (wrap64 (a1 - 1)) < (l0.length : Int) then (if 0 ≤ a1 then (if a1 < (l0.length : Int) then (if (rd l0 (wrap64 (a1 - 1))) = 13 then (spec_l07Char.j0 k l0 a1 (rd l0 (wrap64 (a1 - 1))) (rd l0 a1) ((rd l0 a1) == 10)) else (spec_l07Char.j0 k l0 a1 (rd l0 (wrap64 (a1 - 1))) (rd l0 a1) false)) else (none)) else (none)) else (none)) else (none)) = some r := h
 clear h
 obtain ⟨ji3, hji3⟩ : ∃ j_ : Int, (wrap64 (a1 - 1)) = j_ := ⟨_, rfl⟩
 replace H : (if 0 ≤ (ji3) then (if (ji3) < (l0.length : Int) then (if 0 ≤ a1 then (if a1 < (l0.length : Int) then (if (rd l0 (ji3)) = 13 then (spec_l07Char.j0 k l0 a1 (rd l0 (ji3)) (rd l0 a1) ((rd l0 a1) == 10)) else (spec_l07Char.j0 k l0 a1 (rd l0 (ji3)) (rd l0 a1) false)) else (none)) else (none)) else (none)) else (none)) = some r := by first | (rw [hji3] at H; exact H) | (simp only [hji3] at H ⊢; exact H)
 have hji3w : (IntKind.i64.wrap (a1 - 1)) = ji3 := (i64_w _).trans hji3
 by_cases c4 : 0 ≤ (ji3)
 ·rw [if_pos c4] at H
  have c4b0 : decide (0 ≤ (ji3)) = true := decide_eq_true c4; clear c4
  by_cases c5 : (ji3) < (l0.length : Int)
  ·rw [if_pos c5] at H
   have c5b0 : decide ((ji3) < (l0.length : Int)) = true := decide_eq_true c5; clear c5
   by_cases c6 : 0 ≤ a1
   ·rw [if_pos c6] at H
    have c6b0 : decide (0 ≤ a1) = true := decide_eq_true c6; clear c6
    by_cases c7 : a1 < (l0.length : Int)
    ·rw [if_pos c7] at H
     have c7b0 : decide (a1 < (l0.length : Int)) = true := decide_eq_true c7; clear c7; have HC8 := Aside0.mk H; clear H
     have p174 : 0 ≤ ((ji3) : Int) := of_decide_eq_true (by first | (with_reducible assumption) | assumption)
     have q174 : (ji3) < (l0.length : Int) := of_decide_eq_true (by first | (with_reducible assumption) | assumption)
     obtain ⟨ad174, e174, hx174_0⟩ := Kd.at_int HR0.out (ji3) p174 q174; cases e174; replace p174 := eq_true p174; replace q174 := eq_true q174
     have p175 : 0 ≤ (a1 : Int) := of_decide_eq_true (by first | (with_reducible assumption) | assumption)
     have q175 : a1 < (l0.length : Int) := of_decide_eq_true (by first | (with_reducible assumption) | assumption)
     obtain ⟨ad175, e175, hx175_0⟩ := Kd.at_int HR0.out a1 p175 q175
     obtain rfl : ad174 = ad175 := (by injection e175)
     replace p175 := eq_true p175; replace q175 := eq_true q175
     go_enter Tryd.func112, Tryd.ntmps112
     go_upto_region 3 with (fail)
     go_cut [17] (fun v17 wc => ∃ (kq : Nat) (x17_7 : Bool), v17 = .bool x17_7 ∧ Aside0 (spec_l07Char.j0 kq l0 a1 (rd l0 (ji3)) (rd l0 a1) x17_7 = some r) ∧ Aside0 (kq ≤ k) ∧ Aside0 (Below w.heap.size w wc))
     case first =>
      have H := HC8.out; clear HC8
      by_cases c9 : (rd l0 (ji3)) = 13
      ·rw [if_pos c9] at H
       have c9b0 : ((rd l0 (ji3)) == 13) = true := beq_iff_eq.mpr c9; have c9b1 : ((rd l0 (ji3)) != 13) = false := bne_eq_false_iff_eq.mpr c9; clear c9
       (first | rw [c9b0] | (simp only [i64_w, i32_w]; rw [c9b0]) | skip)
       have H' := Aside0.mk H; clear H
       go_wp2
       go_meet
       case rel => exact ⟨_, (((rd l0 a1) == 10)), (by first | rfl | (simp; done) | (simp [*]; done)), H', ⟨by first | omega | exact Nat.le_refl _⟩, ⟨belowA⟩⟩
      rw [if_neg c9] at H; have c9b0 : ((rd l0 (ji3)) == 13) = false := beq_eq_false_iff_ne.mpr c9; have c9b1 : ((rd l0 (ji3)) != 13) = true := bne_iff_ne.mpr c9
      (first | rw [c9b0] | (simp only [i64_w, i32_w]; rw [c9b0]) | skip)
      have H' := Aside0.mk H; clear H
      go_wp2
      go_meet
      case rel => exact ⟨_, (false), (by first | rfl | (simp; done) | (simp [*]; done)), H', ⟨by first | omega | exact Nat.le_refl _⟩, ⟨belowA⟩⟩
     case rest =>
      clear HC8
      try clear c1; try clear p1; try clear q1; try clear hx1; try clear p2; try clear c4; try clear c4b0; try clear c5; try clear c5b0; try clear c6; try clear c6b0; try clear p6; try clear c7; try clear c7b0; try clear c9; try clear c9b0; try clear c9b1; try clear hx174_0; try clear hx175_0; try clear p174; try clear p175; try clear q174; try clear q175
      obtain ⟨kq, x17_7, rfl, HA, HJ7, HB⟩ := hcut
      cases kq with
      | zero => exact absurd HA.out (by simp [spec_l07Char.j0])
      | succ kj7 =>
       have H := HA.out; clear HA; simp only [spec_l07Char.j0] at H
       by_cases c10 : x17_7 = true
       ·subst c10
        have H1 : (some false) = some r := by rw [if_pos rfl] at H; exact H
        clear H; have H := H1; clear H1; obtain rfl := Option.some.inj H
        go_wp2
        go_ret
        exact ⟨by first | rfl | (simp [errW_none, errW_some] <;> rfl) | (simp only [← hji3]; first | rfl | (simp [errW_none, errW_some] <;> rfl)) | (simp [*, errW_none, errW_some] <;> rfl), belowA⟩
       replace c10 := Bool.eq_false_iff.mpr c10; subst c10
       have H1 : ((spec_l07Control.f (rd l0 (ji3))).bind fun t176 => (if t176 = true then (spec_l07Char.j1 kj7 l0 a1 (rd l0 (ji3)) (rd l0 a1) true) else ((spec_l07Control.f (rd l0 a1)).bind fun t177 => (spec_l07Char.j1 kj7 l0 a1 (rd l0 (ji3)) (rd l0 a1) t177)))) = some r := by rw [if_neg (show ¬ (false = true) by decide)] at H; exact H
       clear H; have H := H1; clear H1; have HC11 := Aside0.mk H; clear H
       go_upto_region 5 with (fail)
       go_cut [24] (fun v24 wc => ∃ (kq : Nat) (x24_10 : Bool), v24 = .bool x24_10 ∧ Aside0 (spec_l07Char.j1 kq l0 a1 (rd l0 (ji3)) (rd l0 a1) x24_10 = some r) ∧ Aside0 (kq ≤ kj7) ∧ Aside0 (Below w.heap.size w wc))
       case first =>
        have H := HC11.out; clear HC11; replace H := Option.bind_eq_some_iff.mp H; obtain ⟨t176, A120, H⟩ := H
        try dsimp only at H
        (try rw [hji3] at A120); have A12 := Aside0.mk A120
        clear A120
        by_cases c13 : t176 = true
        ·subst c13
         have H1 : (spec_l07Char.j1 kj7 l0 a1 (rd l0 (ji3)) (rd l0 a1) true) = some r := by rw [if_pos rfl] at H; exact H
         clear H; have H := H1; clear H1; have H' := Aside0.mk H; clear H
         go_wp2_with (first | ((with_reducible refine gate_callee (f := 182) rfl ?_); refine goesL_ (some 26) rfl rfl Tryd.func182 (by kernel_rfl) rfl #[.int .i64 (rd l0 (ji3))] rfl (by (try simp only [List.map_toArray, List.map_cons, List.map_nil]); first | done | (simp only [hji3]; rfl) | rfl | (simp only [List.length_drop, List.length_take]; rfl)) ?_; (with_reducible refine (spec_l07Control.calls (rd l0 (ji3)) true _ A12.out).mono ?_); rintro e w14 ⟨rfl, hb⟩; refine ⟨_, rfl, ?_⟩; have n0_ := Aside0.mk (below_step (belowA) hb); clear HB; have HB := n0_; clear n0_; (try clear hb); (try clear hb2); (try clear hk); (try clear hi)))
         go_meet
         case rel => exact ⟨_, (true), (by first | rfl | (simp; done) | (simp [*]; done)), H', ⟨by have := HJ7.out; first | omega | exact Nat.le_refl _⟩, ⟨belowA⟩⟩
        replace c13 := Bool.eq_false_iff.mpr c13; subst c13
        have H1 : ((spec_l07Control.f (rd l0 a1)).bind fun t177 => (spec_l07Char.j1 kj7 l0 a1 (rd l0 (ji3)) (rd l0 a1) t177)) = some r := by rw [if_neg (show ¬ (false = true) by decide)] at H; exact H
        clear H; have H := H1; clear H1; replace H := Option.bind_eq_some_iff.mp H; obtain ⟨t177, A150, H⟩ := H
        try dsimp only at H
        (try rw [hji3] at A150); have A15 := Aside0.mk A150
        clear A150; have H' := Aside0.mk H; clear H
        go_wp2_with (first | ((with_reducible refine gate_callee (f := 182) rfl ?_); refine goesL_ (some 26) rfl rfl Tryd.func182 (by kernel_rfl) rfl #[.int .i64 (rd l0 (ji3))] rfl (by (try simp only [List.map_toArray, List.map_cons, List.map_nil]); first | done | (simp only [hji3]; rfl) | rfl | (simp only [List.length_drop, List.length_take]; rfl)) ?_; (with_reducible refine (spec_l07Control.calls (rd l0 (ji3)) false _ A12.out).mono ?_); rintro e w16 ⟨rfl, hb⟩; refine ⟨_, rfl, ?_⟩; have n0_ := Aside0.mk (below_step (belowA) hb); clear HB; have HB := n0_; clear n0_; (try clear hb); (try clear hb2); (try clear hk); (try clear hi)) | (go_at_call 182; (with_reducible refine (spec_l07Control.calls (rd l0 a1) t177 _ A15.out).mono ?_); rintro e w17 ⟨rfl, hb⟩; have n0_ := Aside0.mk (below_step (belowA) hb); clear HB; have HB := n0_; clear n0_; (try clear hb); (try clear hb2); (try clear hk); (try clear hi)))
        go_meet
        case rel => exact ⟨_, (t177), (by first | rfl | (simp; done) | (simp [*]; done)), H', ⟨by have := HJ7.out; first | omega | exact Nat.le_refl _⟩, ⟨belowA⟩⟩
       case rest =>
        clear HC11
        try clear c1; try clear p1; try clear q1; try clear hx1; try clear p2; try clear c4; try clear c4b0; try clear c5; try clear c5b0; try clear c6; try clear c6b0; try clear p6; try clear c7; try clear c7b0; try clear c9; try clear c9b0; try clear c9b1; try clear c10; try clear c11; try clear c13; try clear p17; try clear q17; try clear hx17; try clear hx174_0; try clear hx175_0; try clear p1; try clear p174; try clear p175; try clear p2; try clear p6; try clear q1; try clear q174; try clear q175
        obtain ⟨kq, x24_10, rfl, HA, HJ10, HB⟩ := hcut
        cases kq with
        | zero => exact absurd HA.out (by simp [spec_l07Char.j1])
        | succ kj10 =>
         have H := HA.out; clear HA; simp only [spec_l07Char.j1] at H
         by_cases c18 : x24_10 = true
         ·subst c18
          have H1 : (some true) = some r := by rw [if_pos rfl] at H; exact H
          clear H; have H := H1; clear H1; obtain rfl := Option.some.inj H
          go_wp2
          go_ret
          exact ⟨by first | rfl | (simp [errW_none, errW_some] <;> rfl) | (simp only [← hji3]; first | rfl | (simp [errW_none, errW_some] <;> rfl)) | (simp [*, errW_none, errW_some] <;> rfl), belowA⟩
         replace c18 := Bool.eq_false_iff.mpr c18; subst c18
         have H1 : ((W_spec_l07Syllable.f (rd l0 (ji3)) (rd l0 a1)).bind fun t178 => (if t178 = true then (spec_l07Char.j2 kj10 l0 a1 (rd l0 (ji3)) (rd l0 a1) true) else ((spec_l07Mark.f (rd l0 a1)).bind fun t179 => (spec_l07Char.j2 kj10 l0 a1 (rd l0 (ji3)) (rd l0 a1) t179)))) = some r := by rw [if_neg (show ¬ (false = true) by decide)] at H; exact H
         clear H; have H := H1; clear H1; have HC19 := Aside0.mk H; clear H
         go_upto_region 7 with (fail)
         go_cut [31] (fun v31 wc => ∃ (kq : Nat) (x31_18 : Bool), v31 = .bool x31_18 ∧ Aside0 (spec_l07Char.j2 kq l0 a1 (rd l0 (ji3)) (rd l0 a1) x31_18 = some r) ∧ Aside0 (kq ≤ kj10) ∧ Aside0 (Below w.heap.size w wc))
         case first =>
          have H := HC19.out; clear HC19; replace H := Option.bind_eq_some_iff.mp H; obtain ⟨t178, A200, H⟩ := H
          try dsimp only at H
          (try rw [hji3] at A200); have A20 := Aside0.mk A200
          clear A200
          by_cases c21 : t178 = true
          ·subst c21
           have H1 : (spec_l07Char.j2 kj10 l0 a1 (rd l0 (ji3)) (rd l0 a1) true) = some r := by rw [if_pos rfl] at H; exact H
           clear H; have H := H1; clear H1; have H' := Aside0.mk H; clear H
           go_wp2_with (first | ((with_reducible refine gate_callee (f := 183) rfl ?_); refine goesL_ (some 34) rfl rfl Tryd.func183 (by kernel_rfl) rfl #[.int .i64 (rd l0 (ji3)), .int .i64 (rd l0 a1)] rfl (by (try simp only [List.map_toArray, List.map_cons, List.map_nil]); first | done | (simp only [hji3]; rfl) | rfl | (simp only [List.length_drop, List.length_take]; rfl)) ?_; (with_reducible refine (W_spec_l07Syllable.calls (rd l0 (ji3)) (rd l0 a1) true _ A20.out).mono ?_); rintro e w' ⟨rfl, ⟨nd, rfl⟩⟩; refine ⟨_, rfl, ?_⟩))
           go_meet
           case rel => exact ⟨_, (true), (by first | rfl | (simp; done) | (simp [*]; done)), H', ⟨by have := HJ7.out; have := HJ10.out; first | omega | exact Nat.le_refl _⟩, ⟨belowA⟩⟩
          replace c21 := Bool.eq_false_iff.mpr c21; subst c21
          have H1 : ((spec_l07Mark.f (rd l0 a1)).bind fun t179 => (spec_l07Char.j2 kj10 l0 a1 (rd l0 (ji3)) (rd l0 a1) t179)) = some r := by rw [if_neg (show ¬ (false = true) by decide)] at H; exact H
          clear H; have H := H1; clear H1; replace H := Option.bind_eq_some_iff.mp H; obtain ⟨t179, A220, H⟩ := H
          try dsimp only at H
          (try rw [hji3] at A220); have A22 := Aside0.mk A220
          clear A220; have H' := Aside0.mk H; clear H
          go_wp2_with (first | ((with_reducible refine gate_callee (f := 183) rfl ?_); refine goesL_ (some 34) rfl rfl Tryd.func183 (by kernel_rfl) rfl #[.int .i64 (rd l0 (ji3)), .int .i64 (rd l0 a1)] rfl (by (try simp only [List.map_toArray, List.map_cons, List.map_nil]); first | done | (simp only [hji3]; rfl) | rfl | (simp only [List.length_drop, List.length_take]; rfl)) ?_; (with_reducible refine (W_spec_l07Syllable.calls (rd l0 (ji3)) (rd l0 a1) false _ A20.out).mono ?_); rintro e w' ⟨rfl, ⟨nd, rfl⟩⟩; refine ⟨_, rfl, ?_⟩) | (go_at_call 184; (with_reducible refine (spec_l07Mark.calls (rd l0 a1) t179 _ A22.out).mono ?_); rintro e w23 ⟨rfl, hb⟩; have n0_ := Aside0.mk (below_step (belowA) hb); clear HB; have HB := n0_; clear n0_; (try clear hb); (try clear hb2); (try clear hk); (try clear hi)))
          go_meet
          case rel => exact ⟨_, (t179), (by first | rfl | (simp; done) | (simp [*]; done)), H', ⟨by have := HJ7.out; have := HJ10.out; first | omega | exact Nat.le_refl _⟩, ⟨belowA⟩⟩
         case rest =>
          clear HC19
          try clear c1; try clear p1; try clear q1; try clear hx1; try clear c2; try clear p2; try clear c4; try clear c4b0; try clear c5; try clear c5b0; try clear c6; try clear c6b0; try clear p6; try clear c7; try clear c7b0; try clear c9; try clear c9b0; try clear c9b1; try clear c10; try clear c11; try clear c13; try clear p17; try clear q17; try clear hx17; try clear c18; try clear c21; try clear hx174_0; try clear hx175_0; try clear p1; try clear p17; try clear p174; try clear p175; try clear p2; try clear p6; try clear q1; try clear q17; try clear q174; try clear q175
          obtain ⟨kq, x31_18, rfl, HA, HJ18, HB⟩ := hcut
          cases kq with
          | zero => exact absurd HA.out (by simp [spec_l07Char.j2])
          | succ kj18 =>
           have H := HA.out; clear HA; simp only [spec_l07Char.j2] at H
           by_cases c24 : x31_18 = true
           ·subst c24
            have H1 : (some false) = some r := by rw [if_pos rfl] at H; exact H
            clear H; have H := H1; clear H1; obtain rfl := Option.some.inj H
            go_wp2
            go_ret
            exact ⟨by first | rfl | (simp [errW_none, errW_some] <;> rfl) | (simp only [← hji3]; first | rfl | (simp [errW_none, errW_some] <;> rfl)) | (simp [*, errW_none, errW_some] <;> rfl), belowA⟩
           replace c24 := Bool.eq_false_iff.mpr c24; subst c24
           have H1 : (if (rd l0 a1) ≥ 1536 then (if (rd l0 a1) ≤ 1567 then ((W_spec_l07Bound.f l0 (wrap64 (a1 - 1))).bind fun t180 => (spec_l07Char.j3 kj18 l0 a1 (rd l0 (ji3)) (rd l0 a1) t180)) else (spec_l07Char.j3 kj18 l0 a1 (rd l0 (ji3)) (rd l0 a1) false)) else (spec_l07Char.j3 kj18 l0 a1 (rd l0 (ji3)) (rd l0 a1) false)) = some r := by rw [if_neg (show ¬ (false = true) by decide)] at H; exact H
           clear H; have H := H1; clear H1; have HC25 := Aside0.mk H; clear H
           go_upto_region 9 with (fail)
           go_cut [39] (fun v39 wc => ∃ (kq : Nat) (x39_24 : Bool), v39 = .bool x39_24 ∧ Aside0 (spec_l07Char.j3 kq l0 a1 (rd l0 (ji3)) (rd l0 a1) x39_24 = some r) ∧ Aside0 (kq ≤ kj18) ∧ Aside0 (Below w.heap.size w wc))
           case first =>
            have H := HC25.out; clear HC25
            by_cases c26 : (rd l0 a1) ≥ 1536
            ·rw [if_pos c26] at H
             have c26b0 : decide (1536 ≤ (rd l0 a1)) = true := decide_eq_true c26; clear c26
             (first | rw [c26b0] | (simp only [i64_w, i32_w]; rw [c26b0]) | skip)
             by_cases c27 : (rd l0 a1) ≤ 1567
             ·rw [if_pos c27] at H
              have c27b0 : decide ((rd l0 a1) ≤ 1567) = true := decide_eq_true c27; clear c27; replace H := Option.bind_eq_some_iff.mp H; obtain ⟨t180, A280, H⟩ := H
              try dsimp only at H
              (try rw [hji3] at A280); have A28 := Aside0.mk A280
              clear A280; have H' := Aside0.mk H; clear H
              go_wp2_with (first | (go_at_call 185; (with_reducible refine (W_spec_l07Bound.calls _ _ l0 (ji3) t180 _ ?side1 ?side2 A28.out).mono ?_); (case side1 => repeat (first | exact (Kd.C_below HR0.out HB.out) | (with_reducible refine Kd.C_alloc ?_ _) | (with_reducible refine Kd.C_drewN ?_ _) | (with_reducible refine Kd.C_drew ?_))); (case side2 => exact HC0.out); rintro e w' ⟨rfl, ⟨nd, rfl⟩⟩))
              go_meet
              case rel => exact ⟨_, (t180), (by first | rfl | (simp; done) | (simp [*]; done)), H', ⟨by have := HJ7.out; have := HJ10.out; have := HJ18.out; first | omega | exact Nat.le_refl _⟩, ⟨belowA⟩⟩
             rw [if_neg c27] at H; have c27b0 : decide ((rd l0 a1) ≤ 1567) = false := decide_eq_false c27; clear c27; have H' := Aside0.mk H; clear H
             go_wp2
             go_meet
             case rel => exact ⟨_, (false), (by first | rfl | (simp; done) | (simp [*]; done)), H', ⟨by have := HJ7.out; have := HJ10.out; have := HJ18.out; first | omega | exact Nat.le_refl _⟩, ⟨belowA⟩⟩
            rw [if_neg c26] at H; have c26b0 : decide (1536 ≤ (rd l0 a1)) = false := decide_eq_false c26; clear c26
            (first | rw [c26b0] | (simp only [i64_w, i32_w]; rw [c26b0]) | skip)
            have H' := Aside0.mk H; clear H
            go_wp2
            go_meet
            case rel => exact ⟨_, (false), (by first | rfl | (simp; done) | (simp [*]; done)), H', ⟨by have := HJ7.out; have := HJ10.out; have := HJ18.out; first | omega | exact Nat.le_refl _⟩, ⟨belowA⟩⟩
           case rest =>
            clear HC25
            try clear c1; try clear p1; try clear q1; try clear hx1; try clear c2; try clear p2; try clear c4; try clear c4b0; try clear c5; try clear c5b0; try clear c6; try clear c6b0; try clear p6; try clear c7; try clear c7b0; try clear c9; try clear c9b0; try clear c9b1; try clear c10; try clear c11; try clear c13; try clear p17; try clear q17; try clear hx17; try clear c18; try clear c21; try clear c24; try clear c26; try clear c26b0; try clear c27; try clear c27b0; try clear hx174_0; try clear hx175_0; try clear p1; try clear p17; try clear p174; try clear p175; try clear p2; try clear p6; try clear q1; try clear q17; try clear q174; try clear q175
            obtain ⟨kq, x39_24, rfl, HA, HJ24, HB⟩ := hcut
            cases kq with
            | zero => exact absurd HA.out (by simp [spec_l07Char.j3])
            | succ kj24 =>
             have H := HA.out; clear HA; simp only [spec_l07Char.j3] at H
             by_cases c29 : x39_24 = true
             ·subst c29
              have H1 : (some false) = some r := by rw [if_pos rfl] at H; exact H
              clear H; have H := H1; clear H1; obtain rfl := Option.some.inj H
              go_wp2
              go_ret
              exact ⟨by first | rfl | (simp [errW_none, errW_some] <;> rfl) | (simp only [← hji3]; first | rfl | (simp [errW_none, errW_some] <;> rfl)) | (simp [*, errW_none, errW_some] <;> rfl), belowA⟩
             replace c29 := Bool.eq_false_iff.mpr c29; subst c29
             have H1 : (if (rd l0 (ji3)) = 7936 then ((spec_l07Picture.f (rd l0 a1)).bind fun t181 => (spec_l07Char.j4 kj24 l0 a1 (rd l0 (ji3)) (rd l0 a1) t181)) else (spec_l07Char.j4 kj24 l0 a1 (rd l0 (ji3)) (rd l0 a1) false)) = some r := by rw [if_neg (show ¬ (false = true) by decide)] at H; exact H
             clear H; have H := H1; clear H1; have HC30 := Aside0.mk H; clear H
             go_upto_region 11 with (fail)
             go_cut [52] (fun v52 wc => ∃ (kq : Nat) (x52_29 : Bool), v52 = .bool x52_29 ∧ Aside0 (spec_l07Char.j4 kq l0 a1 (rd l0 (ji3)) (rd l0 a1) x52_29 = some r) ∧ Aside0 (kq ≤ kj24) ∧ Aside0 (Below w.heap.size w wc))
             case first =>
              have H := HC30.out; clear HC30
              by_cases c31 : (rd l0 (ji3)) = 7936
              ·rw [if_pos c31] at H
               have c31b0 : ((rd l0 (ji3)) == 7936) = true := beq_iff_eq.mpr c31; have c31b1 : ((rd l0 (ji3)) != 7936) = false := bne_eq_false_iff_eq.mpr c31; clear c31
               (first | rw [c31b0] | (simp only [i64_w, i32_w]; rw [c31b0]) | skip)
               replace H := Option.bind_eq_some_iff.mp H; obtain ⟨t181, A320, H⟩ := H
               try dsimp only at H
               (try rw [hji3] at A320); have A32 := Aside0.mk A320
               clear A320; have H' := Aside0.mk H; clear H
               go_wp2_with (first | (go_at_call 186; (with_reducible refine (spec_l07Picture.calls (rd l0 a1) t181 _ A32.out).mono ?_); rintro e w' ⟨rfl, ⟨nd, rfl⟩⟩))
               go_meet
               case rel => exact ⟨_, (t181), (by first | rfl | (simp; done) | (simp [*]; done)), H', ⟨by have := HJ7.out; have := HJ10.out; have := HJ18.out; have := HJ24.out; first | omega | exact Nat.le_refl _⟩, ⟨belowA⟩⟩
              rw [if_neg c31] at H; have c31b0 : ((rd l0 (ji3)) == 7936) = false := beq_eq_false_iff_ne.mpr c31; have c31b1 : ((rd l0 (ji3)) != 7936) = true := bne_iff_ne.mpr c31
              (first | rw [c31b0] | (simp only [i64_w, i32_w]; rw [c31b0]) | skip)
              have H' := Aside0.mk H; clear H
              go_wp2
              go_meet
              case rel => exact ⟨_, (false), (by first | rfl | (simp; done) | (simp [*]; done)), H', ⟨by have := HJ7.out; have := HJ10.out; have := HJ18.out; have := HJ24.out; first | omega | exact Nat.le_refl _⟩, ⟨belowA⟩⟩
             case rest =>
              clear HC30
              try clear c1; try clear p1; try clear q1; try clear hx1; try clear c2; try clear p2; try clear c3; try clear c4; try clear c4b0; try clear c5; try clear c5b0; try clear c6; try clear c6b0; try clear p6; try clear c7; try clear c7b0; try clear c9; try clear c9b0; try clear c9b1; try clear c10; try clear c11; try clear c13; try clear p17; try clear q17; try clear hx17; try clear c18; try clear c21; try clear c24; try clear c26; try clear c26b0; try clear c27; try clear c27b0; try clear c29; try clear c31; try clear c31b0; try clear c31b1; try clear hx174_0; try clear hx175_0; try clear p1; try clear p17; try clear p174; try clear p175; try clear p2; try clear p6; try clear q1; try clear q17; try clear q174; try clear q175
              obtain ⟨kq, x52_29, rfl, HA, HJ29, HB⟩ := hcut
              cases kq with
              | zero => exact absurd HA.out (by simp [spec_l07Char.j4])
              | succ kj29 =>
               have H := HA.out; clear HA; simp only [spec_l07Char.j4] at H
               by_cases c33 : x52_29 = true
               ·subst c33
                have H1 : (spec_l07Char.l0 kj29 l0 (wrap64 (a1 - 2))) = some r := by rw [if_pos rfl] at H; exact H
                clear H; have H := H1; clear H1; have H' := Aside0.mk H; clear H
                go_wp2
                go_loopg [7] kj29 (fun kq v7 w' => ∃ (x7_6 : Int), v7 = .int .i64 x7_6 ∧ Aside0 (spec_l07Char.l0 kq l0 x7_6 = some r) ∧ Aside0 (kq ≤ kj29) ∧ Aside0 (Below w.heap.size w w'))
                case atStart => exact ⟨(wrap64 (a1 - 2)), (by first | rfl | (simp; done) | (simp [*]; done)), H', ⟨Nat.le_refl _⟩, ⟨belowA⟩⟩
                case round =>
                 clear H'
                 try clear c1; try clear p1; try clear q1; try clear hx1; try clear c2; try clear p2; try clear c3; try clear c4; try clear c4b0; try clear c5; try clear c5b0; try clear c6; try clear c6b0; try clear p6; try clear c7; try clear c7b0; try clear c9; try clear c9b0; try clear c9b1; try clear c10; try clear c11; try clear c13; try clear p17; try clear q17; try clear hx17; try clear c18; try clear c21; try clear c24; try clear c26; try clear c26b0; try clear c27; try clear c27b0; try clear c29; try clear c31; try clear c31b0; try clear c31b1; try clear c33; try clear hx174_0; try clear hx175_0; try clear p1; try clear p17; try clear p174; try clear p175; try clear p2; try clear p6; try clear q1; try clear q17; try clear q174; try clear q175
                 obtain ⟨x7_6, rfl, HA, HK6, HB⟩ := hrel
                 cases gk with
                 | zero => exact absurd HA.out (by simp [spec_l07Char.l0])
                 | succ k6 =>
                  have H := HA.out; clear HA; simp only [spec_l07Char.l0] at H
                  by_cases c34 : x7_6 ≥ 0
                  ·rw [if_pos c34] at H
                   have c34b0 : decide (0 ≤ x7_6) = true := decide_eq_true c34; clear c34
                   by_cases c35 : 0 ≤ x7_6
                   ·rw [if_pos c35] at H
                    have c35b0 : decide (0 ≤ x7_6) = true := decide_eq_true c35; clear c35
                    by_cases c36 : x7_6 < (l0.length : Int)
                    ·rw [if_pos c36] at H
                     have c36b0 : decide (x7_6 < (l0.length : Int)) = true := decide_eq_true c36; clear c36; replace H := Option.bind_eq_some_iff.mp H; obtain ⟨t183, A370, H⟩ := H
                     try dsimp only at H
                     (try rw [hji3] at A370); have A37 := Aside0.mk A370
                     clear A370
                     by_cases c38 : t183 = true
                     ·subst c38
                      have H1 : (spec_l07Char.l0 k6 l0 (wrap64 (x7_6 - 1))) = some r := by rw [if_pos rfl] at H; exact H
                      clear H; have H := H1; clear H1; have H' := Aside0.mk H; clear H
                      have p182 : 0 ≤ (x7_6 : Int) := of_decide_eq_true (by first | (with_reducible assumption) | assumption)
                      have q182 : x7_6 < (l0.length : Int) := of_decide_eq_true (by first | (with_reducible assumption) | assumption)
                      obtain ⟨ad182, e182, hx182_0⟩ := Kd.at_int HR0.out x7_6 p182 q182
                      obtain rfl : ad174 = ad182 := (by injection e182)
                      replace hx182_0 := (HB.out.cell (World.block_lt_of_cell? w _ hx182_0)).trans hx182_0; replace p182 := eq_true p182; replace q182 := eq_true q182
                      go_wp2_with (first | (go_at_call 184; (with_reducible refine (spec_l07Mark.calls (rd l0 x7_6) true _ A37.out).mono ?_); rintro e w39 ⟨rfl, hb⟩; have n0_ := Aside0.mk (below_step (belowA) hb); clear HB; have HB := n0_; clear n0_; (try clear hb); (try clear hb2); (try clear hk); (try clear hi)))
                      go_roundg k6
                      case measure => have := HJ7.out; have := HJ10.out; have := HJ18.out; have := HJ24.out; have := HJ29.out; have := HK6.out; omega
                      case rel => exact ⟨(wrap64 (x7_6 - 1)), (by first | rfl | (simp; done) | (simp [*]; done)), H', ⟨by have := HJ7.out; have := HJ10.out; have := HJ18.out; have := HJ24.out; have := HJ29.out; have := HK6.out; omega⟩, ⟨belowA⟩⟩
                     replace c38 := Bool.eq_false_iff.mpr c38; subst c38
                     have H1 : (if x7_6 < 0 then (some true) else ((spec_l07Picture.f (rd l0 x7_6)).bind fun t185 => (some (!t185)))) = some r := by rw [if_neg (show ¬ (false = true) by decide)] at H; exact H
                     clear H; have H := H1; clear H1
                     by_cases c40 : x7_6 < 0
                     ·rw [if_pos c40] at H
                      have c40b0 : decide (x7_6 < 0) = true := decide_eq_true c40; clear c40; obtain rfl := Option.some.inj H
                      have p182 : 0 ≤ (x7_6 : Int) := of_decide_eq_true (by first | (with_reducible assumption) | assumption)
                      have q182 : x7_6 < (l0.length : Int) := of_decide_eq_true (by first | (with_reducible assumption) | assumption)
                      obtain ⟨ad182, e182, hx182_0⟩ := Kd.at_int HR0.out x7_6 p182 q182
                      obtain rfl : ad174 = ad182 := (by injection e182)
                      replace hx182_0 := (HB.out.cell (World.block_lt_of_cell? w _ hx182_0)).trans hx182_0; replace p182 := eq_true p182; replace q182 := eq_true q182
                      go_wp2_with (first | (go_at_call 184; (with_reducible refine (spec_l07Mark.calls (rd l0 x7_6) false _ A37.out).mono ?_); rintro e w41 ⟨rfl, hb⟩; have n0_ := Aside0.mk (below_step (belowA) hb); clear HB; have HB := n0_; clear n0_; (try clear hb); (try clear hb2); (try clear hk); (try clear hi)))
                      go_ret
                      exact ⟨by first | rfl | (simp [errW_none, errW_some] <;> rfl) | (simp only [← hji3]; first | rfl | (simp [errW_none, errW_some] <;> rfl)) | (simp [*, errW_none, errW_some] <;> rfl), belowA⟩
                     rw [if_neg c40] at H; have c40b0 : decide (x7_6 < 0) = false := decide_eq_false c40; clear c40; replace H := Option.bind_eq_some_iff.mp H; obtain ⟨t185, A420, H⟩ := H
                     try dsimp only at H
                     (try rw [hji3] at A420); have A42 := Aside0.mk A420
                     clear A420; obtain rfl := Option.some.inj H
                     have p182 : 0 ≤ (x7_6 : Int) := of_decide_eq_true (by first | (with_reducible assumption) | assumption)
                     have q182 : x7_6 < (l0.length : Int) := of_decide_eq_true (by first | (with_reducible assumption) | assumption)
                     obtain ⟨ad182, e182, hx182_0⟩ := Kd.at_int HR0.out x7_6 p182 q182
                     obtain rfl : ad174 = ad182 := (by injection e182)
                     replace hx182_0 := (HB.out.cell (World.block_lt_of_cell? w _ hx182_0)).trans hx182_0; replace p182 := eq_true p182; replace q182 := eq_true q182
                     go_wp2_with (first | (go_at_call 184; (with_reducible refine (spec_l07Mark.calls (rd l0 x7_6) false _ A37.out).mono ?_); rintro e w43 ⟨rfl, hb⟩; have n0_ := Aside0.mk (below_step (belowA) hb); clear HB; have HB := n0_; clear n0_; (try clear hb); (try clear hb2); (try clear hk); (try clear hi); have p184 : 0 ≤ (x7_6 : Int) := of_decide_eq_true (by first | (with_reducible assumption) | assumption); have q184 : x7_6 < (l0.length : Int) := of_decide_eq_true (by first | (with_reducible assumption) | assumption); obtain ⟨ad184, e184, hx184_0⟩ := Kd.at_int HR0.out x7_6 p184 q184; obtain rfl : ad174 = ad184 := (by injection e184); replace hx184_0 := (HB.out.cell (World.block_lt_of_cell? w _ hx184_0)).trans hx184_0; replace p184 := eq_true p184; replace q184 := eq_true q184) | (go_at_call 186; (with_reducible refine (spec_l07Picture.calls (rd l0 x7_6) t185 _ A42.out).mono ?_); rintro e w' ⟨rfl, ⟨nd, rfl⟩⟩))
                     go_ret
                     exact ⟨by first | rfl | (simp [errW_none, errW_some] <;> rfl) | (simp only [← hji3]; first | rfl | (simp [errW_none, errW_some] <;> rfl)) | (simp [*, errW_none, errW_some] <;> rfl), belowA⟩
                    rw [if_neg c36] at H
                    exact absurd H (by simp)
                   rw [if_neg c35] at H
                   exact absurd H (by simp)
                  rw [if_neg c34] at H; have c34b0 : decide (0 ≤ x7_6) = false := decide_eq_false c34; clear c34
                  by_cases c44 : x7_6 < 0
                  ·rw [if_pos c44] at H
                   have c44b0 : decide (x7_6 < 0) = true := decide_eq_true c44; clear c44; obtain rfl := Option.some.inj H
                   go_wp2
                   go_ret
                   exact ⟨by first | rfl | (simp [errW_none, errW_some] <;> rfl) | (simp only [← hji3]; first | rfl | (simp [errW_none, errW_some] <;> rfl)) | (simp [*, errW_none, errW_some] <;> rfl), belowA⟩
                  rw [if_neg c44] at H; have c44b0 : decide (x7_6 < 0) = false := decide_eq_false c44; clear c44
                  by_cases c45 : 0 ≤ x7_6
                  ·rw [if_pos c45] at H
                   have c45b0 : decide (0 ≤ x7_6) = true := decide_eq_true c45; clear c45
                   by_cases c46 : x7_6 < (l0.length : Int)
                   ·rw [if_pos c46] at H
                    have c46b0 : decide (x7_6 < (l0.length : Int)) = true := decide_eq_true c46; clear c46; replace H := Option.bind_eq_some_iff.mp H; obtain ⟨t187, A470, H⟩ := H
                    try dsimp only at H
                    (try rw [hji3] at A470); have A47 := Aside0.mk A470
                    clear A470; obtain rfl := Option.some.inj H
                    have p186 : 0 ≤ (x7_6 : Int) := of_decide_eq_true (by first | (with_reducible assumption) | assumption)
                    have q186 : x7_6 < (l0.length : Int) := of_decide_eq_true (by first | (with_reducible assumption) | assumption)
                    obtain ⟨ad186, e186, hx186_0⟩ := Kd.at_int HR0.out x7_6 p186 q186
                    obtain rfl : ad174 = ad186 := (by injection e186)
                    replace hx186_0 := (HB.out.cell (World.block_lt_of_cell? w _ hx186_0)).trans hx186_0; replace p186 := eq_true p186; replace q186 := eq_true q186; exact absurd (c34b0.symm.trans c45b0) Bool.false_ne_true
                   rw [if_neg c46] at H
                   exact absurd H (by simp)
                  rw [if_neg c45] at H
                  exact absurd H (by simp)
               replace c33 := Bool.eq_false_iff.mpr c33; subst c33
               have H1 : ((spec_l07Flag.f (rd l0 (ji3))).bind fun t188 => (if t188 = true then ((spec_l07Flag.f (rd l0 a1)).bind fun t189 => (if t189 = true then ((W_spec_l07Flags.f l0 (wrap64 (a1 - 1))).bind fun t190 => (some ((Int.tmod t190 2) == 0))) else (some true))) else (some true))) = some r := by rw [if_neg (show ¬ (false = true) by decide)] at H; exact H
               clear H; have H := H1; clear H1; replace H := Option.bind_eq_some_iff.mp H; obtain ⟨t188, A480, H⟩ := H
               try dsimp only at H
               (try rw [hji3] at A480); have A48 := Aside0.mk A480
               clear A480
               by_cases c49 : t188 = true
               ·subst c49
                have H1 : ((spec_l07Flag.f (rd l0 a1)).bind fun t189 => (if t189 = true then ((W_spec_l07Flags.f l0 (wrap64 (a1 - 1))).bind fun t190 => (some ((Int.tmod t190 2) == 0))) else (some true))) = some r := by rw [if_pos rfl] at H; exact H
                clear H; have H := H1; clear H1; replace H := Option.bind_eq_some_iff.mp H; obtain ⟨t189, A500, H⟩ := H
                try dsimp only at H
                (try rw [hji3] at A500); have A50 := Aside0.mk A500
                clear A500
                by_cases c51 : t189 = true
                ·subst c51
                 have H1 : ((W_spec_l07Flags.f l0 (wrap64 (a1 - 1))).bind fun t190 => (some ((Int.tmod t190 2) == 0))) = some r := by rw [if_pos rfl] at H; exact H
                 clear H; have H := H1; clear H1; replace H := Option.bind_eq_some_iff.mp H; obtain ⟨t190, A520, H⟩ := H
                 try dsimp only at H
                 (try rw [hji3] at A520); have A52 := Aside0.mk A520
                 clear A520; obtain rfl := Option.some.inj H
                 go_wp2_with (first | ((with_reducible refine gate_callee (f := 187) rfl ?_); refine goesL_ (some 84) rfl rfl Tryd.func187 (by kernel_rfl) rfl #[.int .i64 (rd l0 (ji3))] rfl (by (try simp only [List.map_toArray, List.map_cons, List.map_nil]); first | done | (simp only [hji3]; rfl) | rfl | (simp only [List.length_drop, List.length_take]; rfl)) ?_; (with_reducible refine (spec_l07Flag.calls (rd l0 (ji3)) true _ A48.out).mono ?_); rintro e w' ⟨rfl, ⟨nd, rfl⟩⟩; refine ⟨_, rfl, ?_⟩) | (go_at_call 187; (with_reducible refine (spec_l07Flag.calls (rd l0 a1) true _ A50.out).mono ?_); rintro e w' ⟨rfl, ⟨nd, rfl⟩⟩) | ((with_reducible refine gate_callee (f := 188) rfl ?_); refine goesL_ (some 92) rfl rfl Tryd.func188 (by kernel_rfl) rfl #[.slice (some ad174) l0.length c0, .int .i64 (ji3)] rfl (by (try simp only [List.map_toArray, List.map_cons, List.map_nil]); first | done | rfl) ?_; (with_reducible refine (W_spec_l07Flags.calls _ _ l0 (ji3) t190 _ ?side1 ?side2 A52.out).mono ?_); (case side1 => repeat (first | exact (Kd.C_below HR0.out (belowA)) | (with_reducible refine Kd.C_alloc ?_ _) | (with_reducible refine Kd.C_drewN ?_ _) | (with_reducible refine Kd.C_drew ?_))); (case side2 => exact HC0.out); rintro e w' ⟨rfl, ⟨nd, rfl⟩⟩; refine ⟨_, rfl, ?_⟩))
                 go_ret
                 exact ⟨by first | rfl | (simp [errW_none, errW_some] <;> rfl) | (simp only [← hji3]; first | rfl | (simp [errW_none, errW_some] <;> rfl)) | (simp [*, errW_none, errW_some] <;> rfl), belowA⟩
                replace c51 := Bool.eq_false_iff.mpr c51; subst c51
                have H1 : (some true) = some r := by rw [if_neg (show ¬ (false = true) by decide)] at H; exact H
                clear H; have H := H1; clear H1; obtain rfl := Option.some.inj H
                go_wp2_with (first | ((with_reducible refine gate_callee (f := 187) rfl ?_); refine goesL_ (some 84) rfl rfl Tryd.func187 (by kernel_rfl) rfl #[.int .i64 (rd l0 (ji3))] rfl (by (try simp only [List.map_toArray, List.map_cons, List.map_nil]); first | done | (simp only [hji3]; rfl) | rfl | (simp only [List.length_drop, List.length_take]; rfl)) ?_; (with_reducible refine (spec_l07Flag.calls (rd l0 (ji3)) true _ A48.out).mono ?_); rintro e w' ⟨rfl, ⟨nd, rfl⟩⟩; refine ⟨_, rfl, ?_⟩) | (go_at_call 187; (with_reducible refine (spec_l07Flag.calls (rd l0 a1) false _ A50.out).mono ?_); rintro e w' ⟨rfl, ⟨nd, rfl⟩⟩))
                go_ret
                exact ⟨by first | rfl | (simp [errW_none, errW_some] <;> rfl) | (simp only [← hji3]; first | rfl | (simp [errW_none, errW_some] <;> rfl)) | (simp [*, errW_none, errW_some] <;> rfl), belowA⟩
               replace c49 := Bool.eq_false_iff.mpr c49; subst c49
               have H1 : (some true) = some r := by rw [if_neg (show ¬ (false = true) by decide)] at H; exact H
               clear H; have H := H1; clear H1; obtain rfl := Option.some.inj H
               go_wp2_with (first | ((with_reducible refine gate_callee (f := 187) rfl ?_); refine goesL_ (some 84) rfl rfl Tryd.func187 (by kernel_rfl) rfl #[.int .i64 (rd l0 (ji3))] rfl (by (try simp only [List.map_toArray, List.map_cons, List.map_nil]); first | done | (simp only [hji3]; rfl) | rfl | (simp only [List.length_drop, List.length_take]; rfl)) ?_; (with_reducible refine (spec_l07Flag.calls (rd l0 (ji3)) false _ A48.out).mono ?_); rintro e w' ⟨rfl, ⟨nd, rfl⟩⟩; refine ⟨_, rfl, ?_⟩))
               go_ret
               exact ⟨by first | rfl | (simp [errW_none, errW_some] <;> rfl) | (simp only [← hji3]; first | rfl | (simp [errW_none, errW_some] <;> rfl)) | (simp [*, errW_none, errW_some] <;> rfl), belowA⟩
    rw [if_neg c7] at H
    exact absurd H (by simp)
   rw [if_neg c6] at H
   exact absurd H (by simp)
  rw [if_neg c5] at H
  exact absurd H (by simp)
 rw [if_neg c4] at H
 exact absurd H (by simp)

def W_spec_l07Char.f (l : List Int) (i : Int) : Option Bool := if 1 ≤ i ∧ i < (l.length : Int) ∧ l.length ≤ 1000000000 ∧ (∀ p ∈ l, 0 ≤ p ∧ p ≤ 1114111) then some (YtiabgmddnddeiaaDoorChr.cutS ((l.take i.toNat).reverse) (l.getD i.toNat 0)) else none
theorem spec_l07Char.look (l : List Int) (hl : l.length ≤ 1000000000) : ∀ (j k : Nat), j < k → j ≤ l.length → spec_l07Char.l0 k l ((j : Int) - 1) = some (!YtiabgmddnddeiaaDoorChr.look ((l.take j).reverse)) := by
  intro j
  induction j with
  | zero =>
    intro k h1 h2
    obtain ⟨k, rfl⟩ : ∃ m, k = m + 1 := ⟨k - 1, by omega⟩
    simp only [spec_l07Char.l0]
    rw [if_neg (by omega), if_pos (by omega)]
    rfl
  | succ j ih =>
    intro k h1 h2
    obtain ⟨k, rfl⟩ : ∃ m, k = m + 1 := ⟨k - 1, by omega⟩
    have hj : j < l.length := by omega
    have e0 : ((j + 1 : Nat) : Int) - 1 = (j : Int) := by omega
    have hr : rd l (j : Int) = l[j] := by simp [rd, List.getD, hj]
    have hw : wrap64 ((j : Int) - 1) = (j : Int) - 1 := by unfold wrap64; omega
    simp only [spec_l07Char.l0]
    rw [e0, if_pos (by omega), if_pos (by omega), if_pos (by omega), hr, spec_l07Mark.eq, hw, spec_l07Bound.back hj]
    simp only [Option.bind_some]
    have e : YtiabgmddnddeiaaDoorChr.look (l[j] :: (l.take j).reverse) = if YtiabgmddnddeiaaDoorChr.mrk l[j] = true then YtiabgmddnddeiaaDoorChr.look ((l.take j).reverse) else YtiabgmddnddeiaaDoorChr.pct l[j] := rfl
    rw [e]
    by_cases g : YtiabgmddnddeiaaDoorChr.mrk l[j] = true
    · rw [if_pos g, if_pos g]; exact ih k (by omega) (by omega)
    · rw [if_neg g, if_neg g, if_neg (by omega), spec_l07Picture.eq]; rfl
theorem W_spec_l07Char.to {l : List Int} {i : Int} {r : Bool} (h : W_spec_l07Char.f l i = some r) : ∃ k, spec_l07Char.f k l i = some r := by
  unfold W_spec_l07Char.f at h
  split at h
  · rename_i hp
    obtain ⟨h1, h2, h3, h4⟩ := hp
    obtain ⟨n, rfl⟩ : ∃ n : Nat, i = n + 1 := ⟨i.toNat - 1, by omega⟩
    have n0 : n < l.length := by omega
    have n1 : n + 1 < l.length := by omega
    have hw1 : wrap64 ((n : Int) + 1 - 1) = (n : Int) := by unfold wrap64; omega
    have hw2 : wrap64 ((n : Int) + 1 - 2) = (n : Int) - 1 := by unfold wrap64; omega
    have r0 : rd l (n : Int) = l[n] := by simp [rd, List.getD, n0]
    have r1 : rd l ((n : Int) + 1) = l[n + 1] := by
      have : ((n : Int) + 1).toNat = n + 1 := by omega
      simp only [rd, this, List.getD_eq_getElem?_getD, List.getElem?_eq_getElem n1]; rfl
    have t1 : ((n : Int) + 1).toNat = n + 1 := by omega
    have hg : l.getD (n + 1) 0 = l[n + 1] := by simp [List.getD, n1]
    refine ⟨n + 7, ?_⟩
    rw [← h, t1, hg, spec_l07Bound.back n0]
    have q0 := h4 _ (List.getElem_mem n0)
    have q1 := h4 _ (List.getElem_mem n1)
    obtain ⟨q, hq⟩ : ∃ q, l[n] = q := ⟨_, rfl⟩
    obtain ⟨p, hpp⟩ : ∃ p, l[n + 1] = p := ⟨_, rfl⟩
    obtain ⟨T, hT⟩ : ∃ T, (l.take n).reverse = T := ⟨_, rfl⟩
    have hlook := spec_l07Char.look l h3 n (n + 1) (by omega) (by omega)
    have hbd : W_spec_l07Bound.f l (n : Int) = some (YtiabgmddnddeiaaDoorChr.bound (q :: T)) := by
      unfold W_spec_l07Bound.f
      rw [if_pos ⟨by omega, by omega, h3⟩, Int.toNat_natCast, spec_l07Bound.back n0, hq, hT]
    have hfl : W_spec_l07Flags.f l (n : Int) = some (YtiabgmddnddeiaaDoorChr.nflg (q :: T)) := by
      unfold W_spec_l07Flags.f
      rw [if_pos ⟨by omega, by omega, h3⟩, Int.toNat_natCast, spec_l07Bound.back n0, hq, hT]
    rw [hq] at r0 q0
    rw [hpp] at r1 q1
    rw [hq, hpp, hT]
    rw [hT] at hlook
    have hsy : W_spec_l07Syllable.f q p = some (YtiabgmddnddeiaaDoorChr.syl q p) := if_pos ⟨q0, q1⟩
    unfold spec_l07Char.f
    rw [hw1, r0, r1, if_pos (by omega), if_pos (by omega), if_pos (by omega), if_pos (by omega)]
    have e : YtiabgmddnddeiaaDoorChr.cutS (q :: T) p = if q = 13 ∧ p = 10 then false else if (YtiabgmddnddeiaaDoorChr.ctl q || YtiabgmddnddeiaaDoorChr.ctl p) = true then true else if (YtiabgmddnddeiaaDoorChr.syl q p || YtiabgmddnddeiaaDoorChr.mrk p) = true then false
      else if (1536 ≤ p ∧ p ≤ 1567) ∧ YtiabgmddnddeiaaDoorChr.bound (q :: T) = true then false else if q = 7936 ∧ YtiabgmddnddeiaaDoorChr.pct p = true then !YtiabgmddnddeiaaDoorChr.look T else if YtiabgmddnddeiaaDoorChr.flg q = true ∧ YtiabgmddnddeiaaDoorChr.flg p = true then YtiabgmddnddeiaaDoorChr.nflg (q :: T) % 2 == 0 else true := rfl
    rw [e]
    generalize YtiabgmddnddeiaaDoorChr.bound (q :: T) = B at *
    have hnn : 0 ≤ YtiabgmddnddeiaaDoorChr.nflg (q :: T) := YtiabgmddnddeiaaDoorChr.nflg_nonneg _
    generalize YtiabgmddnddeiaaDoorChr.nflg (q :: T) = G at *
    have s0 : ∀ x : Bool, x = decide (q = 13 ∧ p = 10) → spec_l07Char.j0 (n + 6 + 1) l ((n : Int) + 1) q p x = some (if q = 13 ∧ p = 10 then false else if (YtiabgmddnddeiaaDoorChr.ctl q || YtiabgmddnddeiaaDoorChr.ctl p) = true then true else if (YtiabgmddnddeiaaDoorChr.syl q p || YtiabgmddnddeiaaDoorChr.mrk p) = true then false
      else if (1536 ≤ p ∧ p ≤ 1567) ∧ B = true then false else if q = 7936 ∧ YtiabgmddnddeiaaDoorChr.pct p = true then !YtiabgmddnddeiaaDoorChr.look T else if YtiabgmddnddeiaaDoorChr.flg q = true ∧ YtiabgmddnddeiaaDoorChr.flg p = true then G % 2 == 0 else true) := by
      intro x hx
      simp only [spec_l07Char.j0]
      by_cases c0 : q = 13 ∧ p = 10
      · rw [hx, decide_eq_true c0, if_pos rfl, if_pos c0]
      rw [hx, decide_eq_false c0, if_neg (by decide), if_neg c0, spec_l07Control.eq, spec_l07Control.eq]
      simp only [Option.bind_some]
      have s1 : ∀ x : Bool, x = (YtiabgmddnddeiaaDoorChr.ctl q || YtiabgmddnddeiaaDoorChr.ctl p) → spec_l07Char.j1 (n + 5 + 1) l ((n : Int) + 1) q p x = some (if (YtiabgmddnddeiaaDoorChr.ctl q || YtiabgmddnddeiaaDoorChr.ctl p) = true then true else if (YtiabgmddnddeiaaDoorChr.syl q p || YtiabgmddnddeiaaDoorChr.mrk p) = true then false
      else if (1536 ≤ p ∧ p ≤ 1567) ∧ B = true then false else if q = 7936 ∧ YtiabgmddnddeiaaDoorChr.pct p = true then !YtiabgmddnddeiaaDoorChr.look T else if YtiabgmddnddeiaaDoorChr.flg q = true ∧ YtiabgmddnddeiaaDoorChr.flg p = true then G % 2 == 0 else true) := by
        intro x hx
        simp only [spec_l07Char.j1]
        by_cases c1 : (YtiabgmddnddeiaaDoorChr.ctl q || YtiabgmddnddeiaaDoorChr.ctl p) = true
        · rw [hx, if_pos c1, if_pos c1]
        rw [hx, if_neg c1, if_neg c1, hsy, spec_l07Mark.eq]
        simp only [Option.bind_some]
        have s2 : ∀ x : Bool, x = (YtiabgmddnddeiaaDoorChr.syl q p || YtiabgmddnddeiaaDoorChr.mrk p) → spec_l07Char.j2 (n + 4 + 1) l ((n : Int) + 1) q p x = some (if (YtiabgmddnddeiaaDoorChr.syl q p || YtiabgmddnddeiaaDoorChr.mrk p) = true then false
      else if (1536 ≤ p ∧ p ≤ 1567) ∧ B = true then false else if q = 7936 ∧ YtiabgmddnddeiaaDoorChr.pct p = true then !YtiabgmddnddeiaaDoorChr.look T else if YtiabgmddnddeiaaDoorChr.flg q = true ∧ YtiabgmddnddeiaaDoorChr.flg p = true then G % 2 == 0 else true) := by
          intro x hx
          simp only [spec_l07Char.j2]
          by_cases c2 : (YtiabgmddnddeiaaDoorChr.syl q p || YtiabgmddnddeiaaDoorChr.mrk p) = true
          · rw [hx, if_pos c2, if_pos c2]
          rw [hx, if_neg c2, if_neg c2, hw1, hbd]
          simp only [Option.bind_some]
          have s3 : ∀ x : Bool, (x = true ↔ (1536 ≤ p ∧ p ≤ 1567) ∧ B = true) → spec_l07Char.j3 (n + 3 + 1) l ((n : Int) + 1) q p x = some (if (1536 ≤ p ∧ p ≤ 1567) ∧ B = true then false else if q = 7936 ∧ YtiabgmddnddeiaaDoorChr.pct p = true then !YtiabgmddnddeiaaDoorChr.look T else if YtiabgmddnddeiaaDoorChr.flg q = true ∧ YtiabgmddnddeiaaDoorChr.flg p = true then G % 2 == 0 else true) := by
            intro x hx
            simp only [spec_l07Char.j3]
            by_cases c3 : (1536 ≤ p ∧ p ≤ 1567) ∧ B = true
            · rw [if_pos (hx.2 c3), if_pos c3]
            rw [if_neg (fun z => c3 (hx.1 z)), if_neg c3, spec_l07Picture.eq]
            simp only [Option.bind_some]
            have s4 : ∀ x : Bool, (x = true ↔ q = 7936 ∧ YtiabgmddnddeiaaDoorChr.pct p = true) → spec_l07Char.j4 (n + 2 + 1) l ((n : Int) + 1) q p x = some (if q = 7936 ∧ YtiabgmddnddeiaaDoorChr.pct p = true then !YtiabgmddnddeiaaDoorChr.look T else if YtiabgmddnddeiaaDoorChr.flg q = true ∧ YtiabgmddnddeiaaDoorChr.flg p = true then G % 2 == 0 else true) := by
              intro x hx
              simp only [spec_l07Char.j4]
              by_cases c4 : q = 7936 ∧ YtiabgmddnddeiaaDoorChr.pct p = true
              · rw [if_pos (hx.2 c4), if_pos c4, hw2]
                exact (congrArg (fun z => z) (spec_l07Char.look l h3 n (n + 2) (by omega) (by omega))).trans (by rw [hT])
              rw [if_neg (fun z => c4 (hx.1 z)), if_neg c4, spec_l07Flag.eq, spec_l07Flag.eq]
              simp only [Option.bind_some]
              rw [hw1, hfl]
              simp only [Option.bind_some]
              by_cases c5 : YtiabgmddnddeiaaDoorChr.flg q = true
              · rw [if_pos c5]
                by_cases c6 : YtiabgmddnddeiaaDoorChr.flg p = true
                · rw [if_pos c6, if_pos ⟨c5, c6⟩, Int.tmod_eq_emod_of_nonneg hnn]
                · rw [if_neg c6, if_neg (fun z => c6 z.2)]
              · rw [if_neg c5, if_neg (fun z => c5 z.1)]
            by_cases c4 : q = 7936
            · rw [if_pos c4]; exact s4 _ ⟨fun z => ⟨c4, z⟩, fun z => z.2⟩
            · rw [if_neg c4]; exact s4 _ ⟨fun z => (by cases z), fun z => absurd z.1 c4⟩
          by_cases c3 : 1536 ≤ p
          · rw [if_pos (show p ≥ 1536 from c3)]
            by_cases c4 : p ≤ 1567
            · rw [if_pos c4]; exact s3 _ ⟨fun z => ⟨⟨c3, c4⟩, z⟩, fun z => z.2⟩
            · rw [if_neg c4]; exact s3 _ ⟨fun z => (by cases z), fun z => absurd z.1.2 c4⟩
          · rw [if_neg (show ¬ p ≥ 1536 from c3)]; exact s3 _ ⟨fun z => (by cases z), fun z => absurd z.1.1 c3⟩
        by_cases c2 : YtiabgmddnddeiaaDoorChr.syl q p = true
        · rw [if_pos c2]; exact s2 _ (by rw [c2]; rfl)
        · rw [if_neg c2]; exact s2 _ (by rw [Bool.eq_false_iff.2 c2]; rfl)
      by_cases c1 : YtiabgmddnddeiaaDoorChr.ctl q = true
      · rw [if_pos c1]; exact s1 _ (by rw [c1]; rfl)
      · rw [if_neg c1]; exact s1 _ (by rw [Bool.eq_false_iff.2 c1]; rfl)
    by_cases c : q = 13
    · rw [if_pos c]
      refine s0 _ ?_
      by_cases d : p = 10
      · rw [decide_eq_true ⟨c, d⟩, d]; rfl
      · rw [decide_eq_false (fun z => d z.2)]; simpa using d
    · rw [if_neg c]; exact s0 _ (decide_eq_false (fun z => c z.1)).symm
  · cases h
theorem W_spec_l07Char.calls (A0 : Option Addr) (c0 : Nat) (l0 : List Int) (a1 : Int) (r : Bool) (w : World) (hr0 : Kd.C (Kd.int .i64) w A0 l0.length l0) (hc0 : l0.length ≤ c0) (h : W_spec_l07Char.f l0 a1 = some r) :
    Calls Tryd.prog 112 #[.slice A0 l0.length c0, .int .i64 a1] w fun e w' => e = .returned (.bool r) ∧ Below w.heap.size w w' := by
  obtain ⟨k, hk⟩ := W_spec_l07Char.to h
  exact spec_l07Char.calls k A0 c0 l0 a1 r w hr0 hc0 hk

end Go.Proofs.YtiabgmddnddeiaaDoor.QFnExactSentenceCuts
