/- The law FnExactSentenceCuts: at every input the call answers true (this text: contracts on its way, by a program of this session's; no condition of ours). -/
import Derived.Test.YtiabgmddnddeiaaDoorQFnExactSentenceCutsx0
import Derived.Test.YtiabgmddnddeiaaDoorQFnExactSentenceCutsx1
import Derived.Test.YtiabgmddnddeiaaDoorQFnExactSentenceCutsx3
namespace Go.Proofs.YtiabgmddnddeiaaDoor.QFnExactSentenceCuts
open Go.RowKit Go.Proofs.YtiabgmddnddeiaaDoorW.PrintWords Go.Proofs.YtiabgmddnddeiaaDoorW.PrintLast Go.Proofs.YtiabgmddnddeiaaDoorW.PrintMore
attribute [local go_sem] max2_int min2_int max_two min_two max_three min_three max_four min_four   -- for this text's walks alone
set_option linter.unusedVariables false
set_option linter.unusedSimpArgs false

/-! ### spec_l07Control: function 182 -/
def spec_l07Control.f (a0 : Int) : Option (Bool) := (spec_l01Cat.f a0).bind fun t165 => (if t165 = 1 then (some true) else (some (a0 == 7954)))
set_option maxHeartbeats 8000000 in
set_option maxRecDepth 100000 in
theorem spec_l07Control.calls (a0 : Int) (r : Bool) (w : World) (h : spec_l07Control.f a0 = some r) :
    Calls Tryd.prog 182 #[.int .i64 a0] w fun e w' => e = .returned (.bool r) ∧ Below w.heap.size w w' := by
  have HB := Aside0.mk (Below.refl w.heap.size w)
  have H : ((spec_l01Cat.f a0).bind fun t165 => (if t165 = 1 then (some true) else (some (a0 == 7954)))) = some r := h
  clear h
  replace H := Option.bind_eq_some_iff.mp H
  obtain ⟨t165, A20, H⟩ := H
  replace H : (if t165 = 1 then (some true) else (some (a0 == 7954))) = some r := H
  have A2 := Aside0.mk A20
  clear A20
  by_cases c3 : t165 = 1
  · rw [if_pos c3] at H
    have c3b0 : (t165 == 1) = true := beq_iff_eq.mpr c3
    have c3b1 : (t165 != 1) = false := bne_eq_false_iff_eq.mpr c3
    clear c3
    obtain rfl := Option.some.inj H
    go_enter Tryd.func182, Tryd.ntmps182
    go_wp2_with (first | ((with_reducible refine gate_callee (f := 181) rfl ?_); refine goesL_ (some 4) rfl rfl Tryd.func181 (by kernel_rfl) rfl #[.int .i64 a0] rfl (by (try simp only [List.map_toArray, List.map_cons, List.map_nil]); first | done | rfl | (simp only [List.length_drop, List.length_take]; rfl)) ?_; (with_reducible refine (spec_l01Cat.calls a0 t165 _ A2.out).mono ?_); rintro e w4 ⟨rfl, hb⟩; refine ⟨_, rfl, ?_⟩; have n0_ := Aside0.mk (below_step (by repeat (first | (with_reducible first | exact HB.out | apply below_alloc | apply pw_below_drewN | apply below_drew1) | exact HB.out)) hb); clear HB; have HB := n0_; clear n0_; (try clear hb); (try clear hb2); (try clear hk); (try clear hi)))
    go_ret
    exact ⟨by first | rfl | (simp [errW_none, errW_some] <;> rfl) | (simp [*, errW_none, errW_some] <;> rfl), by repeat (first | (with_reducible first | exact HB.out | apply below_alloc | apply pw_below_drewN | apply below_drew1) | exact HB.out)⟩
  · rw [if_neg c3] at H
    have c3b0 : (t165 == 1) = false := beq_eq_false_iff_ne.mpr c3
    have c3b1 : (t165 != 1) = true := bne_iff_ne.mpr c3
    obtain rfl := Option.some.inj H
    go_enter Tryd.func182, Tryd.ntmps182
    go_wp2_with (first | ((with_reducible refine gate_callee (f := 181) rfl ?_); refine goesL_ (some 4) rfl rfl Tryd.func181 (by kernel_rfl) rfl #[.int .i64 a0] rfl (by (try simp only [List.map_toArray, List.map_cons, List.map_nil]); first | done | rfl | (simp only [List.length_drop, List.length_take]; rfl)) ?_; (with_reducible refine (spec_l01Cat.calls a0 t165 _ A2.out).mono ?_); rintro e w5 ⟨rfl, hb⟩; refine ⟨_, rfl, ?_⟩; have n0_ := Aside0.mk (below_step (by repeat (first | (with_reducible first | exact HB.out | apply below_alloc | apply pw_below_drewN | apply below_drew1) | exact HB.out)) hb); clear HB; have HB := n0_; clear n0_; (try clear hb); (try clear hb2); (try clear hk); (try clear hi)))
    go_ret
    exact ⟨by first | rfl | (simp [errW_none, errW_some] <;> rfl) | (simp [*, errW_none, errW_some] <;> rfl), by repeat (first | (with_reducible first | exact HB.out | apply below_alloc | apply pw_below_drewN | apply below_drew1) | exact HB.out)⟩

theorem spec_l07Control.eq (p : Int) : spec_l07Control.f p = some (YtiabgmddnddeiaaDoorChr.ctl p) := by
  have e : spec_l01Cat.f p = some (YtiabgmddnddeiaaDoorCas.kind p).1 := rfl
  unfold spec_l07Control.f YtiabgmddnddeiaaDoorChr.ctl
  rw [e]
  simp only [Option.bind_some]
  by_cases h : (YtiabgmddnddeiaaDoorCas.kind p).1 = 1
  · rw [if_pos h, h]; rfl
  · rw [if_neg h, show ((YtiabgmddnddeiaaDoorCas.kind p).1 == 1) = false by simpa using h]; rfl

/-! ### spec_l07Part: function 227 -/
mutual
def spec_l07Part.j0 : Nat → Int → Bool → Option (Int)
 | 0, _, _ => none
 | k + 1, x0, x3 => if x3 = true then (some 1) else (if x0 ≥ 1824 then (spec_l07Part.j1 k x0 (decide (x0 ≤ 1844))) else (spec_l07Part.j1 k x0 false))
def spec_l07Part.j1 : Nat → Int → Bool → Option (Int)
 | 0, _, _ => none
 | k + 1, x0, x10 => if x10 = true then (some 2) else (if x0 ≥ 1857 then (spec_l07Part.j2 k x0 (decide (x0 ≤ 1883))) else (spec_l07Part.j2 k x0 false))
def spec_l07Part.j2 : Nat → Int → Bool → Option (Int)
 | 0, _, _ => none
 | k + 1, x0, x17 => if x17 = true then (some 3) else (if x0 ≥ 12288 then (if x0 ≤ 23459 then (spec_l07Part.j3 k x0 ((Int.tmod (wrap64 (x0 - 12288)) 28) == 0)) else (spec_l07Part.j3 k x0 false)) else (spec_l07Part.j3 k x0 false))
def spec_l07Part.j3 : Nat → Int → Bool → Option (Int)
 | 0, _, _ => none
 | k + 1, x0, x24 => if x24 = true then (some 4) else (if x0 ≥ 12288 then (if x0 ≤ 23459 then (some 5) else (some 0)) else (some 0))
end
def spec_l07Part.f (k : Nat) (a0 : Int) : Option (Int) := if a0 ≥ 1792 then (spec_l07Part.j0 k a0 (decide (a0 ≤ 1810))) else (spec_l07Part.j0 k a0 false)
theorem spec_l07Part.mono_l : ∀ k, (∀ y0 y1, LeO (spec_l07Part.j0 k y0 y1) (spec_l07Part.j0 (k + 1) y0 y1)) ∧ (∀ y0 y1, LeO (spec_l07Part.j1 k y0 y1) (spec_l07Part.j1 (k + 1) y0 y1)) ∧ (∀ y0 y1, LeO (spec_l07Part.j2 k y0 y1) (spec_l07Part.j2 (k + 1) y0 y1)) ∧ (∀ y0 y1, LeO (spec_l07Part.j3 k y0 y1) (spec_l07Part.j3 (k + 1) y0 y1))
 | 0 => ⟨fun _ _ r h => by simp [spec_l07Part.j0] at h, fun _ _ r h => by simp [spec_l07Part.j1] at h, fun _ _ r h => by simp [spec_l07Part.j2] at h, fun _ _ r h => by simp [spec_l07Part.j3] at h⟩
 | k + 1 => by
  obtain ⟨ih0, ih1, ih2, ih3⟩ := spec_l07Part.mono_l k; refine ⟨?_, ?_, ?_, ?_⟩
  ·intro y0 y1
   unfold spec_l07Part.j0
   repeat' first
   | (with_reducible exact ih0 _ _)
   | (with_reducible exact ih1 _ _)
   | (with_reducible exact ih2 _ _)
   | (with_reducible exact ih3 _ _)
   | (with_reducible exact LeO.refl _)
   | (with_reducible exact LeO.none _)
   | (with_reducible refine LeO.ite ?_ ?_)
   | (with_reducible refine LeO.bind ?_ (fun _ => ?_))
   | exact ih0 _ _
   | exact ih1 _ _
   | exact ih2 _ _
   | exact ih3 _ _
   | exact LeO.none _
   | refine LeO.ite ?_ ?_
   | refine LeO.bind ?_ (fun _ => ?_)
  ·intro y0 y1
   unfold spec_l07Part.j1
   repeat' first
   | (with_reducible exact ih0 _ _)
   | (with_reducible exact ih1 _ _)
   | (with_reducible exact ih2 _ _)
   | (with_reducible exact ih3 _ _)
   | (with_reducible exact LeO.refl _)
   | (with_reducible exact LeO.none _)
   | (with_reducible refine LeO.ite ?_ ?_)
   | (with_reducible refine LeO.bind ?_ (fun _ => ?_))
   | exact ih0 _ _
   | exact ih1 _ _
   | exact ih2 _ _
   | exact ih3 _ _
   | exact LeO.none _
   | refine LeO.ite ?_ ?_
   | refine LeO.bind ?_ (fun _ => ?_)
  ·intro y0 y1
   unfold spec_l07Part.j2
   repeat' first
   | (with_reducible exact ih0 _ _)
   | (with_reducible exact ih1 _ _)
   | (with_reducible exact ih2 _ _)
   | (with_reducible exact ih3 _ _)
   | (with_reducible exact LeO.refl _)
   | (with_reducible exact LeO.none _)
   | (with_reducible refine LeO.ite ?_ ?_)
   | (with_reducible refine LeO.bind ?_ (fun _ => ?_))
   | exact ih0 _ _
   | exact ih1 _ _
   | exact ih2 _ _
   | exact ih3 _ _
   | exact LeO.none _
   | refine LeO.ite ?_ ?_
   | refine LeO.bind ?_ (fun _ => ?_)
  intro y0 y1
  unfold spec_l07Part.j3
  repeat' first
  | (with_reducible exact ih0 _ _)
  | (with_reducible exact ih1 _ _)
  | (with_reducible exact ih2 _ _)
  | (with_reducible exact ih3 _ _)
  | (with_reducible exact LeO.refl _)
  | (with_reducible exact LeO.none _)
  | (with_reducible refine LeO.ite ?_ ?_)
  | (with_reducible refine LeO.bind ?_ (fun _ => ?_))
  | exact ih0 _ _
  | exact ih1 _ _
  | exact ih2 _ _
  | exact ih3 _ _
  | exact LeO.none _
  | refine LeO.ite ?_ ?_
  | refine LeO.bind ?_ (fun _ => ?_)
theorem spec_l07Part.mono : ∀ a0 k, LeO (spec_l07Part.f k a0) (spec_l07Part.f (k + 1) a0) := by
 intro a0 k
 obtain ⟨ih0, ih1, ih2, ih3⟩ := spec_l07Part.mono_l k
 unfold spec_l07Part.f
 repeat' first
   | (with_reducible exact ih0 _ _)
   | (with_reducible exact ih1 _ _)
   | (with_reducible exact ih2 _ _)
   | (with_reducible exact ih3 _ _)
   | (with_reducible exact LeO.refl _)
   | (with_reducible exact LeO.none _)
   | (with_reducible refine LeO.ite ?_ ?_)
   | (with_reducible refine LeO.bind ?_ (fun _ => ?_))
   | exact ih0 _ _
   | exact ih1 _ _
   | exact ih2 _ _
   | exact ih3 _ _
   | exact LeO.none _
   | refine LeO.ite ?_ ?_
   | refine LeO.bind ?_ (fun _ => ?_)
set_option maxHeartbeats 8000000 in
set_option maxRecDepth 100000 in
theorem spec_l07Part.calls (k : Nat) (a0 : Int) (r : Int) (w : World) (h : spec_l07Part.f k a0 = some r) :
  Calls Tryd.prog 227 #[.int .i64 a0] w fun e w' => e = .returned (.int .i64 r) ∧ Drawn0 w w' := by
 have H : (if a0 ≥ 1792 then (spec_l07Part.j0 k a0 (decide (a0 ≤ 1810))) else (spec_l07Part.j0 k a0 false)) = some r := h
 clear h
 have HC2 := Aside0.mk H
 clear H
 go_enter Tryd.func227, Tryd.ntmps227
 go_upto_region 1 with (fail)
 go_cut [3] (fun v3 wc => ∃ (kq : Nat) (x3_1 : Bool), v3 = .bool x3_1 ∧ Aside0 (spec_l07Part.j0 kq a0 x3_1 = some r) ∧ Aside0 (kq ≤ k) ∧ Drawn0 w wc)
 case first =>
  have H := HC2.out; clear HC2
  by_cases c3 : a0 ≥ 1792
  ·rw [if_pos c3] at H
   have c3b0 : decide (1792 ≤ a0) = true := decide_eq_true c3; clear c3
   (first | rw [c3b0] | (simp only [i64_w, i32_w]; rw [c3b0]) | skip)
   have H' := Aside0.mk H; clear H
   go_wp2
   go_meet
   case rel => exact ⟨_, (decide (a0 ≤ 1810)), (by first | rfl | (simp; done) | (simp [*]; done)), H', ⟨by first | omega | exact Nat.le_refl _⟩, by repeat (first | exact Drawn0.refl _ | apply Drawn0.step)⟩
  rw [if_neg c3] at H; have c3b0 : decide (1792 ≤ a0) = false := decide_eq_false c3; clear c3
  (first | rw [c3b0] | (simp only [i64_w, i32_w]; rw [c3b0]) | skip)
  have H' := Aside0.mk H; clear H
  go_wp2
  go_meet
  case rel => exact ⟨_, (false), (by first | rfl | (simp; done) | (simp [*]; done)), H', ⟨by first | omega | exact Nat.le_refl _⟩, by repeat (first | exact Drawn0.refl _ | apply Drawn0.step)⟩
 case rest =>
  clear HC2
  try clear c2; try clear p2; try clear c3; try clear c3b0
  obtain ⟨kq, x3_1, rfl, HA, HJ1, ⟨mc1, rfl⟩⟩ := hcut
  cases kq with
  | zero => exact absurd HA.out (by simp [spec_l07Part.j0])
  | succ kj1 =>
   have H := HA.out; clear HA; simp only [spec_l07Part.j0] at H
   by_cases c4 : x3_1 = true
   ·subst c4
    have H1 : (some 1) = some r := by rw [if_pos rfl] at H; exact H
    clear H; have H := H1; clear H1; obtain rfl := Option.some.inj H
    go_wp2
    go_ret
    exact ⟨by first | rfl | (simp; done) | (simp [*]; done), by repeat (first | exact Drawn0.refl _ | apply Drawn0.step)⟩
   replace c4 := Bool.eq_false_iff.mpr c4; subst c4
   have H1 : (if a0 ≥ 1824 then (spec_l07Part.j1 kj1 a0 (decide (a0 ≤ 1844))) else (spec_l07Part.j1 kj1 a0 false)) = some r := by rw [if_neg (show ¬ (false = true) by decide)] at H; exact H
   clear H; have H := H1; clear H1; have HC5 := Aside0.mk H; clear H
   go_upto_region 3 with (fail)
   go_cut [10] (fun v10 wc => ∃ (kq : Nat) (x10_4 : Bool), v10 = .bool x10_4 ∧ Aside0 (spec_l07Part.j1 kq a0 x10_4 = some r) ∧ Aside0 (kq ≤ kj1) ∧ Drawn0 w wc)
   case first =>
    have H := HC5.out; clear HC5
    by_cases c6 : a0 ≥ 1824
    ·rw [if_pos c6] at H
     have c6b0 : decide (1824 ≤ a0) = true := decide_eq_true c6; clear c6
     (first | rw [c6b0] | (simp only [i64_w, i32_w]; rw [c6b0]) | skip)
     have H' := Aside0.mk H; clear H
     go_wp2
     go_meet
     case rel => exact ⟨_, (decide (a0 ≤ 1844)), (by first | rfl | (simp; done) | (simp [*]; done)), H', ⟨by have := HJ1.out; first | omega | exact Nat.le_refl _⟩, by repeat (first | exact Drawn0.refl _ | apply Drawn0.step)⟩
    rw [if_neg c6] at H; have c6b0 : decide (1824 ≤ a0) = false := decide_eq_false c6; clear c6
    (first | rw [c6b0] | (simp only [i64_w, i32_w]; rw [c6b0]) | skip)
    have H' := Aside0.mk H; clear H
    go_wp2
    go_meet
    case rel => exact ⟨_, (false), (by first | rfl | (simp; done) | (simp [*]; done)), H', ⟨by have := HJ1.out; first | omega | exact Nat.le_refl _⟩, by repeat (first | exact Drawn0.refl _ | apply Drawn0.step)⟩
   case rest =>
    clear HC5
    try clear c1; try clear c2; try clear p2; try clear c3; try clear c3b0; try clear c4; try clear c6; try clear c6b0; try clear p2
    obtain ⟨kq, x10_4, rfl, HA, HJ4, ⟨mc4, rfl⟩⟩ := hcut
    cases kq with
    | zero => exact absurd HA.out (by simp [spec_l07Part.j1])
    | succ kj4 =>
     have H := HA.out; clear HA; simp only [spec_l07Part.j1] at H
     by_cases c7 : x10_4 = true
     ·subst c7
      have H1 : (some 2) = some r := by rw [if_pos rfl] at H; exact H
      clear H; have H := H1; clear H1; obtain rfl := Option.some.inj H
      go_wp2
      go_ret
      exact ⟨by first | rfl | (simp; done) | (simp [*]; done), by repeat (first | exact Drawn0.refl _ | apply Drawn0.step)⟩
     replace c7 := Bool.eq_false_iff.mpr c7; subst c7
     have H1 : (if a0 ≥ 1857 then (spec_l07Part.j2 kj4 a0 (decide (a0 ≤ 1883))) else (spec_l07Part.j2 kj4 a0 false)) = some r := by rw [if_neg (show ¬ (false = true) by decide)] at H; exact H
     clear H; have H := H1; clear H1; have HC8 := Aside0.mk H; clear H
     go_upto_region 5 with (fail)
     go_cut [17] (fun v17 wc => ∃ (kq : Nat) (x17_7 : Bool), v17 = .bool x17_7 ∧ Aside0 (spec_l07Part.j2 kq a0 x17_7 = some r) ∧ Aside0 (kq ≤ kj4) ∧ Drawn0 w wc)
     case first =>
      have H := HC8.out; clear HC8
      by_cases c9 : a0 ≥ 1857
      ·rw [if_pos c9] at H
       have c9b0 : decide (1857 ≤ a0) = true := decide_eq_true c9; clear c9
       (first | rw [c9b0] | (simp only [i64_w, i32_w]; rw [c9b0]) | skip)
       have H' := Aside0.mk H; clear H
       go_wp2
       go_meet
       case rel => exact ⟨_, (decide (a0 ≤ 1883)), (by first | rfl | (simp; done) | (simp [*]; done)), H', ⟨by have := HJ1.out; have := HJ4.out; first | omega | exact Nat.le_refl _⟩, by repeat (first | exact Drawn0.refl _ | apply Drawn0.step)⟩
      rw [if_neg c9] at H; have c9b0 : decide (1857 ≤ a0) = false := decide_eq_false c9; clear c9
      (first | rw [c9b0] | (simp only [i64_w, i32_w]; rw [c9b0]) | skip)
      have H' := Aside0.mk H; clear H
      go_wp2
      go_meet
      case rel => exact ⟨_, (false), (by first | rfl | (simp; done) | (simp [*]; done)), H', ⟨by have := HJ1.out; have := HJ4.out; first | omega | exact Nat.le_refl _⟩, by repeat (first | exact Drawn0.refl _ | apply Drawn0.step)⟩
     case rest =>
      clear HC8
      try clear c1; try clear c2; try clear p2; try clear c3; try clear c3b0; try clear c4; try clear c6; try clear c6b0; try clear c7; try clear c9; try clear c9b0; try clear p2
      obtain ⟨kq, x17_7, rfl, HA, HJ7, ⟨mc7, rfl⟩⟩ := hcut
      cases kq with
      | zero => exact absurd HA.out (by simp [spec_l07Part.j2])
      | succ kj7 =>
       have H := HA.out; clear HA; simp only [spec_l07Part.j2] at H
       by_cases c10 : x17_7 = true
       ·subst c10
        have H1 : (some 3) = some r := by rw [if_pos rfl] at H; exact H
        clear H; have H := H1; clear H1; obtain rfl := Option.some.inj H
        go_wp2
        go_ret
        exact ⟨by first | rfl | (simp; done) | (simp [*]; done), by repeat (first | exact Drawn0.refl _ | apply Drawn0.step)⟩
       replace c10 := Bool.eq_false_iff.mpr c10; subst c10
       have H1 : (if a0 ≥ 12288 then (if a0 ≤ 23459 then (spec_l07Part.j3 kj7 a0 ((Int.tmod (wrap64 (a0 - 12288)) 28) == 0)) else (spec_l07Part.j3 kj7 a0 false)) else (spec_l07Part.j3 kj7 a0 false)) = some r := by rw [if_neg (show ¬ (false = true) by decide)] at H; exact H
       clear H; have H := H1; clear H1; have HC11 := Aside0.mk H; clear H
       go_upto_region 7 with (fail)
       go_cut [24] (fun v24 wc => ∃ (kq : Nat) (x24_10 : Bool), v24 = .bool x24_10 ∧ Aside0 (spec_l07Part.j3 kq a0 x24_10 = some r) ∧ Aside0 (kq ≤ kj7) ∧ Drawn0 w wc)
       case first =>
        have H := HC11.out; clear HC11
        by_cases c12 : a0 ≥ 12288
        ·rw [if_pos c12] at H
         have c12b0 : decide (12288 ≤ a0) = true := decide_eq_true c12; clear c12
         (first | rw [c12b0] | (simp only [i64_w, i32_w]; rw [c12b0]) | skip)
         by_cases c13 : a0 ≤ 23459
         ·rw [if_pos c13] at H
          have c13b0 : decide (a0 ≤ 23459) = true := decide_eq_true c13; clear c13; have H' := Aside0.mk H; clear H
          go_wp2
          go_meet
          case rel => exact ⟨_, (((Int.tmod (wrap64 (a0 - 12288)) 28) == 0)), (by first | rfl | (simp; done) | (simp [*]; done)), H', ⟨by have := HJ1.out; have := HJ4.out; have := HJ7.out; first | omega | exact Nat.le_refl _⟩, by repeat (first | exact Drawn0.refl _ | apply Drawn0.step)⟩
         rw [if_neg c13] at H; have c13b0 : decide (a0 ≤ 23459) = false := decide_eq_false c13; clear c13; have H' := Aside0.mk H; clear H
         go_wp2
         go_meet
         case rel => exact ⟨_, (false), (by first | rfl | (simp; done) | (simp [*]; done)), H', ⟨by have := HJ1.out; have := HJ4.out; have := HJ7.out; first | omega | exact Nat.le_refl _⟩, by repeat (first | exact Drawn0.refl _ | apply Drawn0.step)⟩
        rw [if_neg c12] at H; have c12b0 : decide (12288 ≤ a0) = false := decide_eq_false c12; clear c12
        (first | rw [c12b0] | (simp only [i64_w, i32_w]; rw [c12b0]) | skip)
        have H' := Aside0.mk H; clear H
        go_wp2
        go_meet
        case rel => exact ⟨_, (false), (by first | rfl | (simp; done) | (simp [*]; done)), H', ⟨by have := HJ1.out; have := HJ4.out; have := HJ7.out; first | omega | exact Nat.le_refl _⟩, by repeat (first | exact Drawn0.refl _ | apply Drawn0.step)⟩
       case rest =>
        clear HC11
        try clear c1; try clear c2; try clear p2; try clear c3; try clear c3b0; try clear c4; try clear c6; try clear c6b0; try clear p6; try clear c7; try clear c9; try clear c9b0; try clear c10; try clear c12; try clear c12b0; try clear c13; try clear c13b0; try clear p2
        obtain ⟨kq, x24_10, rfl, HA, HJ10, ⟨mc10, rfl⟩⟩ := hcut
        cases kq with
        | zero => exact absurd HA.out (by simp [spec_l07Part.j3])
        | succ kj10 =>
         have H := HA.out; clear HA; simp only [spec_l07Part.j3] at H
         by_cases c14 : x24_10 = true
         ·subst c14
          have H1 : (some 4) = some r := by rw [if_pos rfl] at H; exact H
          clear H; have H := H1; clear H1; obtain rfl := Option.some.inj H
          go_wp2
          go_ret
          exact ⟨by first | rfl | (simp; done) | (simp [*]; done), by repeat (first | exact Drawn0.refl _ | apply Drawn0.step)⟩
         replace c14 := Bool.eq_false_iff.mpr c14; subst c14
         have H1 : (if a0 ≥ 12288 then (if a0 ≤ 23459 then (some 5) else (some 0)) else (some 0)) = some r := by rw [if_neg (show ¬ (false = true) by decide)] at H; exact H
         clear H; have H := H1; clear H1
         by_cases c15 : a0 ≥ 12288
         ·rw [if_pos c15] at H
          have c15b0 : decide (12288 ≤ a0) = true := decide_eq_true c15; clear c15
          by_cases c16 : a0 ≤ 23459
          ·rw [if_pos c16] at H
           have c16b0 : decide (a0 ≤ 23459) = true := decide_eq_true c16; clear c16; obtain rfl := Option.some.inj H
           go_wp2
           go_ret
           exact ⟨by first | rfl | (simp; done) | (simp [*]; done), by repeat (first | exact Drawn0.refl _ | apply Drawn0.step)⟩
          rw [if_neg c16] at H; have c16b0 : decide (a0 ≤ 23459) = false := decide_eq_false c16; clear c16; obtain rfl := Option.some.inj H
          go_wp2
          go_ret
          exact ⟨by first | rfl | (simp; done) | (simp [*]; done), by repeat (first | exact Drawn0.refl _ | apply Drawn0.step)⟩
         rw [if_neg c15] at H; have c15b0 : decide (12288 ≤ a0) = false := decide_eq_false c15; clear c15; obtain rfl := Option.some.inj H
         go_wp2
         go_ret
         exact ⟨by first | rfl | (simp; done) | (simp [*]; done), by repeat (first | exact Drawn0.refl _ | apply Drawn0.step)⟩

def W_spec_l07Part.f (p : Int) : Option Int := if 0 ≤ p ∧ p ≤ 1114111 then some (YtiabgmddnddeiaaDoorChr.prt p) else none
theorem spec_l07Part.skip {α : Type} {a b p : Int} (h : ¬ (a ≤ p ∧ p ≤ b)) (X Y : α) : (if p ≥ a then (if p ≤ b then X else Y) else Y) = Y := by
  by_cases g : a ≤ p
  · rw [if_pos (show p ≥ a from g), if_neg (fun z => h ⟨g, z⟩)]
  · rw [if_neg (show ¬ p ≥ a from g)]
theorem spec_l07Part.hit {α : Type} {a b p : Int} (h : a ≤ p ∧ p ≤ b) (X Y : α) : (if p ≥ a then (if p ≤ b then X else Y) else Y) = X := by
  rw [if_pos (show p ≥ a from h.1), if_pos h.2]
theorem W_spec_l07Part.to {p r : Int} (h : W_spec_l07Part.f p = some r) : ∃ k, spec_l07Part.f k p = some r := by
  unfold W_spec_l07Part.f at h
  split at h
  · rename_i hp
    refine ⟨4, ?_⟩
    rw [← h]
    have hw : wrap64 (p - 12288) = p - 12288 := by unfold wrap64; omega
    unfold spec_l07Part.f YtiabgmddnddeiaaDoorChr.prt
    simp only [spec_l07Part.j0, spec_l07Part.j1, spec_l07Part.j2, spec_l07Part.j3, decide_eq_true_eq, hw, Bool.false_eq_true, if_false]
    by_cases a : 1792 ≤ p ∧ p ≤ 1810
    · rw [spec_l07Part.hit a, if_pos a]
    rw [spec_l07Part.skip a, if_neg a]
    by_cases b : 1824 ≤ p ∧ p ≤ 1844
    · rw [spec_l07Part.hit b, if_pos b]
    rw [spec_l07Part.skip b, if_neg b]
    by_cases c : 1857 ≤ p ∧ p ≤ 1883
    · rw [spec_l07Part.hit c, if_pos c]
    rw [spec_l07Part.skip c, if_neg c]
    by_cases d : 12288 ≤ p ∧ p ≤ 23459
    · rw [if_pos (show p ≥ 12288 from d.1), if_pos d.2, Int.tmod_eq_emod_of_nonneg (by omega)]
      by_cases e : (p - 12288) % 28 = 0
      · rw [if_pos (by simpa using e), if_pos ⟨d, e⟩]
      · rw [if_neg (by simpa using e), spec_l07Part.hit d, if_neg (show ¬ ((12288 ≤ p ∧ p ≤ 23459) ∧ (p - 12288) % 28 = 0) from fun z => e z.2), if_pos d]
    · by_cases d1 : p ≥ 12288
      · rw [if_pos d1, if_neg (by omega), if_pos d1, if_neg (by omega), if_neg (fun z => d z.1), if_neg d]
      · rw [if_neg d1, if_neg d1, if_neg (fun z => d z.1), if_neg d]
  · cases h
theorem W_spec_l07Part.calls (a0 : Int) (r : Int) (w : World) (h : W_spec_l07Part.f a0 = some r) :
    Calls Tryd.prog 227 #[.int .i64 a0] w fun e w' => e = .returned (.int .i64 r) ∧ Drawn0 w w' := by
  obtain ⟨k, hk⟩ := W_spec_l07Part.to h
  exact spec_l07Part.calls k a0 r w hk

/-! ### spec_l07Syllable: function 183 -/
def spec_l07Syllable.j0 : Nat → Int → Int → Bool → Option (Bool)
 | 0, _, _, _ => none
 | k + 1, x6, x11, x28 => if x28 = true then (if x6 = 2 then (some true) else (some (x6 == 3))) else (if x11 = 3 then (some (x6 == 3)) else (if x11 = 5 then (some (x6 == 3)) else (some false)))
def spec_l07Syllable.f (k : Nat) (a0 : Int) (a1 : Int) : Option (Bool) := (W_spec_l07Part.f a0).bind fun t166 => ((W_spec_l07Part.f a1).bind fun t167 => (if t166 = 1 then (if t167 = 1 then (some true) else (if t167 = 2 then (some true) else (if t167 = 4 then (some true) else (some (t167 == 5))))) else (if t166 = 2 then (spec_l07Syllable.j0 k t167 t166 (t166 == 2)) else (spec_l07Syllable.j0 k t167 t166 (t166 == 4)))))
theorem spec_l07Syllable.mono_l : ∀ k, (∀ y0 y1 y2, LeO (spec_l07Syllable.j0 k y0 y1 y2) (spec_l07Syllable.j0 (k + 1) y0 y1 y2))
 | 0 => fun _ _ _ r h => by simp [spec_l07Syllable.j0] at h
 | k + 1 => by
  have ih0 := spec_l07Syllable.mono_l k; intro y0 y1 y2
  unfold spec_l07Syllable.j0
  repeat' first
  | (with_reducible exact ih0 _ _ _)
  | (with_reducible exact LeO.refl _)
  | (with_reducible exact LeO.none _)
  | (with_reducible refine LeO.ite ?_ ?_)
  | (with_reducible refine LeO.bind ?_ (fun _ => ?_))
  | exact ih0 _ _ _
  | exact LeO.none _
  | refine LeO.ite ?_ ?_
  | refine LeO.bind ?_ (fun _ => ?_)
theorem spec_l07Syllable.mono : ∀ a0 a1 k, LeO (spec_l07Syllable.f k a0 a1) (spec_l07Syllable.f (k + 1) a0 a1) := by
 intro a0 a1 k
 have ih0 := spec_l07Syllable.mono_l k
 unfold spec_l07Syllable.f
 repeat' first
   | (with_reducible exact ih0 _ _ _)
   | (with_reducible exact LeO.refl _)
   | (with_reducible exact LeO.none _)
   | (with_reducible refine LeO.ite ?_ ?_)
   | (with_reducible refine LeO.bind ?_ (fun _ => ?_))
   | exact ih0 _ _ _
   | exact LeO.none _
   | refine LeO.ite ?_ ?_
   | refine LeO.bind ?_ (fun _ => ?_)
set_option maxHeartbeats 8000000 in
set_option maxRecDepth 100000 in
theorem spec_l07Syllable.calls (k : Nat) (a0 : Int) (a1 : Int) (r : Bool) (w : World) (h : spec_l07Syllable.f k a0 a1 = some r) :
  Calls Tryd.prog 183 #[.int .i64 a0, .int .i64 a1] w fun e w' => e = .returned (.bool r) ∧ Drawn0 w w' := by
 have H : ((W_spec_l07Part.f a0).bind fun t166 => ((W_spec_l07Part.f a1).bind fun t167 => (if t166 = 1 then (if t167 = 1 then (some true) else (if t167 = 2 then (some true) else (if t167 = 4 then (some true) else (some (t167 == 5))))) else (if t166 = 2 then (spec_l07Syllable.j0 k t167 t166 (t166 == 2)) else (spec_l07Syllable.j0 k t167 t166 (t166 == 4)))))) = some r := h
 clear h
 replace H := Option.bind_eq_some_iff.mp H
 obtain ⟨t166, A30, H⟩ := H
 try dsimp only at H
 have A3 := Aside0.mk A30
 clear A30
 replace H := Option.bind_eq_some_iff.mp H
 obtain ⟨t167, A40, H⟩ := H
 try dsimp only at H
 have A4 := Aside0.mk A40
 clear A40
 by_cases c5 : t166 = 1
 ·rw [if_pos c5] at H
  have c5b0 : (t166 == 1) = true := beq_iff_eq.mpr c5; have c5b1 : (t166 != 1) = false := bne_eq_false_iff_eq.mpr c5; clear c5
  by_cases c6 : t167 = 1
  ·rw [if_pos c6] at H
   have c6b0 : (t167 == 1) = true := beq_iff_eq.mpr c6; have c6b1 : (t167 != 1) = false := bne_eq_false_iff_eq.mpr c6; clear c6; obtain rfl := Option.some.inj H
   go_enter Tryd.func183, Tryd.ntmps183
   go_wp2_with (first | ((with_reducible refine gate_callee (f := 227) rfl ?_); refine goesL_ (some 8) rfl rfl Tryd.func227 (by kernel_rfl) rfl #[.int .i64 a0] rfl (by (try simp only [List.map_toArray, List.map_cons, List.map_nil]); first | done | rfl) ?_; (with_reducible refine (W_spec_l07Part.calls a0 t166 _ A3.out).mono ?_); rintro e w' ⟨rfl, ⟨nd, rfl⟩⟩; refine ⟨_, rfl, ?_⟩) | ((with_reducible refine gate_callee (f := 227) rfl ?_); refine goesL_ (some 10) rfl rfl Tryd.func227 (by kernel_rfl) rfl #[.int .i64 a1] rfl (by (try simp only [List.map_toArray, List.map_cons, List.map_nil]); first | done | rfl) ?_; (with_reducible refine (W_spec_l07Part.calls a1 t167 _ A4.out).mono ?_); rintro e w' ⟨rfl, ⟨nd, rfl⟩⟩; refine ⟨_, rfl, ?_⟩))
   go_ret
   exact ⟨by first | rfl | (simp; done) | (simp [*]; done), by repeat (first | exact Drawn0.refl _ | apply Drawn0.step)⟩
  rw [if_neg c6] at H; have c6b0 : (t167 == 1) = false := beq_eq_false_iff_ne.mpr c6; have c6b1 : (t167 != 1) = true := bne_iff_ne.mpr c6
  by_cases c7 : t167 = 2
  ·rw [if_pos c7] at H
   have c7b0 : (t167 == 2) = true := beq_iff_eq.mpr c7; have c7b1 : (t167 != 2) = false := bne_eq_false_iff_eq.mpr c7; clear c7; obtain rfl := Option.some.inj H
   go_enter Tryd.func183, Tryd.ntmps183
   go_wp2_with (first | ((with_reducible refine gate_callee (f := 227) rfl ?_); refine goesL_ (some 8) rfl rfl Tryd.func227 (by kernel_rfl) rfl #[.int .i64 a0] rfl (by (try simp only [List.map_toArray, List.map_cons, List.map_nil]); first | done | rfl) ?_; (with_reducible refine (W_spec_l07Part.calls a0 t166 _ A3.out).mono ?_); rintro e w' ⟨rfl, ⟨nd, rfl⟩⟩; refine ⟨_, rfl, ?_⟩) | ((with_reducible refine gate_callee (f := 227) rfl ?_); refine goesL_ (some 10) rfl rfl Tryd.func227 (by kernel_rfl) rfl #[.int .i64 a1] rfl (by (try simp only [List.map_toArray, List.map_cons, List.map_nil]); first | done | rfl) ?_; (with_reducible refine (W_spec_l07Part.calls a1 t167 _ A4.out).mono ?_); rintro e w' ⟨rfl, ⟨nd, rfl⟩⟩; refine ⟨_, rfl, ?_⟩))
   go_ret
   exact ⟨by first | rfl | (simp; done) | (simp [*]; done), by repeat (first | exact Drawn0.refl _ | apply Drawn0.step)⟩
  rw [if_neg c7] at H; have c7b0 : (t167 == 2) = false := beq_eq_false_iff_ne.mpr c7; have c7b1 : (t167 != 2) = true := bne_iff_ne.mpr c7
  by_cases c8 : t167 = 4
  ·rw [if_pos c8] at H
   have c8b0 : (t167 == 4) = true := beq_iff_eq.mpr c8; have c8b1 : (t167 != 4) = false := bne_eq_false_iff_eq.mpr c8; clear c8; obtain rfl := Option.some.inj H
   go_enter Tryd.func183, Tryd.ntmps183
   go_wp2_with (first | ((with_reducible refine gate_callee (f := 227) rfl ?_); refine goesL_ (some 8) rfl rfl Tryd.func227 (by kernel_rfl) rfl #[.int .i64 a0] rfl (by (try simp only [List.map_toArray, List.map_cons, List.map_nil]); first | done | rfl) ?_; (with_reducible refine (W_spec_l07Part.calls a0 t166 _ A3.out).mono ?_); rintro e w' ⟨rfl, ⟨nd, rfl⟩⟩; refine ⟨_, rfl, ?_⟩) | ((with_reducible refine gate_callee (f := 227) rfl ?_); refine goesL_ (some 10) rfl rfl Tryd.func227 (by kernel_rfl) rfl #[.int .i64 a1] rfl (by (try simp only [List.map_toArray, List.map_cons, List.map_nil]); first | done | rfl) ?_; (with_reducible refine (W_spec_l07Part.calls a1 t167 _ A4.out).mono ?_); rintro e w' ⟨rfl, ⟨nd, rfl⟩⟩; refine ⟨_, rfl, ?_⟩))
   go_ret
   exact ⟨by first | rfl | (simp; done) | (simp [*]; done), by repeat (first | exact Drawn0.refl _ | apply Drawn0.step)⟩
  rw [if_neg c8] at H; have c8b0 : (t167 == 4) = false := beq_eq_false_iff_ne.mpr c8; have c8b1 : (t167 != 4) = true := bne_iff_ne.mpr c8; obtain rfl := Option.some.inj H
  go_enter Tryd.func183, Tryd.ntmps183
  go_wp2_with (first | ((with_reducible refine gate_callee (f := 227) rfl ?_); refine goesL_ (some 8) rfl rfl Tryd.func227 (by kernel_rfl) rfl #[.int .i64 a0] rfl (by (try simp only [List.map_toArray, List.map_cons, List.map_nil]); first | done | rfl) ?_; (with_reducible refine (W_spec_l07Part.calls a0 t166 _ A3.out).mono ?_); rintro e w' ⟨rfl, ⟨nd, rfl⟩⟩; refine ⟨_, rfl, ?_⟩) | ((with_reducible refine gate_callee (f := 227) rfl ?_); refine goesL_ (some 10) rfl rfl Tryd.func227 (by kernel_rfl) rfl #[.int .i64 a1] rfl (by (try simp only [List.map_toArray, List.map_cons, List.map_nil]); first | done | rfl) ?_; (with_reducible refine (W_spec_l07Part.calls a1 t167 _ A4.out).mono ?_); rintro e w' ⟨rfl, ⟨nd, rfl⟩⟩; refine ⟨_, rfl, ?_⟩))
  go_ret
  exact ⟨by first | rfl | (simp; done) | (simp [*]; done), by repeat (first | exact Drawn0.refl _ | apply Drawn0.step)⟩
 rw [if_neg c5] at H
 have c5b0 : (t166 == 1) = false := beq_eq_false_iff_ne.mpr c5
 have c5b1 : (t166 != 1) = true := bne_iff_ne.mpr c5
 have HC9 := Aside0.mk H
 clear H
 go_enter Tryd.func183, Tryd.ntmps183
 go_upto_if 28 with (first | ((with_reducible refine gate_callee (f := 227) rfl ?_); refine goesL_ (some 8) rfl rfl Tryd.func227 (by kernel_rfl) rfl #[.int .i64 a0] rfl (by (try simp only [List.map_toArray, List.map_cons, List.map_nil]); first | done | rfl) ?_; (with_reducible refine (W_spec_l07Part.calls a0 t166 _ A3.out).mono ?_); rintro e w' ⟨rfl, ⟨nd, rfl⟩⟩; refine ⟨_, rfl, ?_⟩) | ((with_reducible refine gate_callee (f := 227) rfl ?_); refine goesL_ (some 10) rfl rfl Tryd.func227 (by kernel_rfl) rfl #[.int .i64 a1] rfl (by (try simp only [List.map_toArray, List.map_cons, List.map_nil]); first | done | rfl) ?_; (with_reducible refine (W_spec_l07Part.calls a1 t167 _ A4.out).mono ?_); rintro e w' ⟨rfl, ⟨nd, rfl⟩⟩; refine ⟨_, rfl, ?_⟩))
 (try simp only [Act.put, List.setIfInBounds_toArray, List.set_cons_zero, List.set_cons_succ])
 go_cut [28] (fun v28 wc => ∃ (kq : Nat) (x28_8 : Bool), v28 = .bool x28_8 ∧ Aside0 (spec_l07Syllable.j0 kq t167 t166 x28_8 = some r) ∧ Aside0 (kq ≤ k) ∧ Drawn0 w wc)
 case first =>
  have H := HC9.out; clear HC9
  by_cases c10 : t166 = 2
  ·rw [if_pos c10] at H
   have c10b0 : (t166 == 2) = true := beq_iff_eq.mpr c10; have c10b1 : (t166 != 2) = false := bne_eq_false_iff_eq.mpr c10; clear c10
   (first | rw [c10b0] | (simp only [i64_w, i32_w]; rw [c10b0]) | skip)
   have H' := Aside0.mk H; clear H
   go_wp2
   go_meet
   case rel => exact ⟨_, ((t166 == 2)), (by first | rfl | (simp; done) | (simp [*]; done)), H', ⟨by first | omega | exact Nat.le_refl _⟩, by repeat (first | exact Drawn0.refl _ | apply Drawn0.step)⟩
  rw [if_neg c10] at H; have c10b0 : (t166 == 2) = false := beq_eq_false_iff_ne.mpr c10; have c10b1 : (t166 != 2) = true := bne_iff_ne.mpr c10
  (first | rw [c10b0] | (simp only [i64_w, i32_w]; rw [c10b0]) | skip)
  have H' := Aside0.mk H; clear H
  go_wp2
  go_meet
  case rel => exact ⟨_, ((t166 == 4)), (by first | rfl | (simp; done) | (simp [*]; done)), H', ⟨by first | omega | exact Nat.le_refl _⟩, by repeat (first | exact Drawn0.refl _ | apply Drawn0.step)⟩
 case rest =>
  clear HC9
  try clear c1; try clear c2; try clear p2; try clear c5; try clear c5b0; try clear c5b1; try clear c6; try clear c6b0; try clear c6b1; try clear c7; try clear c7b0; try clear c7b1; try clear c8; try clear c8b0; try clear c8b1; try clear c10; try clear c10b0; try clear c10b1
  obtain ⟨kq, x28_8, rfl, HA, HJ8, ⟨mc8, rfl⟩⟩ := hcut
  cases kq with
  | zero => exact absurd HA.out (by simp [spec_l07Syllable.j0])
  | succ kj8 =>
   have H := HA.out; clear HA; simp only [spec_l07Syllable.j0] at H
   by_cases c11 : x28_8 = true
   ·subst c11
    have H1 : (if t167 = 2 then (some true) else (some (t167 == 3))) = some r := by rw [if_pos rfl] at H; exact H
    clear H; have H := H1; clear H1
    by_cases c12 : t167 = 2
    ·rw [if_pos c12] at H
     have c12b0 : (t167 == 2) = true := beq_iff_eq.mpr c12; have c12b1 : (t167 != 2) = false := bne_eq_false_iff_eq.mpr c12; clear c12; obtain rfl := Option.some.inj H
     go_wp2
     go_ret
     exact ⟨by first | rfl | (simp; done) | (simp [*]; done), by repeat (first | exact Drawn0.refl _ | apply Drawn0.step)⟩
    rw [if_neg c12] at H; have c12b0 : (t167 == 2) = false := beq_eq_false_iff_ne.mpr c12; have c12b1 : (t167 != 2) = true := bne_iff_ne.mpr c12; obtain rfl := Option.some.inj H
    go_wp2
    go_ret
    exact ⟨by first | rfl | (simp; done) | (simp [*]; done), by repeat (first | exact Drawn0.refl _ | apply Drawn0.step)⟩
   replace c11 := Bool.eq_false_iff.mpr c11; subst c11
   have H1 : (if t166 = 3 then (some (t167 == 3)) else (if t166 = 5 then (some (t167 == 3)) else (some false))) = some r := by rw [if_neg (show ¬ (false = true) by decide)] at H; exact H
   clear H; have H := H1; clear H1
   by_cases c13 : t166 = 3
   ·rw [if_pos c13] at H
    have c13b0 : (t166 == 3) = true := beq_iff_eq.mpr c13; have c13b1 : (t166 != 3) = false := bne_eq_false_iff_eq.mpr c13; clear c13; obtain rfl := Option.some.inj H
    go_wp2
    go_ret
    exact ⟨by first | rfl | (simp; done) | (simp [*]; done), by repeat (first | exact Drawn0.refl _ | apply Drawn0.step)⟩
   rw [if_neg c13] at H; have c13b0 : (t166 == 3) = false := beq_eq_false_iff_ne.mpr c13; have c13b1 : (t166 != 3) = true := bne_iff_ne.mpr c13
   by_cases c14 : t166 = 5
   ·rw [if_pos c14] at H
    have c14b0 : (t166 == 5) = true := beq_iff_eq.mpr c14; have c14b1 : (t166 != 5) = false := bne_eq_false_iff_eq.mpr c14; clear c14; obtain rfl := Option.some.inj H
    go_wp2
    go_ret
    exact ⟨by first | rfl | (simp; done) | (simp [*]; done), by repeat (first | exact Drawn0.refl _ | apply Drawn0.step)⟩
   rw [if_neg c14] at H; have c14b0 : (t166 == 5) = false := beq_eq_false_iff_ne.mpr c14; have c14b1 : (t166 != 5) = true := bne_iff_ne.mpr c14; obtain rfl := Option.some.inj H
   go_wp2
   go_ret
   exact ⟨by first | rfl | (simp; done) | (simp [*]; done), by repeat (first | exact Drawn0.refl _ | apply Drawn0.step)⟩

def W_spec_l07Syllable.f (a b : Int) : Option Bool := if (0 ≤ a ∧ a ≤ 1114111) ∧ 0 ≤ b ∧ b ≤ 1114111 then some (YtiabgmddnddeiaaDoorChr.syl a b) else none
theorem W_spec_l07Syllable.to {a b : Int} {r : Bool} (h : W_spec_l07Syllable.f a b = some r) : ∃ k, spec_l07Syllable.f k a b = some r := by
  unfold W_spec_l07Syllable.f at h
  split at h
  · rename_i hp
    refine ⟨1, ?_⟩
    rw [← h]
    unfold spec_l07Syllable.f W_spec_l07Part.f YtiabgmddnddeiaaDoorChr.syl
    rw [if_pos hp.1, if_pos hp.2]
    simp only [Option.bind_some, spec_l07Syllable.j0]
    generalize YtiabgmddnddeiaaDoorChr.prt a = x
    generalize YtiabgmddnddeiaaDoorChr.prt b = y
    by_cases x1 : x = 1
    · rw [if_pos x1, if_pos x1]
      by_cases y1 : y = 1
      · rw [if_pos y1, y1]; rfl
      rw [if_neg y1, show (y == 1) = false by simpa using y1]
      by_cases y2 : y = 2
      · rw [if_pos y2, y2]; rfl
      rw [if_neg y2, show (y == 2) = false by simpa using y2]
      by_cases y4 : y = 4
      · rw [if_pos y4, y4]; rfl
      rw [if_neg y4, show (y == 4) = false by simpa using y4]
      rfl
    rw [if_neg x1, if_neg x1]
    have key : x = 2 ∨ x = 4 → (if y = 2 then some true else some (y == 3)) = some (y == 2 || y == 3) := by
      intro _
      by_cases y2 : y = 2
      · rw [if_pos y2, y2]; rfl
      · rw [if_neg y2, show (y == 2) = false by simpa using y2]; rfl
    by_cases x2 : x = 2
    · rw [if_pos x2, show (x == 2) = true by simpa using x2, if_pos rfl, key (.inl x2), if_pos (show x = 2 ∨ x = 4 from .inl x2)]
    rw [if_neg x2]
    by_cases x4 : x = 4
    · rw [show (x == 4) = true by simpa using x4, if_pos rfl, key (.inr x4), if_pos (show x = 2 ∨ x = 4 from .inr x4)]
    rw [show (x == 4) = false by simpa using x4, if_neg (by decide)]
    rw [if_neg (show ¬ (x = 2 ∨ x = 4) from fun z => z.elim x2 x4)]
    by_cases x3 : x = 3
    · rw [if_pos x3, if_pos (show x = 3 ∨ x = 5 from .inl x3)]
    rw [if_neg x3]
    by_cases x5 : x = 5
    · rw [if_pos x5, if_pos (show x = 3 ∨ x = 5 from .inr x5)]
    · rw [if_neg x5, if_neg (show ¬ (x = 3 ∨ x = 5) from fun z => z.elim x3 x5)]
  · cases h
theorem W_spec_l07Syllable.calls (a0 : Int) (a1 : Int) (r : Bool) (w : World) (h : W_spec_l07Syllable.f a0 a1 = some r) :
    Calls Tryd.prog 183 #[.int .i64 a0, .int .i64 a1] w fun e w' => e = .returned (.bool r) ∧ Drawn0 w w' := by
  obtain ⟨k, hk⟩ := W_spec_l07Syllable.to h
  exact spec_l07Syllable.calls k a0 a1 r w hk

/-! ### spec_l07Mark: function 184 -/
def spec_l07Mark.f (a0 : Int) : Option (Bool) := (spec_l01Cat.f a0).bind fun t168 => (if t168 = 3 then (some true) else (if a0 = 7936 then (some true) else (if a0 ≥ 7744 then (some (decide (a0 ≤ 7748))) else (some false))))
set_option maxHeartbeats 8000000 in
set_option maxRecDepth 100000 in
theorem spec_l07Mark.calls (a0 : Int) (r : Bool) (w : World) (h : spec_l07Mark.f a0 = some r) :
  Calls Tryd.prog 184 #[.int .i64 a0] w fun e w' => e = .returned (.bool r) ∧ Below w.heap.size w w' := by
 have HB := Aside0.mk (Below.refl w.heap.size w)
 have H : ((spec_l01Cat.f a0).bind fun t168 => (if t168 = 3 then (some true) else (if a0 = 7936 then (some true) else (if a0 ≥ 7744 then (some (decide (a0 ≤ 7748))) else (some false))))) = some r := h
 clear h
 replace H := Option.bind_eq_some_iff.mp H
 obtain ⟨t168, A20, H⟩ := H
 try dsimp only at H
 have A2 := Aside0.mk A20
 clear A20
 by_cases c3 : t168 = 3
 ·rw [if_pos c3] at H
  have c3b0 : (t168 == 3) = true := beq_iff_eq.mpr c3; have c3b1 : (t168 != 3) = false := bne_eq_false_iff_eq.mpr c3; clear c3; obtain rfl := Option.some.inj H
  go_enter Tryd.func184, Tryd.ntmps184
  go_wp2_with (first | ((with_reducible refine gate_callee (f := 181) rfl ?_); refine goesL_ (some 4) rfl rfl Tryd.func181 (by kernel_rfl) rfl #[.int .i64 a0] rfl (by (try simp only [List.map_toArray, List.map_cons, List.map_nil]); first | done | rfl) ?_; (with_reducible refine (spec_l01Cat.calls a0 t168 _ A2.out).mono ?_); rintro e w4 ⟨rfl, hb⟩; refine ⟨_, rfl, ?_⟩; have n0_ := Aside0.mk (below_step (belowA) hb); clear HB; have HB := n0_; clear n0_; (try clear hb); (try clear hb2); (try clear hk); (try clear hi)))
  go_ret
  exact ⟨by first | rfl | (simp [errW_none, errW_some] <;> rfl) | (simp [*, errW_none, errW_some] <;> rfl), belowA⟩
 rw [if_neg c3] at H
 have c3b0 : (t168 == 3) = false := beq_eq_false_iff_ne.mpr c3
 have c3b1 : (t168 != 3) = true := bne_iff_ne.mpr c3
 by_cases c5 : a0 = 7936
 ·rw [if_pos c5] at H
  have c5b0 : (a0 == 7936) = true := beq_iff_eq.mpr c5; have c5b1 : (a0 != 7936) = false := bne_eq_false_iff_eq.mpr c5; clear c5; obtain rfl := Option.some.inj H
  go_enter Tryd.func184, Tryd.ntmps184
  go_wp2_with (first | ((with_reducible refine gate_callee (f := 181) rfl ?_); refine goesL_ (some 4) rfl rfl Tryd.func181 (by kernel_rfl) rfl #[.int .i64 a0] rfl (by (try simp only [List.map_toArray, List.map_cons, List.map_nil]); first | done | rfl) ?_; (with_reducible refine (spec_l01Cat.calls a0 t168 _ A2.out).mono ?_); rintro e w6 ⟨rfl, hb⟩; refine ⟨_, rfl, ?_⟩; have n0_ := Aside0.mk (below_step (belowA) hb); clear HB; have HB := n0_; clear n0_; (try clear hb); (try clear hb2); (try clear hk); (try clear hi)))
  go_ret
  exact ⟨by first | rfl | (simp [errW_none, errW_some] <;> rfl) | (simp [*, errW_none, errW_some] <;> rfl), belowA⟩
 rw [if_neg c5] at H
 have c5b0 : (a0 == 7936) = false := beq_eq_false_iff_ne.mpr c5
 have c5b1 : (a0 != 7936) = true := bne_iff_ne.mpr c5
 by_cases c7 : a0 ≥ 7744
 ·rw [if_pos c7] at H
  have c7b0 : decide (7744 ≤ a0) = true := decide_eq_true c7; clear c7; obtain rfl := Option.some.inj H
  go_enter Tryd.func184, Tryd.ntmps184
  go_wp2_with (first | ((with_reducible refine gate_callee (f := 181) rfl ?_); refine goesL_ (some 4) rfl rfl Tryd.func181 (by kernel_rfl) rfl #[.int .i64 a0] rfl (by (try simp only [List.map_toArray, List.map_cons, List.map_nil]); first | done | rfl) ?_; (with_reducible refine (spec_l01Cat.calls a0 t168 _ A2.out).mono ?_); rintro e w8 ⟨rfl, hb⟩; refine ⟨_, rfl, ?_⟩; have n0_ := Aside0.mk (below_step (belowA) hb); clear HB; have HB := n0_; clear n0_; (try clear hb); (try clear hb2); (try clear hk); (try clear hi)))
  go_ret
  exact ⟨by first | rfl | (simp [errW_none, errW_some] <;> rfl) | (simp [*, errW_none, errW_some] <;> rfl), belowA⟩
 rw [if_neg c7] at H
 have c7b0 : decide (7744 ≤ a0) = false := decide_eq_false c7
 clear c7
 obtain rfl := Option.some.inj H
 go_enter Tryd.func184, Tryd.ntmps184
 go_wp2_with (first | ((with_reducible refine gate_callee (f := 181) rfl ?_); refine goesL_ (some 4) rfl rfl Tryd.func181 (by kernel_rfl) rfl #[.int .i64 a0] rfl (by (try simp only [List.map_toArray, List.map_cons, List.map_nil]); first | done | rfl) ?_; (with_reducible refine (spec_l01Cat.calls a0 t168 _ A2.out).mono ?_); rintro e w9 ⟨rfl, hb⟩; refine ⟨_, rfl, ?_⟩; have n0_ := Aside0.mk (below_step (belowA) hb); clear HB; have HB := n0_; clear n0_; (try clear hb); (try clear hb2); (try clear hk); (try clear hi)))
 go_ret
 exact ⟨by first | rfl | (simp [errW_none, errW_some] <;> rfl) | (simp [*, errW_none, errW_some] <;> rfl), belowA⟩

theorem spec_l07Mark.eq (p : Int) : spec_l07Mark.f p = some (YtiabgmddnddeiaaDoorChr.mrk p) := by
  have e : spec_l01Cat.f p = some (YtiabgmddnddeiaaDoorCas.kind p).1 := rfl
  unfold spec_l07Mark.f YtiabgmddnddeiaaDoorChr.mrk
  rw [e]
  simp only [Option.bind_some]
  by_cases h : (YtiabgmddnddeiaaDoorCas.kind p).1 = 3
  · rw [if_pos h, h]; rfl
  rw [if_neg h, show ((YtiabgmddnddeiaaDoorCas.kind p).1 == 3) = false by simpa using h]
  by_cases g : p = 7936
  · rw [if_pos g, g]; rfl
  rw [if_neg g, show (p == 7936) = false by simpa using g]
  by_cases j : 7744 ≤ p
  · rw [if_pos (show p ≥ 7744 from j), decide_eq_true j]; rfl
  · rw [if_neg (show ¬ p ≥ 7744 from j), decide_eq_false j]; rfl

end Go.Proofs.YtiabgmddnddeiaaDoor.QFnExactSentenceCuts
