/- The law FnNormer: at every input the call answers true (this text: contracts on its way, by a program of this session's; no condition of ours). -/
import Derived.Test.YtiabgmddnddeiaaDoorQFnNormerx0
import Derived.Test.YtiabgmddnddeiaaDoorQFnNormerx1
import Derived.Test.YtiabgmddnddeiaaDoorQFnNormerx5
namespace Go.Proofs.YtiabgmddnddeiaaDoor.QFnNormer
open Go.RowKit Go.Proofs.YtiabgmddnddeiaaDoorW.PrintWords Go.Proofs.YtiabgmddnddeiaaDoorW.PrintLast Go.Proofs.YtiabgmddnddeiaaDoorW.PrintMore
attribute [local go_sem] max2_int min2_int max_two min_two max_three min_three max_four min_four   -- for this text's walks alone
set_option linter.unusedVariables false
set_option linter.unusedSimpArgs false

/-! ### spec_l05Pair: function 224 -/
mutual
def spec_l05Pair.j0 : Nat → Int → Int → Int → Bool → Option (Int)
 | 0, _, _, _, _ => none
 | k + 1, x0, x1, x5, x8 => if x8 = true then (some (wrap64 ((wrap64 ((wrap64 (8192 + (wrap64 (8 * x5)))) + x1)) - 4096))) else (if x5 ≥ 0 then (if x1 ≥ 4112 then (spec_l05Pair.j1 k x0 x1 x5 (decide (x1 ≤ 4119))) else (spec_l05Pair.j1 k x0 x1 x5 false)) else (spec_l05Pair.j1 k x0 x1 x5 false))
def spec_l05Pair.j1 : Nat → Int → Int → Int → Bool → Option (Int)
 | 0, _, _, _, _ => none
 | k + 1, x0, x1, x5, x25 => if x25 = true then (some (wrap64 ((wrap64 ((wrap64 (8704 + (wrap64 (8 * x5)))) + x1)) - 4112))) else (if x0 ≥ 8704 then (if x0 < 9120 then (spec_l05Pair.j2 k x0 x1 (x1 == 4096)) else (spec_l05Pair.j2 k x0 x1 false)) else (spec_l05Pair.j2 k x0 x1 false))
def spec_l05Pair.j2 : Nat → Int → Int → Bool → Option (Int)
 | 0, _, _, _ => none
 | k + 1, x0, x1, x42 => if x42 = true then (some (wrap64 (x0 + 512))) else (if x0 ≥ 1792 then (if x0 ≤ 1810 then (if x1 ≥ 1824 then (spec_l05Pair.j3 k x0 x1 (decide (x1 ≤ 1844))) else (spec_l05Pair.j3 k x0 x1 false)) else (spec_l05Pair.j3 k x0 x1 false)) else (spec_l05Pair.j3 k x0 x1 false))
def spec_l05Pair.j3 : Nat → Int → Int → Bool → Option (Int)
 | 0, _, _, _ => none
 | k + 1, x0, x1, x55 => if x55 = true then (some (wrap64 (12288 + (wrap64 ((wrap64 ((wrap64 ((wrap64 ((wrap64 (x0 - 1792)) * 21)) + x1)) - 1824)) * 28))))) else (if x0 ≥ 12288 then (if x0 ≤ 23459 then (if (Int.tmod (wrap64 (x0 - 12288)) 28) = 0 then (if x1 ≥ 1857 then (if x1 ≤ 1883 then (some (wrap64 ((wrap64 (x0 + x1)) - 1856))) else (some (-1))) else (some (-1))) else (some (-1))) else (some (-1))) else (some (-1)))
end
def spec_l05Pair.f (k : Nat) (a0 : Int) (a1 : Int) : Option (Int) := (spec_l05LetterAt.f k a0).bind fun t191 => (if t191 ≥ 0 then (if a1 ≥ 4096 then (spec_l05Pair.j0 k a0 a1 t191 (decide (a1 ≤ 4103))) else (spec_l05Pair.j0 k a0 a1 t191 false)) else (spec_l05Pair.j0 k a0 a1 t191 false))
theorem spec_l05Pair.mono_l : ∀ k, (∀ y0 y1 y2 y3, LeO (spec_l05Pair.j0 k y0 y1 y2 y3) (spec_l05Pair.j0 (k + 1) y0 y1 y2 y3)) ∧ (∀ y0 y1 y2 y3, LeO (spec_l05Pair.j1 k y0 y1 y2 y3) (spec_l05Pair.j1 (k + 1) y0 y1 y2 y3)) ∧ (∀ y0 y1 y2, LeO (spec_l05Pair.j2 k y0 y1 y2) (spec_l05Pair.j2 (k + 1) y0 y1 y2)) ∧ (∀ y0 y1 y2, LeO (spec_l05Pair.j3 k y0 y1 y2) (spec_l05Pair.j3 (k + 1) y0 y1 y2))
 | 0 => ⟨fun _ _ _ _ r h => by simp [spec_l05Pair.j0] at h, fun _ _ _ _ r h => by simp [spec_l05Pair.j1] at h, fun _ _ _ r h => by simp [spec_l05Pair.j2] at h, fun _ _ _ r h => by simp [spec_l05Pair.j3] at h⟩
 | k + 1 => by
  obtain ⟨ih0, ih1, ih2, ih3⟩ := spec_l05Pair.mono_l k; refine ⟨?_, ?_, ?_, ?_⟩
  ·intro y0 y1 y2 y3
   unfold spec_l05Pair.j0
   repeat' first
   | (with_reducible exact ih0 _ _ _ _)
   | (with_reducible exact ih1 _ _ _ _)
   | (with_reducible exact ih2 _ _ _)
   | (with_reducible exact ih3 _ _ _)
   | (with_reducible exact spec_l05LetterAt.mono _ _)
   | (with_reducible exact LeO.refl _)
   | (with_reducible exact LeO.none _)
   | (with_reducible refine LeO.ite ?_ ?_)
   | (with_reducible refine LeO.bind ?_ (fun _ => ?_))
   | exact ih0 _ _ _ _
   | exact ih1 _ _ _ _
   | exact ih2 _ _ _
   | exact ih3 _ _ _
   | exact spec_l05LetterAt.mono _ _
   | exact LeO.none _
   | refine LeO.ite ?_ ?_
   | refine LeO.bind ?_ (fun _ => ?_)
  ·intro y0 y1 y2 y3
   unfold spec_l05Pair.j1
   repeat' first
   | (with_reducible exact ih0 _ _ _ _)
   | (with_reducible exact ih1 _ _ _ _)
   | (with_reducible exact ih2 _ _ _)
   | (with_reducible exact ih3 _ _ _)
   | (with_reducible exact spec_l05LetterAt.mono _ _)
   | (with_reducible exact LeO.refl _)
   | (with_reducible exact LeO.none _)
   | (with_reducible refine LeO.ite ?_ ?_)
   | (with_reducible refine LeO.bind ?_ (fun _ => ?_))
   | exact ih0 _ _ _ _
   | exact ih1 _ _ _ _
   | exact ih2 _ _ _
   | exact ih3 _ _ _
   | exact spec_l05LetterAt.mono _ _
   | exact LeO.none _
   | refine LeO.ite ?_ ?_
   | refine LeO.bind ?_ (fun _ => ?_)
  ·intro y0 y1 y2
   unfold spec_l05Pair.j2
   repeat' first
   | (with_reducible exact ih0 _ _ _ _)
   | (with_reducible exact ih1 _ _ _ _)
   | (with_reducible exact ih2 _ _ _)
   | (with_reducible exact ih3 _ _ _)
   | (with_reducible exact spec_l05LetterAt.mono _ _)
   | (with_reducible exact LeO.refl _)
   | (with_reducible exact LeO.none _)
   | (with_reducible refine LeO.ite ?_ ?_)
   | (with_reducible refine LeO.bind ?_ (fun _ => ?_))
   | exact ih0 _ _ _ _
   | exact ih1 _ _ _ _
   | exact ih2 _ _ _
   | exact ih3 _ _ _
   | exact spec_l05LetterAt.mono _ _
   | exact LeO.none _
   | refine LeO.ite ?_ ?_
   | refine LeO.bind ?_ (fun _ => ?_)
  intro y0 y1 y2
  unfold spec_l05Pair.j3
  repeat' first
  | (with_reducible exact ih0 _ _ _ _)
  | (with_reducible exact ih1 _ _ _ _)
  | (with_reducible exact ih2 _ _ _)
  | (with_reducible exact ih3 _ _ _)
  | (with_reducible exact spec_l05LetterAt.mono _ _)
  | (with_reducible exact LeO.refl _)
  | (with_reducible exact LeO.none _)
  | (with_reducible refine LeO.ite ?_ ?_)
  | (with_reducible refine LeO.bind ?_ (fun _ => ?_))
  | exact ih0 _ _ _ _
  | exact ih1 _ _ _ _
  | exact ih2 _ _ _
  | exact ih3 _ _ _
  | exact spec_l05LetterAt.mono _ _
  | exact LeO.none _
  | refine LeO.ite ?_ ?_
  | refine LeO.bind ?_ (fun _ => ?_)
theorem spec_l05Pair.mono : ∀ a0 a1 k, LeO (spec_l05Pair.f k a0 a1) (spec_l05Pair.f (k + 1) a0 a1) := by
 intro a0 a1 k
 obtain ⟨ih0, ih1, ih2, ih3⟩ := spec_l05Pair.mono_l k
 unfold spec_l05Pair.f
 repeat' first
   | (with_reducible exact ih0 _ _ _ _)
   | (with_reducible exact ih1 _ _ _ _)
   | (with_reducible exact ih2 _ _ _)
   | (with_reducible exact ih3 _ _ _)
   | (with_reducible exact spec_l05LetterAt.mono _ _)
   | (with_reducible exact LeO.refl _)
   | (with_reducible exact LeO.none _)
   | (with_reducible refine LeO.ite ?_ ?_)
   | (with_reducible refine LeO.bind ?_ (fun _ => ?_))
   | exact ih0 _ _ _ _
   | exact ih1 _ _ _ _
   | exact ih2 _ _ _
   | exact ih3 _ _ _
   | exact spec_l05LetterAt.mono _ _
   | exact LeO.none _
   | refine LeO.ite ?_ ?_
   | refine LeO.bind ?_ (fun _ => ?_)
set_option maxHeartbeats 8000000 in
set_option maxRecDepth 100000 in
theorem spec_l05Pair.calls (k : Nat) (a0 : Int) (a1 : Int) (r : Int) (w : World) (h : spec_l05Pair.f k a0 a1 = some r) :
  Calls Tryd.prog 224 #[.int .i64 a0, .int .i64 a1] w fun e w' => e = .returned (.int .i64 r) ∧ Drawn0 w w' := by
 have H : ((spec_l05LetterAt.f k a0).bind fun t191 => (if t191 ≥ 0 then (if a1 ≥ 4096 then (spec_l05Pair.j0 k a0 a1 t191 (decide (a1 ≤ 4103))) else (spec_l05Pair.j0 k a0 a1 t191 false)) else (spec_l05Pair.j0 k a0 a1 t191 false))) = some r := h
 clear h
 replace H := Option.bind_eq_some_iff.mp H
 obtain ⟨t191, A30, H⟩ := H
 try dsimp only at H
 have A3 := Aside0.mk A30
 clear A30
 have HC4 := Aside0.mk H
 clear H
 go_enter Tryd.func224, Tryd.ntmps224
 go_upto_region 2 with (first | (go_at_call 249; (with_reducible refine (spec_l05LetterAt.calls k a0 t191 _ A3.out).mono ?_); rintro e w' ⟨rfl, ⟨nd, rfl⟩⟩))
 (try simp only [Act.put, List.setIfInBounds_toArray, List.set_cons_zero, List.set_cons_succ])
 go_cut [8] (fun v8 wc => ∃ (kq : Nat) (x8_3 : Bool), v8 = .bool x8_3 ∧ Aside0 (spec_l05Pair.j0 kq a0 a1 t191 x8_3 = some r) ∧ Aside0 (kq ≤ k) ∧ Drawn0 w wc)
 case first =>
  have H := HC4.out; clear HC4
  by_cases c5 : t191 ≥ 0
  ·rw [if_pos c5] at H
   have c5b0 : decide (0 ≤ t191) = true := decide_eq_true c5; clear c5
   (first | rw [c5b0] | (simp only [i64_w, i32_w]; rw [c5b0]) | skip)
   by_cases c6 : a1 ≥ 4096
   ·rw [if_pos c6] at H
    have c6b0 : decide (4096 ≤ a1) = true := decide_eq_true c6; clear c6; have H' := Aside0.mk H; clear H
    go_wp2
    go_meet
    case rel => exact ⟨_, (decide (a1 ≤ 4103)), (by first | rfl | (simp; done) | (simp [*]; done)), H', ⟨by first | omega | exact Nat.le_refl _⟩, drw0⟩
   rw [if_neg c6] at H; have c6b0 : decide (4096 ≤ a1) = false := decide_eq_false c6; clear c6; have H' := Aside0.mk H; clear H
   go_wp2
   go_meet
   case rel => exact ⟨_, (false), (by first | rfl | (simp; done) | (simp [*]; done)), H', ⟨by first | omega | exact Nat.le_refl _⟩, drw0⟩
  rw [if_neg c5] at H; have c5b0 : decide (0 ≤ t191) = false := decide_eq_false c5; clear c5
  (first | rw [c5b0] | (simp only [i64_w, i32_w]; rw [c5b0]) | skip)
  have H' := Aside0.mk H; clear H
  go_wp2
  go_meet
  case rel => exact ⟨_, (false), (by first | rfl | (simp; done) | (simp [*]; done)), H', ⟨by first | omega | exact Nat.le_refl _⟩, drw0⟩
 case rest =>
  clear HC4
  try clear c2; try clear p2; try clear c5; try clear c5b0; try clear c6; try clear c6b0
  obtain ⟨kq, x8_3, rfl, HA, HJ3, ⟨mc3, rfl⟩⟩ := hcut
  cases kq with
  | zero => exact absurd HA.out (by simp [spec_l05Pair.j0])
  | succ kj3 =>
   have H := HA.out; clear HA; simp only [spec_l05Pair.j0] at H
   by_cases c7 : x8_3 = true
   ·subst c7
    have H1 : (some (wrap64 ((wrap64 ((wrap64 (8192 + (wrap64 (8 * t191)))) + a1)) - 4096))) = some r := by rw [if_pos rfl] at H; exact H
    clear H; have H := H1; clear H1; obtain rfl := Option.some.inj H
    go_wp2
    go_ret
    exact ⟨by first | rfl | (simp; done) | (simp [*]; done), drw0⟩
   replace c7 := Bool.eq_false_iff.mpr c7; subst c7
   have H1 : (if t191 ≥ 0 then (if a1 ≥ 4112 then (spec_l05Pair.j1 kj3 a0 a1 t191 (decide (a1 ≤ 4119))) else (spec_l05Pair.j1 kj3 a0 a1 t191 false)) else (spec_l05Pair.j1 kj3 a0 a1 t191 false)) = some r := by rw [if_neg (show ¬ (false = true) by decide)] at H; exact H
   clear H; have H := H1; clear H1; have HC8 := Aside0.mk H; clear H
   go_upto_region 4 with (fail)
   go_cut [25] (fun v25 wc => ∃ (kq : Nat) (x25_7 : Bool), v25 = .bool x25_7 ∧ Aside0 (spec_l05Pair.j1 kq a0 a1 t191 x25_7 = some r) ∧ Aside0 (kq ≤ kj3) ∧ Drawn0 w wc)
   case first =>
    have H := HC8.out; clear HC8
    by_cases c9 : t191 ≥ 0
    ·rw [if_pos c9] at H
     have c9b0 : decide (0 ≤ t191) = true := decide_eq_true c9; clear c9
     (first | rw [c9b0] | (simp only [i64_w, i32_w]; rw [c9b0]) | skip)
     by_cases c10 : a1 ≥ 4112
     ·rw [if_pos c10] at H
      have c10b0 : decide (4112 ≤ a1) = true := decide_eq_true c10; clear c10; have H' := Aside0.mk H; clear H
      go_wp2
      go_meet
      case rel => exact ⟨_, (decide (a1 ≤ 4119)), (by first | rfl | (simp; done) | (simp [*]; done)), H', ⟨by have := HJ3.out; first | omega | exact Nat.le_refl _⟩, drw0⟩
     rw [if_neg c10] at H; have c10b0 : decide (4112 ≤ a1) = false := decide_eq_false c10; clear c10; have H' := Aside0.mk H; clear H
     go_wp2
     go_meet
     case rel => exact ⟨_, (false), (by first | rfl | (simp; done) | (simp [*]; done)), H', ⟨by have := HJ3.out; first | omega | exact Nat.le_refl _⟩, drw0⟩
    rw [if_neg c9] at H; have c9b0 : decide (0 ≤ t191) = false := decide_eq_false c9; clear c9
    (first | rw [c9b0] | (simp only [i64_w, i32_w]; rw [c9b0]) | skip)
    have H' := Aside0.mk H; clear H
    go_wp2
    go_meet
    case rel => exact ⟨_, (false), (by first | rfl | (simp; done) | (simp [*]; done)), H', ⟨by have := HJ3.out; first | omega | exact Nat.le_refl _⟩, drw0⟩
   case rest =>
    clear HC8
    try clear c1; try clear c2; try clear p2; try clear c3; try clear c5; try clear c5b0; try clear c6; try clear c6b0; try clear p6; try clear c7; try clear c9; try clear c9b0; try clear c10; try clear c10b0; try clear p2
    obtain ⟨kq, x25_7, rfl, HA, HJ7, ⟨mc7, rfl⟩⟩ := hcut
    cases kq with
    | zero => exact absurd HA.out (by simp [spec_l05Pair.j1])
    | succ kj7 =>
     have H := HA.out; clear HA; simp only [spec_l05Pair.j1] at H
     by_cases c11 : x25_7 = true
     ·subst c11
      have H1 : (some (wrap64 ((wrap64 ((wrap64 (8704 + (wrap64 (8 * t191)))) + a1)) - 4112))) = some r := by rw [if_pos rfl] at H; exact H
      clear H; have H := H1; clear H1; obtain rfl := Option.some.inj H
      go_wp2
      go_ret
      exact ⟨by first | rfl | (simp; done) | (simp [*]; done), drw0⟩
     replace c11 := Bool.eq_false_iff.mpr c11; subst c11
     have H1 : (if a0 ≥ 8704 then (if a0 < 9120 then (spec_l05Pair.j2 kj7 a0 a1 (a1 == 4096)) else (spec_l05Pair.j2 kj7 a0 a1 false)) else (spec_l05Pair.j2 kj7 a0 a1 false)) = some r := by rw [if_neg (show ¬ (false = true) by decide)] at H; exact H
     clear H; have H := H1; clear H1; have HC12 := Aside0.mk H; clear H
     go_upto_region 6 with (fail)
     go_cut [42] (fun v42 wc => ∃ (kq : Nat) (x42_11 : Bool), v42 = .bool x42_11 ∧ Aside0 (spec_l05Pair.j2 kq a0 a1 x42_11 = some r) ∧ Aside0 (kq ≤ kj7) ∧ Drawn0 w wc)
     case first =>
      have H := HC12.out; clear HC12
      by_cases c13 : a0 ≥ 8704
      ·rw [if_pos c13] at H
       have c13b0 : decide (8704 ≤ a0) = true := decide_eq_true c13; clear c13
       (first | rw [c13b0] | (simp only [i64_w, i32_w]; rw [c13b0]) | skip)
       by_cases c14 : a0 < 9120
       ·rw [if_pos c14] at H
        have c14b0 : decide (a0 < 9120) = true := decide_eq_true c14; clear c14; have H' := Aside0.mk H; clear H
        go_wp2
        go_meet
        case rel => exact ⟨_, ((a1 == 4096)), (by first | rfl | (simp; done) | (simp [*]; done)), H', ⟨by have := HJ3.out; have := HJ7.out; first | omega | exact Nat.le_refl _⟩, drw0⟩
       rw [if_neg c14] at H; have c14b0 : decide (a0 < 9120) = false := decide_eq_false c14; clear c14; have H' := Aside0.mk H; clear H
       go_wp2
       go_meet
       case rel => exact ⟨_, (false), (by first | rfl | (simp; done) | (simp [*]; done)), H', ⟨by have := HJ3.out; have := HJ7.out; first | omega | exact Nat.le_refl _⟩, drw0⟩
      rw [if_neg c13] at H; have c13b0 : decide (8704 ≤ a0) = false := decide_eq_false c13; clear c13
      (first | rw [c13b0] | (simp only [i64_w, i32_w]; rw [c13b0]) | skip)
      have H' := Aside0.mk H; clear H
      go_wp2
      go_meet
      case rel => exact ⟨_, (false), (by first | rfl | (simp; done) | (simp [*]; done)), H', ⟨by have := HJ3.out; have := HJ7.out; first | omega | exact Nat.le_refl _⟩, drw0⟩
     case rest =>
      clear HC12
      try clear c1; try clear c2; try clear p2; try clear c3; try clear c5; try clear c5b0; try clear c6; try clear c6b0; try clear p6; try clear c7; try clear c9; try clear c9b0; try clear c10; try clear c10b0; try clear c11; try clear c13; try clear c13b0; try clear c14; try clear c14b0; try clear p2; try clear p6
      obtain ⟨kq, x42_11, rfl, HA, HJ11, ⟨mc11, rfl⟩⟩ := hcut
      cases kq with
      | zero => exact absurd HA.out (by simp [spec_l05Pair.j2])
      | succ kj11 =>
       have H := HA.out; clear HA; simp only [spec_l05Pair.j2] at H
       by_cases c15 : x42_11 = true
       ·subst c15
        have H1 : (some (wrap64 (a0 + 512))) = some r := by rw [if_pos rfl] at H; exact H
        clear H; have H := H1; clear H1; obtain rfl := Option.some.inj H
        go_wp2
        go_ret
        exact ⟨by first | rfl | (simp; done) | (simp [*]; done), drw0⟩
       replace c15 := Bool.eq_false_iff.mpr c15; subst c15
       have H1 : (if a0 ≥ 1792 then (if a0 ≤ 1810 then (if a1 ≥ 1824 then (spec_l05Pair.j3 kj11 a0 a1 (decide (a1 ≤ 1844))) else (spec_l05Pair.j3 kj11 a0 a1 false)) else (spec_l05Pair.j3 kj11 a0 a1 false)) else (spec_l05Pair.j3 kj11 a0 a1 false)) = some r := by rw [if_neg (show ¬ (false = true) by decide)] at H; exact H
       clear H; have H := H1; clear H1; have HC16 := Aside0.mk H; clear H
       go_upto_region 8 with (fail)
       go_cut [55] (fun v55 wc => ∃ (kq : Nat) (x55_15 : Bool), v55 = .bool x55_15 ∧ Aside0 (spec_l05Pair.j3 kq a0 a1 x55_15 = some r) ∧ Aside0 (kq ≤ kj11) ∧ Drawn0 w wc)
       case first =>
        have H := HC16.out; clear HC16
        by_cases c17 : a0 ≥ 1792
        ·rw [if_pos c17] at H
         have c17b0 : decide (1792 ≤ a0) = true := decide_eq_true c17; clear c17
         (first | rw [c17b0] | (simp only [i64_w, i32_w]; rw [c17b0]) | skip)
         by_cases c18 : a0 ≤ 1810
         ·rw [if_pos c18] at H
          have c18b0 : decide (a0 ≤ 1810) = true := decide_eq_true c18; clear c18
          by_cases c19 : a1 ≥ 1824
          ·rw [if_pos c19] at H
           have c19b0 : decide (1824 ≤ a1) = true := decide_eq_true c19; clear c19; have H' := Aside0.mk H; clear H
           go_wp2
           go_meet
           case rel => exact ⟨_, (decide (a1 ≤ 1844)), (by first | rfl | (simp; done) | (simp [*]; done)), H', ⟨by have := HJ3.out; have := HJ7.out; have := HJ11.out; first | omega | exact Nat.le_refl _⟩, drw0⟩
          rw [if_neg c19] at H; have c19b0 : decide (1824 ≤ a1) = false := decide_eq_false c19; clear c19; have H' := Aside0.mk H; clear H
          go_wp2
          go_meet
          case rel => exact ⟨_, (false), (by first | rfl | (simp; done) | (simp [*]; done)), H', ⟨by have := HJ3.out; have := HJ7.out; have := HJ11.out; first | omega | exact Nat.le_refl _⟩, drw0⟩
         rw [if_neg c18] at H; have c18b0 : decide (a0 ≤ 1810) = false := decide_eq_false c18; clear c18; have H' := Aside0.mk H; clear H
         go_wp2
         go_meet
         case rel => exact ⟨_, (false), (by first | rfl | (simp; done) | (simp [*]; done)), H', ⟨by have := HJ3.out; have := HJ7.out; have := HJ11.out; first | omega | exact Nat.le_refl _⟩, drw0⟩
        rw [if_neg c17] at H; have c17b0 : decide (1792 ≤ a0) = false := decide_eq_false c17; clear c17
        (first | rw [c17b0] | (simp only [i64_w, i32_w]; rw [c17b0]) | skip)
        have H' := Aside0.mk H; clear H
        go_wp2
        go_meet
        case rel => exact ⟨_, (false), (by first | rfl | (simp; done) | (simp [*]; done)), H', ⟨by have := HJ3.out; have := HJ7.out; have := HJ11.out; first | omega | exact Nat.le_refl _⟩, drw0⟩
       case rest =>
        clear HC16
        try clear c1; try clear c2; try clear p2; try clear c3; try clear c5; try clear c5b0; try clear c6; try clear c6b0; try clear p6; try clear c7; try clear c9; try clear c9b0; try clear c10; try clear c10b0; try clear c11; try clear c13; try clear c13b0; try clear c14; try clear c14b0; try clear c15; try clear c17; try clear c17b0; try clear c18; try clear c18b0; try clear c19; try clear c19b0; try clear p2; try clear p6
        obtain ⟨kq, x55_15, rfl, HA, HJ15, ⟨mc15, rfl⟩⟩ := hcut
        cases kq with
        | zero => exact absurd HA.out (by simp [spec_l05Pair.j3])
        | succ kj15 =>
         have H := HA.out; clear HA; simp only [spec_l05Pair.j3] at H
         by_cases c20 : x55_15 = true
         ·subst c20
          have H1 : (some (wrap64 (12288 + (wrap64 ((wrap64 ((wrap64 ((wrap64 ((wrap64 (a0 - 1792)) * 21)) + a1)) - 1824)) * 28))))) = some r := by rw [if_pos rfl] at H; exact H
          clear H; have H := H1; clear H1; obtain rfl := Option.some.inj H
          go_wp2
          go_ret
          exact ⟨by first | rfl | (simp; done) | (simp [*]; done), drw0⟩
         replace c20 := Bool.eq_false_iff.mpr c20; subst c20
         have H1 : (if a0 ≥ 12288 then (if a0 ≤ 23459 then (if (Int.tmod (wrap64 (a0 - 12288)) 28) = 0 then (if a1 ≥ 1857 then (if a1 ≤ 1883 then (some (wrap64 ((wrap64 (a0 + a1)) - 1856))) else (some (-1))) else (some (-1))) else (some (-1))) else (some (-1))) else (some (-1))) = some r := by rw [if_neg (show ¬ (false = true) by decide)] at H; exact H
         clear H; have H := H1; clear H1
         by_cases c21 : a0 ≥ 12288
         ·rw [if_pos c21] at H
          have c21b0 : decide (12288 ≤ a0) = true := decide_eq_true c21; clear c21
          by_cases c22 : a0 ≤ 23459
          ·rw [if_pos c22] at H
           have c22b0 : decide (a0 ≤ 23459) = true := decide_eq_true c22; clear c22
           by_cases c23 : (Int.tmod (wrap64 (a0 - 12288)) 28) = 0
           ·rw [if_pos c23] at H
            have c23b0 : ((Int.tmod (wrap64 (a0 - 12288)) 28) == 0) = true := beq_iff_eq.mpr c23; have c23b1 : ((Int.tmod (wrap64 (a0 - 12288)) 28) != 0) = false := bne_eq_false_iff_eq.mpr c23; clear c23
            by_cases c24 : a1 ≥ 1857
            ·rw [if_pos c24] at H
             have c24b0 : decide (1857 ≤ a1) = true := decide_eq_true c24; clear c24
             by_cases c25 : a1 ≤ 1883
             ·rw [if_pos c25] at H
              have c25b0 : decide (a1 ≤ 1883) = true := decide_eq_true c25; clear c25; obtain rfl := Option.some.inj H
              go_wp2
              go_ret
              exact ⟨by first | rfl | (simp; done) | (simp [*]; done), drw0⟩
             rw [if_neg c25] at H; have c25b0 : decide (a1 ≤ 1883) = false := decide_eq_false c25; clear c25; obtain rfl := Option.some.inj H
             go_wp2
             go_ret
             exact ⟨by first | rfl | (simp; done) | (simp [*]; done), drw0⟩
            rw [if_neg c24] at H; have c24b0 : decide (1857 ≤ a1) = false := decide_eq_false c24; clear c24; obtain rfl := Option.some.inj H
            go_wp2
            go_ret
            exact ⟨by first | rfl | (simp; done) | (simp [*]; done), drw0⟩
           rw [if_neg c23] at H; have c23b0 : ((Int.tmod (wrap64 (a0 - 12288)) 28) == 0) = false := beq_eq_false_iff_ne.mpr c23; have c23b1 : ((Int.tmod (wrap64 (a0 - 12288)) 28) != 0) = true := bne_iff_ne.mpr c23; obtain rfl := Option.some.inj H
           go_wp2
           go_ret
           exact ⟨by first | rfl | (simp; done) | (simp [*]; done), drw0⟩
          rw [if_neg c22] at H; have c22b0 : decide (a0 ≤ 23459) = false := decide_eq_false c22; clear c22; obtain rfl := Option.some.inj H
          go_wp2
          go_ret
          exact ⟨by first | rfl | (simp; done) | (simp [*]; done), drw0⟩
         rw [if_neg c21] at H; have c21b0 : decide (12288 ≤ a0) = false := decide_eq_false c21; clear c21; obtain rfl := Option.some.inj H
         go_wp2
         go_ret
         exact ⟨by first | rfl | (simp; done) | (simp [*]; done), drw0⟩

def W_spec_l05Pair.f (a0 a1 : Int) : Option Int := if 0 ≤ a0 ∧ a0 ≤ 1114111 ∧ 0 ≤ a1 ∧ a1 ≤ 1114111 then some (YtiabgmddnddeiaaDoorNrm.pair a0 a1) else none
theorem spec_l05Pair.at_ (k : Nat) (a : Int) : 0 ≤ a → a ≤ 1114111 → spec_l05LetterAt.f (k + 1) a = some (YtiabgmddnddeiaaDoorNrm.lno a) := by
  intro h0 h1
  unfold spec_l05LetterAt.f YtiabgmddnddeiaaDoorNrm.lno
  by_cases c : 65 ≤ a ∧ a ≤ 90
  · rw [if_pos (show a ≥ 65 from c.1), decide_eq_true c.2, if_pos c]
    simp only [spec_l05LetterAt.j0]
    rw [if_pos trivial, show wrap64 (a - 65) = a - 65 by unfold wrap64; omega]
  · have e : (if a ≥ 65 then spec_l05LetterAt.j0 (k + 1) a (decide (a ≤ 90)) else spec_l05LetterAt.j0 (k + 1) a false) = spec_l05LetterAt.j0 (k + 1) a false := by
      by_cases d : a ≥ 65
      · rw [if_pos d, decide_eq_false (by omega)]
      · rw [if_neg d]
    rw [e, if_neg c]
    simp only [spec_l05LetterAt.j0]
    rw [if_neg (by decide)]
    by_cases d : 97 ≤ a ∧ a ≤ 122
    · rw [if_pos (show a ≥ 97 from d.1), if_pos d.2, if_pos d, show wrap64 (wrap64 (a - 97) + 26) = a - 71 by unfold wrap64; omega]
    · rw [if_neg d]
      by_cases d2 : a ≥ 97
      · rw [if_pos d2, if_neg (by omega)]
      · rw [if_neg d2]
set_option maxHeartbeats 1000000 in
theorem spec_l05Pair.eq_ (a b : Int) (h0 : 0 ≤ a) (h1 : a ≤ 1114111) (h2 : 0 ≤ b) (h3 : b ≤ 1114111) : spec_l05Pair.f 8 a b = some (YtiabgmddnddeiaaDoorNrm.pair a b) := by
  unfold spec_l05Pair.f
  rw [spec_l05Pair.at_ 7 a h0 h1]
  simp only [Option.bind_some]
  have hl := @YtiabgmddnddeiaaDoorNrm.letter_lno a
  unfold YtiabgmddnddeiaaDoorNrm.pair
  obtain ⟨i, hi⟩ : ∃ i, YtiabgmddnddeiaaDoorNrm.lno a = i := ⟨_, rfl⟩
  rw [hi] at hl ⊢
  by_cases c1 : 0 ≤ i ∧ 4096 ≤ b ∧ b ≤ 4103
  · have := hl c1.1
    rw [if_pos (show i ≥ 0 from c1.1), if_pos (show b ≥ 4096 from c1.2.1), decide_eq_true c1.2.2, if_pos c1]
    simp only [spec_l05Pair.j0]
    rw [if_pos trivial]
    congr 1
    unfold wrap64; omega
  have e1 : (if i ≥ 0 then if b ≥ 4096 then spec_l05Pair.j0 8 a b i (decide (b ≤ 4103)) else spec_l05Pair.j0 8 a b i false else spec_l05Pair.j0 8 a b i false) = spec_l05Pair.j0 8 a b i false := by
    by_cases d : i ≥ 0
    · rw [if_pos d]
      by_cases d2 : b ≥ 4096
      · rw [if_pos d2, decide_eq_false (by omega)]
      · rw [if_neg d2]
    · rw [if_neg d]
  rw [e1, if_neg c1]
  simp only [spec_l05Pair.j0]
  rw [if_neg (by decide)]
  by_cases c2 : 0 ≤ i ∧ 4112 ≤ b ∧ b ≤ 4119
  · have := hl c2.1
    rw [if_pos (show i ≥ 0 from c2.1), if_pos (show b ≥ 4112 from c2.2.1), decide_eq_true c2.2.2, if_pos c2]
    simp only [spec_l05Pair.j1]
    rw [if_pos trivial]
    congr 1
    unfold wrap64; omega
  have e2 : (if i ≥ 0 then if b ≥ 4112 then spec_l05Pair.j1 7 a b i (decide (b ≤ 4119)) else spec_l05Pair.j1 7 a b i false else spec_l05Pair.j1 7 a b i false) = spec_l05Pair.j1 7 a b i false := by
    by_cases d : i ≥ 0
    · rw [if_pos d]
      by_cases d2 : b ≥ 4112
      · rw [if_pos d2, decide_eq_false (by omega)]
      · rw [if_neg d2]
    · rw [if_neg d]
  rw [e2, if_neg c2]
  simp only [spec_l05Pair.j1]
  rw [if_neg (by decide)]
  by_cases c3 : 8704 ≤ a ∧ a ≤ 9119 ∧ b = 4096
  · rw [if_pos (show a ≥ 8704 from c3.1), if_pos (by omega), show (b == 4096) = true from beq_iff_eq.mpr c3.2.2, if_pos c3]
    simp only [spec_l05Pair.j2]
    rw [if_pos trivial]
    congr 1
    unfold wrap64; omega
  have e3 : (if a ≥ 8704 then if a < 9120 then spec_l05Pair.j2 6 a b (b == 4096) else spec_l05Pair.j2 6 a b false else spec_l05Pair.j2 6 a b false) = spec_l05Pair.j2 6 a b false := by
    by_cases d : a ≥ 8704
    · rw [if_pos d]
      by_cases d2 : a < 9120
      · rw [if_pos d2, show (b == 4096) = false from beq_eq_false_iff_ne.mpr (by omega)]
      · rw [if_neg d2]
    · rw [if_neg d]
  rw [e3, if_neg c3]
  simp only [spec_l05Pair.j2]
  rw [if_neg (by decide)]
  by_cases c4 : 1792 ≤ a ∧ a ≤ 1810 ∧ 1824 ≤ b ∧ b ≤ 1844
  · rw [if_pos (show a ≥ 1792 from c4.1), if_pos c4.2.1, if_pos (show b ≥ 1824 from c4.2.2.1), decide_eq_true c4.2.2.2, if_pos c4]
    simp only [spec_l05Pair.j3]
    rw [if_pos trivial]
    congr 1
    unfold wrap64; omega
  have e4 : (if a ≥ 1792 then if a ≤ 1810 then if b ≥ 1824 then spec_l05Pair.j3 5 a b (decide (b ≤ 1844)) else spec_l05Pair.j3 5 a b false else spec_l05Pair.j3 5 a b false else spec_l05Pair.j3 5 a b false) = spec_l05Pair.j3 5 a b false := by
    by_cases d : a ≥ 1792
    · rw [if_pos d]
      by_cases d2 : a ≤ 1810
      · rw [if_pos d2]
        by_cases d3 : b ≥ 1824
        · rw [if_pos d3, decide_eq_false (by omega)]
        · rw [if_neg d3]
      · rw [if_neg d2]
    · rw [if_neg d]
  rw [e4, if_neg c4]
  simp only [spec_l05Pair.j3]
  rw [if_neg (by decide)]
  by_cases d1 : 12288 ≤ a
  · rw [if_pos (show a ≥ 12288 from d1)]
    have w1 : wrap64 (a - 12288) = a - 12288 := by unfold wrap64; omega
    have t1 : Int.tmod (a - 12288) 28 = (a - 12288) % 28 := Int.tmod_eq_emod_of_nonneg (by omega)
    rw [w1, t1]
    by_cases d2 : a ≤ 23459
    · rw [if_pos d2]
      by_cases d3 : (a - 12288) % 28 = 0
      · rw [if_pos d3]
        by_cases d4 : 1857 ≤ b
        · rw [if_pos (show b ≥ 1857 from d4)]
          by_cases d5 : b ≤ 1883
          · rw [if_pos d5, if_pos ⟨d1, d2, d3, d4, d5⟩, show wrap64 (wrap64 (a + b) - 1856) = a + (b - 1856) by unfold wrap64; omega]
          · rw [if_neg d5, if_neg (fun z => d5 z.2.2.2.2)]
        · rw [if_neg (show ¬ b ≥ 1857 from d4), if_neg (fun z => d4 z.2.2.2.1)]
      · rw [if_neg d3, if_neg (fun z => d3 z.2.2.1)]
    · rw [if_neg d2, if_neg (fun z => d2 z.2.1)]
  · rw [if_neg (show ¬ a ≥ 12288 from d1), if_neg (fun z => d1 z.1)]
theorem W_spec_l05Pair.to {a0 a1 : Int} {r : Int} (h : W_spec_l05Pair.f a0 a1 = some r) : ∃ k, spec_l05Pair.f k a0 a1 = some r := by
  unfold W_spec_l05Pair.f at h
  split at h
  · rename_i hp
    exact ⟨8, by rw [← h]; exact spec_l05Pair.eq_ a0 a1 hp.1 hp.2.1 hp.2.2.1 hp.2.2.2⟩
  · cases h
theorem W_spec_l05Pair.calls (a0 : Int) (a1 : Int) (r : Int) (w : World) (h : W_spec_l05Pair.f a0 a1 = some r) :
    Calls Tryd.prog 224 #[.int .i64 a0, .int .i64 a1] w fun e w' => e = .returned (.int .i64 r) ∧ Drawn0 w w' := by
  obtain ⟨k, hk⟩ := W_spec_l05Pair.to h
  exact spec_l05Pair.calls k a0 a1 r w hk

end Go.Proofs.YtiabgmddnddeiaaDoor.QFnNormer
