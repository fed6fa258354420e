/- The law FnExactSentenceCuts: at every input the call answers true (this text: contracts on its way, by a program of this session's; no condition of ours). -/
import Derived.Test.YtiabgmddnddeiaaDoorQFnExactSentenceCutsx0
import Derived.Test.YtiabgmddnddeiaaDoorQFnExactSentenceCutsx1
namespace Go.Proofs.YtiabgmddnddeiaaDoor.QFnExactSentenceCuts
open Go.RowKit Go.Proofs.YtiabgmddnddeiaaDoorW.PrintWords Go.Proofs.YtiabgmddnddeiaaDoorW.PrintLast Go.Proofs.YtiabgmddnddeiaaDoorW.PrintMore
attribute [local go_sem] max2_int min2_int max_two min_two max_three min_three max_four min_four   -- for this text's walks alone
set_option linter.unusedVariables false
set_option linter.unusedSimpArgs false

/-! ### spec_l01Next: function 144 -/
mutual
def spec_l01Next.j2 : Nat → ByteArray → Int → Int → Int → Option (Int × Int × Bool)
 | 0, _, _, _, _ => none
 | k + 1, x0, x1, x8, x9 => if (wrap64 (x1 + x8)) ≥ (x0.size : Int) then (some (65533, 1,false)) else (spec_l01Next.l0 k x0 x1 x8 x9 1)
def spec_l01Next.l0 : Nat → ByteArray → Int → Int → Int → Int → Option (Int × Int × Bool)
 | 0, _, _, _, _, _ => none
 | k + 1, x0, x1, x8, x9, x10 => if x10 ≤ x8 then (if 0 ≤ (wrap64 (x1 + x10)) then (if (wrap64 (x1 + x10)) < (x0.size : Int) then (if (wrap64 (bt x0 (wrap64 (x1 + x10)))) < 128 then (some (65533, 1,false)) else (if (wrap64 (bt x0 (wrap64 (x1 + x10)))) > 191 then (some (65533, 1,false)) else (spec_l01Next.l0 k x0 x1 x8 (wrap64 ((wrap64 (x9 * 64)) + (Int.tmod (wrap64 (bt x0 (wrap64 (x1 + x10)))) 64))) (wrap64 (x10 + 1))))) else (none)) else (none)) else ((spec_l01IsPoint.f x9).bind fun t114 => (if t114 = true then ((W_spec_l01Write.f x9).bind fun t115 => (if (t115.size : Int) = (wrap64 (x8 + 1)) then (some (x9, wrap64 (x8 + 1),true)) else (some (65533, 1,false)))) else (some (65533, 1,false))))
def spec_l01Next.j0 : Nat → ByteArray → Int → Int → Bool → Option (Int × Int × Bool)
 | 0, _, _, _, _ => none
 | k + 1, x0, x1, x7, x21 => if x21 = true then (spec_l01Next.j2 k x0 x1 1 (Int.tmod x7 32)) else (if x7 ≥ 224 then (spec_l01Next.j1 k x0 x1 x7 (decide (x7 < 240))) else (spec_l01Next.j1 k x0 x1 x7 false))
def spec_l01Next.j1 : Nat → ByteArray → Int → Int → Bool → Option (Int × Int × Bool)
 | 0, _, _, _, _ => none
 | k + 1, x0, x1, x7, x30 => if x30 = true then (spec_l01Next.j2 k x0 x1 2 (Int.tmod x7 16)) else (if x7 ≥ 240 then (if x7 < 245 then (spec_l01Next.j2 k x0 x1 3 (Int.tmod x7 8)) else (some (65533, 1,false))) else (some (65533, 1,false)))
end
def spec_l01Next.f (k : Nat) (a0 : ByteArray) (a1 : Int) : Option (Int × Int × Bool) := if 0 ≤ a1 then (if a1 < (a0.size : Int) then (if (wrap64 (bt a0 a1)) < 128 then (some (wrap64 (bt a0 a1), 1,true)) else (if (wrap64 (bt a0 a1)) ≥ 194 then (spec_l01Next.j0 k a0 a1 (wrap64 (bt a0 a1)) (decide ((wrap64 (bt a0 a1)) < 224))) else (spec_l01Next.j0 k a0 a1 (wrap64 (bt a0 a1)) false))) else (none)) else (none)
theorem spec_l01Next.mono_l : ∀ k, (∀ y0 y1 y2 y3, LeO (spec_l01Next.j2 k y0 y1 y2 y3) (spec_l01Next.j2 (k + 1) y0 y1 y2 y3)) ∧ (∀ y0 y1 y2 y3 y4, LeO (spec_l01Next.l0 k y0 y1 y2 y3 y4) (spec_l01Next.l0 (k + 1) y0 y1 y2 y3 y4)) ∧ (∀ y0 y1 y2 y3, LeO (spec_l01Next.j0 k y0 y1 y2 y3) (spec_l01Next.j0 (k + 1) y0 y1 y2 y3)) ∧ (∀ y0 y1 y2 y3, LeO (spec_l01Next.j1 k y0 y1 y2 y3) (spec_l01Next.j1 (k + 1) y0 y1 y2 y3))
 | 0 => ⟨fun _ _ _ _ r h => by simp [spec_l01Next.j2] at h, fun _ _ _ _ _ r h => by simp [spec_l01Next.l0] at h, fun _ _ _ _ r h => by simp [spec_l01Next.j0] at h, fun _ _ _ _ r h => by simp [spec_l01Next.j1] at h⟩
 | k + 1 => by
  obtain ⟨ih0, ih1, ih2, ih3⟩ := spec_l01Next.mono_l k; refine ⟨?_, ?_, ?_, ?_⟩
  ·intro y0 y1 y2 y3
   unfold spec_l01Next.j2
   repeat' first
   | (with_reducible exact ih0 _ _ _ _)
   | (with_reducible exact ih1 _ _ _ _ _)
   | (with_reducible exact ih2 _ _ _ _)
   | (with_reducible exact ih3 _ _ _ _)
   | (with_reducible exact LeO.refl _)
   | (with_reducible exact LeO.none _)
   | (with_reducible refine LeO.ite ?_ ?_)
   | (with_reducible refine LeO.bind ?_ (fun _ => ?_))
   | exact ih0 _ _ _ _
   | exact ih1 _ _ _ _ _
   | exact ih2 _ _ _ _
   | exact ih3 _ _ _ _
   | exact LeO.none _
   | refine LeO.ite ?_ ?_
   | refine LeO.bind ?_ (fun _ => ?_)
  ·intro y0 y1 y2 y3 y4
   unfold spec_l01Next.l0
   repeat' first
   | (with_reducible exact ih0 _ _ _ _)
   | (with_reducible exact ih1 _ _ _ _ _)
   | (with_reducible exact ih2 _ _ _ _)
   | (with_reducible exact ih3 _ _ _ _)
   | (with_reducible exact LeO.refl _)
   | (with_reducible exact LeO.none _)
   | (with_reducible refine LeO.ite ?_ ?_)
   | (with_reducible refine LeO.bind ?_ (fun _ => ?_))
   | exact ih0 _ _ _ _
   | exact ih1 _ _ _ _ _
   | exact ih2 _ _ _ _
   | exact ih3 _ _ _ _
   | exact LeO.none _
   | refine LeO.ite ?_ ?_
   | refine LeO.bind ?_ (fun _ => ?_)
  ·intro y0 y1 y2 y3
   unfold spec_l01Next.j0
   repeat' first
   | (with_reducible exact ih0 _ _ _ _)
   | (with_reducible exact ih1 _ _ _ _ _)
   | (with_reducible exact ih2 _ _ _ _)
   | (with_reducible exact ih3 _ _ _ _)
   | (with_reducible exact LeO.refl _)
   | (with_reducible exact LeO.none _)
   | (with_reducible refine LeO.ite ?_ ?_)
   | (with_reducible refine LeO.bind ?_ (fun _ => ?_))
   | exact ih0 _ _ _ _
   | exact ih1 _ _ _ _ _
   | exact ih2 _ _ _ _
   | exact ih3 _ _ _ _
   | exact LeO.none _
   | refine LeO.ite ?_ ?_
   | refine LeO.bind ?_ (fun _ => ?_)
  intro y0 y1 y2 y3
  unfold spec_l01Next.j1
  repeat' first
  | (with_reducible exact ih0 _ _ _ _)
  | (with_reducible exact ih1 _ _ _ _ _)
  | (with_reducible exact ih2 _ _ _ _)
  | (with_reducible exact ih3 _ _ _ _)
  | (with_reducible exact LeO.refl _)
  | (with_reducible exact LeO.none _)
  | (with_reducible refine LeO.ite ?_ ?_)
  | (with_reducible refine LeO.bind ?_ (fun _ => ?_))
  | exact ih0 _ _ _ _
  | exact ih1 _ _ _ _ _
  | exact ih2 _ _ _ _
  | exact ih3 _ _ _ _
  | exact LeO.none _
  | refine LeO.ite ?_ ?_
  | refine LeO.bind ?_ (fun _ => ?_)
theorem spec_l01Next.mono : ∀ a0 a1 k, LeO (spec_l01Next.f k a0 a1) (spec_l01Next.f (k + 1) a0 a1) := by
 intro a0 a1 k
 obtain ⟨ih0, ih1, ih2, ih3⟩ := spec_l01Next.mono_l k
 unfold spec_l01Next.f
 repeat' first
   | (with_reducible exact ih0 _ _ _ _)
   | (with_reducible exact ih1 _ _ _ _ _)
   | (with_reducible exact ih2 _ _ _ _)
   | (with_reducible exact ih3 _ _ _ _)
   | (with_reducible exact LeO.refl _)
   | (with_reducible exact LeO.none _)
   | (with_reducible refine LeO.ite ?_ ?_)
   | (with_reducible refine LeO.bind ?_ (fun _ => ?_))
   | exact ih0 _ _ _ _
   | exact ih1 _ _ _ _ _
   | exact ih2 _ _ _ _
   | exact ih3 _ _ _ _
   | exact LeO.none _
   | refine LeO.ite ?_ ?_
   | refine LeO.bind ?_ (fun _ => ?_)
set_option maxHeartbeats 8000000 in
set_option maxRecDepth 100000 in
theorem spec_l01Next.calls (k : Nat) (a0 : ByteArray) (a1 : Int) (r1 : Int) (r2 : Int) (r3 : Bool) (w : World) (h : spec_l01Next.f k a0 a1 = some (r1, r2, r3)) :
  Calls Tryd.prog 144 #[.string a0, .int .i64 a1] w fun e w' => e = .returned (.tuple #[.int .i64 r1, .int .i64 r2, .bool r3]) ∧ Below w.heap.size w w' := by
 have HB := Aside0.mk (Below.refl w.heap.size w)
 have H : (if 0 ≤ a1 then (if a1 < (a0.size : Int) then (if (wrap64 (bt a0 a1)) < 128 then (some (wrap64 (bt a0 a1), 1,true)) else (if (wrap64 (bt a0 a1)) ≥ 194 then (spec_l01Next.j0 k a0 a1 (wrap64 (bt a0 a1)) (decide ((wrap64 (bt a0 a1)) < 224))) else (spec_l01Next.j0 k a0 a1 (wrap64 (bt a0 a1)) false))) else (none)) else (none)) = some (r1, r2, r3) := h
 clear h
 by_cases c3 : 0 ≤ a1
 ·rw [if_pos c3] at H
  have c3b0 : decide (0 ≤ a1) = true := decide_eq_true c3; clear c3
  by_cases c4 : a1 < (a0.size : Int)
  ·rw [if_pos c4] at H
   have c4b0 : decide (a1 < (a0.size : Int)) = true := decide_eq_true c4; clear c4; have HC6 := Aside0.mk H; clear H
   have p5 : 0 ≤ (a1 : Int) := of_decide_eq_true (by first | (with_reducible assumption) | assumption)
   have q5 : a1 < (a0.size : Int) := of_decide_eq_true (by first | (with_reducible assumption) | assumption)
   have hx5 := bt_at a0 a1; replace p5 := eq_true p5; replace q5 := eq_true q5
   go_enter Tryd.func144, Tryd.ntmps144
   go_upto_block 0 with (fail)
   go_cut [8, 9] (fun v8 v9 wc => ∃ (kq : Nat) (x8_5 : Int) (x9_5 : Int), v8 = .int .i64 x8_5 ∧ v9 = .int .i64 x9_5 ∧ Aside0 (spec_l01Next.j2 kq a0 a1 x8_5 x9_5 = some (r1, r2, r3)) ∧ Aside0 (kq ≤ k) ∧ Aside0 (Below w.heap.size w wc))
   case first =>
    have H := HC6.out; clear HC6
    by_cases c7 : (wrap64 (bt a0 a1)) < 128
    ·rw [if_pos c7] at H
     have c7b0 : decide ((wrap64 (bt a0 a1)) < 128) = true := decide_eq_true c7; clear c7
     (first | rw [c7b0] | (simp only [i64_w, i32_w]; rw [c7b0]) | skip)
     simp only [Option.some.injEq, Prod.mk.injEq] at H; obtain ⟨rfl, rfl, rfl⟩ := H
     go_wp2
     go_ret3
     exact ⟨by first | rfl | (simp [errW_none, errW_some] <;> rfl) | (simp [*, errW_none, errW_some] <;> rfl), belowA⟩
    rw [if_neg c7] at H; have c7b0 : decide ((wrap64 (bt a0 a1)) < 128) = false := decide_eq_false c7; clear c7
    (first | rw [c7b0] | (simp only [i64_w, i32_w]; rw [c7b0]) | skip)
    have HC8 := Aside0.mk H; clear H
    go_upto_region 7 with (fail)
    go_cut [21] (fun v21 wc => ∃ (kq : Nat) (x21_7 : Bool), v21 = .bool x21_7 ∧ Aside0 (spec_l01Next.j0 kq a0 a1 (wrap64 (bt a0 a1)) x21_7 = some (r1, r2, r3)) ∧ Aside0 (kq ≤ k) ∧ Aside0 (Below w.heap.size w wc))
    case first =>
     have H := HC8.out; clear HC8
     by_cases c9 : (wrap64 (bt a0 a1)) ≥ 194
     ·rw [if_pos c9] at H
      have c9b0 : decide (194 ≤ (wrap64 (bt a0 a1))) = true := decide_eq_true c9; clear c9
      (first | rw [c9b0] | (simp only [i64_w, i32_w]; rw [c9b0]) | skip)
      have H' := Aside0.mk H; clear H
      go_wp2
      go_meet
      case rel => exact ⟨_, (decide ((wrap64 (bt a0 a1)) < 224)), (by first | rfl | (simp; done) | (simp [*]; done)), H', ⟨by first | omega | exact Nat.le_refl _⟩, ⟨belowA⟩⟩
     rw [if_neg c9] at H; have c9b0 : decide (194 ≤ (wrap64 (bt a0 a1))) = false := decide_eq_false c9; clear c9
     (first | rw [c9b0] | (simp only [i64_w, i32_w]; rw [c9b0]) | skip)
     have H' := Aside0.mk H; clear H
     go_wp2
     go_meet
     case rel => exact ⟨_, (false), (by first | rfl | (simp; done) | (simp [*]; done)), H', ⟨by first | omega | exact Nat.le_refl _⟩, ⟨belowA⟩⟩
    case rest =>
     clear HC8
     try clear c1; try clear p2; try clear c3; try clear c3b0; try clear c4; try clear c4b0; try clear p5; try clear q5; try clear hx5; try clear p6; try clear c7; try clear c7b0; try clear c9; try clear c9b0; try clear p5; try clear q5
     obtain ⟨kq, x21_7, rfl, HA, HJ7, HB⟩ := hcut
     cases kq with
     | zero => exact absurd HA.out (by simp [spec_l01Next.j0])
     | succ kj7 =>
      have H := HA.out; clear HA; simp only [spec_l01Next.j0] at H
      by_cases c10 : x21_7 = true
      ·subst c10
       have H1 : (spec_l01Next.j2 kj7 a0 a1 1 (Int.tmod (wrap64 (bt a0 a1)) 32)) = some (r1, r2, r3) := by rw [if_pos rfl] at H; exact H
       clear H; have H := H1; clear H1; have H' := Aside0.mk H; clear H
       go_wp2
       go_meet
       case rel => exact ⟨_, (1), (Int.tmod (wrap64 (bt a0 a1)) 32), (by first | rfl | (simp; done) | (simp [*]; done)), (by first | rfl | (simp; done) | (simp [*]; done)), H', ⟨by have := HJ7.out; first | omega | exact Nat.le_refl _⟩, ⟨belowA⟩⟩
      replace c10 := Bool.eq_false_iff.mpr c10; subst c10
      have H1 : (if (wrap64 (bt a0 a1)) ≥ 224 then (spec_l01Next.j1 kj7 a0 a1 (wrap64 (bt a0 a1)) (decide ((wrap64 (bt a0 a1)) < 240))) else (spec_l01Next.j1 kj7 a0 a1 (wrap64 (bt a0 a1)) false)) = some (r1, r2, r3) := by rw [if_neg (show ¬ (false = true) by decide)] at H; exact H
      clear H; have H := H1; clear H1; have HC11 := Aside0.mk H; clear H
      go_upto_region 10 with (fail)
      go_cut [30] (fun v30 wc => ∃ (kq : Nat) (x30_10 : Bool), v30 = .bool x30_10 ∧ Aside0 (spec_l01Next.j1 kq a0 a1 (wrap64 (bt a0 a1)) x30_10 = some (r1, r2, r3)) ∧ Aside0 (kq ≤ kj7) ∧ Aside0 (Below w.heap.size w wc))
      case first =>
       have H := HC11.out; clear HC11
       by_cases c12 : (wrap64 (bt a0 a1)) ≥ 224
       ·rw [if_pos c12] at H
        have c12b0 : decide (224 ≤ (wrap64 (bt a0 a1))) = true := decide_eq_true c12; clear c12
        (first | rw [c12b0] | (simp only [i64_w, i32_w]; rw [c12b0]) | skip)
        have H' := Aside0.mk H; clear H
        go_wp2
        go_meet
        case rel => exact ⟨_, (decide ((wrap64 (bt a0 a1)) < 240)), (by first | rfl | (simp; done) | (simp [*]; done)), H', ⟨by have := HJ7.out; first | omega | exact Nat.le_refl _⟩, ⟨belowA⟩⟩
       rw [if_neg c12] at H; have c12b0 : decide (224 ≤ (wrap64 (bt a0 a1))) = false := decide_eq_false c12; clear c12
       (first | rw [c12b0] | (simp only [i64_w, i32_w]; rw [c12b0]) | skip)
       have H' := Aside0.mk H; clear H
       go_wp2
       go_meet
       case rel => exact ⟨_, (false), (by first | rfl | (simp; done) | (simp [*]; done)), H', ⟨by have := HJ7.out; first | omega | exact Nat.le_refl _⟩, ⟨belowA⟩⟩
      case rest =>
       clear HC11
       try clear c1; try clear p2; try clear c3; try clear c3b0; try clear c4; try clear c4b0; try clear p5; try clear q5; try clear hx5; try clear p6; try clear c7; try clear c7b0; try clear c9; try clear c9b0; try clear c10; try clear c12; try clear c12b0; try clear p2; try clear p5; try clear p6; try clear q5
       obtain ⟨kq, x30_10, rfl, HA, HJ10, HB⟩ := hcut
       cases kq with
       | zero => exact absurd HA.out (by simp [spec_l01Next.j1])
       | succ kj10 =>
        have H := HA.out; clear HA; simp only [spec_l01Next.j1] at H
        by_cases c13 : x30_10 = true
        ·subst c13
         have H1 : (spec_l01Next.j2 kj10 a0 a1 2 (Int.tmod (wrap64 (bt a0 a1)) 16)) = some (r1, r2, r3) := by rw [if_pos rfl] at H; exact H
         clear H; have H := H1; clear H1; have H' := Aside0.mk H; clear H
         go_wp2
         go_meet
         case rel => exact ⟨_, (2), (Int.tmod (wrap64 (bt a0 a1)) 16), (by first | rfl | (simp; done) | (simp [*]; done)), (by first | rfl | (simp; done) | (simp [*]; done)), H', ⟨by have := HJ7.out; have := HJ10.out; first | omega | exact Nat.le_refl _⟩, ⟨belowA⟩⟩
        replace c13 := Bool.eq_false_iff.mpr c13; subst c13
        have H1 : (if (wrap64 (bt a0 a1)) ≥ 240 then (if (wrap64 (bt a0 a1)) < 245 then (spec_l01Next.j2 kj10 a0 a1 3 (Int.tmod (wrap64 (bt a0 a1)) 8)) else (some (65533, 1,false))) else (some (65533, 1,false))) = some (r1, r2, r3) := by rw [if_neg (show ¬ (false = true) by decide)] at H; exact H
        clear H; have H := H1; clear H1
        by_cases c14 : (wrap64 (bt a0 a1)) ≥ 240
        ·rw [if_pos c14] at H
         have c14b0 : decide (240 ≤ (wrap64 (bt a0 a1))) = true := decide_eq_true c14; clear c14
         by_cases c15 : (wrap64 (bt a0 a1)) < 245
         ·rw [if_pos c15] at H
          have c15b0 : decide ((wrap64 (bt a0 a1)) < 245) = true := decide_eq_true c15; clear c15; have H' := Aside0.mk H; clear H
          go_wp2
          go_meet
          case rel => exact ⟨_, (3), (Int.tmod (wrap64 (bt a0 a1)) 8), (by first | rfl | (simp; done) | (simp [*]; done)), (by first | rfl | (simp; done) | (simp [*]; done)), H', ⟨by have := HJ7.out; have := HJ10.out; first | omega | exact Nat.le_refl _⟩, ⟨belowA⟩⟩
         rw [if_neg c15] at H; have c15b0 : decide ((wrap64 (bt a0 a1)) < 245) = false := decide_eq_false c15; clear c15; simp only [Option.some.injEq, Prod.mk.injEq] at H; obtain ⟨rfl, rfl, rfl⟩ := H
         go_wp2
         go_ret3
         exact ⟨by first | rfl | (simp [errW_none, errW_some] <;> rfl) | (simp [*, errW_none, errW_some] <;> rfl), belowA⟩
        rw [if_neg c14] at H; have c14b0 : decide (240 ≤ (wrap64 (bt a0 a1))) = false := decide_eq_false c14; clear c14; simp only [Option.some.injEq, Prod.mk.injEq] at H; obtain ⟨rfl, rfl, rfl⟩ := H
        go_wp2
        go_ret3
        exact ⟨by first | rfl | (simp [errW_none, errW_some] <;> rfl) | (simp [*, errW_none, errW_some] <;> rfl), belowA⟩
   case rest =>
    clear HC6
    try clear c1; try clear p2; try clear c3; try clear c3b0; try clear c4; try clear c4b0; try clear p5; try clear q5; try clear hx5; try clear p6; try clear c7; try clear c7b0; try clear c9; try clear c9b0; try clear c10; try clear c12; try clear c12b0; try clear c13; try clear c14; try clear c14b0; try clear c15; try clear c15b0; try clear p2; try clear p5; try clear p6; try clear q5
    obtain ⟨kq, x8_5, x9_5, rfl, rfl, HA, HJ5, HB⟩ := hcut
    cases kq with
    | zero => exact absurd HA.out (by simp [spec_l01Next.j2])
    | succ kj5 =>
     have H := HA.out; clear HA; simp only [spec_l01Next.j2] at H
     by_cases c16 : (wrap64 (a1 + x8_5)) ≥ (a0.size : Int)
     ·rw [if_pos c16] at H
      have c16b0 : decide ((a0.size : Int) ≤ (wrap64 (a1 + x8_5))) = true := decide_eq_true c16; clear c16; simp only [Option.some.injEq, Prod.mk.injEq] at H; obtain ⟨rfl, rfl, rfl⟩ := H
      go_wp2
      go_ret3
      exact ⟨by first | rfl | (simp [errW_none, errW_some] <;> rfl) | (simp [*, errW_none, errW_some] <;> rfl), belowA⟩
     rw [if_neg c16] at H; have c16b0 : decide ((a0.size : Int) ≤ (wrap64 (a1 + x8_5))) = false := decide_eq_false c16; clear c16; have H' := Aside0.mk H; clear H
     go_wp2
     go_loopg [9, 10] kj5 (fun kq v9 v10 w' => ∃ (x9_2 : Int) (x10_2 : Int), v9 = .int .i64 x9_2 ∧ v10 = .int .i64 x10_2 ∧ Aside0 (spec_l01Next.l0 kq a0 a1 x8_5 x9_2 x10_2 = some (r1, r2, r3)) ∧ Aside0 (kq ≤ kj5) ∧ Aside0 (Below w.heap.size w w'))
     case atStart => exact ⟨(x9_5), (1), (by first | rfl | (simp; done) | (simp [*]; done)), (by first | rfl | (simp; done) | (simp [*]; done)), H', ⟨Nat.le_refl _⟩, ⟨belowA⟩⟩
     case round =>
      clear H'
      try clear c1; try clear p2; try clear c3; try clear c3b0; try clear c4; try clear c4b0; try clear p5; try clear q5; try clear hx5; try clear p6; try clear c7; try clear c7b0; try clear c9; try clear c9b0; try clear c10; try clear c12; try clear c12b0; try clear c13; try clear c14; try clear c14b0; try clear c15; try clear c15b0; try clear c16; try clear c16b0; try clear p2; try clear p5; try clear p6; try clear q5
      obtain ⟨x9_2, x10_2, rfl, rfl, HA, HK2, HB⟩ := hrel
      cases gk with
      | zero => exact absurd HA.out (by simp [spec_l01Next.l0])
      | succ k2 =>
       have H := HA.out; clear HA; simp only [spec_l01Next.l0] at H
       by_cases c17 : x10_2 ≤ x8_5
       ·rw [if_pos c17] at H
        have c17b0 : decide (x10_2 ≤ x8_5) = true := decide_eq_true c17; clear c17; obtain ⟨ji18, hji18⟩ : ∃ j_ : Int, (wrap64 (a1 + x10_2)) = j_ := ⟨_, rfl⟩
        replace H : (if 0 ≤ (ji18) then (if (ji18) < (a0.size : Int) then (if (wrap64 (bt a0 (ji18))) < 128 then (some (65533, 1,false)) else (if (wrap64 (bt a0 (ji18))) > 191 then (some (65533, 1,false)) else (spec_l01Next.l0 k2 a0 a1 x8_5 (wrap64 ((wrap64 (x9_2 * 64)) + (Int.tmod (wrap64 (bt a0 (ji18))) 64))) (wrap64 (x10_2 + 1))))) else (none)) else (none)) = some (r1, r2, r3) := by first | (rw [hji18] at H; exact H) | (simp only [hji18] at H ⊢; exact H)
        have hji18w : (IntKind.i64.wrap (a1 + x10_2)) = ji18 := (i64_w _).trans hji18
        by_cases c19 : 0 ≤ (ji18)
        ·rw [if_pos c19] at H
         have c19b0 : decide (0 ≤ (ji18)) = true := decide_eq_true c19; clear c19
         by_cases c20 : (ji18) < (a0.size : Int)
         ·rw [if_pos c20] at H
          have c20b0 : decide ((ji18) < (a0.size : Int)) = true := decide_eq_true c20; clear c20
          by_cases c22 : (wrap64 (bt a0 (ji18))) < 128
          ·rw [if_pos c22] at H
           have c22b0 : decide ((wrap64 (bt a0 (ji18))) < 128) = true := decide_eq_true c22; clear c22; simp only [Option.some.injEq, Prod.mk.injEq] at H; obtain ⟨rfl, rfl, rfl⟩ := H
           have p21 : 0 ≤ ((ji18) : Int) := of_decide_eq_true (by first | (with_reducible assumption) | assumption)
           have q21 : (ji18) < (a0.size : Int) := of_decide_eq_true (by first | (with_reducible assumption) | assumption)
           have hx21 := bt_at a0 (ji18); replace p21 := eq_true p21; replace q21 := eq_true q21
           go_wp2
           go_ret3
           exact ⟨by first | rfl | (simp [errW_none, errW_some] <;> rfl) | (simp only [← hji18]; first | rfl | (simp [errW_none, errW_some] <;> rfl)) | (simp [*, errW_none, errW_some] <;> rfl), belowA⟩
          rw [if_neg c22] at H; have c22b0 : decide ((wrap64 (bt a0 (ji18))) < 128) = false := decide_eq_false c22; clear c22
          by_cases c23 : (wrap64 (bt a0 (ji18))) > 191
          ·rw [if_pos c23] at H
           have c23b0 : decide (191 < (wrap64 (bt a0 (ji18)))) = true := decide_eq_true c23; clear c23; simp only [Option.some.injEq, Prod.mk.injEq] at H; obtain ⟨rfl, rfl, rfl⟩ := H
           have p21 : 0 ≤ ((ji18) : Int) := of_decide_eq_true (by first | (with_reducible assumption) | assumption)
           have q21 : (ji18) < (a0.size : Int) := of_decide_eq_true (by first | (with_reducible assumption) | assumption)
           have hx21 := bt_at a0 (ji18); replace p21 := eq_true p21; replace q21 := eq_true q21
           go_wp2
           go_ret3
           exact ⟨by first | rfl | (simp [errW_none, errW_some] <;> rfl) | (simp only [← hji18]; first | rfl | (simp [errW_none, errW_some] <;> rfl)) | (simp [*, errW_none, errW_some] <;> rfl), belowA⟩
          rw [if_neg c23] at H; have c23b0 : decide (191 < (wrap64 (bt a0 (ji18)))) = false := decide_eq_false c23; clear c23; have H' := Aside0.mk H; clear H
          have p21 : 0 ≤ ((ji18) : Int) := of_decide_eq_true (by first | (with_reducible assumption) | assumption)
          have q21 : (ji18) < (a0.size : Int) := of_decide_eq_true (by first | (with_reducible assumption) | assumption)
          have hx21 := bt_at a0 (ji18); replace p21 := eq_true p21; replace q21 := eq_true q21
          go_wp2
          go_roundg k2
          case measure => have := HJ5.out; have := HK2.out; omega
          case rel => exact ⟨(wrap64 ((wrap64 (x9_2 * 64)) + (Int.tmod (wrap64 (bt a0 (ji18))) 64))), (wrap64 (x10_2 + 1)), (by first | rfl | (simp; done) | (simp only [← hji18] <;> (first | rfl | simp)) | (simp [*]; done)), (by first | rfl | (simp; done) | (simp [*]; done)), H', ⟨by have := HJ5.out; have := HK2.out; omega⟩, ⟨belowA⟩⟩
         rw [if_neg c20] at H
         exact absurd H (by simp)
        rw [if_neg c19] at H
        exact absurd H (by simp)
       rw [if_neg c17] at H; have c17b0 : decide (x10_2 ≤ x8_5) = false := decide_eq_false c17; clear c17; replace H := Option.bind_eq_some_iff.mp H; obtain ⟨t114, A240, H⟩ := H
       try dsimp only at H
       have A24 := Aside0.mk A240; clear A240
       by_cases c25 : t114 = true
       ·subst c25
        have H1 : ((W_spec_l01Write.f x9_2).bind fun t115 => (if (t115.size : Int) = (wrap64 (x8_5 + 1)) then (some (x9_2, wrap64 (x8_5 + 1),true)) else (some (65533, 1,false)))) = some (r1, r2, r3) := by rw [if_pos rfl] at H; exact H
        clear H; have H := H1; clear H1; replace H := Option.bind_eq_some_iff.mp H; obtain ⟨t115, A260, H⟩ := H
        try dsimp only at H
        have A26 := Aside0.mk A260; clear A260
        by_cases c27 : (t115.size : Int) = (wrap64 (x8_5 + 1))
        ·rw [if_pos c27] at H
         have c27b0 : ((t115.size : Int) == (wrap64 (x8_5 + 1))) = true := beq_iff_eq.mpr c27; have c27b1 : ((t115.size : Int) != (wrap64 (x8_5 + 1))) = false := bne_eq_false_iff_eq.mpr c27; clear c27; simp only [Option.some.injEq, Prod.mk.injEq] at H; obtain ⟨rfl, rfl, rfl⟩ := H
         go_wp2_with (first | ((with_reducible refine gate_callee (f := 167) rfl ?_); refine goesL_ (some 77) rfl rfl Tryd.func167 (by kernel_rfl) rfl #[.int .i64 x9_2] rfl (by (try simp only [List.map_toArray, List.map_cons, List.map_nil]); first | done | rfl) ?_; (with_reducible refine (spec_l01IsPoint.calls x9_2 true _ A24.out).mono ?_); rintro e w' ⟨rfl, ⟨nd, rfl⟩⟩; refine ⟨_, rfl, ?_⟩) | (go_at_call 81; (with_reducible refine (W_spec_l01Write.calls x9_2 t115 _ A26.out).mono ?_); rintro e w28 ⟨rfl, hb⟩; have n0_ := Aside0.mk (below_step (belowA) hb); clear HB; have HB := n0_; clear n0_; (try clear hb); (try clear hb2); (try clear hk); (try clear hi)))
         go_ret3
         exact ⟨by first | rfl | (simp [errW_none, errW_some] <;> rfl) | (simp [*, errW_none, errW_some] <;> rfl), belowA⟩
        rw [if_neg c27] at H; have c27b0 : ((t115.size : Int) == (wrap64 (x8_5 + 1))) = false := beq_eq_false_iff_ne.mpr c27; have c27b1 : ((t115.size : Int) != (wrap64 (x8_5 + 1))) = true := bne_iff_ne.mpr c27; simp only [Option.some.injEq, Prod.mk.injEq] at H; obtain ⟨rfl, rfl, rfl⟩ := H
        go_wp2_with (first | ((with_reducible refine gate_callee (f := 167) rfl ?_); refine goesL_ (some 77) rfl rfl Tryd.func167 (by kernel_rfl) rfl #[.int .i64 x9_2] rfl (by (try simp only [List.map_toArray, List.map_cons, List.map_nil]); first | done | rfl) ?_; (with_reducible refine (spec_l01IsPoint.calls x9_2 true _ A24.out).mono ?_); rintro e w' ⟨rfl, ⟨nd, rfl⟩⟩; refine ⟨_, rfl, ?_⟩) | (go_at_call 81; (with_reducible refine (W_spec_l01Write.calls x9_2 t115 _ A26.out).mono ?_); rintro e w29 ⟨rfl, hb⟩; have n0_ := Aside0.mk (below_step (belowA) hb); clear HB; have HB := n0_; clear n0_; (try clear hb); (try clear hb2); (try clear hk); (try clear hi)))
        go_ret3
        exact ⟨by first | rfl | (simp [errW_none, errW_some] <;> rfl) | (simp [*, errW_none, errW_some] <;> rfl), belowA⟩
       replace c25 := Bool.eq_false_iff.mpr c25; subst c25
       have H1 : (some (65533, 1,false)) = some (r1, r2, r3) := by rw [if_neg (show ¬ (false = true) by decide)] at H; exact H
       clear H; have H := H1; clear H1; simp only [Option.some.injEq, Prod.mk.injEq] at H; obtain ⟨rfl, rfl, rfl⟩ := H
       go_wp2_with (first | ((with_reducible refine gate_callee (f := 167) rfl ?_); refine goesL_ (some 77) rfl rfl Tryd.func167 (by kernel_rfl) rfl #[.int .i64 x9_2] rfl (by (try simp only [List.map_toArray, List.map_cons, List.map_nil]); first | done | rfl) ?_; (with_reducible refine (spec_l01IsPoint.calls x9_2 false _ A24.out).mono ?_); rintro e w' ⟨rfl, ⟨nd, rfl⟩⟩; refine ⟨_, rfl, ?_⟩))
       go_ret3
       exact ⟨by first | rfl | (simp [errW_none, errW_some] <;> rfl) | (simp [*, errW_none, errW_some] <;> rfl), belowA⟩
  rw [if_neg c4] at H
  exact absurd H (by simp)
 rw [if_neg c3] at H
 exact absurd H (by simp)

def spec_l01Next.d (s : ByteArray) (i : Int) : Int × Nat := YtiabgmddnddeiaaDoorPts.dec ((bytesOf s).drop i.toNat)
def W_spec_l01Next.f (a0 : ByteArray) (a1 : Int) : Option (Int × Int × Bool) :=
  if 0 ≤ a1 ∧ a1 < (a0.size : Int) ∧ a0.size ≤ 1099511627776 then some ((spec_l01Next.d a0 a1).1, (((spec_l01Next.d a0 a1).2 : Nat) : Int), decide ((spec_l01Next.d a0 a1).2 ≠ 1 ∨ bt a0 a1 < 128)) else none
theorem spec_l01Next.nat (s : ByteArray) (i : Int) : ∃ n : Nat, bt s i = n ∧ n ≤ 255 := by
  have h := bt_range s i
  exact ⟨(bt s i).toNat, by omega, by omega⟩
theorem spec_l01Next.size2 {x : Int} (h : YtiabgmddnddeiaaDoorPts.isP x) : (strOfNums (YtiabgmddnddeiaaDoorPts.enc x)).size = if x < 128 then 1 else if x < 2048 then 2 else if x < 65536 then 3 else 4 := by
  rw [strOfNums_size]
  unfold YtiabgmddnddeiaaDoorPts.enc
  rw [YtiabgmddnddeiaaDoorPts.fix_of h]
  unfold YtiabgmddnddeiaaDoorPts.enc1
  repeat' split
  all_goals simp
theorem spec_l01Next.fin (k : Nat) (s : ByteArray) (i n x : Int) (hn : 0 ≤ n) (hn3 : n ≤ 3) (hx : 0 ≤ x) :
    spec_l01Next.l0 (k + 1) s i n x (n + 1) = if YtiabgmddnddeiaaDoorPts.isP x ∧ ((if x < 128 then 1 else if x < 2048 then 2 else if x < 65536 then 3 else 4 : Nat) : Int) = n + 1 then some (x, n + 1, true) else some (65533, 1, false) := by
  simp only [spec_l01Next.l0]
  rw [if_neg (by omega)]
  have hp : spec_l01IsPoint.f x = some (decide (YtiabgmddnddeiaaDoorPts.isP x)) := by
    unfold spec_l01IsPoint.f YtiabgmddnddeiaaDoorPts.isP
    by_cases b : x ≤ 1114111
    · by_cases c : x < 55296
      · rw [if_pos hx, if_pos b, if_pos c]; simp [hx, b, c]
      · rw [if_pos hx, if_pos b, if_neg c]; simp [hx, b, c]
    · rw [if_pos hx, if_neg b]; simp [b]
  have hw : wrap64 (n + 1) = n + 1 := by unfold wrap64; omega
  rw [hp]
  simp only [Option.bind_some]
  by_cases h : YtiabgmddnddeiaaDoorPts.isP x
  · rw [if_pos (decide_eq_true h)]
    unfold W_spec_l01Write.f
    simp only [Option.bind_some]
    rw [spec_l01Next.size2 h, hw]
    by_cases c : ((if x < 128 then 1 else if x < 2048 then 2 else if x < 65536 then 3 else 4 : Nat) : Int) = n + 1
    · rw [if_pos c, if_pos ⟨h, c⟩]
    · rw [if_neg c, if_neg (fun z => c z.2)]
  · rw [if_neg (by simpa using h), if_neg (fun z => h z.1)]
theorem spec_l01Next.bad (k : Nat) (s : ByteArray) (i n x j : Int) (c : Nat) (hj : j ≤ n) (h0 : 0 ≤ i) (h1 : 0 ≤ j) (h2 : i + j < (s.size : Int)) (hs : s.size ≤ 1099511627776) (hc : bt s (i + j) = c) (hb : c < 128 ∨ 191 < c) :
    spec_l01Next.l0 (k + 1) s i n x j = some (65533, 1, false) := by
  simp only [spec_l01Next.l0]
  have hw : wrap64 (i + j) = i + j := by unfold wrap64; omega
  have hr := bt_range s (i + j)
  have hv : wrap64 (bt s (i + j)) = bt s (i + j) := by unfold wrap64; omega
  rw [if_pos hj, hw, if_pos (by omega), if_pos h2, hv, hc]
  rcases hb with hb | hb
  · rw [if_pos (by omega)]
  · rw [if_neg (by omega), if_pos (by omega)]
theorem spec_l01Next.ok (k : Nat) (s : ByteArray) (i n x j : Int) (c : Nat) (hj : j ≤ n) (h0 : 0 ≤ i) (h1 : 0 ≤ j) (h2 : i + j < (s.size : Int)) (hs : s.size ≤ 1099511627776) (hc : bt s (i + j) = c) (hb : 128 ≤ c) (hb2 : c ≤ 191) (hx : 0 ≤ x) (hx2 : x ≤ 1000000000) :
    spec_l01Next.l0 (k + 1) s i n x j = spec_l01Next.l0 k s i n (x * 64 + ((c % 64 : Nat) : Int)) (j + 1) := by
  simp only [spec_l01Next.l0]
  have hw : wrap64 (i + j) = i + j := by unfold wrap64; omega
  have hr := bt_range s (i + j)
  have hv : wrap64 (bt s (i + j)) = bt s (i + j) := by unfold wrap64; omega
  rw [if_pos hj, hw, if_pos (by omega), if_pos h2, hv, hc, if_neg (by omega), if_neg (by omega)]
  have e1 : wrap64 (x * 64) = x * 64 := by unfold wrap64; omega
  have e2 : Int.tmod (c : Int) 64 = ((c % 64 : Nat) : Int) := by rw [Int.tmod_eq_emod_of_nonneg (by omega)]; omega
  have e3 : wrap64 (j + 1) = j + 1 := by unfold wrap64; omega
  rw [e1, e2, e3]
  have e4 : wrap64 (x * 64 + ((c % 64 : Nat) : Int)) = x * 64 + ((c % 64 : Nat) : Int) := by unfold wrap64; omega
  rw [e4]
theorem spec_l01Next.getD (s : ByteArray) (i : Int) (h : 0 ≤ i) (j : Nat) : ((bytesOf s).drop i.toNat).getD j 0 = bt s (i + j) := by
  have e : ((bytesOf s).drop i.toNat).getD j 0 = (bytesOf s).getD (i.toNat + j) 0 := by simp [List.getD, List.getElem?_drop]
  rw [e, ← rd_bytesOf]
  unfold rd
  have : (i + (j : Int)).toNat = i.toNat + j := by omega
  rw [this]
theorem spec_l01Next.w (i j : Int) (h0 : 0 ≤ i) (h1 : 0 ≤ j) (h2 : i + j < 9223372036854775807) : wrap64 (i + j) = i + j := by unfold wrap64; omega
theorem spec_l01Next.wn (c : Nat) (h : c ≤ 255) : wrap64 (c : Int) = c := by unfold wrap64; omega
theorem spec_l01Next.t32 (c : Nat) : Int.tmod (c : Int) 32 = ((c % 32 : Nat) : Int) := by rw [Int.tmod_eq_emod_of_nonneg (by omega)]; omega
theorem spec_l01Next.t16 (c : Nat) : Int.tmod (c : Int) 16 = ((c % 16 : Nat) : Int) := by rw [Int.tmod_eq_emod_of_nonneg (by omega)]; omega
theorem spec_l01Next.t8 (c : Nat) : Int.tmod (c : Int) 8 = ((c % 8 : Nat) : Int) := by rw [Int.tmod_eq_emod_of_nonneg (by omega)]; omega
set_option maxRecDepth 100000 in
theorem spec_l01Next.eq (k : Nat) (s : ByteArray) (i : Int) (h0 : 0 ≤ i) (h1 : i < (s.size : Int)) (hs : s.size ≤ 1099511627776) :
    spec_l01Next.f (k + 10) s i = some ((spec_l01Next.d s i).1, (((spec_l01Next.d s i).2 : Nat) : Int), decide ((spec_l01Next.d s i).2 ≠ 1 ∨ bt s i < 128)) := by
  obtain ⟨c0, e0, l0⟩ := spec_l01Next.nat s i
  obtain ⟨c1, e1, l1⟩ := spec_l01Next.nat s (i + 1)
  obtain ⟨c2, e2, l2⟩ := spec_l01Next.nat s (i + 2)
  obtain ⟨c3, e3, l3⟩ := spec_l01Next.nat s (i + 3)
  obtain ⟨n, hn⟩ : ∃ n : Nat, s.size = i.toNat + n := ⟨s.size - i.toNat, by omega⟩
  have hd : spec_l01Next.d s i = ((((Lib.decodeN n c0 c1 c2 c3).1 : Nat) : Int), (Lib.decodeN n c0 c1 c2 c3).2) := by
    unfold spec_l01Next.d YtiabgmddnddeiaaDoorPts.dec
    rw [spec_l01Next.getD s i h0 0, spec_l01Next.getD s i h0 1, spec_l01Next.getD s i h0 2, spec_l01Next.getD s i h0 3, List.length_drop, bytesOf_length, hn]
    have : i.toNat + n - i.toNat = n := by omega
    rw [this]
    simp only [Int.natCast_zero, Int.add_zero, Int.natCast_one]
    rw [e0, e1, show ((2 : Nat) : Int) = 2 from rfl, show ((3 : Nat) : Int) = 3 from rfl, e2, e3]
    simp only [Int.toNat_natCast]
  rw [hd, e0]
  unfold spec_l01Next.f
  rw [if_pos h0, if_pos h1, e0, spec_l01Next.wn c0 l0]
  by_cases a0 : c0 < 128
  · rw [if_pos (by omega)]
    have e : Lib.decodeN n c0 c1 c2 c3 = (c0, 1) := by unfold Lib.decodeN; rw [if_pos a0]
    rw [e]
    simp; omega
  · rw [if_neg (by omega)]
    have fl : ∀ r : Nat × Nat, decide (r.2 ≠ 1 ∨ (c0 : Int) < 128) = decide (r.2 ≠ 1) := by
      intro r; congr 1; exact propext ⟨fun h => h.elim id (fun z => absurd z (by omega)), .inl⟩
    rw [fl]
    have none_ : some ((65533 : Int), (1 : Int), false) = some ((((65533, 1) : Nat × Nat).1 : Int), (((65533, 1) : Nat × Nat).2 : Int), decide (((65533, 1) : Nat × Nat).2 ≠ 1)) := rfl
    clear hd e0 fl
    by_cases a1 : 194 ≤ c0
    · rw [if_pos (by omega)]
      by_cases a2 : c0 < 224
      · rw [show decide ((c0 : Int) < 224) = true from decide_eq_true (by omega), YtiabgmddnddeiaaDoorPts.decN_two n c0 c1 c2 c3 l1 a1 a2]
        simp only [spec_l01Next.j0, if_true, spec_l01Next.j2]
        rw [spec_l01Next.w i 1 h0 (by omega) (by omega), spec_l01Next.t32]
        by_cases b1 : n ≤ 1
        · rw [if_pos (by omega), if_neg (by omega)]; exact none_
        · rw [if_neg (by omega)]
          by_cases g1 : 128 ≤ c1 ∧ c1 ≤ 191
          · rw [spec_l01Next.ok (k + 7) s i 1 _ 1 c1 (by omega) h0 (by omega) (by omega) hs e1 g1.1 g1.2 (by omega) (by omega), spec_l01Next.fin (k + 6) s i 1 _ (by omega) (by omega) (by omega), if_pos (show 1 < n ∧ _ from ⟨by omega, g1⟩)]
            rw [if_pos (by unfold YtiabgmddnddeiaaDoorPts.isP; refine ⟨⟨by omega, by omega, by omega⟩, ?_⟩; rw [if_neg (by omega), if_pos (by omega)]; rfl)]
            simp
          · rw [spec_l01Next.bad (k + 7) s i 1 _ 1 c1 (by omega) h0 (by omega) (by omega) hs e1 (by omega), if_neg (fun z => g1 z.2)]; exact none_
      · rw [show decide ((c0 : Int) < 224) = false from decide_eq_false (by omega)]
        simp only [spec_l01Next.j0, Bool.false_eq_true, if_false]
        rw [if_pos (by omega)]
        by_cases a3 : c0 < 240
        · rw [show decide ((c0 : Int) < 240) = true from decide_eq_true (by omega), YtiabgmddnddeiaaDoorPts.decN_three n c0 c1 c2 c3 l1 l2 (by omega) a3]
          simp only [spec_l01Next.j1, if_true, spec_l01Next.j2]
          rw [spec_l01Next.w i 2 h0 (by omega) (by omega), spec_l01Next.t16]
          by_cases b1 : n ≤ 2
          · rw [if_pos (by omega), if_neg (fun z => absurd z.1.1 (by omega))]; exact none_
          · rw [if_neg (by omega)]
            by_cases g1 : 128 ≤ c1 ∧ c1 ≤ 191
            · rw [spec_l01Next.ok (k + 6) s i 2 _ 1 c1 (by omega) h0 (by omega) (by omega) hs e1 g1.1 g1.2 (by omega) (by omega)]
              by_cases g2 : 128 ≤ c2 ∧ c2 ≤ 191
              · rw [show (1 : Int) + 1 = 2 from rfl, spec_l01Next.ok (k + 5) s i 2 _ 2 c2 (by omega) h0 (by omega) (by omega) hs e2 g2.1 g2.2 (by omega) (by omega), spec_l01Next.fin (k + 4) s i 2 _ (by omega) (by omega) (by omega)]
                clear e1 e2 h1 hn hs
                obtain ⟨v, hv⟩ : ∃ v, c0 % 16 * 4096 + c1 % 64 * 64 + c2 % 64 = v := ⟨_, rfl⟩
                have hz : (((c0 % 16 : Nat) : Int) * 64 + ((c1 % 64 : Nat) : Int)) * 64 + ((c2 % 64 : Nat) : Int) = (v : Int) := by omega
                have hm : v ≤ 65535 := by omega
                rw [hv, hz]
                clear hv hz
                by_cases q : v ≥ 2048 ∧ (v < 55296 ∨ 57344 ≤ v)
                · rw [if_pos (show (2 < n ∧ (128 ≤ c1 ∧ c1 ≤ 191) ∧ (128 ≤ c2 ∧ c2 ≤ 191)) ∧ (v ≥ 2048 ∧ (v < 55296 ∨ 57344 ≤ v)) from ⟨⟨by omega, g1, g2⟩, q⟩), if_pos (by unfold YtiabgmddnddeiaaDoorPts.isP; refine ⟨⟨by omega, by omega, by omega⟩, ?_⟩; rw [if_neg (by omega), if_neg (by omega), if_pos (by omega)]; rfl)]
                  rfl
                · rw [if_neg (show ¬ ((2 < n ∧ (128 ≤ c1 ∧ c1 ≤ 191) ∧ (128 ≤ c2 ∧ c2 ≤ 191)) ∧ (v ≥ 2048 ∧ (v < 55296 ∨ 57344 ≤ v))) from fun z => q z.2), if_neg (by
                    rintro ⟨q1, q2⟩
                    unfold YtiabgmddnddeiaaDoorPts.isP at q1
                    by_cases z1 : (v : Int) < 2048
                    · by_cases z2 : (v : Int) < 128
                      · rw [if_pos z2] at q2; omega
                      · rw [if_neg z2, if_pos z1] at q2; omega
                    · omega)]
                  exact none_
              · rw [show (1 : Int) + 1 = 2 from rfl, spec_l01Next.bad (k + 5) s i 2 _ 2 c2 (by omega) h0 (by omega) (by omega) hs e2 (by omega), if_neg (fun z => g2 z.1.2.2)]; exact none_
            · rw [spec_l01Next.bad (k + 6) s i 2 _ 1 c1 (by omega) h0 (by omega) (by omega) hs e1 (by omega), if_neg (fun z => g1 z.1.2.1)]; exact none_
        · rw [show decide ((c0 : Int) < 240) = false from decide_eq_false (by omega)]
          simp only [spec_l01Next.j1, Bool.false_eq_true, if_false]
          rw [if_pos (by omega)]
          by_cases a4 : c0 < 245
          · rw [if_pos (by omega), YtiabgmddnddeiaaDoorPts.decN_four n c0 c1 c2 c3 l1 l2 l3 (by omega) a4]
            simp only [spec_l01Next.j2]
            rw [spec_l01Next.w i 3 h0 (by omega) (by omega), spec_l01Next.t8]
            by_cases b1 : n ≤ 3
            · rw [if_pos (by omega), if_neg (fun z => absurd z.1.1 (by omega))]; exact none_
            · rw [if_neg (by omega)]
              by_cases g1 : 128 ≤ c1 ∧ c1 ≤ 191
              · rw [spec_l01Next.ok (k + 6) s i 3 _ 1 c1 (by omega) h0 (by omega) (by omega) hs e1 g1.1 g1.2 (by omega) (by omega)]
                by_cases g2 : 128 ≤ c2 ∧ c2 ≤ 191
                · rw [show (1 : Int) + 1 = 2 from rfl, spec_l01Next.ok (k + 5) s i 3 _ 2 c2 (by omega) h0 (by omega) (by omega) hs e2 g2.1 g2.2 (by omega) (by omega)]
                  by_cases g3 : 128 ≤ c3 ∧ c3 ≤ 191
                  · rw [show (2 : Int) + 1 = 3 from rfl, spec_l01Next.ok (k + 4) s i 3 _ 3 c3 (by omega) h0 (by omega) (by omega) hs e3 g3.1 g3.2 (by omega) (by omega), spec_l01Next.fin (k + 3) s i 3 _ (by omega) (by omega) (by omega)]
                    clear e1 e2 e3 h1 hn hs
                    obtain ⟨v, hv⟩ : ∃ v, c0 % 8 * 262144 + c1 % 64 * 4096 + c2 % 64 * 64 + c3 % 64 = v := ⟨_, rfl⟩
                    have hz : ((((c0 % 8 : Nat) : Int) * 64 + ((c1 % 64 : Nat) : Int)) * 64 + ((c2 % 64 : Nat) : Int)) * 64 + ((c3 % 64 : Nat) : Int) = (v : Int) := by omega
                    rw [hv, hz]
                    clear hv hz
                    by_cases q : v ≥ 65536 ∧ v ≤ 1114111
                    · rw [if_pos (show (3 < n ∧ (128 ≤ c1 ∧ c1 ≤ 191) ∧ (128 ≤ c2 ∧ c2 ≤ 191) ∧ (128 ≤ c3 ∧ c3 ≤ 191)) ∧ (v ≥ 65536 ∧ v ≤ 1114111) from ⟨⟨by omega, g1, g2, g3⟩, q⟩), if_pos (by unfold YtiabgmddnddeiaaDoorPts.isP; refine ⟨⟨by omega, by omega, by omega⟩, ?_⟩; rw [if_neg (by omega), if_neg (by omega), if_neg (by omega)]; rfl)]
                      rfl
                    · rw [if_neg (show ¬ ((3 < n ∧ (128 ≤ c1 ∧ c1 ≤ 191) ∧ (128 ≤ c2 ∧ c2 ≤ 191) ∧ (128 ≤ c3 ∧ c3 ≤ 191)) ∧ (v ≥ 65536 ∧ v ≤ 1114111)) from fun z => q z.2), if_neg (by
                        rintro ⟨q1, q2⟩
                        unfold YtiabgmddnddeiaaDoorPts.isP at q1
                        by_cases z1 : (v : Int) < 65536
                        · by_cases z2 : (v : Int) < 128
                          · rw [if_pos z2] at q2; omega
                          · by_cases z3 : (v : Int) < 2048
                            · rw [if_neg z2, if_pos z3] at q2; omega
                            · rw [if_neg z2, if_neg z3, if_pos z1] at q2; omega
                        · omega)]
                      exact none_
                  · rw [show (2 : Int) + 1 = 3 from rfl, spec_l01Next.bad (k + 4) s i 3 _ 3 c3 (by omega) h0 (by omega) (by omega) hs e3 (by omega), if_neg (fun z => g3 z.1.2.2.2)]; exact none_
                · rw [show (1 : Int) + 1 = 2 from rfl, spec_l01Next.bad (k + 5) s i 3 _ 2 c2 (by omega) h0 (by omega) (by omega) hs e2 (by omega), if_neg (fun z => g2 z.1.2.2.1)]; exact none_
              · rw [spec_l01Next.bad (k + 6) s i 3 _ 1 c1 (by omega) h0 (by omega) (by omega) hs e1 (by omega), if_neg (fun z => g1 z.1.2.1)]; exact none_
          · rw [if_neg (by omega), YtiabgmddnddeiaaDoorPts.decN_not n c0 c1 c2 c3 l0 (by omega) (by omega)]; exact none_
    · rw [if_neg (by omega)]
      simp only [spec_l01Next.j0, spec_l01Next.j1, Bool.false_eq_true, if_false]
      rw [if_neg (by omega), if_neg (by omega), YtiabgmddnddeiaaDoorPts.decN_not n c0 c1 c2 c3 l0 (by omega) (by omega)]
      exact none_
theorem W_spec_l01Next.to {a0 : ByteArray} {a1 : Int} {r : Int × Int × Bool} (h : W_spec_l01Next.f a0 a1 = some r) : ∃ k, spec_l01Next.f k a0 a1 = some r := by
  unfold W_spec_l01Next.f at h
  split at h
  · rename_i hc
    exact ⟨10, by rw [← h]; exact spec_l01Next.eq 0 a0 a1 hc.1 hc.2.1 hc.2.2⟩
  · cases h
theorem W_spec_l01Next.calls (a0 : ByteArray) (a1 : Int) (r1 : Int) (r2 : Int) (r3 : Bool) (w : World) (h : W_spec_l01Next.f a0 a1 = some (r1, r2, r3)) :
    Calls Tryd.prog 144 #[.string a0, .int .i64 a1] w fun e w' => e = .returned (.tuple #[.int .i64 r1, .int .i64 r2, .bool r3]) ∧ Below w.heap.size w w' := by
  obtain ⟨k, hk⟩ := W_spec_l01Next.to h
  exact spec_l01Next.calls k a0 a1 r1 r2 r3 w hk

/-! ### spec_l07RowOf: function 109 -/
def spec_l07RowOf.l0 : Nat → ByteArray → Int → List Int → List Int → Option (List Int × List Int)
 | 0, _, _, _, _ => none
 | k + 1, x0, x4, x118000, x118001 => if x4 < (x0.size : Int) then ((W_spec_l01Next.f x0 x4).bind fun bt118 => (if x118000.length < 17592186044416 then (if x118001.length < 17592186044416 then (spec_l07RowOf.l0 k x0 (wrap64 (x4 + bt118.2.1)) (x118000 ++ [bt118.1]) (x118001 ++ [x4])) else (none)) else (none))) else (if x118001.length < 17592186044416 then (some (x118000, (x118001 ++ [(x0.size : Int)]))) else (none))
def spec_l07RowOf.f (k : Nat) (a0 : ByteArray) : Option (List Int × List Int) := spec_l07RowOf.l0 k a0 0 ([] : List Int) ([] : List Int)
theorem spec_l07RowOf.mono_l : ∀ k, (∀ y0 y1 y2 y3, LeO (spec_l07RowOf.l0 k y0 y1 y2 y3) (spec_l07RowOf.l0 (k + 1) y0 y1 y2 y3))
 | 0 => fun _ _ _ _ r h => by simp [spec_l07RowOf.l0] at h
 | k + 1 => by
  have ih0 := spec_l07RowOf.mono_l k; intro y0 y1 y2 y3
  unfold spec_l07RowOf.l0
  repeat' first
  | (with_reducible exact ih0 _ _ _ _)
  | (with_reducible exact LeO.refl _)
  | (with_reducible exact LeO.none _)
  | (with_reducible refine LeO.ite ?_ ?_)
  | (with_reducible refine LeO.bind ?_ (fun _ => ?_))
  | exact ih0 _ _ _ _
  | exact LeO.none _
  | refine LeO.ite ?_ ?_
  | refine LeO.bind ?_ (fun _ => ?_)
theorem spec_l07RowOf.mono : ∀ a0 k, LeO (spec_l07RowOf.f k a0) (spec_l07RowOf.f (k + 1) a0) := by
 intro a0 k
 have ih0 := spec_l07RowOf.mono_l k
 unfold spec_l07RowOf.f
 repeat' first
   | (with_reducible exact ih0 _ _ _ _)
   | (with_reducible exact LeO.refl _)
   | (with_reducible exact LeO.none _)
   | (with_reducible refine LeO.ite ?_ ?_)
   | (with_reducible refine LeO.bind ?_ (fun _ => ?_))
   | exact ih0 _ _ _ _
   | exact LeO.none _
   | refine LeO.ite ?_ ?_
   | refine LeO.bind ?_ (fun _ => ?_)
set_option maxHeartbeats 8000000 in
set_option maxRecDepth 100000 in
theorem spec_l07RowOf.calls (k : Nat) (a0 : ByteArray) (r1 : List Int) (r2 : List Int) (w : World) (h : spec_l07RowOf.f k a0 = some (r1, r2)) :
  Calls Tryd.prog 109 #[.string a0] w fun e w' => ∃ v0_ v1_ : Value, e = .returned (.agg #[v0_, v1_]) ∧ Kd.R (Kd.int .i64) 2 w' w.heap.size (fun k_ => some k_ ≠ (v1_ : Value).ownBlock) v0_ r1 ∧ Kd.R (Kd.int .i64) 2 w' w.heap.size (fun k_ => some k_ ≠ (v0_ : Value).ownBlock) v1_ r2 ∧ Below w.heap.size w w' := by
 have hu88 := Tryd.underlying88
 have HB := Aside0.mk (Below.refl w.heap.size w)
 have H : (spec_l07RowOf.l0 k a0 0 ([] : List Int) ([] : List Int)) = some (r1, r2) := h
 clear h
 have H' := Aside0.mk H
 clear H
 go_enter Tryd.func109, Tryd.ntmps109
 go_wp2_with (first | ((with_reducible refine gate_dst (N := 2) rfl ?_); refine box_event ?hg (N := 2) ?hd (cs := #[.slice none 0 0, .slice none 0 0]) (t := 88) ?hr ?_; (case hd => rfl); (case hg => rfl); (case hr => first | (go_simp; done) | (go_simp; rfl)); intro gb116 hg w2 hbox hb; have n0_ := Aside0.mk (below_step (belowA) hb); have n1_ := Aside0.mk (hbox); have n2_ := Aside0.mk ((by rw [hg]; exact (below_size (belowA)) : w.heap.size ≤ gb116)); have n3_ := Aside0.mk ((by rw [hg]; exact (below_size (belowA)) : w.heap.size ≤ gb116)); clear HB; have HB := n0_; have BK116 := n1_; have GW116 := n2_; have GE116 := n3_; clear n0_ n1_ n2_ n3_; clear hb hbox hg) | ((with_reducible refine gate_dst (N := 3) rfl ?_); refine box_event ?hg (N := 3) ?hd (cs := #[.slice none 0 0, .slice none 0 0]) (t := 88) ?hr ?_; (case hd => rfl); (case hg => rfl); (case hr => first | (go_simp; done) | (go_simp; rfl)); intro gb117 hg w3 hbox hb; have n0_ := Aside0.mk (blk_below (g := gb116) (o := .cells #[.slice none 0 0, .slice none 0 0] 88 (0, 0)) (by (with_reducible repeat (first | refine blk_drewN ?_ _ | refine blk_drew ?_ | refine blk_alloc ?_ _)); exact BK116.out) hb); have n1_ := Aside0.mk (below_step (by repeat (first | (with_reducible first | exact HB.out | apply below_alloc | apply pw_below_drewN | apply below_drew1 | refine below_set ?_ GE116.out) | exact HB.out)) hb); have n2_ := Aside0.mk (hbox); have n3_ := Aside0.mk ((by rw [hg]; exact (below_size (by repeat (first | (with_reducible first | exact HB.out | apply below_alloc | apply pw_below_drewN | apply below_drew1 | refine below_set ?_ GE116.out) | exact HB.out))) : w.heap.size ≤ gb117)); have n4_ := Aside0.mk ((by rw [hg]; exact (below_size (by repeat (first | (with_reducible first | exact HB.out | apply below_alloc | apply pw_below_drewN | apply below_drew1 | refine below_set ?_ GE116.out) | exact HB.out))) : w.heap.size ≤ gb117)); have n5_ := Aside0.mk ((by rw [hg]; exact Nat.ne_of_lt (blk_lt (g := gb116) (o := .cells #[.slice none 0 0, .slice none 0 0] 88 (0, 0)) (by (with_reducible repeat (first | refine blk_drewN ?_ _ | refine blk_drew ?_ | refine blk_alloc ?_ _)); exact BK116.out)) : gb116 ≠ gb117)); have n6_ := Aside0.mk ((by rw [hg]; exact Nat.ne_of_gt (blk_lt (g := gb116) (o := .cells #[.slice none 0 0, .slice none 0 0] 88 (0, 0)) (by (with_reducible repeat (first | refine blk_drewN ?_ _ | refine blk_drew ?_ | refine blk_alloc ?_ _)); exact BK116.out)) : gb117 ≠ gb116)); clear BK116; clear HB; have BK116 := n0_; have HB := n1_; have BK117 := n2_; have GW117 := n3_; have GE117 := n4_; have NB116_117 := n5_; have NB117_116 := n6_; clear n0_ n1_ n2_ n3_ n4_ n5_ n6_; clear hb hbox hg; have hnb4 := NB117_116.out; have hnc4 := NB116_117.out; have hcz5_0 : w3.cell? ⟨gb117, 0, none⟩ = some (.slice none 0 0) := (blk_cell BK117.out 0).trans rfl; have hcz5_1 : w3.cell? ⟨gb117, 1, none⟩ = some (.slice none 0 0) := (blk_cell BK117.out 1).trans rfl; have hfz5_0 := blk_frozen BK117.out 0; have hfz5_1 := blk_frozen BK117.out 1))
 go_loopg [4] k (fun kq v4 w' => ∃ (x4_1 : Int) (x118000_1 : List Int) (x118001_1 : List Int) (u118000 : Value) (u118001 : Value), v4 = .int .i64 x4_1 ∧ Aside0 (spec_l07RowOf.l0 kq a0 x4_1 x118000_1 x118001_1 = some (r1, r2)) ∧ Aside0 (kq ≤ k) ∧ Aside0 (Kd.R (Kd.int .i64) 2 w' w.heap.size (fun k_ => some k_ ≠ (u118001 : Value).ownBlock) u118000 x118000_1) ∧ Aside0 (Kd.R (Kd.int .i64) 2 w' w.heap.size (fun k_ => some k_ ≠ (u118000 : Value).ownBlock) u118001 x118001_1) ∧ Aside0 (w'.heap[gb116]? = some (.cells #[(.slice none 0 0), (.slice none 0 0)] 88 (0, 0))) ∧ Aside0 (w'.heap[gb117]? = some (.cells #[u118000, u118001] 88 (0, 0))) ∧ Aside0 (Below w.heap.size w w'))
 case atStart => exact ⟨(0), (([] : List Int)), (([] : List Int)), (.slice none 0 0), (.slice none 0 0), (by first | rfl | (simp; done) | (simp [*]; done)), H', ⟨Nat.le_refl _⟩, ⟨by first | exact Kd.R_nil _ _ _ _ _ | exact Kd.N_nil _ _ _ _ _ | exact Kd.V_nil _ _ _ _ _ | exact Kd.Q_nil _ _ _ _ _ | exact Kd.S_nil _ _ _ _ _⟩, ⟨by first | exact Kd.R_nil _ _ _ _ _ | exact Kd.N_nil _ _ _ _ _ | exact Kd.V_nil _ _ _ _ _ | exact Kd.Q_nil _ _ _ _ _ | exact Kd.S_nil _ _ _ _ _⟩, ⟨by (with_reducible repeat (first | refine blk_drewN ?_ _ | refine blk_drew ?_ | refine blk_alloc ?_ _)); refine blk_far ?_ NB116_117.out _; (with_reducible repeat (first | refine blk_drewN ?_ _ | refine blk_drew ?_ | refine blk_alloc ?_ _)); refine blk_far ?_ NB116_117.out _; (with_reducible repeat (first | refine blk_drewN ?_ _ | refine blk_drew ?_ | refine blk_alloc ?_ _)); exact BK116.out⟩, ⟨by (with_reducible repeat (first | refine blk_drewN ?_ _ | refine blk_drew ?_ | refine blk_alloc ?_ _)); refine blk_put (cs := #[.slice none 0 0, .slice none 0 0]) ?_ 1 _ rfl; (with_reducible repeat (first | refine blk_drewN ?_ _ | refine blk_drew ?_ | refine blk_alloc ?_ _)); refine blk_put (cs := #[.slice none 0 0, .slice none 0 0]) ?_ 0 _ rfl; (with_reducible repeat (first | refine blk_drewN ?_ _ | refine blk_drew ?_ | refine blk_alloc ?_ _)); exact BK117.out⟩, ⟨by repeat (first | (with_reducible first | exact HB.out | apply below_alloc | apply pw_below_drewN | apply below_drew1 | refine below_set ?_ GE116.out | refine below_set ?_ GE117.out) | exact HB.out)⟩⟩
 case round =>
  clear H'
  try clear c1; try clear p2; try clear c4; try clear hcz5_0; try clear hcz5_1; try clear hfz5_0; try clear hfz5_1
  obtain ⟨x4_1, x118000_1, x118001_1, u118000, u118001, rfl, HA, HK1, HO_118000, HO_118001, BK116, BK117, HB⟩ := hrel
  cases gk with
  | zero => exact absurd HA.out (by simp [spec_l07RowOf.l0])
  | succ k1 =>
   have H := HA.out; clear HA; simp only [spec_l07RowOf.l0] at H
   by_cases c6 : x4_1 < (a0.size : Int)
   ·rw [if_pos c6] at H
    have c6b0 : decide (x4_1 < (a0.size : Int)) = true := decide_eq_true c6; clear c6; replace H := Option.bind_eq_some_iff.mp H; obtain ⟨⟨t118, t119, t120⟩, A70, H⟩ := H
    try dsimp only at H
    have A7 := Aside0.mk A70; clear A70
    by_cases c8 : x118000_1.length < 17592186044416
    ·rw [if_pos c8] at H
     have LMc8 := Aside0.mk c8; clear c8; obtain ⟨y121, hy121⟩ : ∃ y_ : List Int, y_ = (x118000_1 ++ [t118]) := ⟨_, rfl⟩
     replace H : (if x118001_1.length < 17592186044416 then (spec_l07RowOf.l0 k1 a0 (wrap64 (x4_1 + t119)) y121 (x118001_1 ++ [x4_1])) else (none)) = some (r1, r2) := by first | (rw [hy121]; with_reducible exact H) | (have H2_ := (Option.bind_some _ _).symm.trans H; rw [hy121]; with_reducible exact H2_) | (have H2_ := (Option.bind_some _ _).symm.trans H; with_reducible exact H2_) | with_reducible exact H | (rw [hy121]; exact H) | exact H
     have Ny121 := Aside0.mk hy121; clear hy121
     by_cases c9 : x118001_1.length < 17592186044416
     ·rw [if_pos c9] at H
      have LMc9 := Aside0.mk c9; clear c9; obtain ⟨y124, hy124⟩ : ∃ y_ : List Int, y_ = (x118001_1 ++ [x4_1]) := ⟨_, rfl⟩
      replace H : (spec_l07RowOf.l0 k1 a0 (wrap64 (x4_1 + t119)) y121 y124) = some (r1, r2) := by first | (rw [hy124]; with_reducible exact H) | (have H2_ := (Option.bind_some _ _).symm.trans H; rw [hy124]; with_reducible exact H2_) | (have H2_ := (Option.bind_some _ _).symm.trans H; with_reducible exact H2_) | with_reducible exact H | (rw [hy124]; exact H) | exact H
      have Ny124 := Aside0.mk hy124; clear hy124; have H' := Aside0.mk H; clear H
      go_wp2_with (first | ((with_reducible refine gate_callee (f := 144) rfl ?_); refine goesL_ (some 16) rfl rfl Tryd.func144 (by kernel_rfl) rfl #[.string a0, .int .i64 x4_1] rfl (by (try simp only [List.map_toArray, List.map_cons, List.map_nil]); first | done | rfl) ?_; (with_reducible refine (W_spec_l01Next.calls a0 x4_1 t118 t119 t120 _ A7.out).mono ?_); rintro e w10 ⟨rfl, hb⟩; refine ⟨_, rfl, ?_⟩; have n0_ := Aside0.mk (Kd.R_below (by (with_reducible repeat (first | apply Kd.R_alloc | apply Kd.R_drewN | apply Kd.R_drew)); exact HO_118000.out) hb); have n1_ := Aside0.mk (Kd.R_below (by (with_reducible repeat (first | apply Kd.R_alloc | apply Kd.R_drewN | apply Kd.R_drew)); exact HO_118001.out) hb); have n2_ := Aside0.mk (blk_below (g := gb116) (o := .cells #[.slice none 0 0, .slice none 0 0] 88 (0, 0)) (by (with_reducible repeat (first | refine blk_drewN ?_ _ | refine blk_drew ?_ | refine blk_alloc ?_ _)); exact BK116.out) hb); have n3_ := Aside0.mk (blk_below (g := gb117) (o := .cells #[u118000, u118001] 88 (0, 0)) (by (with_reducible repeat (first | refine blk_drewN ?_ _ | refine blk_drew ?_ | refine blk_alloc ?_ _)); exact BK117.out) hb); have n4_ := Aside0.mk (below_step (by repeat (first | (with_reducible first | exact HB.out | apply below_alloc | apply pw_below_drewN | apply below_drew1 | refine below_set ?_ GE116.out | refine below_set ?_ GE117.out) | exact HB.out)) hb); clear HO_118000; clear HO_118001; clear BK116; clear BK117; clear HB; have HO_118000 := n0_; have HO_118001 := n1_; have BK116 := n2_; have BK117 := n3_; have HB := n4_; clear n0_ n1_ n2_ n3_ n4_; (try clear hb); (try clear hb2); (try clear hk); (try clear hi); have hnb11 := NB117_116.out; have hnc11 := NB116_117.out; have hcz12_0 : w10.cell? ⟨gb117, 0, none⟩ = some (u118000) := (blk_cell BK117.out 0).trans rfl; have hcz12_1 : w10.cell? ⟨gb117, 1, none⟩ = some (u118001) := (blk_cell BK117.out 1).trans rfl; have hfz12_0 := blk_frozen BK117.out 0; have hfz12_1 := blk_frozen BK117.out 1) | ((with_reducible refine gate_builtin (b := .append) (xs := #[.tmp 21, .tmp 23]) rfl ?_); at_builtin; refine Kd.R_append (Kd.int .i64) (w0 := w) w.heap.size rfl (.tmp 21) (.tmp 23) 28 2 (.int .i64 0) 8 rfl Tryd.underlying28 info2 rfl (by decide) (by omega) u118000 x118000_1 t118 [.int .i64 t118] (fun k_ => some k_ ≠ (u118001 : Value).ownBlock) (fun _ => False) rfl rfl ?aP (fun _ hk => hk.elim) ?aF ?aO ?aB ?aS ?aL ?_; (case aP => exact rfl); (case aB => exact (by repeat (first | (with_reducible first | exact HB.out | apply below_alloc | apply pw_below_drewN | apply below_drew1 | refine below_set ?_ GE116.out | refine below_set ?_ GE117.out) | exact HB.out))); (case aF => exact (fun k_ hk => Kd.fresh' (Kd.R_lt (by (with_reducible repeat (first | apply Kd.R_alloc | apply Kd.R_drewN | apply Kd.R_drew)); exact HO_118001.out)) k_ hk)); (case aO => exact (by (with_reducible repeat (first | apply Kd.R_alloc | apply Kd.R_drewN | apply Kd.R_drew)); exact HO_118000.out)); (case aS => exact (below_size (by repeat (first | (with_reducible first | exact HB.out | apply below_alloc | apply pw_below_drewN | apply below_drew1 | refine below_set ?_ GE116.out | refine below_set ?_ GE117.out) | exact HB.out)))); (case aL => have := LMc8.out; omega); intro v122 w13 ho hb hg hat; rw [← Ny121.out] at ho; have n0_ := Aside0.mk (Kd.R_after (ok := (fun _ => True)) (by (with_reducible repeat (first | apply Kd.R_alloc | apply Kd.R_drewN | apply Kd.R_drew)); exact Kd.R_mono HO_118001.out (fun _ hk => ⟨trivial, hk⟩)) hg hat); have n1_ := Aside0.mk (blk_grown (g := gb116) (o := .cells #[.slice none 0 0, .slice none 0 0] 88 (0, 0)) (by (with_reducible repeat (first | refine blk_drewN ?_ _ | refine blk_drew ?_ | refine blk_alloc ?_ _)); exact BK116.out) hg (Kd.R_ne HO_118000.out BK116.out (by decide))); have n2_ := Aside0.mk (blk_grown (g := gb117) (o := .cells #[u118000, u118001] 88 (0, 0)) (by (with_reducible repeat (first | refine blk_drewN ?_ _ | refine blk_drew ?_ | refine blk_alloc ?_ _)); exact BK117.out) hg (Kd.R_ne HO_118000.out BK117.out (by decide))); have n3_ := Aside0.mk (hb); have n4_ := Aside0.mk (ho); clear HO_118001; clear BK116; clear BK117; clear HB; clear HO_118000; have HO_118001 := n0_; have BK116 := n1_; have BK117 := n2_; have HB := n3_; have HO123 := n4_; clear n0_ n1_ n2_ n3_ n4_; clear ho hb hg hat; obtain ⟨Ao14, co14, eo14⟩ := Kd.R_slice HO123.out; subst eo14; have hcz15_0 : w13.cell? ⟨gb117, 0, none⟩ = some (u118000) := (blk_cell BK117.out 0).trans rfl; have hcz15_1 : w13.cell? ⟨gb117, 1, none⟩ = some (u118001) := (blk_cell BK117.out 1).trans rfl; have hfz15_0 := blk_frozen BK117.out 0; have hfz15_1 := blk_frozen BK117.out 1) | ((with_reducible refine gate_builtin (b := .append) (xs := #[.tmp 27, .tmp 29]) rfl ?_); at_builtin; refine Kd.R_append (Kd.int .i64) (w0 := w) w.heap.size rfl (.tmp 27) (.tmp 29) 28 2 (.int .i64 0) 8 rfl Tryd.underlying28 info2 rfl (by decide) (by omega) u118001 x118001_1 x4_1 [.int .i64 x4_1] (fun k_ => some k_ ≠ (.slice Ao14 y121.length co14 : Value).ownBlock) (fun _ => False) rfl (by first | (go_simp; done) | (go_simp; rfl)) ?aP (fun _ hk => hk.elim) ?aF ?aO ?aB ?aS ?aL ?_; (case aP => exact rfl); (case aB => exact (by repeat (first | (with_reducible first | exact HB.out | apply below_alloc | apply pw_below_drewN | apply below_drew1 | refine below_set ?_ GE116.out | refine below_set ?_ GE117.out) | exact HB.out))); (case aF => exact (fun k_ hk => Kd.fresh' (Kd.R_lt (by (with_reducible repeat (first | apply Kd.R_alloc | apply Kd.R_drewN | apply Kd.R_drew)); exact (Kd.R_mono (Kd.R_far (p := ⟨gb117, 0, none⟩) (Kd.R_types HO123.out BK117.out (by decide)) (fun _ hk => hk.2) (.slice Ao14 y121.length co14)) (fun _ h_ => h_.1)))) k_ hk)); (case aO => exact (by (with_reducible repeat (first | apply Kd.R_alloc | apply Kd.R_drewN | apply Kd.R_drew)); exact Kd.R_mono (Kd.R_far (p := ⟨gb117, 0, none⟩) (Kd.R_types HO_118001.out BK117.out (by decide)) (fun _ hk => hk.2) (.slice Ao14 y121.length co14)) (fun _ hk => hk.1.2))); (case aS => exact (below_size (by repeat (first | (with_reducible first | exact HB.out | apply below_alloc | apply pw_below_drewN | apply below_drew1 | refine below_set ?_ GE116.out | refine below_set ?_ GE117.out) | exact HB.out)))); (case aL => have := LMc9.out; omega); intro v125 w16 ho hb hg hat; rw [← Ny124.out] at ho; have n0_ := Aside0.mk (blk_grown (g := gb116) (o := .cells #[.slice none 0 0, .slice none 0 0] 88 (0, 0)) (by (with_reducible repeat (first | refine blk_drewN ?_ _ | refine blk_drew ?_ | refine blk_alloc ?_ _)); refine blk_far ?_ NB116_117.out _; (with_reducible repeat (first | refine blk_drewN ?_ _ | refine blk_drew ?_ | refine blk_alloc ?_ _)); exact BK116.out) hg (Kd.R_ne HO_118001.out BK116.out (by decide))); have n1_ := Aside0.mk (blk_grown (g := gb117) (o := .cells #[.slice Ao14 y121.length co14, u118001] 88 (0, 0)) (by (with_reducible repeat (first | refine blk_drewN ?_ _ | refine blk_drew ?_ | refine blk_alloc ?_ _)); refine blk_put (cs := #[u118000, u118001]) ?_ 0 _ rfl; (with_reducible repeat (first | refine blk_drewN ?_ _ | refine blk_drew ?_ | refine blk_alloc ?_ _)); exact BK117.out) hg (Kd.R_ne HO_118001.out BK117.out (by decide))); have n2_ := Aside0.mk (Kd.R_after (ok := (fun _ => True)) (by (with_reducible repeat (first | apply Kd.R_alloc | apply Kd.R_drewN | apply Kd.R_drew)); exact Kd.R_mono (Kd.R_far (p := ⟨gb117, 0, none⟩) (Kd.R_types HO123.out BK117.out (by decide)) (fun _ hk => hk.2) (.slice Ao14 y121.length co14)) (fun _ hk => ⟨trivial, hk.1⟩)) hg hat); have n3_ := Aside0.mk (hb); have n4_ := Aside0.mk (ho); clear BK116; clear BK117; clear HO123; clear HB; clear HO_118001; have BK116 := n0_; have BK117 := n1_; have HO123 := n2_; have HB := n3_; have HO126 := n4_; clear n0_ n1_ n2_ n3_ n4_; clear ho hb hg hat; obtain ⟨Ao17, co17, eo17⟩ := Kd.R_slice HO126.out; subst eo17; have hcz18_0 : w16.cell? ⟨gb117, 0, none⟩ = some (.slice Ao14 y121.length co14) := (blk_cell BK117.out 0).trans rfl; have hcz18_1 : w16.cell? ⟨gb117, 1, none⟩ = some (u118001) := (blk_cell BK117.out 1).trans rfl; have hfz18_0 := blk_frozen BK117.out 0; have hfz18_1 := blk_frozen BK117.out 1))
      go_roundg k1
      case measure => have := HK1.out; omega
      case rel => exact ⟨(wrap64 (x4_1 + t119)), (y121), (y124), (.slice Ao14 y121.length co14), (.slice Ao17 y124.length co17), (by first | rfl | (simp; done) | (simp [*]; done)), H', ⟨by have := HK1.out; omega⟩, ⟨by (with_reducible repeat (first | apply Kd.R_alloc | apply Kd.R_drewN | apply Kd.R_drew)); exact Kd.R_mono (Kd.R_far (p := ⟨gb117, 1, none⟩) (Kd.R_types HO123.out BK117.out (by decide)) (fun _ hk => hk.2) (.slice Ao17 y124.length co17)) (fun _ hk => hk.1.2)⟩, ⟨by (with_reducible repeat (first | apply Kd.R_alloc | apply Kd.R_drewN | apply Kd.R_drew)); exact Kd.R_mono (Kd.R_far (p := ⟨gb117, 1, none⟩) (Kd.R_types HO126.out BK117.out (by decide)) (fun _ hk => hk.2) (.slice Ao17 y124.length co17)) (fun _ hk => hk.1)⟩, ⟨by (with_reducible repeat (first | refine blk_drewN ?_ _ | refine blk_drew ?_ | refine blk_alloc ?_ _)); refine blk_far ?_ NB116_117.out _; (with_reducible repeat (first | refine blk_drewN ?_ _ | refine blk_drew ?_ | refine blk_alloc ?_ _)); exact BK116.out⟩, ⟨by (with_reducible repeat (first | refine blk_drewN ?_ _ | refine blk_drew ?_ | refine blk_alloc ?_ _)); refine blk_put (cs := #[.slice Ao14 y121.length co14, u118001]) ?_ 1 _ rfl; (with_reducible repeat (first | refine blk_drewN ?_ _ | refine blk_drew ?_ | refine blk_alloc ?_ _)); exact BK117.out⟩, ⟨by repeat (first | (with_reducible first | exact HB.out | apply below_alloc | apply pw_below_drewN | apply below_drew1 | refine below_set ?_ GE116.out | refine below_set ?_ GE117.out) | exact HB.out)⟩⟩
     rw [if_neg c9] at H
     exact absurd H (by simp)
    rw [if_neg c8] at H
    exact absurd H (by simp)
   rw [if_neg c6] at H; have c6b0 : decide (x4_1 < (a0.size : Int)) = false := decide_eq_false c6; clear c6
   by_cases c19 : x118001_1.length < 17592186044416
   ·rw [if_pos c19] at H
    have LMc19 := Aside0.mk c19; clear c19; obtain ⟨y127, hy127⟩ : ∃ y_ : List Int, y_ = (x118001_1 ++ [(a0.size : Int)]) := ⟨_, rfl⟩
    replace H : (some (x118000_1, y127)) = some (r1, r2) := by first | (rw [hy127]; with_reducible exact H) | (have H2_ := (Option.bind_some _ _).symm.trans H; rw [hy127]; with_reducible exact H2_) | (have H2_ := (Option.bind_some _ _).symm.trans H; with_reducible exact H2_) | with_reducible exact H | (rw [hy127]; exact H) | exact H
    have Ny127 := Aside0.mk hy127; clear hy127; simp only [Option.some.injEq, Prod.mk.injEq] at H; obtain ⟨rfl, rfl⟩ := H; have hnb20 := NB117_116.out; have hnc20 := NB116_117.out; have hcz21_0 : wr.cell? ⟨gb117, 0, none⟩ = some (u118000) := (blk_cell BK117.out 0).trans rfl; have hcz21_1 : wr.cell? ⟨gb117, 1, none⟩ = some (u118001) := (blk_cell BK117.out 1).trans rfl; have hfz21_0 := blk_frozen BK117.out 0; have hfz21_1 := blk_frozen BK117.out 1
    go_wp2_with (first | ((with_reducible refine gate_builtin (b := .append) (xs := #[.tmp 36, .tmp 39]) rfl ?_); at_builtin; refine Kd.R_append (Kd.int .i64) (w0 := w) w.heap.size rfl (.tmp 36) (.tmp 39) 28 2 (.int .i64 0) 8 rfl Tryd.underlying28 info2 rfl (by decide) (by omega) u118001 x118001_1 (a0.size : Int) [.int .i64 (a0.size : Int)] (fun k_ => some k_ ≠ (u118000 : Value).ownBlock) (fun _ => False) rfl rfl ?aP (fun _ hk => hk.elim) ?aF ?aO ?aB ?aS ?aL ?_; (case aP => exact rfl); (case aB => exact (by repeat (first | (with_reducible first | exact HB.out | apply below_alloc | apply pw_below_drewN | apply below_drew1 | refine below_set ?_ GE116.out | refine below_set ?_ GE117.out) | exact HB.out))); (case aF => exact (fun k_ hk => Kd.fresh' (Kd.R_lt (by (with_reducible repeat (first | apply Kd.R_alloc | apply Kd.R_drewN | apply Kd.R_drew)); exact HO_118000.out)) k_ hk)); (case aO => exact (by (with_reducible repeat (first | apply Kd.R_alloc | apply Kd.R_drewN | apply Kd.R_drew)); exact HO_118001.out)); (case aS => exact (below_size (by repeat (first | (with_reducible first | exact HB.out | apply below_alloc | apply pw_below_drewN | apply below_drew1 | refine below_set ?_ GE116.out | refine below_set ?_ GE117.out) | exact HB.out)))); (case aL => have := LMc19.out; omega); intro v128 w22 ho hb hg hat; rw [← Ny127.out] at ho; have n0_ := Aside0.mk (Kd.R_after (ok := (fun _ => True)) (by (with_reducible repeat (first | apply Kd.R_alloc | apply Kd.R_drewN | apply Kd.R_drew)); exact Kd.R_mono HO_118000.out (fun _ hk => ⟨trivial, hk⟩)) hg hat); have n1_ := Aside0.mk (blk_grown (g := gb116) (o := .cells #[.slice none 0 0, .slice none 0 0] 88 (0, 0)) (by (with_reducible repeat (first | refine blk_drewN ?_ _ | refine blk_drew ?_ | refine blk_alloc ?_ _)); exact BK116.out) hg (Kd.R_ne HO_118001.out BK116.out (by decide))); have n2_ := Aside0.mk (blk_grown (g := gb117) (o := .cells #[u118000, u118001] 88 (0, 0)) (by (with_reducible repeat (first | refine blk_drewN ?_ _ | refine blk_drew ?_ | refine blk_alloc ?_ _)); exact BK117.out) hg (Kd.R_ne HO_118001.out BK117.out (by decide))); have n3_ := Aside0.mk (hb); have n4_ := Aside0.mk (ho); clear HO_118000; clear BK116; clear BK117; clear HB; clear HO_118001; have HO_118000 := n0_; have BK116 := n1_; have BK117 := n2_; have HB := n3_; have HO129 := n4_; clear n0_ n1_ n2_ n3_ n4_; clear ho hb hg hat; obtain ⟨Ao23, co23, eo23⟩ := Kd.R_slice HO129.out; subst eo23; have hcz24_0 : w22.cell? ⟨gb117, 0, none⟩ = some (u118000) := (blk_cell BK117.out 0).trans rfl; have hcz24_1 : w22.cell? ⟨gb117, 1, none⟩ = some (u118001) := (blk_cell BK117.out 1).trans rfl; have hfz24_0 := blk_frozen BK117.out 0; have hfz24_1 := blk_frozen BK117.out 1; obtain ⟨Ao25, co25, eo25⟩ := Kd.R_slice HO_118000.out; subst eo25; have hcz26_0 : w22.cell? ⟨gb116, 0, none⟩ = some (.slice none 0 0) := (blk_cell BK116.out 0).trans rfl; have hcz26_1 : w22.cell? ⟨gb116, 1, none⟩ = some (.slice none 0 0) := (blk_cell BK116.out 1).trans rfl; have hfz26_0 := blk_frozen BK116.out 0; have hfz26_1 := blk_frozen BK116.out 1))
    refine bodyPost_ret (results_cell_row rfl _ _ gb116 88 #[.slice Ao25 x118000_1.length co25, .slice Ao23 y127.length co23] (0, 0) _ rfl (by (with_reducible repeat (first | refine blk_drewN ?_ _ | refine blk_drew ?_ | refine blk_alloc ?_ _)); refine blk_put (cs := #[.slice Ao25 x118000_1.length co25, .slice none 0 0]) ?_ 1 _ rfl; (with_reducible repeat (first | refine blk_drewN ?_ _ | refine blk_drew ?_ | refine blk_alloc ?_ _)); refine blk_put (cs := #[.slice none 0 0, .slice none 0 0]) ?_ 0 _ rfl; (with_reducible repeat (first | refine blk_drewN ?_ _ | refine blk_drew ?_ | refine blk_alloc ?_ _)); refine blk_far ?_ NB116_117.out _; (with_reducible repeat (first | refine blk_drewN ?_ _ | refine blk_drew ?_ | refine blk_alloc ?_ _)); exact BK116.out) Tryd.underlying88 rfl (by kernel_rfl)) rfl ?_
    exact ⟨_, _, by first | rfl | (simp [errW_none, errW_some] <;> rfl) | (simp [*, errW_none, errW_some] <;> rfl), by (with_reducible repeat (first | apply Kd.R_alloc | apply Kd.R_drewN | apply Kd.R_drew)); exact Kd.R_mono (Kd.R_far (p := ⟨gb116, 1, none⟩) (Kd.R_far (p := ⟨gb116, 0, none⟩) (Kd.R_far (p := ⟨gb117, 1, none⟩) (Kd.R_types (Kd.R_types HO_118000.out BK117.out (by decide)) BK116.out (by decide)) (fun _ hk => hk.1.2) (.slice Ao23 y127.length co23)) (fun _ hk => hk.2) (.slice Ao25 x118000_1.length co25)) (fun _ hk => hk.2) (.slice Ao23 y127.length co23)) (fun _ hk => hk.1.1.2), by (with_reducible repeat (first | apply Kd.R_alloc | apply Kd.R_drewN | apply Kd.R_drew)); exact Kd.R_mono (Kd.R_far (p := ⟨gb116, 1, none⟩) (Kd.R_far (p := ⟨gb116, 0, none⟩) (Kd.R_far (p := ⟨gb117, 1, none⟩) (Kd.R_types (Kd.R_types HO129.out BK117.out (by decide)) BK116.out (by decide)) (fun _ hk => hk.1.2) (.slice Ao23 y127.length co23)) (fun _ hk => hk.2) (.slice Ao25 x118000_1.length co25)) (fun _ hk => hk.2) (.slice Ao23 y127.length co23)) (fun _ hk => hk.1.1), by repeat (first | (with_reducible first | exact HB.out | apply below_alloc | apply pw_below_drewN | apply below_drew1 | refine below_set ?_ GE116.out | refine below_set ?_ GE117.out) | exact HB.out)⟩
   rw [if_neg c19] at H
   exact absurd H (by simp)

def W_spec_l07RowOf.f (t : ByteArray) : Option (List Int × List Int) := if t.size ≤ 100000000 then some (YtiabgmddnddeiaaDoorPts.pts (bytesOf t), YtiabgmddnddeiaaDoorChr.fromsAt (bytesOf t) 0 ++ [(t.size : Int)]) else none
theorem spec_l07RowOf.run (s : ByteArray) (hs : s.size ≤ 100000000) (d : Nat) : ∀ (k i : Nat) (P A : List Int), i ≤ s.size → s.size - i ≤ d → d < k → P.length + (s.size - i) ≤ 1099511627776 → A.length + (s.size - i) ≤ 1099511627776 →
    spec_l07RowOf.l0 k s (i : Int) P A = some (P ++ YtiabgmddnddeiaaDoorPts.pts ((bytesOf s).drop i), A ++ YtiabgmddnddeiaaDoorChr.fromsAt ((bytesOf s).drop i) (i : Int) ++ [(s.size : Int)]) := by
  induction d with
  | zero =>
    intro k i P A h1 h2 h3 h4 h5
    obtain ⟨k, rfl⟩ : ∃ m, k = m + 1 := ⟨k - 1, by omega⟩
    simp only [spec_l07RowOf.l0]
    rw [if_neg (by omega), if_pos (by omega), List.drop_eq_nil_of_le (by rw [bytesOf_length]; omega)]
    have e : YtiabgmddnddeiaaDoorChr.fromsAt [] (i : Int) = [] := rfl
    rw [e, YtiabgmddnddeiaaDoorPts.pts_nil, List.append_nil, List.append_nil]
  | succ d ih =>
    intro k i P A h1 h2 h3 h4 h5
    obtain ⟨k, rfl⟩ : ∃ m, k = m + 1 := ⟨k - 1, by omega⟩
    simp only [spec_l07RowOf.l0]
    by_cases hlt : i < s.size
    · rw [if_pos (by omega)]
      unfold W_spec_l01Next.f
      rw [if_pos ⟨by omega, by omega, by omega⟩]
      simp only [Option.bind_some]
      have hne : (bytesOf s).drop i ≠ [] := by intro h; have := congrArg List.length h; rw [List.length_drop, bytesOf_length] at this; simp at this; omega
      have hb := YtiabgmddnddeiaaDoorPts.dec_bound hne
      rw [List.length_drop, bytesOf_length] at hb
      have hd : spec_l01Next.d s (i : Int) = YtiabgmddnddeiaaDoorPts.dec ((bytesOf s).drop i) := rfl
      rw [hd, if_pos (by omega), if_pos (by omega), spec_l01Next.w (i : Int) _ (by omega) (by omega) (by omega)]
      have hi : (i : Int) + ((YtiabgmddnddeiaaDoorPts.dec ((bytesOf s).drop i)).2 : Int) = ((i + (YtiabgmddnddeiaaDoorPts.dec ((bytesOf s).drop i)).2 : Nat) : Int) := by omega
      rw [hi, ih k (i + (YtiabgmddnddeiaaDoorPts.dec ((bytesOf s).drop i)).2) _ _ (by omega) (by omega) (by omega) (by rw [List.length_append]; simp only [List.length_cons, List.length_nil]; omega) (by rw [List.length_append]; simp only [List.length_cons, List.length_nil]; omega)]
      rw [YtiabgmddnddeiaaDoorPts.pts_cons hne, YtiabgmddnddeiaaDoorChr.fromsAt_cons hne, List.drop_drop, hi]
      simp
    · rw [if_neg (by omega), if_pos (by omega), List.drop_eq_nil_of_le (by rw [bytesOf_length]; omega)]
      have e : YtiabgmddnddeiaaDoorChr.fromsAt [] (i : Int) = [] := rfl
      rw [e, YtiabgmddnddeiaaDoorPts.pts_nil, List.append_nil, List.append_nil]
theorem W_spec_l07RowOf.to {t : ByteArray} {r : List Int × List Int} (h : W_spec_l07RowOf.f t = some r) : ∃ k, spec_l07RowOf.f k t = some r := by
  unfold W_spec_l07RowOf.f at h
  split at h
  · rename_i hs
    refine ⟨t.size + 1, ?_⟩
    rw [← h]
    have := spec_l07RowOf.run t hs t.size (t.size + 1) 0 [] [] (by omega) (by omega) (by omega) (by simp; omega) (by simp; omega)
    unfold spec_l07RowOf.f
    simpa using this
  · cases h
theorem W_spec_l07RowOf.calls (a0 : ByteArray) (r1 : List Int) (r2 : List Int) (w : World) (h : W_spec_l07RowOf.f a0 = some (r1, r2)) :
    Calls Tryd.prog 109 #[.string a0] w fun e w' => ∃ v0_ v1_ : Value, e = .returned (.agg #[v0_, v1_]) ∧ Kd.R (Kd.int .i64) 2 w' w.heap.size (fun k_ => some k_ ≠ (v1_ : Value).ownBlock) v0_ r1 ∧ Kd.R (Kd.int .i64) 2 w' w.heap.size (fun k_ => some k_ ≠ (v0_ : Value).ownBlock) v1_ r2 ∧ Below w.heap.size w w' := by
  obtain ⟨k, hk⟩ := W_spec_l07RowOf.to h
  exact spec_l07RowOf.calls k a0 r1 r2 w hk

end Go.Proofs.YtiabgmddnddeiaaDoor.QFnExactSentenceCuts
