/- The law FnExactShowPasses: at every input the call answers true (this text: contracts on its way, by a program of this session's; no condition of ours). -/
import Derived.Test.YtiabgmddnddeiaaDoorQFnExactShowPassesx0
import Derived.Test.YtiabgmddnddeiaaDoorQFnExactShowPassesx1
namespace Go.Proofs.YtiabgmddnddeiaaDoor.QFnExactShowPasses
open Go.RowKit Go.Proofs.YtiabgmddnddeiaaDoorW.PrintWords Go.Proofs.YtiabgmddnddeiaaDoorW.PrintLast Go.Proofs.YtiabgmddnddeiaaDoorW.PrintMore
attribute [local go_sem] max2_int min2_int max_two min_two max_three min_three max_four min_four   -- for this text's walks alone
set_option linter.unusedVariables false
set_option linter.unusedSimpArgs false

/-! ### spec_l01Next: function 144 -/
mutual
def spec_l01Next.j2 : Nat → ByteArray → Int → Int → Int → Option (Int × Int × Bool)
 | 0, _, _, _, _ => none
 | k + 1, x0, x1, x8, x9 => if (wrap64 (x1 + x8)) ≥ (x0.size : Int) then (some (65533, 1,false)) else (spec_l01Next.l0 k x0 x1 x8 x9 1)
def spec_l01Next.l0 : Nat → ByteArray → Int → Int → Int → Int → Option (Int × Int × Bool)
 | 0, _, _, _, _, _ => none
 | k + 1, x0, x1, x8, x9, x10 => if x10 ≤ x8 then (if 0 ≤ (wrap64 (x1 + x10)) then (if (wrap64 (x1 + x10)) < (x0.size : Int) then (if (wrap64 (bt x0 (wrap64 (x1 + x10)))) < 128 then (some (65533, 1,false)) else (if (wrap64 (bt x0 (wrap64 (x1 + x10)))) > 191 then (some (65533, 1,false)) else (spec_l01Next.l0 k x0 x1 x8 (wrap64 ((wrap64 (x9 * 64)) + (Int.tmod (wrap64 (bt x0 (wrap64 (x1 + x10)))) 64))) (wrap64 (x10 + 1))))) else (none)) else (none)) else ((spec_l01IsPoint.f x9).bind fun t121 => (if t121 = true then ((W_spec_l01Write.f x9).bind fun t122 => (if (t122.size : Int) = (wrap64 (x8 + 1)) then (some (x9, wrap64 (x8 + 1),true)) else (some (65533, 1,false)))) else (some (65533, 1,false))))
def spec_l01Next.j0 : Nat → ByteArray → Int → Int → Bool → Option (Int × Int × Bool)
 | 0, _, _, _, _ => none
 | k + 1, x0, x1, x7, x21 => if x21 = true then (spec_l01Next.j2 k x0 x1 1 (Int.tmod x7 32)) else (if x7 ≥ 224 then (spec_l01Next.j1 k x0 x1 x7 (decide (x7 < 240))) else (spec_l01Next.j1 k x0 x1 x7 false))
def spec_l01Next.j1 : Nat → ByteArray → Int → Int → Bool → Option (Int × Int × Bool)
 | 0, _, _, _, _ => none
 | k + 1, x0, x1, x7, x30 => if x30 = true then (spec_l01Next.j2 k x0 x1 2 (Int.tmod x7 16)) else (if x7 ≥ 240 then (if x7 < 245 then (spec_l01Next.j2 k x0 x1 3 (Int.tmod x7 8)) else (some (65533, 1,false))) else (some (65533, 1,false)))
end
def spec_l01Next.f (k : Nat) (a0 : ByteArray) (a1 : Int) : Option (Int × Int × Bool) := if 0 ≤ a1 then (if a1 < (a0.size : Int) then (if (wrap64 (bt a0 a1)) < 128 then (some (wrap64 (bt a0 a1), 1,true)) else (if (wrap64 (bt a0 a1)) ≥ 194 then (spec_l01Next.j0 k a0 a1 (wrap64 (bt a0 a1)) (decide ((wrap64 (bt a0 a1)) < 224))) else (spec_l01Next.j0 k a0 a1 (wrap64 (bt a0 a1)) false))) else (none)) else (none)
theorem spec_l01Next.mono_l : ∀ k, (∀ y0 y1 y2 y3, LeO (spec_l01Next.j2 k y0 y1 y2 y3) (spec_l01Next.j2 (k + 1) y0 y1 y2 y3)) ∧ (∀ y0 y1 y2 y3 y4, LeO (spec_l01Next.l0 k y0 y1 y2 y3 y4) (spec_l01Next.l0 (k + 1) y0 y1 y2 y3 y4)) ∧ (∀ y0 y1 y2 y3, LeO (spec_l01Next.j0 k y0 y1 y2 y3) (spec_l01Next.j0 (k + 1) y0 y1 y2 y3)) ∧ (∀ y0 y1 y2 y3, LeO (spec_l01Next.j1 k y0 y1 y2 y3) (spec_l01Next.j1 (k + 1) y0 y1 y2 y3))
 | 0 => ⟨fun _ _ _ _ r h => by simp [spec_l01Next.j2] at h, fun _ _ _ _ _ r h => by simp [spec_l01Next.l0] at h, fun _ _ _ _ r h => by simp [spec_l01Next.j0] at h, fun _ _ _ _ r h => by simp [spec_l01Next.j1] at h⟩
 | k + 1 => by
  obtain ⟨ih0, ih1, ih2, ih3⟩ := spec_l01Next.mono_l k; refine ⟨?_, ?_, ?_, ?_⟩
  ·intro y0 y1 y2 y3
   unfold spec_l01Next.j2
   repeat' first
   | (with_reducible exact ih0 _ _ _ _)
   | (with_reducible exact ih1 _ _ _ _ _)
   | (with_reducible exact ih2 _ _ _ _)
   | (with_reducible exact ih3 _ _ _ _)
   | (with_reducible exact LeO.refl _)
   | (with_reducible exact LeO.none _)
   | (with_reducible refine LeO.ite ?_ ?_)
   | (with_reducible refine LeO.bind ?_ (fun _ => ?_))
   | exact ih0 _ _ _ _
   | exact ih1 _ _ _ _ _
   | exact ih2 _ _ _ _
   | exact ih3 _ _ _ _
   | exact LeO.none _
   | refine LeO.ite ?_ ?_
   | refine LeO.bind ?_ (fun _ => ?_)
  ·intro y0 y1 y2 y3 y4
   unfold spec_l01Next.l0
   repeat' first
   | (with_reducible exact ih0 _ _ _ _)
   | (with_reducible exact ih1 _ _ _ _ _)
   | (with_reducible exact ih2 _ _ _ _)
   | (with_reducible exact ih3 _ _ _ _)
   | (with_reducible exact LeO.refl _)
   | (with_reducible exact LeO.none _)
   | (with_reducible refine LeO.ite ?_ ?_)
   | (with_reducible refine LeO.bind ?_ (fun _ => ?_))
   | exact ih0 _ _ _ _
   | exact ih1 _ _ _ _ _
   | exact ih2 _ _ _ _
   | exact ih3 _ _ _ _
   | exact LeO.none _
   | refine LeO.ite ?_ ?_
   | refine LeO.bind ?_ (fun _ => ?_)
  ·intro y0 y1 y2 y3
   unfold spec_l01Next.j0
   repeat' first
   | (with_reducible exact ih0 _ _ _ _)
   | (with_reducible exact ih1 _ _ _ _ _)
   | (with_reducible exact ih2 _ _ _ _)
   | (with_reducible exact ih3 _ _ _ _)
   | (with_reducible exact LeO.refl _)
   | (with_reducible exact LeO.none _)
   | (with_reducible refine LeO.ite ?_ ?_)
   | (with_reducible refine LeO.bind ?_ (fun _ => ?_))
   | exact ih0 _ _ _ _
   | exact ih1 _ _ _ _ _
   | exact ih2 _ _ _ _
   | exact ih3 _ _ _ _
   | exact LeO.none _
   | refine LeO.ite ?_ ?_
   | refine LeO.bind ?_ (fun _ => ?_)
  intro y0 y1 y2 y3
  unfold spec_l01Next.j1
  repeat' first
  | (with_reducible exact ih0 _ _ _ _)
  | (with_reducible exact ih1 _ _ _ _ _)
  | (with_reducible exact ih2 _ _ _ _)
  | (with_reducible exact ih3 _ _ _ _)
  | (with_reducible exact LeO.refl _)
  | (with_reducible exact LeO.none _)
  | (with_reducible refine LeO.ite ?_ ?_)
  | (with_reducible refine LeO.bind ?_ (fun _ => ?_))
  | exact ih0 _ _ _ _
  | exact ih1 _ _ _ _ _
  | exact ih2 _ _ _ _
  | exact ih3 _ _ _ _
  | exact LeO.none _
  | refine LeO.ite ?_ ?_
  | refine LeO.bind ?_ (fun _ => ?_)
theorem spec_l01Next.mono : ∀ a0 a1 k, LeO (spec_l01Next.f k a0 a1) (spec_l01Next.f (k + 1) a0 a1) := by
 intro a0 a1 k
 obtain ⟨ih0, ih1, ih2, ih3⟩ := spec_l01Next.mono_l k
 unfold spec_l01Next.f
 repeat' first
   | (with_reducible exact ih0 _ _ _ _)
   | (with_reducible exact ih1 _ _ _ _ _)
   | (with_reducible exact ih2 _ _ _ _)
   | (with_reducible exact ih3 _ _ _ _)
   | (with_reducible exact LeO.refl _)
   | (with_reducible exact LeO.none _)
   | (with_reducible refine LeO.ite ?_ ?_)
   | (with_reducible refine LeO.bind ?_ (fun _ => ?_))
   | exact ih0 _ _ _ _
   | exact ih1 _ _ _ _ _
   | exact ih2 _ _ _ _
   | exact ih3 _ _ _ _
   | exact LeO.none _
   | refine LeO.ite ?_ ?_
   | refine LeO.bind ?_ (fun _ => ?_)
set_option maxHeartbeats 8000000 in
set_option maxRecDepth 100000 in
theorem spec_l01Next.calls (k : Nat) (a0 : ByteArray) (a1 : Int) (r1 : Int) (r2 : Int) (r3 : Bool) (w : World) (h : spec_l01Next.f k a0 a1 = some (r1, r2, r3)) :
  Calls Tryd.prog 144 #[.string a0, .int .i64 a1] w fun e w' => e = .returned (.tuple #[.int .i64 r1, .int .i64 r2, .bool r3]) ∧ Below w.heap.size w w' := by
 have HB := Aside0.mk (Below.refl w.heap.size w)
 have H : (if 0 ≤ a1 then (if a1 < (a0.size : Int) then (if (wrap64 (bt a0 a1)) < 128 then (some (wrap64 (bt a0 a1), 1,true)) else (if (wrap64 (bt a0 a1)) ≥ 194 then (spec_l01Next.j0 k a0 a1 (wrap64 (bt a0 a1)) (decide ((wrap64 (bt a0 a1)) < 224))) else (spec_l01Next.j0 k a0 a1 (wrap64 (bt a0 a1)) false))) else (none)) else (none)) = some (r1, r2, r3) := h
 clear h
 by_cases c3 : 0 ≤ a1
 ·rw [if_pos c3] at H
  have c3b0 : decide (0 ≤ a1) = true := decide_eq_true c3; clear c3
  by_cases c4 : a1 < (a0.size : Int)
  ·rw [if_pos c4] at H
   have c4b0 : decide (a1 < (a0.size : Int)) = true := decide_eq_true c4; clear c4; have HC6 := Aside0.mk H; clear H
   have p5 : 0 ≤ (a1 : Int) := of_decide_eq_true (by first | (with_reducible assumption) | assumption)
   have q5 : a1 < (a0.size : Int) := of_decide_eq_true (by first | (with_reducible assumption) | assumption)
   have hx5 := bt_at a0 a1; replace p5 := eq_true p5; replace q5 := eq_true q5
   go_enter Tryd.func144, Tryd.ntmps144
   go_upto_block 0 with (fail)
   go_cut [8, 9] (fun v8 v9 wc => ∃ (kq : Nat) (x8_5 : Int) (x9_5 : Int), v8 = .int .i64 x8_5 ∧ v9 = .int .i64 x9_5 ∧ Aside0 (spec_l01Next.j2 kq a0 a1 x8_5 x9_5 = some (r1, r2, r3)) ∧ Aside0 (kq ≤ k) ∧ Aside0 (Below w.heap.size w wc))
   case first =>
    have H := HC6.out; clear HC6
    by_cases c7 : (wrap64 (bt a0 a1)) < 128
    ·rw [if_pos c7] at H
     have c7b0 : decide ((wrap64 (bt a0 a1)) < 128) = true := decide_eq_true c7; clear c7
     (first | rw [c7b0] | (simp only [i64_w, i32_w]; rw [c7b0]) | skip)
     simp only [Option.some.injEq, Prod.mk.injEq] at H; obtain ⟨rfl, rfl, rfl⟩ := H
     go_wp2
     go_ret3
     exact ⟨by first | rfl | (simp [errW_none, errW_some] <;> rfl) | (simp [*, errW_none, errW_some] <;> rfl), belowA⟩
    rw [if_neg c7] at H; have c7b0 : decide ((wrap64 (bt a0 a1)) < 128) = false := decide_eq_false c7; clear c7
    (first | rw [c7b0] | (simp only [i64_w, i32_w]; rw [c7b0]) | skip)
    have HC8 := Aside0.mk H; clear H
    go_upto_region 7 with (fail)
    go_cut [21] (fun v21 wc => ∃ (kq : Nat) (x21_7 : Bool), v21 = .bool x21_7 ∧ Aside0 (spec_l01Next.j0 kq a0 a1 (wrap64 (bt a0 a1)) x21_7 = some (r1, r2, r3)) ∧ Aside0 (kq ≤ k) ∧ Aside0 (Below w.heap.size w wc))
    case first =>
     have H := HC8.out; clear HC8
     by_cases c9 : (wrap64 (bt a0 a1)) ≥ 194
     ·rw [if_pos c9] at H
      have c9b0 : decide (194 ≤ (wrap64 (bt a0 a1))) = true := decide_eq_true c9; clear c9
      (first | rw [c9b0] | (simp only [i64_w, i32_w]; rw [c9b0]) | skip)
      have H' := Aside0.mk H; clear H
      go_wp2
      go_meet
      case rel => exact ⟨_, (decide ((wrap64 (bt a0 a1)) < 224)), (by first | rfl | (simp; done) | (simp [*]; done)), H', ⟨by first | omega | exact Nat.le_refl _⟩, ⟨belowA⟩⟩
     rw [if_neg c9] at H; have c9b0 : decide (194 ≤ (wrap64 (bt a0 a1))) = false := decide_eq_false c9; clear c9
     (first | rw [c9b0] | (simp only [i64_w, i32_w]; rw [c9b0]) | skip)
     have H' := Aside0.mk H; clear H
     go_wp2
     go_meet
     case rel => exact ⟨_, (false), (by first | rfl | (simp; done) | (simp [*]; done)), H', ⟨by first | omega | exact Nat.le_refl _⟩, ⟨belowA⟩⟩
    case rest =>
     clear HC8
     try clear c1; try clear p2; try clear c3; try clear c3b0; try clear c4; try clear c4b0; try clear p5; try clear q5; try clear hx5; try clear p6; try clear c7; try clear c7b0; try clear c9; try clear c9b0; try clear p5; try clear q5
     obtain ⟨kq, x21_7, rfl, HA, HJ7, HB⟩ := hcut
     cases kq with
     | zero => exact absurd HA.out (by simp [spec_l01Next.j0])
     | succ kj7 =>
      have H := HA.out; clear HA; simp only [spec_l01Next.j0] at H
      by_cases c10 : x21_7 = true
      ·subst c10
       have H1 : (spec_l01Next.j2 kj7 a0 a1 1 (Int.tmod (wrap64 (bt a0 a1)) 32)) = some (r1, r2, r3) := by rw [if_pos rfl] at H; exact H
       clear H; have H := H1; clear H1; have H' := Aside0.mk H; clear H
       go_wp2
       go_meet
       case rel => exact ⟨_, (1), (Int.tmod (wrap64 (bt a0 a1)) 32), (by first | rfl | (simp; done) | (simp [*]; done)), (by first | rfl | (simp; done) | (simp [*]; done)), H', ⟨by have := HJ7.out; first | omega | exact Nat.le_refl _⟩, ⟨belowA⟩⟩
      replace c10 := Bool.eq_false_iff.mpr c10; subst c10
      have H1 : (if (wrap64 (bt a0 a1)) ≥ 224 then (spec_l01Next.j1 kj7 a0 a1 (wrap64 (bt a0 a1)) (decide ((wrap64 (bt a0 a1)) < 240))) else (spec_l01Next.j1 kj7 a0 a1 (wrap64 (bt a0 a1)) false)) = some (r1, r2, r3) := by rw [if_neg (show ¬ (false = true) by decide)] at H; exact H
      clear H; have H := H1; clear H1; have HC11 := Aside0.mk H; clear H
      go_upto_region 10 with (fail)
      go_cut [30] (fun v30 wc => ∃ (kq : Nat) (x30_10 : Bool), v30 = .bool x30_10 ∧ Aside0 (spec_l01Next.j1 kq a0 a1 (wrap64 (bt a0 a1)) x30_10 = some (r1, r2, r3)) ∧ Aside0 (kq ≤ kj7) ∧ Aside0 (Below w.heap.size w wc))
      case first =>
       have H := HC11.out; clear HC11
       by_cases c12 : (wrap64 (bt a0 a1)) ≥ 224
       ·rw [if_pos c12] at H
        have c12b0 : decide (224 ≤ (wrap64 (bt a0 a1))) = true := decide_eq_true c12; clear c12
        (first | rw [c12b0] | (simp only [i64_w, i32_w]; rw [c12b0]) | skip)
        have H' := Aside0.mk H; clear H
        go_wp2
        go_meet
        case rel => exact ⟨_, (decide ((wrap64 (bt a0 a1)) < 240)), (by first | rfl | (simp; done) | (simp [*]; done)), H', ⟨by have := HJ7.out; first | omega | exact Nat.le_refl _⟩, ⟨belowA⟩⟩
       rw [if_neg c12] at H; have c12b0 : decide (224 ≤ (wrap64 (bt a0 a1))) = false := decide_eq_false c12; clear c12
       (first | rw [c12b0] | (simp only [i64_w, i32_w]; rw [c12b0]) | skip)
       have H' := Aside0.mk H; clear H
       go_wp2
       go_meet
       case rel => exact ⟨_, (false), (by first | rfl | (simp; done) | (simp [*]; done)), H', ⟨by have := HJ7.out; first | omega | exact Nat.le_refl _⟩, ⟨belowA⟩⟩
      case rest =>
       clear HC11
       try clear c1; try clear p2; try clear c3; try clear c3b0; try clear c4; try clear c4b0; try clear p5; try clear q5; try clear hx5; try clear p6; try clear c7; try clear c7b0; try clear c9; try clear c9b0; try clear c10; try clear c12; try clear c12b0; try clear p2; try clear p5; try clear p6; try clear q5
       obtain ⟨kq, x30_10, rfl, HA, HJ10, HB⟩ := hcut
       cases kq with
       | zero => exact absurd HA.out (by simp [spec_l01Next.j1])
       | succ kj10 =>
        have H := HA.out; clear HA; simp only [spec_l01Next.j1] at H
        by_cases c13 : x30_10 = true
        ·subst c13
         have H1 : (spec_l01Next.j2 kj10 a0 a1 2 (Int.tmod (wrap64 (bt a0 a1)) 16)) = some (r1, r2, r3) := by rw [if_pos rfl] at H; exact H
         clear H; have H := H1; clear H1; have H' := Aside0.mk H; clear H
         go_wp2
         go_meet
         case rel => exact ⟨_, (2), (Int.tmod (wrap64 (bt a0 a1)) 16), (by first | rfl | (simp; done) | (simp [*]; done)), (by first | rfl | (simp; done) | (simp [*]; done)), H', ⟨by have := HJ7.out; have := HJ10.out; first | omega | exact Nat.le_refl _⟩, ⟨belowA⟩⟩
        replace c13 := Bool.eq_false_iff.mpr c13; subst c13
        have H1 : (if (wrap64 (bt a0 a1)) ≥ 240 then (if (wrap64 (bt a0 a1)) < 245 then (spec_l01Next.j2 kj10 a0 a1 3 (Int.tmod (wrap64 (bt a0 a1)) 8)) else (some (65533, 1,false))) else (some (65533, 1,false))) = some (r1, r2, r3) := by rw [if_neg (show ¬ (false = true) by decide)] at H; exact H
        clear H; have H := H1; clear H1
        by_cases c14 : (wrap64 (bt a0 a1)) ≥ 240
        ·rw [if_pos c14] at H
         have c14b0 : decide (240 ≤ (wrap64 (bt a0 a1))) = true := decide_eq_true c14; clear c14
         by_cases c15 : (wrap64 (bt a0 a1)) < 245
         ·rw [if_pos c15] at H
          have c15b0 : decide ((wrap64 (bt a0 a1)) < 245) = true := decide_eq_true c15; clear c15; have H' := Aside0.mk H; clear H
          go_wp2
          go_meet
          case rel => exact ⟨_, (3), (Int.tmod (wrap64 (bt a0 a1)) 8), (by first | rfl | (simp; done) | (simp [*]; done)), (by first | rfl | (simp; done) | (simp [*]; done)), H', ⟨by have := HJ7.out; have := HJ10.out; first | omega | exact Nat.le_refl _⟩, ⟨belowA⟩⟩
         rw [if_neg c15] at H; have c15b0 : decide ((wrap64 (bt a0 a1)) < 245) = false := decide_eq_false c15; clear c15; simp only [Option.some.injEq, Prod.mk.injEq] at H; obtain ⟨rfl, rfl, rfl⟩ := H
         go_wp2
         go_ret3
         exact ⟨by first | rfl | (simp [errW_none, errW_some] <;> rfl) | (simp [*, errW_none, errW_some] <;> rfl), belowA⟩
        rw [if_neg c14] at H; have c14b0 : decide (240 ≤ (wrap64 (bt a0 a1))) = false := decide_eq_false c14; clear c14; simp only [Option.some.injEq, Prod.mk.injEq] at H; obtain ⟨rfl, rfl, rfl⟩ := H
        go_wp2
        go_ret3
        exact ⟨by first | rfl | (simp [errW_none, errW_some] <;> rfl) | (simp [*, errW_none, errW_some] <;> rfl), belowA⟩
   case rest =>
    clear HC6
    try clear c1; try clear p2; try clear c3; try clear c3b0; try clear c4; try clear c4b0; try clear p5; try clear q5; try clear hx5; try clear p6; try clear c7; try clear c7b0; try clear c9; try clear c9b0; try clear c10; try clear c12; try clear c12b0; try clear c13; try clear c14; try clear c14b0; try clear c15; try clear c15b0; try clear p2; try clear p5; try clear p6; try clear q5
    obtain ⟨kq, x8_5, x9_5, rfl, rfl, HA, HJ5, HB⟩ := hcut
    cases kq with
    | zero => exact absurd HA.out (by simp [spec_l01Next.j2])
    | succ kj5 =>
     have H := HA.out; clear HA; simp only [spec_l01Next.j2] at H
     by_cases c16 : (wrap64 (a1 + x8_5)) ≥ (a0.size : Int)
     ·rw [if_pos c16] at H
      have c16b0 : decide ((a0.size : Int) ≤ (wrap64 (a1 + x8_5))) = true := decide_eq_true c16; clear c16; simp only [Option.some.injEq, Prod.mk.injEq] at H; obtain ⟨rfl, rfl, rfl⟩ := H
      go_wp2
      go_ret3
      exact ⟨by first | rfl | (simp [errW_none, errW_some] <;> rfl) | (simp [*, errW_none, errW_some] <;> rfl), belowA⟩
     rw [if_neg c16] at H; have c16b0 : decide ((a0.size : Int) ≤ (wrap64 (a1 + x8_5))) = false := decide_eq_false c16; clear c16; have H' := Aside0.mk H; clear H
     go_wp2
     go_loopg [9, 10] kj5 (fun kq v9 v10 w' => ∃ (x9_2 : Int) (x10_2 : Int), v9 = .int .i64 x9_2 ∧ v10 = .int .i64 x10_2 ∧ Aside0 (spec_l01Next.l0 kq a0 a1 x8_5 x9_2 x10_2 = some (r1, r2, r3)) ∧ Aside0 (kq ≤ kj5) ∧ Aside0 (Below w.heap.size w w'))
     case atStart => exact ⟨(x9_5), (1), (by first | rfl | (simp; done) | (simp [*]; done)), (by first | rfl | (simp; done) | (simp [*]; done)), H', ⟨Nat.le_refl _⟩, ⟨belowA⟩⟩
     case round =>
      clear H'
      try clear c1; try clear p2; try clear c3; try clear c3b0; try clear c4; try clear c4b0; try clear p5; try clear q5; try clear hx5; try clear p6; try clear c7; try clear c7b0; try clear c9; try clear c9b0; try clear c10; try clear c12; try clear c12b0; try clear c13; try clear c14; try clear c14b0; try clear c15; try clear c15b0; try clear c16; try clear c16b0; try clear p2; try clear p5; try clear p6; try clear q5
      obtain ⟨x9_2, x10_2, rfl, rfl, HA, HK2, HB⟩ := hrel
      cases gk with
      | zero => exact absurd HA.out (by simp [spec_l01Next.l0])
      | succ k2 =>
       have H := HA.out; clear HA; simp only [spec_l01Next.l0] at H
       by_cases c17 : x10_2 ≤ x8_5
       ·rw [if_pos c17] at H
        have c17b0 : decide (x10_2 ≤ x8_5) = true := decide_eq_true c17; clear c17; obtain ⟨ji18, hji18⟩ : ∃ j_ : Int, (wrap64 (a1 + x10_2)) = j_ := ⟨_, rfl⟩
        replace H : (if 0 ≤ (ji18) then (if (ji18) < (a0.size : Int) then (if (wrap64 (bt a0 (ji18))) < 128 then (some (65533, 1,false)) else (if (wrap64 (bt a0 (ji18))) > 191 then (some (65533, 1,false)) else (spec_l01Next.l0 k2 a0 a1 x8_5 (wrap64 ((wrap64 (x9_2 * 64)) + (Int.tmod (wrap64 (bt a0 (ji18))) 64))) (wrap64 (x10_2 + 1))))) else (none)) else (none)) = some (r1, r2, r3) := by first | (rw [hji18] at H; exact H) | (simp only [hji18] at H ⊢; exact H)
        have hji18w : (IntKind.i64.wrap (a1 + x10_2)) = ji18 := (i64_w _).trans hji18
        by_cases c19 : 0 ≤ (ji18)
        ·rw [if_pos c19] at H
         have c19b0 : decide (0 ≤ (ji18)) = true := decide_eq_true c19; clear c19
         by_cases c20 : (ji18) < (a0.size : Int)
         ·rw [if_pos c20] at H
          have c20b0 : decide ((ji18) < (a0.size : Int)) = true := decide_eq_true c20; clear c20
          by_cases c22 : (wrap64 (bt a0 (ji18))) < 128
          ·rw [if_pos c22] at H
           have c22b0 : decide ((wrap64 (bt a0 (ji18))) < 128) = true := decide_eq_true c22; clear c22; simp only [Option.some.injEq, Prod.mk.injEq] at H; obtain ⟨rfl, rfl, rfl⟩ := H
           have p21 : 0 ≤ ((ji18) : Int) := of_decide_eq_true (by first | (with_reducible assumption) | assumption)
           have q21 : (ji18) < (a0.size : Int) := of_decide_eq_true (by first | (with_reducible assumption) | assumption)
           have hx21 := bt_at a0 (ji18); replace p21 := eq_true p21; replace q21 := eq_true q21
           go_wp2
           go_ret3
           exact ⟨by first | rfl | (simp [errW_none, errW_some] <;> rfl) | (simp only [← hji18]; first | rfl | (simp [errW_none, errW_some] <;> rfl)) | (simp [*, errW_none, errW_some] <;> rfl), belowA⟩
          rw [if_neg c22] at H; have c22b0 : decide ((wrap64 (bt a0 (ji18))) < 128) = false := decide_eq_false c22; clear c22
          by_cases c23 : (wrap64 (bt a0 (ji18))) > 191
          ·rw [if_pos c23] at H
           have c23b0 : decide (191 < (wrap64 (bt a0 (ji18)))) = true := decide_eq_true c23; clear c23; simp only [Option.some.injEq, Prod.mk.injEq] at H; obtain ⟨rfl, rfl, rfl⟩ := H
           have p21 : 0 ≤ ((ji18) : Int) := of_decide_eq_true (by first | (with_reducible assumption) | assumption)
           have q21 : (ji18) < (a0.size : Int) := of_decide_eq_true (by first | (with_reducible assumption) | assumption)
           have hx21 := bt_at a0 (ji18); replace p21 := eq_true p21; replace q21 := eq_true q21
           go_wp2
           go_ret3
           exact ⟨by first | rfl | (simp [errW_none, errW_some] <;> rfl) | (simp only [← hji18]; first | rfl | (simp [errW_none, errW_some] <;> rfl)) | (simp [*, errW_none, errW_some] <;> rfl), belowA⟩
          rw [if_neg c23] at H; have c23b0 : decide (191 < (wrap64 (bt a0 (ji18)))) = false := decide_eq_false c23; clear c23; have H' := Aside0.mk H; clear H
          have p21 : 0 ≤ ((ji18) : Int) := of_decide_eq_true (by first | (with_reducible assumption) | assumption)
          have q21 : (ji18) < (a0.size : Int) := of_decide_eq_true (by first | (with_reducible assumption) | assumption)
          have hx21 := bt_at a0 (ji18); replace p21 := eq_true p21; replace q21 := eq_true q21
          go_wp2
          go_roundg k2
          case measure => have := HJ5.out; have := HK2.out; omega
          case rel => exact ⟨(wrap64 ((wrap64 (x9_2 * 64)) + (Int.tmod (wrap64 (bt a0 (ji18))) 64))), (wrap64 (x10_2 + 1)), (by first | rfl | (simp; done) | (simp only [← hji18] <;> (first | rfl | simp)) | (simp [*]; done)), (by first | rfl | (simp; done) | (simp [*]; done)), H', ⟨by have := HJ5.out; have := HK2.out; omega⟩, ⟨belowA⟩⟩
         rw [if_neg c20] at H
         exact absurd H (by simp)
        rw [if_neg c19] at H
        exact absurd H (by simp)
       rw [if_neg c17] at H; have c17b0 : decide (x10_2 ≤ x8_5) = false := decide_eq_false c17; clear c17; replace H := Option.bind_eq_some_iff.mp H; obtain ⟨t121, A240, H⟩ := H
       try dsimp only at H
       have A24 := Aside0.mk A240; clear A240
       by_cases c25 : t121 = true
       ·subst c25
        have H1 : ((W_spec_l01Write.f x9_2).bind fun t122 => (if (t122.size : Int) = (wrap64 (x8_5 + 1)) then (some (x9_2, wrap64 (x8_5 + 1),true)) else (some (65533, 1,false)))) = some (r1, r2, r3) := by rw [if_pos rfl] at H; exact H
        clear H; have H := H1; clear H1; replace H := Option.bind_eq_some_iff.mp H; obtain ⟨t122, A260, H⟩ := H
        try dsimp only at H
        have A26 := Aside0.mk A260; clear A260
        by_cases c27 : (t122.size : Int) = (wrap64 (x8_5 + 1))
        ·rw [if_pos c27] at H
         have c27b0 : ((t122.size : Int) == (wrap64 (x8_5 + 1))) = true := beq_iff_eq.mpr c27; have c27b1 : ((t122.size : Int) != (wrap64 (x8_5 + 1))) = false := bne_eq_false_iff_eq.mpr c27; clear c27; simp only [Option.some.injEq, Prod.mk.injEq] at H; obtain ⟨rfl, rfl, rfl⟩ := H
         go_wp2_with (first | ((with_reducible refine gate_callee (f := 167) rfl ?_); refine goesL_ (some 77) rfl rfl Tryd.func167 (by kernel_rfl) rfl #[.int .i64 x9_2] rfl (by (try simp only [List.map_toArray, List.map_cons, List.map_nil]); first | done | rfl) ?_; (with_reducible refine (spec_l01IsPoint.calls x9_2 true _ A24.out).mono ?_); rintro e w' ⟨rfl, ⟨nd, rfl⟩⟩; refine ⟨_, rfl, ?_⟩) | (go_at_call 81; (with_reducible refine (W_spec_l01Write.calls x9_2 t122 _ A26.out).mono ?_); rintro e w28 ⟨rfl, hb⟩; have n0_ := Aside0.mk (below_step (belowA) hb); clear HB; have HB := n0_; clear n0_; (try clear hb); (try clear hb2); (try clear hk); (try clear hi)))
         go_ret3
         exact ⟨by first | rfl | (simp [errW_none, errW_some] <;> rfl) | (simp [*, errW_none, errW_some] <;> rfl), belowA⟩
        rw [if_neg c27] at H; have c27b0 : ((t122.size : Int) == (wrap64 (x8_5 + 1))) = false := beq_eq_false_iff_ne.mpr c27; have c27b1 : ((t122.size : Int) != (wrap64 (x8_5 + 1))) = true := bne_iff_ne.mpr c27; simp only [Option.some.injEq, Prod.mk.injEq] at H; obtain ⟨rfl, rfl, rfl⟩ := H
        go_wp2_with (first | ((with_reducible refine gate_callee (f := 167) rfl ?_); refine goesL_ (some 77) rfl rfl Tryd.func167 (by kernel_rfl) rfl #[.int .i64 x9_2] rfl (by (try simp only [List.map_toArray, List.map_cons, List.map_nil]); first | done | rfl) ?_; (with_reducible refine (spec_l01IsPoint.calls x9_2 true _ A24.out).mono ?_); rintro e w' ⟨rfl, ⟨nd, rfl⟩⟩; refine ⟨_, rfl, ?_⟩) | (go_at_call 81; (with_reducible refine (W_spec_l01Write.calls x9_2 t122 _ A26.out).mono ?_); rintro e w29 ⟨rfl, hb⟩; have n0_ := Aside0.mk (below_step (belowA) hb); clear HB; have HB := n0_; clear n0_; (try clear hb); (try clear hb2); (try clear hk); (try clear hi)))
        go_ret3
        exact ⟨by first | rfl | (simp [errW_none, errW_some] <;> rfl) | (simp [*, errW_none, errW_some] <;> rfl), belowA⟩
       replace c25 := Bool.eq_false_iff.mpr c25; subst c25
       have H1 : (some (65533, 1,false)) = some (r1, r2, r3) := by rw [if_neg (show ¬ (false = true) by decide)] at H; exact H
       clear H; have H := H1; clear H1; simp only [Option.some.injEq, Prod.mk.injEq] at H; obtain ⟨rfl, rfl, rfl⟩ := H
       go_wp2_with (first | ((with_reducible refine gate_callee (f := 167) rfl ?_); refine goesL_ (some 77) rfl rfl Tryd.func167 (by kernel_rfl) rfl #[.int .i64 x9_2] rfl (by (try simp only [List.map_toArray, List.map_cons, List.map_nil]); first | done | rfl) ?_; (with_reducible refine (spec_l01IsPoint.calls x9_2 false _ A24.out).mono ?_); rintro e w' ⟨rfl, ⟨nd, rfl⟩⟩; refine ⟨_, rfl, ?_⟩))
       go_ret3
       exact ⟨by first | rfl | (simp [errW_none, errW_some] <;> rfl) | (simp [*, errW_none, errW_some] <;> rfl), belowA⟩
  rw [if_neg c4] at H
  exact absurd H (by simp)
 rw [if_neg c3] at H
 exact absurd H (by simp)

def spec_l01Next.d (s : ByteArray) (i : Int) : Int × Nat := YtiabgmddnddeiaaDoorPts.dec ((bytesOf s).drop i.toNat)
def W_spec_l01Next.f (a0 : ByteArray) (a1 : Int) : Option (Int × Int × Bool) :=
  if 0 ≤ a1 ∧ a1 < (a0.size : Int) ∧ a0.size ≤ 1099511627776 then some ((spec_l01Next.d a0 a1).1, (((spec_l01Next.d a0 a1).2 : Nat) : Int), decide ((spec_l01Next.d a0 a1).2 ≠ 1 ∨ bt a0 a1 < 128)) else none
theorem spec_l01Next.nat (s : ByteArray) (i : Int) : ∃ n : Nat, bt s i = n ∧ n ≤ 255 := by
  have h := bt_range s i
  exact ⟨(bt s i).toNat, by omega, by omega⟩
theorem spec_l01Next.size2 {x : Int} (h : YtiabgmddnddeiaaDoorPts.isP x) : (strOfNums (YtiabgmddnddeiaaDoorPts.enc x)).size = if x < 128 then 1 else if x < 2048 then 2 else if x < 65536 then 3 else 4 := by
  rw [strOfNums_size]
  unfold YtiabgmddnddeiaaDoorPts.enc
  rw [YtiabgmddnddeiaaDoorPts.fix_of h]
  unfold YtiabgmddnddeiaaDoorPts.enc1
  repeat' split
  all_goals simp
theorem spec_l01Next.fin (k : Nat) (s : ByteArray) (i n x : Int) (hn : 0 ≤ n) (hn3 : n ≤ 3) (hx : 0 ≤ x) :
    spec_l01Next.l0 (k + 1) s i n x (n + 1) = if YtiabgmddnddeiaaDoorPts.isP x ∧ ((if x < 128 then 1 else if x < 2048 then 2 else if x < 65536 then 3 else 4 : Nat) : Int) = n + 1 then some (x, n + 1, true) else some (65533, 1, false) := by
  simp only [spec_l01Next.l0]
  rw [if_neg (by omega)]
  have hp : spec_l01IsPoint.f x = some (decide (YtiabgmddnddeiaaDoorPts.isP x)) := by
    unfold spec_l01IsPoint.f YtiabgmddnddeiaaDoorPts.isP
    by_cases b : x ≤ 1114111
    · by_cases c : x < 55296
      · rw [if_pos hx, if_pos b, if_pos c]; simp [hx, b, c]
      · rw [if_pos hx, if_pos b, if_neg c]; simp [hx, b, c]
    · rw [if_pos hx, if_neg b]; simp [b]
  have hw : wrap64 (n + 1) = n + 1 := by unfold wrap64; omega
  rw [hp]
  simp only [Option.bind_some]
  by_cases h : YtiabgmddnddeiaaDoorPts.isP x
  · rw [if_pos (decide_eq_true h)]
    unfold W_spec_l01Write.f
    simp only [Option.bind_some]
    rw [spec_l01Next.size2 h, hw]
    by_cases c : ((if x < 128 then 1 else if x < 2048 then 2 else if x < 65536 then 3 else 4 : Nat) : Int) = n + 1
    · rw [if_pos c, if_pos ⟨h, c⟩]
    · rw [if_neg c, if_neg (fun z => c z.2)]
  · rw [if_neg (by simpa using h), if_neg (fun z => h z.1)]
theorem spec_l01Next.bad (k : Nat) (s : ByteArray) (i n x j : Int) (c : Nat) (hj : j ≤ n) (h0 : 0 ≤ i) (h1 : 0 ≤ j) (h2 : i + j < (s.size : Int)) (hs : s.size ≤ 1099511627776) (hc : bt s (i + j) = c) (hb : c < 128 ∨ 191 < c) :
    spec_l01Next.l0 (k + 1) s i n x j = some (65533, 1, false) := by
  simp only [spec_l01Next.l0]
  have hw : wrap64 (i + j) = i + j := by unfold wrap64; omega
  have hr := bt_range s (i + j)
  have hv : wrap64 (bt s (i + j)) = bt s (i + j) := by unfold wrap64; omega
  rw [if_pos hj, hw, if_pos (by omega), if_pos h2, hv, hc]
  rcases hb with hb | hb
  · rw [if_pos (by omega)]
  · rw [if_neg (by omega), if_pos (by omega)]
theorem spec_l01Next.ok (k : Nat) (s : ByteArray) (i n x j : Int) (c : Nat) (hj : j ≤ n) (h0 : 0 ≤ i) (h1 : 0 ≤ j) (h2 : i + j < (s.size : Int)) (hs : s.size ≤ 1099511627776) (hc : bt s (i + j) = c) (hb : 128 ≤ c) (hb2 : c ≤ 191) (hx : 0 ≤ x) (hx2 : x ≤ 1000000000) :
    spec_l01Next.l0 (k + 1) s i n x j = spec_l01Next.l0 k s i n (x * 64 + ((c % 64 : Nat) : Int)) (j + 1) := by
  simp only [spec_l01Next.l0]
  have hw : wrap64 (i + j) = i + j := by unfold wrap64; omega
  have hr := bt_range s (i + j)
  have hv : wrap64 (bt s (i + j)) = bt s (i + j) := by unfold wrap64; omega
  rw [if_pos hj, hw, if_pos (by omega), if_pos h2, hv, hc, if_neg (by omega), if_neg (by omega)]
  have e1 : wrap64 (x * 64) = x * 64 := by unfold wrap64; omega
  have e2 : Int.tmod (c : Int) 64 = ((c % 64 : Nat) : Int) := by rw [Int.tmod_eq_emod_of_nonneg (by omega)]; omega
  have e3 : wrap64 (j + 1) = j + 1 := by unfold wrap64; omega
  rw [e1, e2, e3]
  have e4 : wrap64 (x * 64 + ((c % 64 : Nat) : Int)) = x * 64 + ((c % 64 : Nat) : Int) := by unfold wrap64; omega
  rw [e4]
theorem spec_l01Next.getD (s : ByteArray) (i : Int) (h : 0 ≤ i) (j : Nat) : ((bytesOf s).drop i.toNat).getD j 0 = bt s (i + j) := by
  have e : ((bytesOf s).drop i.toNat).getD j 0 = (bytesOf s).getD (i.toNat + j) 0 := by simp [List.getD, List.getElem?_drop]
  rw [e, ← rd_bytesOf]
  unfold rd
  have : (i + (j : Int)).toNat = i.toNat + j := by omega
  rw [this]
theorem spec_l01Next.w (i j : Int) (h0 : 0 ≤ i) (h1 : 0 ≤ j) (h2 : i + j < 9223372036854775807) : wrap64 (i + j) = i + j := by unfold wrap64; omega
theorem spec_l01Next.wn (c : Nat) (h : c ≤ 255) : wrap64 (c : Int) = c := by unfold wrap64; omega
theorem spec_l01Next.t32 (c : Nat) : Int.tmod (c : Int) 32 = ((c % 32 : Nat) : Int) := by rw [Int.tmod_eq_emod_of_nonneg (by omega)]; omega
theorem spec_l01Next.t16 (c : Nat) : Int.tmod (c : Int) 16 = ((c % 16 : Nat) : Int) := by rw [Int.tmod_eq_emod_of_nonneg (by omega)]; omega
theorem spec_l01Next.t8 (c : Nat) : Int.tmod (c : Int) 8 = ((c % 8 : Nat) : Int) := by rw [Int.tmod_eq_emod_of_nonneg (by omega)]; omega
set_option maxRecDepth 100000 in
theorem spec_l01Next.eq (k : Nat) (s : ByteArray) (i : Int) (h0 : 0 ≤ i) (h1 : i < (s.size : Int)) (hs : s.size ≤ 1099511627776) :
    spec_l01Next.f (k + 10) s i = some ((spec_l01Next.d s i).1, (((spec_l01Next.d s i).2 : Nat) : Int), decide ((spec_l01Next.d s i).2 ≠ 1 ∨ bt s i < 128)) := by
  obtain ⟨c0, e0, l0⟩ := spec_l01Next.nat s i
  obtain ⟨c1, e1, l1⟩ := spec_l01Next.nat s (i + 1)
  obtain ⟨c2, e2, l2⟩ := spec_l01Next.nat s (i + 2)
  obtain ⟨c3, e3, l3⟩ := spec_l01Next.nat s (i + 3)
  obtain ⟨n, hn⟩ : ∃ n : Nat, s.size = i.toNat + n := ⟨s.size - i.toNat, by omega⟩
  have hd : spec_l01Next.d s i = ((((Lib.decodeN n c0 c1 c2 c3).1 : Nat) : Int), (Lib.decodeN n c0 c1 c2 c3).2) := by
    unfold spec_l01Next.d YtiabgmddnddeiaaDoorPts.dec
    rw [spec_l01Next.getD s i h0 0, spec_l01Next.getD s i h0 1, spec_l01Next.getD s i h0 2, spec_l01Next.getD s i h0 3, List.length_drop, bytesOf_length, hn]
    have : i.toNat + n - i.toNat = n := by omega
    rw [this]
    simp only [Int.natCast_zero, Int.add_zero, Int.natCast_one]
    rw [e0, e1, show ((2 : Nat) : Int) = 2 from rfl, show ((3 : Nat) : Int) = 3 from rfl, e2, e3]
    simp only [Int.toNat_natCast]
  rw [hd, e0]
  unfold spec_l01Next.f
  rw [if_pos h0, if_pos h1, e0, spec_l01Next.wn c0 l0]
  by_cases a0 : c0 < 128
  · rw [if_pos (by omega)]
    have e : Lib.decodeN n c0 c1 c2 c3 = (c0, 1) := by unfold Lib.decodeN; rw [if_pos a0]
    rw [e]
    simp; omega
  · rw [if_neg (by omega)]
    have fl : ∀ r : Nat × Nat, decide (r.2 ≠ 1 ∨ (c0 : Int) < 128) = decide (r.2 ≠ 1) := by
      intro r; congr 1; exact propext ⟨fun h => h.elim id (fun z => absurd z (by omega)), .inl⟩
    rw [fl]
    have none_ : some ((65533 : Int), (1 : Int), false) = some ((((65533, 1) : Nat × Nat).1 : Int), (((65533, 1) : Nat × Nat).2 : Int), decide (((65533, 1) : Nat × Nat).2 ≠ 1)) := rfl
    clear hd e0 fl
    by_cases a1 : 194 ≤ c0
    · rw [if_pos (by omega)]
      by_cases a2 : c0 < 224
      · rw [show decide ((c0 : Int) < 224) = true from decide_eq_true (by omega), YtiabgmddnddeiaaDoorPts.decN_two n c0 c1 c2 c3 l1 a1 a2]
        simp only [spec_l01Next.j0, if_true, spec_l01Next.j2]
        rw [spec_l01Next.w i 1 h0 (by omega) (by omega), spec_l01Next.t32]
        by_cases b1 : n ≤ 1
        · rw [if_pos (by omega), if_neg (by omega)]; exact none_
        · rw [if_neg (by omega)]
          by_cases g1 : 128 ≤ c1 ∧ c1 ≤ 191
          · rw [spec_l01Next.ok (k + 7) s i 1 _ 1 c1 (by omega) h0 (by omega) (by omega) hs e1 g1.1 g1.2 (by omega) (by omega), spec_l01Next.fin (k + 6) s i 1 _ (by omega) (by omega) (by omega), if_pos (show 1 < n ∧ _ from ⟨by omega, g1⟩)]
            rw [if_pos (by unfold YtiabgmddnddeiaaDoorPts.isP; refine ⟨⟨by omega, by omega, by omega⟩, ?_⟩; rw [if_neg (by omega), if_pos (by omega)]; rfl)]
            simp
          · rw [spec_l01Next.bad (k + 7) s i 1 _ 1 c1 (by omega) h0 (by omega) (by omega) hs e1 (by omega), if_neg (fun z => g1 z.2)]; exact none_
      · rw [show decide ((c0 : Int) < 224) = false from decide_eq_false (by omega)]
        simp only [spec_l01Next.j0, Bool.false_eq_true, if_false]
        rw [if_pos (by omega)]
        by_cases a3 : c0 < 240
        · rw [show decide ((c0 : Int) < 240) = true from decide_eq_true (by omega), YtiabgmddnddeiaaDoorPts.decN_three n c0 c1 c2 c3 l1 l2 (by omega) a3]
          simp only [spec_l01Next.j1, if_true, spec_l01Next.j2]
          rw [spec_l01Next.w i 2 h0 (by omega) (by omega), spec_l01Next.t16]
          by_cases b1 : n ≤ 2
          · rw [if_pos (by omega), if_neg (fun z => absurd z.1.1 (by omega))]; exact none_
          · rw [if_neg (by omega)]
            by_cases g1 : 128 ≤ c1 ∧ c1 ≤ 191
            · rw [spec_l01Next.ok (k + 6) s i 2 _ 1 c1 (by omega) h0 (by omega) (by omega) hs e1 g1.1 g1.2 (by omega) (by omega)]
              by_cases g2 : 128 ≤ c2 ∧ c2 ≤ 191
              · rw [show (1 : Int) + 1 = 2 from rfl, spec_l01Next.ok (k + 5) s i 2 _ 2 c2 (by omega) h0 (by omega) (by omega) hs e2 g2.1 g2.2 (by omega) (by omega), spec_l01Next.fin (k + 4) s i 2 _ (by omega) (by omega) (by omega)]
                clear e1 e2 h1 hn hs
                obtain ⟨v, hv⟩ : ∃ v, c0 % 16 * 4096 + c1 % 64 * 64 + c2 % 64 = v := ⟨_, rfl⟩
                have hz : (((c0 % 16 : Nat) : Int) * 64 + ((c1 % 64 : Nat) : Int)) * 64 + ((c2 % 64 : Nat) : Int) = (v : Int) := by omega
                have hm : v ≤ 65535 := by omega
                rw [hv, hz]
                clear hv hz
                by_cases q : v ≥ 2048 ∧ (v < 55296 ∨ 57344 ≤ v)
                · rw [if_pos (show (2 < n ∧ (128 ≤ c1 ∧ c1 ≤ 191) ∧ (128 ≤ c2 ∧ c2 ≤ 191)) ∧ (v ≥ 2048 ∧ (v < 55296 ∨ 57344 ≤ v)) from ⟨⟨by omega, g1, g2⟩, q⟩), if_pos (by unfold YtiabgmddnddeiaaDoorPts.isP; refine ⟨⟨by omega, by omega, by omega⟩, ?_⟩; rw [if_neg (by omega), if_neg (by omega), if_pos (by omega)]; rfl)]
                  rfl
                · rw [if_neg (show ¬ ((2 < n ∧ (128 ≤ c1 ∧ c1 ≤ 191) ∧ (128 ≤ c2 ∧ c2 ≤ 191)) ∧ (v ≥ 2048 ∧ (v < 55296 ∨ 57344 ≤ v))) from fun z => q z.2), if_neg (by
                    rintro ⟨q1, q2⟩
                    unfold YtiabgmddnddeiaaDoorPts.isP at q1
                    by_cases z1 : (v : Int) < 2048
                    · by_cases z2 : (v : Int) < 128
                      · rw [if_pos z2] at q2; omega
                      · rw [if_neg z2, if_pos z1] at q2; omega
                    · omega)]
                  exact none_
              · rw [show (1 : Int) + 1 = 2 from rfl, spec_l01Next.bad (k + 5) s i 2 _ 2 c2 (by omega) h0 (by omega) (by omega) hs e2 (by omega), if_neg (fun z => g2 z.1.2.2)]; exact none_
            · rw [spec_l01Next.bad (k + 6) s i 2 _ 1 c1 (by omega) h0 (by omega) (by omega) hs e1 (by omega), if_neg (fun z => g1 z.1.2.1)]; exact none_
        · rw [show decide ((c0 : Int) < 240) = false from decide_eq_false (by omega)]
          simp only [spec_l01Next.j1, Bool.false_eq_true, if_false]
          rw [if_pos (by omega)]
          by_cases a4 : c0 < 245
          · rw [if_pos (by omega), YtiabgmddnddeiaaDoorPts.decN_four n c0 c1 c2 c3 l1 l2 l3 (by omega) a4]
            simp only [spec_l01Next.j2]
            rw [spec_l01Next.w i 3 h0 (by omega) (by omega), spec_l01Next.t8]
            by_cases b1 : n ≤ 3
            · rw [if_pos (by omega), if_neg (fun z => absurd z.1.1 (by omega))]; exact none_
            · rw [if_neg (by omega)]
              by_cases g1 : 128 ≤ c1 ∧ c1 ≤ 191
              · rw [spec_l01Next.ok (k + 6) s i 3 _ 1 c1 (by omega) h0 (by omega) (by omega) hs e1 g1.1 g1.2 (by omega) (by omega)]
                by_cases g2 : 128 ≤ c2 ∧ c2 ≤ 191
                · rw [show (1 : Int) + 1 = 2 from rfl, spec_l01Next.ok (k + 5) s i 3 _ 2 c2 (by omega) h0 (by omega) (by omega) hs e2 g2.1 g2.2 (by omega) (by omega)]
                  by_cases g3 : 128 ≤ c3 ∧ c3 ≤ 191
                  · rw [show (2 : Int) + 1 = 3 from rfl, spec_l01Next.ok (k + 4) s i 3 _ 3 c3 (by omega) h0 (by omega) (by omega) hs e3 g3.1 g3.2 (by omega) (by omega), spec_l01Next.fin (k + 3) s i 3 _ (by omega) (by omega) (by omega)]
                    clear e1 e2 e3 h1 hn hs
                    obtain ⟨v, hv⟩ : ∃ v, c0 % 8 * 262144 + c1 % 64 * 4096 + c2 % 64 * 64 + c3 % 64 = v := ⟨_, rfl⟩
                    have hz : ((((c0 % 8 : Nat) : Int) * 64 + ((c1 % 64 : Nat) : Int)) * 64 + ((c2 % 64 : Nat) : Int)) * 64 + ((c3 % 64 : Nat) : Int) = (v : Int) := by omega
                    rw [hv, hz]
                    clear hv hz
                    by_cases q : v ≥ 65536 ∧ v ≤ 1114111
                    · rw [if_pos (show (3 < n ∧ (128 ≤ c1 ∧ c1 ≤ 191) ∧ (128 ≤ c2 ∧ c2 ≤ 191) ∧ (128 ≤ c3 ∧ c3 ≤ 191)) ∧ (v ≥ 65536 ∧ v ≤ 1114111) from ⟨⟨by omega, g1, g2, g3⟩, q⟩), if_pos (by unfold YtiabgmddnddeiaaDoorPts.isP; refine ⟨⟨by omega, by omega, by omega⟩, ?_⟩; rw [if_neg (by omega), if_neg (by omega), if_neg (by omega)]; rfl)]
                      rfl
                    · rw [if_neg (show ¬ ((3 < n ∧ (128 ≤ c1 ∧ c1 ≤ 191) ∧ (128 ≤ c2 ∧ c2 ≤ 191) ∧ (128 ≤ c3 ∧ c3 ≤ 191)) ∧ (v ≥ 65536 ∧ v ≤ 1114111)) from fun z => q z.2), if_neg (by
                        rintro ⟨q1, q2⟩
                        unfold YtiabgmddnddeiaaDoorPts.isP at q1
                        by_cases z1 : (v : Int) < 65536
                        · by_cases z2 : (v : Int) < 128
                          · rw [if_pos z2] at q2; omega
                          · by_cases z3 : (v : Int) < 2048
                            · rw [if_neg z2, if_pos z3] at q2; omega
                            · rw [if_neg z2, if_neg z3, if_pos z1] at q2; omega
                        · omega)]
                      exact none_
                  · rw [show (2 : Int) + 1 = 3 from rfl, spec_l01Next.bad (k + 4) s i 3 _ 3 c3 (by omega) h0 (by omega) (by omega) hs e3 (by omega), if_neg (fun z => g3 z.1.2.2.2)]; exact none_
                · rw [show (1 : Int) + 1 = 2 from rfl, spec_l01Next.bad (k + 5) s i 3 _ 2 c2 (by omega) h0 (by omega) (by omega) hs e2 (by omega), if_neg (fun z => g2 z.1.2.2.1)]; exact none_
              · rw [spec_l01Next.bad (k + 6) s i 3 _ 1 c1 (by omega) h0 (by omega) (by omega) hs e1 (by omega), if_neg (fun z => g1 z.1.2.1)]; exact none_
          · rw [if_neg (by omega), YtiabgmddnddeiaaDoorPts.decN_not n c0 c1 c2 c3 l0 (by omega) (by omega)]; exact none_
    · rw [if_neg (by omega)]
      simp only [spec_l01Next.j0, spec_l01Next.j1, Bool.false_eq_true, if_false]
      rw [if_neg (by omega), if_neg (by omega), YtiabgmddnddeiaaDoorPts.decN_not n c0 c1 c2 c3 l0 (by omega) (by omega)]
      exact none_
theorem W_spec_l01Next.to {a0 : ByteArray} {a1 : Int} {r : Int × Int × Bool} (h : W_spec_l01Next.f a0 a1 = some r) : ∃ k, spec_l01Next.f k a0 a1 = some r := by
  unfold W_spec_l01Next.f at h
  split at h
  · rename_i hc
    exact ⟨10, by rw [← h]; exact spec_l01Next.eq 0 a0 a1 hc.1 hc.2.1 hc.2.2⟩
  · cases h
theorem W_spec_l01Next.calls (a0 : ByteArray) (a1 : Int) (r1 : Int) (r2 : Int) (r3 : Bool) (w : World) (h : W_spec_l01Next.f a0 a1 = some (r1, r2, r3)) :
    Calls Tryd.prog 144 #[.string a0, .int .i64 a1] w fun e w' => e = .returned (.tuple #[.int .i64 r1, .int .i64 r2, .bool r3]) ∧ Below w.heap.size w w' := by
  obtain ⟨k, hk⟩ := W_spec_l01Next.to h
  exact spec_l01Next.calls k a0 a1 r1 r2 r3 w hk

/-! ### spec_l01Points: function 90 -/
def spec_l01Points.l0 : Nat → ByteArray → List Int → Int → Option (List Int)
 | 0, _, _, _ => none
 | k + 1, x0, x3, x4 => if x4 < (x0.size : Int) then ((W_spec_l01Next.f x0 x4).bind fun bt126 => (if x3.length < 17592186044416 then (spec_l01Points.l0 k x0 (x3 ++ [bt126.1]) (wrap64 (x4 + bt126.2.1))) else (none))) else (some x3)
def spec_l01Points.f (k : Nat) (a0 : ByteArray) : Option (List Int) := spec_l01Points.l0 k a0 (([] : List Int)) 0
theorem spec_l01Points.mono_l : ∀ k, (∀ y0 y1 y2, LeO (spec_l01Points.l0 k y0 y1 y2) (spec_l01Points.l0 (k + 1) y0 y1 y2))
 | 0 => fun _ _ _ r h => by simp [spec_l01Points.l0] at h
 | k + 1 => by
  have ih0 := spec_l01Points.mono_l k; intro y0 y1 y2
  unfold spec_l01Points.l0
  repeat' first
  | (with_reducible exact ih0 _ _ _)
  | (with_reducible exact LeO.refl _)
  | (with_reducible exact LeO.none _)
  | (with_reducible refine LeO.ite ?_ ?_)
  | (with_reducible refine LeO.bind ?_ (fun _ => ?_))
  | exact ih0 _ _ _
  | exact LeO.none _
  | refine LeO.ite ?_ ?_
  | refine LeO.bind ?_ (fun _ => ?_)
theorem spec_l01Points.mono : ∀ a0 k, LeO (spec_l01Points.f k a0) (spec_l01Points.f (k + 1) a0) := by
 intro a0 k
 have ih0 := spec_l01Points.mono_l k
 unfold spec_l01Points.f
 repeat' first
   | (with_reducible exact ih0 _ _ _)
   | (with_reducible exact LeO.refl _)
   | (with_reducible exact LeO.none _)
   | (with_reducible refine LeO.ite ?_ ?_)
   | (with_reducible refine LeO.bind ?_ (fun _ => ?_))
   | exact ih0 _ _ _
   | exact LeO.none _
   | refine LeO.ite ?_ ?_
   | refine LeO.bind ?_ (fun _ => ?_)
set_option maxHeartbeats 8000000 in
set_option maxRecDepth 100000 in
theorem spec_l01Points.calls (k : Nat) (a0 : ByteArray) (r : List Int) (w : World) (h : spec_l01Points.f k a0 = some r) :
  Calls Tryd.prog 90 #[.string a0] w fun e w' => ∃ v0_ : Value, e = .returned (v0_) ∧ Kd.R (Kd.int .i64) 2 w' w.heap.size (fun _ => True) v0_ r ∧ Below w.heap.size w w' := by
 have HB := Aside0.mk (Below.refl w.heap.size w)
 have H : (spec_l01Points.l0 k a0 (([] : List Int)) 0) = some r := h
 clear h
 obtain ⟨y123, hy123⟩ : ∃ y_ : List Int, y_ = (([] : List Int)) := ⟨_, rfl⟩
 replace H : (spec_l01Points.l0 k a0 y123 0) = some r := by first | (rw [hy123]; with_reducible exact H) | (have H2_ := (Option.bind_some _ _).symm.trans H; rw [hy123]; with_reducible exact H2_) | (have H2_ := (Option.bind_some _ _).symm.trans H; with_reducible exact H2_) | with_reducible exact H | (rw [hy123]; exact H) | exact H
 have Ny123 := Aside0.mk hy123
 clear hy123
 have H' := Aside0.mk H
 clear H
 go_enter Tryd.func90, Tryd.ntmps90
 go_wp2_with (first | ((with_reducible refine gate_dst (N := 8) rfl ?_); refine Kd.R_lit (Kd.int .i64) _ 2 ?hg (N := 8) ?hd (xs := ([] : List Int)) (inner := []) (ok := fun _ => True) (okp := fun _ => True) ?hr ?hp (fun _ hk => hk) trivial (Below.refl _ _) (Nat.le_refl _) (by simp) ?_; (case hd => rfl); (case hg => rfl); (case hr => first | (go_simp; done) | (go_simp; rfl)); (case hp => exact (Reps.none _ _)); intro v124 w2 ho3 hb hg_ hnew_; clear hg_ hnew_; (first | rw [← Ny123.out] at ho3 | (simp only [Int.reduceToNat] at ho3; rw [← Ny123.out] at ho3)); have n0_ := Aside0.mk (Kd.R_lower ho3 (below_size (belowA))); have n1_ := Aside0.mk (below_step (belowA) hb); clear HB; have HO125 := n0_; have HB := n1_; clear n0_ n1_; clear hb ho3))
 go_loopg [3, 4] k (fun kq v3 v4 w' => ∃ (x3_1 : List Int) (x4_1 : Int), v4 = .int .i64 x4_1 ∧ Aside0 (spec_l01Points.l0 kq a0 x3_1 x4_1 = some r) ∧ Aside0 (kq ≤ k) ∧ Aside0 (Kd.R (Kd.int .i64) 2 w' w.heap.size (fun _ => True) v3 x3_1) ∧ Aside0 (Below w.heap.size w w'))
 case atStart => exact ⟨(y123), (0), (by first | rfl | (simp; done) | (simp [*]; done)), H', ⟨Nat.le_refl _⟩, ⟨by (with_reducible repeat (first | apply Kd.R_alloc | apply Kd.R_drewN | apply Kd.R_drew)); exact HO125.out⟩, ⟨belowA⟩⟩
 case round =>
  clear H'
  try clear p2
  obtain ⟨x3_1, x4_1, rfl, HA, HK1, HO_3, HB⟩ := hrel
  cases gk with
  | zero => exact absurd HA.out (by simp [spec_l01Points.l0])
  | succ k1 =>
   have H := HA.out; clear HA; simp only [spec_l01Points.l0] at H
   by_cases c4 : x4_1 < (a0.size : Int)
   ·rw [if_pos c4] at H
    have c4b0 : decide (x4_1 < (a0.size : Int)) = true := decide_eq_true c4; clear c4; replace H := Option.bind_eq_some_iff.mp H; obtain ⟨⟨t126, t127, t128⟩, A50, H⟩ := H
    try dsimp only at H
    have A5 := Aside0.mk A50; clear A50
    by_cases c6 : x3_1.length < 17592186044416
    ·rw [if_pos c6] at H
     have LMc6 := Aside0.mk c6; clear c6; obtain ⟨y129, hy129⟩ : ∃ y_ : List Int, y_ = (x3_1 ++ [t126]) := ⟨_, rfl⟩
     replace H : (spec_l01Points.l0 k1 a0 y129 (wrap64 (x4_1 + t127))) = some r := by first | (rw [hy129]; with_reducible exact H) | (have H2_ := (Option.bind_some _ _).symm.trans H; rw [hy129]; with_reducible exact H2_) | (have H2_ := (Option.bind_some _ _).symm.trans H; with_reducible exact H2_) | with_reducible exact H | (rw [hy129]; exact H) | exact H
     have Ny129 := Aside0.mk hy129; clear hy129; have H' := Aside0.mk H; clear H
     go_wp2_with (first | ((with_reducible refine gate_callee (f := 144) rfl ?_); refine goesL_ (some 16) rfl rfl Tryd.func144 (by kernel_rfl) rfl #[.string a0, .int .i64 x4_1] rfl (by (try simp only [List.map_toArray, List.map_cons, List.map_nil]); first | done | rfl) ?_; (with_reducible refine (W_spec_l01Next.calls a0 x4_1 t126 t127 t128 _ A5.out).mono ?_); rintro e w7 ⟨rfl, hb⟩; refine ⟨_, rfl, ?_⟩; have n0_ := Aside0.mk (Kd.R_below (by (with_reducible repeat (first | apply Kd.R_alloc | apply Kd.R_drewN | apply Kd.R_drew)); exact HO_3.out) hb); have n1_ := Aside0.mk (below_step (belowA) hb); clear HO_3; clear HB; have HO_3 := n0_; have HB := n1_; clear n0_ n1_; (try clear hb); (try clear hb2); (try clear hk); (try clear hi)) | ((with_reducible refine gate_builtin (b := .append) (xs := #[.tmp 20, .tmp 22]) rfl ?_); at_builtin; refine Kd.R_append (Kd.int .i64) (w0 := w) w.heap.size rfl (.tmp 20) (.tmp 22) 28 2 (.int .i64 0) 8 rfl Tryd.underlying28 info2 rfl (by decide) (by omega) u3 x3_1 t126 [.int .i64 t126] (fun _ => True) (fun _ => False) rfl rfl ?aP (fun _ hk => hk.elim) ?aF ?aO ?aB ?aS ?aL ?_; (case aP => exact rfl); (case aB => exact (belowA)); (case aF => exact (fun _ _ => trivial)); (case aO => exact (by (with_reducible repeat (first | apply Kd.R_alloc | apply Kd.R_drewN | apply Kd.R_drew)); exact HO_3.out)); (case aS => exact (below_size (belowA))); (case aL => have := LMc6.out; omega); intro v130 w8 ho hb hg hat; rw [← Ny129.out] at ho; have n0_ := Aside0.mk (hb); have n1_ := Aside0.mk (ho); clear HB; clear HO_3; have HB := n0_; have HO131 := n1_; clear n0_ n1_; clear ho hb hg hat))
     go_roundg k1
     case measure => have := HK1.out; omega
     case rel => exact ⟨(y129), (wrap64 (x4_1 + t127)), (by first | rfl | (simp; done) | (simp [*]; done)), H', ⟨by have := HK1.out; omega⟩, ⟨by (with_reducible repeat (first | apply Kd.R_alloc | apply Kd.R_drewN | apply Kd.R_drew)); exact HO131.out⟩, ⟨belowA⟩⟩
    rw [if_neg c6] at H
    exact absurd H (by simp)
   rw [if_neg c4] at H; have c4b0 : decide (x4_1 < (a0.size : Int)) = false := decide_eq_false c4; clear c4; obtain rfl := Option.some.inj H
   go_wp2
   go_ret
   exact ⟨_, by first | rfl | (simp [errW_none, errW_some] <;> rfl) | (simp [*, errW_none, errW_some] <;> rfl), by (with_reducible repeat (first | apply Kd.R_alloc | apply Kd.R_drewN | apply Kd.R_drew)); exact HO_3.out, belowA⟩

def W_spec_l01Points.f (a0 : ByteArray) : Option (List Int) := if a0.size ≤ 1099511627776 then some (YtiabgmddnddeiaaDoorPts.pts (bytesOf a0)) else none
theorem spec_l01Points.run (s : ByteArray) (hs : s.size ≤ 1099511627776) (d : Nat) : ∀ (k i : Nat) (acc : List Int), i ≤ s.size → s.size - i ≤ d → d < k → acc.length + (s.size - i) ≤ 1099511627776 →
    spec_l01Points.l0 k s acc (i : Int) = some (acc ++ YtiabgmddnddeiaaDoorPts.pts ((bytesOf s).drop i)) := by
  induction d with
  | zero =>
    intro k i acc h1 h2 h3 h4
    obtain ⟨k, rfl⟩ : ∃ m, k = m + 1 := ⟨k - 1, by omega⟩
    simp only [spec_l01Points.l0]
    rw [if_neg (by omega), List.drop_eq_nil_of_le (by rw [bytesOf_length]; omega)]
    simp [YtiabgmddnddeiaaDoorPts.pts_nil]
  | succ d ih =>
    intro k i acc h1 h2 h3 h4
    obtain ⟨k, rfl⟩ : ∃ m, k = m + 1 := ⟨k - 1, by omega⟩
    simp only [spec_l01Points.l0]
    by_cases hlt : i < s.size
    · rw [if_pos (by omega)]
      unfold W_spec_l01Next.f
      rw [if_pos ⟨by omega, by omega, hs⟩]
      simp only [Option.bind_some]
      have hne : (bytesOf s).drop i ≠ [] := by intro h; have := congrArg List.length h; rw [List.length_drop, bytesOf_length] at this; simp at this; omega
      have hb := YtiabgmddnddeiaaDoorPts.dec_bound hne
      rw [List.length_drop, bytesOf_length] at hb
      have hd : spec_l01Next.d s (i : Int) = YtiabgmddnddeiaaDoorPts.dec ((bytesOf s).drop i) := rfl
      rw [hd, if_pos (by omega), spec_l01Next.w (i : Int) _ (by omega) (by omega) (by omega)]
      have hi : (i : Int) + ((YtiabgmddnddeiaaDoorPts.dec ((bytesOf s).drop i)).2 : Int) = ((i + (YtiabgmddnddeiaaDoorPts.dec ((bytesOf s).drop i)).2 : Nat) : Int) := by omega
      rw [hi, ih k (i + (YtiabgmddnddeiaaDoorPts.dec ((bytesOf s).drop i)).2) _ (by omega) (by omega) (by omega) (by rw [List.length_append]; simp only [List.length_cons, List.length_nil]; omega)]
      rw [YtiabgmddnddeiaaDoorPts.pts_cons hne, List.drop_drop]
      simp
    · rw [if_neg (by omega), List.drop_eq_nil_of_le (by rw [bytesOf_length]; omega)]
      simp [YtiabgmddnddeiaaDoorPts.pts_nil]
theorem W_spec_l01Points.to {a0 : ByteArray} {r : List Int} (h : W_spec_l01Points.f a0 = some r) : ∃ k, spec_l01Points.f k a0 = some r := by
  unfold W_spec_l01Points.f at h
  split at h
  · rename_i hs
    refine ⟨a0.size + 1, ?_⟩
    rw [← h]
    have := spec_l01Points.run a0 hs a0.size (a0.size + 1) 0 [] (by omega) (by omega) (by omega) (by simp; omega)
    unfold spec_l01Points.f
    simpa using this
  · cases h
theorem W_spec_l01Points.calls (a0 : ByteArray) (r : List Int) (w : World) (h : W_spec_l01Points.f a0 = some r) :
    Calls Tryd.prog 90 #[.string a0] w fun e w' => ∃ v0_ : Value, e = .returned (v0_) ∧ Kd.R (Kd.int .i64) 2 w' w.heap.size (fun _ => True) v0_ r ∧ Below w.heap.size w w' := by
  obtain ⟨k, hk⟩ := W_spec_l01Points.to h
  exact spec_l01Points.calls k a0 r w hk

end Go.Proofs.YtiabgmddnddeiaaDoor.QFnExactShowPasses
