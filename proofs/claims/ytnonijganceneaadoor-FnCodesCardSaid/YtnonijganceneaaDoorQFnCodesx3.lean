/- The law FnCodes: at every input the call answers true (this text: contracts on its way, by a program of this session's; no condition of ours). -/
import Derived.Test.YtnonijganceneaaDoorQFnCodesx0
namespace Go.Proofs.YtnonijganceneaaDoor.QFnCodes
open Go.RowKit Go.Proofs.YtnonijganceneaaDoorW.PrintWords Go.Proofs.YtnonijganceneaaDoorW.PrintLast Go.Proofs.YtnonijganceneaaDoorW.PrintMore
attribute [local go_sem] max2_int min2_int max_two min_two max_three min_three max_four min_four   -- for this text's walks alone
set_option linter.unusedVariables false
set_option linter.unusedSimpArgs false

/-! ### impl_could: function 221 -/
mutual
def impl_could.j3 : Nat → ByteArray → Int → Int → Int → Option (Int × Bool)
  | 0, _, _, _, _ => none
  | k + 1, x0, x5, x6, x7 => impl_could.l0 k x0 x5 x6 x7 1
def impl_could.l0 : Nat → ByteArray → Int → Int → Int → Int → Option (Int × Bool)
  | 0, _, _, _, _, _ => none
  | k + 1, x0, x5, x6, x7, x8 => if x8 < x5 then (if x8 < (x0.size : Int) then (if 0 ≤ x8 then (if (bt x0 x8) ≥ x6 then (if (bt x0 x8) ≤ x7 then (impl_could.l0 k x0 x5 128 191 (wrap64 (x8 + 1))) else (some (x8, (x8 == x5)))) else (some (x8, (x8 == x5)))) else (none)) else (some (x8, (x8 == x5)))) else (some (x8, (x8 == x5)))
def impl_could.j0 : Nat → ByteArray → Int → Int → Int → Bool → Option (Int × Bool)
  | 0, _, _, _, _, _ => none
  | k + 1, x0, x4, x6, x7, x14 => if x14 = true then (impl_could.j3 k x0 2 x6 x7) else (if x4 ≥ 224 then (impl_could.j1 k x0 x4 x6 x7 (decide (x4 ≤ 239))) else (impl_could.j1 k x0 x4 x6 x7 false))
def impl_could.j1 : Nat → ByteArray → Int → Int → Int → Bool → Option (Int × Bool)
  | 0, _, _, _, _, _ => none
  | k + 1, x0, x4, x6, x7, x21 => if x21 = true then (if x4 = 224 then (if x4 = 237 then (impl_could.j3 k x0 3 160 159) else (impl_could.j3 k x0 3 160 x7)) else (if x4 = 237 then (impl_could.j3 k x0 3 x6 159) else (impl_could.j3 k x0 3 x6 x7))) else (if x4 ≥ 240 then (impl_could.j2 k x0 x4 x6 x7 (decide (x4 ≤ 244))) else (impl_could.j2 k x0 x4 x6 x7 false))
def impl_could.j2 : Nat → ByteArray → Int → Int → Int → Bool → Option (Int × Bool)
  | 0, _, _, _, _, _ => none
  | k + 1, x0, x4, x6, x7, x32 => if x32 = true then (if x4 = 240 then (if x4 = 244 then (impl_could.j3 k x0 4 144 143) else (impl_could.j3 k x0 4 144 x7)) else (if x4 = 244 then (impl_could.j3 k x0 4 x6 143) else (impl_could.j3 k x0 4 x6 x7))) else (some (0, false))
end
def impl_could.f (k : Nat) (a0 : ByteArray) : Option (Int × Bool) := if 0 < (a0.size : Int) then (if (bt a0 0) < 128 then (some (1, true)) else (if (bt a0 0) ≥ 194 then (impl_could.j0 k a0 (bt a0 0) 128 191 (decide ((bt a0 0) ≤ 223))) else (impl_could.j0 k a0 (bt a0 0) 128 191 false))) else (none)
theorem impl_could.mono_l : ∀ k, (∀ y0 y1 y2 y3, LeO (impl_could.j3 k y0 y1 y2 y3) (impl_could.j3 (k + 1) y0 y1 y2 y3)) ∧ (∀ y0 y1 y2 y3 y4, LeO (impl_could.l0 k y0 y1 y2 y3 y4) (impl_could.l0 (k + 1) y0 y1 y2 y3 y4)) ∧ (∀ y0 y1 y2 y3 y4, LeO (impl_could.j0 k y0 y1 y2 y3 y4) (impl_could.j0 (k + 1) y0 y1 y2 y3 y4)) ∧ (∀ y0 y1 y2 y3 y4, LeO (impl_could.j1 k y0 y1 y2 y3 y4) (impl_could.j1 (k + 1) y0 y1 y2 y3 y4)) ∧ (∀ y0 y1 y2 y3 y4, LeO (impl_could.j2 k y0 y1 y2 y3 y4) (impl_could.j2 (k + 1) y0 y1 y2 y3 y4))
  | 0 => ⟨fun _ _ _ _ r h => by simp [impl_could.j3] at h, fun _ _ _ _ _ r h => by simp [impl_could.l0] at h, fun _ _ _ _ _ r h => by simp [impl_could.j0] at h, fun _ _ _ _ _ r h => by simp [impl_could.j1] at h, fun _ _ _ _ _ r h => by simp [impl_could.j2] at h⟩
  | k + 1 => by
    obtain ⟨ih0, ih1, ih2, ih3, ih4⟩ := impl_could.mono_l k
    refine ⟨?_, ?_, ?_, ?_, ?_⟩
    · intro y0 y1 y2 y3
      unfold impl_could.j3
      repeat' first
      | (with_reducible exact ih0 _ _ _ _)
      | (with_reducible exact ih1 _ _ _ _ _)
      | (with_reducible exact ih2 _ _ _ _ _)
      | (with_reducible exact ih3 _ _ _ _ _)
      | (with_reducible exact ih4 _ _ _ _ _)
      | (with_reducible exact LeO.refl _)
      | (with_reducible exact LeO.none _)
      | (with_reducible refine LeO.ite ?_ ?_)
      | (with_reducible refine LeO.bind ?_ (fun _ => ?_))
      | exact ih0 _ _ _ _
      | exact ih1 _ _ _ _ _
      | exact ih2 _ _ _ _ _
      | exact ih3 _ _ _ _ _
      | exact ih4 _ _ _ _ _
      | exact LeO.none _
      | refine LeO.ite ?_ ?_
      | refine LeO.bind ?_ (fun _ => ?_)
    · intro y0 y1 y2 y3 y4
      unfold impl_could.l0
      repeat' first
      | (with_reducible exact ih0 _ _ _ _)
      | (with_reducible exact ih1 _ _ _ _ _)
      | (with_reducible exact ih2 _ _ _ _ _)
      | (with_reducible exact ih3 _ _ _ _ _)
      | (with_reducible exact ih4 _ _ _ _ _)
      | (with_reducible exact LeO.refl _)
      | (with_reducible exact LeO.none _)
      | (with_reducible refine LeO.ite ?_ ?_)
      | (with_reducible refine LeO.bind ?_ (fun _ => ?_))
      | exact ih0 _ _ _ _
      | exact ih1 _ _ _ _ _
      | exact ih2 _ _ _ _ _
      | exact ih3 _ _ _ _ _
      | exact ih4 _ _ _ _ _
      | exact LeO.none _
      | refine LeO.ite ?_ ?_
      | refine LeO.bind ?_ (fun _ => ?_)
    · intro y0 y1 y2 y3 y4
      unfold impl_could.j0
      repeat' first
      | (with_reducible exact ih0 _ _ _ _)
      | (with_reducible exact ih1 _ _ _ _ _)
      | (with_reducible exact ih2 _ _ _ _ _)
      | (with_reducible exact ih3 _ _ _ _ _)
      | (with_reducible exact ih4 _ _ _ _ _)
      | (with_reducible exact LeO.refl _)
      | (with_reducible exact LeO.none _)
      | (with_reducible refine LeO.ite ?_ ?_)
      | (with_reducible refine LeO.bind ?_ (fun _ => ?_))
      | exact ih0 _ _ _ _
      | exact ih1 _ _ _ _ _
      | exact ih2 _ _ _ _ _
      | exact ih3 _ _ _ _ _
      | exact ih4 _ _ _ _ _
      | exact LeO.none _
      | refine LeO.ite ?_ ?_
      | refine LeO.bind ?_ (fun _ => ?_)
    · intro y0 y1 y2 y3 y4
      unfold impl_could.j1
      repeat' first
      | (with_reducible exact ih0 _ _ _ _)
      | (with_reducible exact ih1 _ _ _ _ _)
      | (with_reducible exact ih2 _ _ _ _ _)
      | (with_reducible exact ih3 _ _ _ _ _)
      | (with_reducible exact ih4 _ _ _ _ _)
      | (with_reducible exact LeO.refl _)
      | (with_reducible exact LeO.none _)
      | (with_reducible refine LeO.ite ?_ ?_)
      | (with_reducible refine LeO.bind ?_ (fun _ => ?_))
      | exact ih0 _ _ _ _
      | exact ih1 _ _ _ _ _
      | exact ih2 _ _ _ _ _
      | exact ih3 _ _ _ _ _
      | exact ih4 _ _ _ _ _
      | exact LeO.none _
      | refine LeO.ite ?_ ?_
      | refine LeO.bind ?_ (fun _ => ?_)
    · intro y0 y1 y2 y3 y4
      unfold impl_could.j2
      repeat' first
      | (with_reducible exact ih0 _ _ _ _)
      | (with_reducible exact ih1 _ _ _ _ _)
      | (with_reducible exact ih2 _ _ _ _ _)
      | (with_reducible exact ih3 _ _ _ _ _)
      | (with_reducible exact ih4 _ _ _ _ _)
      | (with_reducible exact LeO.refl _)
      | (with_reducible exact LeO.none _)
      | (with_reducible refine LeO.ite ?_ ?_)
      | (with_reducible refine LeO.bind ?_ (fun _ => ?_))
      | exact ih0 _ _ _ _
      | exact ih1 _ _ _ _ _
      | exact ih2 _ _ _ _ _
      | exact ih3 _ _ _ _ _
      | exact ih4 _ _ _ _ _
      | exact LeO.none _
      | refine LeO.ite ?_ ?_
      | refine LeO.bind ?_ (fun _ => ?_)
theorem impl_could.mono : ∀ a0 k, LeO (impl_could.f k a0) (impl_could.f (k + 1) a0) := by
  intro a0 k
  obtain ⟨ih0, ih1, ih2, ih3, ih4⟩ := impl_could.mono_l k
  unfold impl_could.f
  repeat' first
      | (with_reducible exact ih0 _ _ _ _)
      | (with_reducible exact ih1 _ _ _ _ _)
      | (with_reducible exact ih2 _ _ _ _ _)
      | (with_reducible exact ih3 _ _ _ _ _)
      | (with_reducible exact ih4 _ _ _ _ _)
      | (with_reducible exact LeO.refl _)
      | (with_reducible exact LeO.none _)
      | (with_reducible refine LeO.ite ?_ ?_)
      | (with_reducible refine LeO.bind ?_ (fun _ => ?_))
      | exact ih0 _ _ _ _
      | exact ih1 _ _ _ _ _
      | exact ih2 _ _ _ _ _
      | exact ih3 _ _ _ _ _
      | exact ih4 _ _ _ _ _
      | exact LeO.none _
      | refine LeO.ite ?_ ?_
      | refine LeO.bind ?_ (fun _ => ?_)
set_option maxHeartbeats 8000000 in
set_option maxRecDepth 100000 in
theorem impl_could.calls (k : Nat) (a0 : ByteArray) (r1 : Int) (r2 : Bool) (w : World) (h : impl_could.f k a0 = some (r1, r2)) :
    Calls Tryd.prog 221 #[.string a0] w fun e w' => e = .returned (.tuple #[.int .i64 r1, .bool r2]) ∧ Drawn0 w w' := by
  have H : (if 0 < (a0.size : Int) then (if (bt a0 0) < 128 then (some (1, true)) else (if (bt a0 0) ≥ 194 then (impl_could.j0 k a0 (bt a0 0) 128 191 (decide ((bt a0 0) ≤ 223))) else (impl_could.j0 k a0 (bt a0 0) 128 191 false))) else (none)) = some (r1, r2) := h
  clear h
  by_cases c2 : 0 < (a0.size : Int)
  · rw [if_pos c2] at H
    have c2b0 : decide (0 < (a0.size : Int)) = true := decide_eq_true c2
    have c2b1 : decide (0 < a0.size) = true := decide_eq_true (by omega)
    clear c2
    have HC4 := Aside0.mk H
    clear H
    have p3 : 0 ≤ (0 : Int) := (by omega)
    have q3 : 0 < a0.size := (by have : (0 : Int) < (a0.size : Int) := of_decide_eq_true (by first | (with_reducible assumption) | assumption); omega)
    have hx3 : ∀ h : 0 < a0.size, ((a0[0]'h).toNat : Int) = bt a0 0 := bt_at a0 0
    clear p3
    have qi3 : (0 < (a0.size : Int)) = True := eq_true (of_decide_eq_true (by first | (with_reducible assumption) | assumption))
    replace q3 := eq_true q3
    go_enter Tryd.func221, Tryd.ntmps221
    go_upto_block 0 with (fail)
    go_cut [5, 6, 7] (fun v5 v6 v7 wc => ∃ (kq : Nat) (x5_3 : Int) (x6_3 : Int) (x7_3 : Int), v5 = .int .i64 x5_3 ∧ v6 = .int .u8 x6_3 ∧ v7 = .int .u8 x7_3 ∧ Aside0 (impl_could.j3 kq a0 x5_3 x6_3 x7_3 = some (r1, r2)) ∧ Aside0 (kq ≤ k) ∧ Drawn0 w wc)
    case first =>
      have H := HC4.out
      clear HC4
      by_cases c5 : (bt a0 0) < 128
      · rw [if_pos c5] at H
        have c5b0 : decide ((bt a0 0) < 128) = true := decide_eq_true c5
        clear c5
        (first | rw [c5b0] | (simp only [i64_w, i32_w]; rw [c5b0]) | skip)
        simp only [Option.some.injEq, Prod.mk.injEq] at H
        obtain ⟨rfl, rfl⟩ := H
        go_wp2
        go_ret2
        exact ⟨by first | rfl | (simp; done) | (simp [*]; done), by repeat (first | exact Drawn0.refl _ | apply Drawn0.step)⟩
      · rw [if_neg c5] at H
        have c5b0 : decide ((bt a0 0) < 128) = false := decide_eq_false c5
        clear c5
        (first | rw [c5b0] | (simp only [i64_w, i32_w]; rw [c5b0]) | skip)
        have HC6 := Aside0.mk H
        clear H
        go_upto_region 6 with (fail)
        go_cut [14] (fun v14 wc => ∃ (kq : Nat) (x14_5 : Bool), v14 = .bool x14_5 ∧ Aside0 (impl_could.j0 kq a0 (bt a0 0) 128 191 x14_5 = some (r1, r2)) ∧ Aside0 (kq ≤ k) ∧ Drawn0 w wc)
        case first =>
          have H := HC6.out
          clear HC6
          by_cases c7 : (bt a0 0) ≥ 194
          · rw [if_pos c7] at H
            have c7b0 : decide (194 ≤ (bt a0 0)) = true := decide_eq_true c7
            clear c7
            (first | rw [c7b0] | (simp only [i64_w, i32_w]; rw [c7b0]) | skip)
            have H' := Aside0.mk H
            clear H
            go_wp2
            go_meet
            case rel => exact ⟨_, (decide ((bt a0 0) ≤ 223)), (by first | rfl | (simp; done) | (simp [*]; done)), H', ⟨by first | omega | exact Nat.le_refl _⟩, by repeat (first | exact Drawn0.refl _ | apply Drawn0.step)⟩
          · rw [if_neg c7] at H
            have c7b0 : decide (194 ≤ (bt a0 0)) = false := decide_eq_false c7
            clear c7
            (first | rw [c7b0] | (simp only [i64_w, i32_w]; rw [c7b0]) | skip)
            have H' := Aside0.mk H
            clear H
            go_wp2
            go_meet
            case rel => exact ⟨_, (false), (by first | rfl | (simp; done) | (simp [*]; done)), H', ⟨by first | omega | exact Nat.le_refl _⟩, by repeat (first | exact Drawn0.refl _ | apply Drawn0.step)⟩
        case rest =>
          clear HC6
          try clear c2
          try clear c2b0
          try clear c2b1
          try clear p2
          try clear p3
          try clear q3
          try clear hx3
          try clear qi3
          try clear c5
          try clear c5b0
          try clear c7
          try clear c7b0
          try clear p3
          try clear q3
          obtain ⟨kq, x14_5, rfl, HA, HJ5, ⟨mc5, rfl⟩⟩ := hcut
          cases kq with
          | zero => exact absurd HA.out (by simp [impl_could.j0])
          | succ kj5 =>
            have H := HA.out
            clear HA
            simp only [impl_could.j0] at H
            by_cases c8 : x14_5 = true
            · subst c8
              have H1 : (impl_could.j3 kj5 a0 2 128 191) = some (r1, r2) := by rw [if_pos rfl] at H; exact H
              clear H
              have H := H1
              clear H1
              have H' := Aside0.mk H
              clear H
              go_wp2
              go_meet
              case rel => exact ⟨_, (2), (128), (191), (by first | rfl | (simp; done) | (simp [*]; done)), (by first | rfl | (simp; done) | (simp [*]; done)), (by first | rfl | (simp; done) | (simp [*]; done)), H', ⟨by have := HJ5.out; first | omega | exact Nat.le_refl _⟩, by repeat (first | exact Drawn0.refl _ | apply Drawn0.step)⟩
            · replace c8 := Bool.eq_false_iff.mpr c8
              subst c8
              have H1 : (if (bt a0 0) ≥ 224 then (impl_could.j1 kj5 a0 (bt a0 0) 128 191 (decide ((bt a0 0) ≤ 239))) else (impl_could.j1 kj5 a0 (bt a0 0) 128 191 false)) = some (r1, r2) := by rw [if_neg (show ¬ (false = true) by decide)] at H; exact H
              clear H
              have H := H1
              clear H1
              have HC9 := Aside0.mk H
              clear H
              go_upto_region 8 with (fail)
              go_cut [21] (fun v21 wc => ∃ (kq : Nat) (x21_8 : Bool), v21 = .bool x21_8 ∧ Aside0 (impl_could.j1 kq a0 (bt a0 0) 128 191 x21_8 = some (r1, r2)) ∧ Aside0 (kq ≤ kj5) ∧ Drawn0 w wc)
              case first =>
                have H := HC9.out
                clear HC9
                by_cases c10 : (bt a0 0) ≥ 224
                · rw [if_pos c10] at H
                  have c10b0 : decide (224 ≤ (bt a0 0)) = true := decide_eq_true c10
                  clear c10
                  (first | rw [c10b0] | (simp only [i64_w, i32_w]; rw [c10b0]) | skip)
                  have H' := Aside0.mk H
                  clear H
                  go_wp2
                  go_meet
                  case rel => exact ⟨_, (decide ((bt a0 0) ≤ 239)), (by first | rfl | (simp; done) | (simp [*]; done)), H', ⟨by have := HJ5.out; first | omega | exact Nat.le_refl _⟩, by repeat (first | exact Drawn0.refl _ | apply Drawn0.step)⟩
                · rw [if_neg c10] at H
                  have c10b0 : decide (224 ≤ (bt a0 0)) = false := decide_eq_false c10
                  clear c10
                  (first | rw [c10b0] | (simp only [i64_w, i32_w]; rw [c10b0]) | skip)
                  have H' := Aside0.mk H
                  clear H
                  go_wp2
                  go_meet
                  case rel => exact ⟨_, (false), (by first | rfl | (simp; done) | (simp [*]; done)), H', ⟨by have := HJ5.out; first | omega | exact Nat.le_refl _⟩, by repeat (first | exact Drawn0.refl _ | apply Drawn0.step)⟩
              case rest =>
                clear HC9
                try clear c1
                try clear c2
                try clear c2b0
                try clear c2b1
                try clear p2
                try clear p3
                try clear q3
                try clear hx3
                try clear qi3
                try clear c5
                try clear c5b0
                try clear c7
                try clear c7b0
                try clear c8
                try clear c10
                try clear c10b0
                try clear p2
                try clear p3
                try clear q3
                obtain ⟨kq, x21_8, rfl, HA, HJ8, ⟨mc8, rfl⟩⟩ := hcut
                cases kq with
                | zero => exact absurd HA.out (by simp [impl_could.j1])
                | succ kj8 =>
                  have H := HA.out
                  clear HA
                  simp only [impl_could.j1] at H
                  by_cases c11 : x21_8 = true
                  · subst c11
                    have H1 : (if (bt a0 0) = 224 then (if (bt a0 0) = 237 then (impl_could.j3 kj8 a0 3 160 159) else (impl_could.j3 kj8 a0 3 160 191)) else (if (bt a0 0) = 237 then (impl_could.j3 kj8 a0 3 128 159) else (impl_could.j3 kj8 a0 3 128 191))) = some (r1, r2) := by rw [if_pos rfl] at H; exact H
                    clear H
                    have H := H1
                    clear H1
                    by_cases c12 : (bt a0 0) = 224
                    · rw [if_pos c12] at H
                      have c12b0 : ((bt a0 0) == 224) = true := beq_iff_eq.mpr c12
                      have c12b1 : ((bt a0 0) != 224) = false := bne_eq_false_iff_eq.mpr c12
                      clear c12
                      by_cases c13 : (bt a0 0) = 237
                      · rw [if_pos c13] at H
                        have c13b0 : ((bt a0 0) == 237) = true := beq_iff_eq.mpr c13
                        have c13b1 : ((bt a0 0) != 237) = false := bne_eq_false_iff_eq.mpr c13
                        clear c13
                        have H' := Aside0.mk H
                        clear H
                        go_wp2
                        go_meet
                        case rel => exact ⟨_, (3), (160), (159), (by first | rfl | (simp; done) | (simp [*]; done)), (by first | rfl | (simp; done) | (simp [*]; done)), (by first | rfl | (simp; done) | (simp [*]; done)), H', ⟨by have := HJ5.out; have := HJ8.out; first | omega | exact Nat.le_refl _⟩, by repeat (first | exact Drawn0.refl _ | apply Drawn0.step)⟩
                      · rw [if_neg c13] at H
                        have c13b0 : ((bt a0 0) == 237) = false := beq_eq_false_iff_ne.mpr c13
                        have c13b1 : ((bt a0 0) != 237) = true := bne_iff_ne.mpr c13
                        have H' := Aside0.mk H
                        clear H
                        go_wp2
                        go_meet
                        case rel => exact ⟨_, (3), (160), (191), (by first | rfl | (simp; done) | (simp [*]; done)), (by first | rfl | (simp; done) | (simp [*]; done)), (by first | rfl | (simp; done) | (simp [*]; done)), H', ⟨by have := HJ5.out; have := HJ8.out; first | omega | exact Nat.le_refl _⟩, by repeat (first | exact Drawn0.refl _ | apply Drawn0.step)⟩
                    · rw [if_neg c12] at H
                      have c12b0 : ((bt a0 0) == 224) = false := beq_eq_false_iff_ne.mpr c12
                      have c12b1 : ((bt a0 0) != 224) = true := bne_iff_ne.mpr c12
                      by_cases c14 : (bt a0 0) = 237
                      · rw [if_pos c14] at H
                        have c14b0 : ((bt a0 0) == 237) = true := beq_iff_eq.mpr c14
                        have c14b1 : ((bt a0 0) != 237) = false := bne_eq_false_iff_eq.mpr c14
                        clear c14
                        have H' := Aside0.mk H
                        clear H
                        go_wp2
                        go_meet
                        case rel => exact ⟨_, (3), (128), (159), (by first | rfl | (simp; done) | (simp [*]; done)), (by first | rfl | (simp; done) | (simp [*]; done)), (by first | rfl | (simp; done) | (simp [*]; done)), H', ⟨by have := HJ5.out; have := HJ8.out; first | omega | exact Nat.le_refl _⟩, by repeat (first | exact Drawn0.refl _ | apply Drawn0.step)⟩
                      · rw [if_neg c14] at H
                        have c14b0 : ((bt a0 0) == 237) = false := beq_eq_false_iff_ne.mpr c14
                        have c14b1 : ((bt a0 0) != 237) = true := bne_iff_ne.mpr c14
                        have H' := Aside0.mk H
                        clear H
                        go_wp2
                        go_meet
                        case rel => exact ⟨_, (3), (128), (191), (by first | rfl | (simp; done) | (simp [*]; done)), (by first | rfl | (simp; done) | (simp [*]; done)), (by first | rfl | (simp; done) | (simp [*]; done)), H', ⟨by have := HJ5.out; have := HJ8.out; first | omega | exact Nat.le_refl _⟩, by repeat (first | exact Drawn0.refl _ | apply Drawn0.step)⟩
                  · replace c11 := Bool.eq_false_iff.mpr c11
                    subst c11
                    have H1 : (if (bt a0 0) ≥ 240 then (impl_could.j2 kj8 a0 (bt a0 0) 128 191 (decide ((bt a0 0) ≤ 244))) else (impl_could.j2 kj8 a0 (bt a0 0) 128 191 false)) = some (r1, r2) := by rw [if_neg (show ¬ (false = true) by decide)] at H; exact H
                    clear H
                    have H := H1
                    clear H1
                    have HC15 := Aside0.mk H
                    clear H
                    go_upto_region 14 with (fail)
                    go_cut [32] (fun v32 wc => ∃ (kq : Nat) (x32_14 : Bool), v32 = .bool x32_14 ∧ Aside0 (impl_could.j2 kq a0 (bt a0 0) 128 191 x32_14 = some (r1, r2)) ∧ Aside0 (kq ≤ kj8) ∧ Drawn0 w wc)
                    case first =>
                      have H := HC15.out
                      clear HC15
                      by_cases c16 : (bt a0 0) ≥ 240
                      · rw [if_pos c16] at H
                        have c16b0 : decide (240 ≤ (bt a0 0)) = true := decide_eq_true c16
                        clear c16
                        (first | rw [c16b0] | (simp only [i64_w, i32_w]; rw [c16b0]) | skip)
                        have H' := Aside0.mk H
                        clear H
                        go_wp2
                        go_meet
                        case rel => exact ⟨_, (decide ((bt a0 0) ≤ 244)), (by first | rfl | (simp; done) | (simp [*]; done)), H', ⟨by have := HJ5.out; have := HJ8.out; first | omega | exact Nat.le_refl _⟩, by repeat (first | exact Drawn0.refl _ | apply Drawn0.step)⟩
                      · rw [if_neg c16] at H
                        have c16b0 : decide (240 ≤ (bt a0 0)) = false := decide_eq_false c16
                        clear c16
                        (first | rw [c16b0] | (simp only [i64_w, i32_w]; rw [c16b0]) | skip)
                        have H' := Aside0.mk H
                        clear H
                        go_wp2
                        go_meet
                        case rel => exact ⟨_, (false), (by first | rfl | (simp; done) | (simp [*]; done)), H', ⟨by have := HJ5.out; have := HJ8.out; first | omega | exact Nat.le_refl _⟩, by repeat (first | exact Drawn0.refl _ | apply Drawn0.step)⟩
                    case rest =>
                      clear HC15
                      try clear c1
                      try clear c2
                      try clear c2b0
                      try clear c2b1
                      try clear p2
                      try clear p3
                      try clear q3
                      try clear hx3
                      try clear qi3
                      try clear c5
                      try clear c5b0
                      try clear c7
                      try clear c7b0
                      try clear c8
                      try clear c10
                      try clear c10b0
                      try clear c11
                      try clear c12
                      try clear c12b0
                      try clear c12b1
                      try clear c13
                      try clear c13b0
                      try clear c13b1
                      try clear c14
                      try clear c14b0
                      try clear c14b1
                      try clear c16
                      try clear c16b0
                      try clear p2
                      try clear p3
                      try clear q3
                      obtain ⟨kq, x32_14, rfl, HA, HJ14, ⟨mc14, rfl⟩⟩ := hcut
                      cases kq with
                      | zero => exact absurd HA.out (by simp [impl_could.j2])
                      | succ kj14 =>
                        have H := HA.out
                        clear HA
                        simp only [impl_could.j2] at H
                        by_cases c17 : x32_14 = true
                        · subst c17
                          have H1 : (if (bt a0 0) = 240 then (if (bt a0 0) = 244 then (impl_could.j3 kj14 a0 4 144 143) else (impl_could.j3 kj14 a0 4 144 191)) else (if (bt a0 0) = 244 then (impl_could.j3 kj14 a0 4 128 143) else (impl_could.j3 kj14 a0 4 128 191))) = some (r1, r2) := by rw [if_pos rfl] at H; exact H
                          clear H
                          have H := H1
                          clear H1
                          by_cases c18 : (bt a0 0) = 240
                          · rw [if_pos c18] at H
                            have c18b0 : ((bt a0 0) == 240) = true := beq_iff_eq.mpr c18
                            have c18b1 : ((bt a0 0) != 240) = false := bne_eq_false_iff_eq.mpr c18
                            clear c18
                            by_cases c19 : (bt a0 0) = 244
                            · rw [if_pos c19] at H
                              have c19b0 : ((bt a0 0) == 244) = true := beq_iff_eq.mpr c19
                              have c19b1 : ((bt a0 0) != 244) = false := bne_eq_false_iff_eq.mpr c19
                              clear c19
                              have H' := Aside0.mk H
                              clear H
                              go_wp2
                              go_meet
                              case rel => exact ⟨_, (4), (144), (143), (by first | rfl | (simp; done) | (simp [*]; done)), (by first | rfl | (simp; done) | (simp [*]; done)), (by first | rfl | (simp; done) | (simp [*]; done)), H', ⟨by have := HJ5.out; have := HJ8.out; have := HJ14.out; first | omega | exact Nat.le_refl _⟩, by repeat (first | exact Drawn0.refl _ | apply Drawn0.step)⟩
                            · rw [if_neg c19] at H
                              have c19b0 : ((bt a0 0) == 244) = false := beq_eq_false_iff_ne.mpr c19
                              have c19b1 : ((bt a0 0) != 244) = true := bne_iff_ne.mpr c19
                              have H' := Aside0.mk H
                              clear H
                              go_wp2
                              go_meet
                              case rel => exact ⟨_, (4), (144), (191), (by first | rfl | (simp; done) | (simp [*]; done)), (by first | rfl | (simp; done) | (simp [*]; done)), (by first | rfl | (simp; done) | (simp [*]; done)), H', ⟨by have := HJ5.out; have := HJ8.out; have := HJ14.out; first | omega | exact Nat.le_refl _⟩, by repeat (first | exact Drawn0.refl _ | apply Drawn0.step)⟩
                          · rw [if_neg c18] at H
                            have c18b0 : ((bt a0 0) == 240) = false := beq_eq_false_iff_ne.mpr c18
                            have c18b1 : ((bt a0 0) != 240) = true := bne_iff_ne.mpr c18
                            by_cases c20 : (bt a0 0) = 244
                            · rw [if_pos c20] at H
                              have c20b0 : ((bt a0 0) == 244) = true := beq_iff_eq.mpr c20
                              have c20b1 : ((bt a0 0) != 244) = false := bne_eq_false_iff_eq.mpr c20
                              clear c20
                              have H' := Aside0.mk H
                              clear H
                              go_wp2
                              go_meet
                              case rel => exact ⟨_, (4), (128), (143), (by first | rfl | (simp; done) | (simp [*]; done)), (by first | rfl | (simp; done) | (simp [*]; done)), (by first | rfl | (simp; done) | (simp [*]; done)), H', ⟨by have := HJ5.out; have := HJ8.out; have := HJ14.out; first | omega | exact Nat.le_refl _⟩, by repeat (first | exact Drawn0.refl _ | apply Drawn0.step)⟩
                            · rw [if_neg c20] at H
                              have c20b0 : ((bt a0 0) == 244) = false := beq_eq_false_iff_ne.mpr c20
                              have c20b1 : ((bt a0 0) != 244) = true := bne_iff_ne.mpr c20
                              have H' := Aside0.mk H
                              clear H
                              go_wp2
                              go_meet
                              case rel => exact ⟨_, (4), (128), (191), (by first | rfl | (simp; done) | (simp [*]; done)), (by first | rfl | (simp; done) | (simp [*]; done)), (by first | rfl | (simp; done) | (simp [*]; done)), H', ⟨by have := HJ5.out; have := HJ8.out; have := HJ14.out; first | omega | exact Nat.le_refl _⟩, by repeat (first | exact Drawn0.refl _ | apply Drawn0.step)⟩
                        · replace c17 := Bool.eq_false_iff.mpr c17
                          subst c17
                          have H1 : (some (0, false)) = some (r1, r2) := by rw [if_neg (show ¬ (false = true) by decide)] at H; exact H
                          clear H
                          have H := H1
                          clear H1
                          simp only [Option.some.injEq, Prod.mk.injEq] at H
                          obtain ⟨rfl, rfl⟩ := H
                          go_wp2
                          go_ret2
                          exact ⟨by first | rfl | (simp; done) | (simp [*]; done), by repeat (first | exact Drawn0.refl _ | apply Drawn0.step)⟩
    case rest =>
      clear HC4
      try clear c1
      try clear c2
      try clear c2b0
      try clear c2b1
      try clear p2
      try clear p3
      try clear q3
      try clear hx3
      try clear qi3
      try clear c5
      try clear c5b0
      try clear c7
      try clear c7b0
      try clear c8
      try clear c10
      try clear c10b0
      try clear c11
      try clear c12
      try clear c12b0
      try clear c12b1
      try clear c13
      try clear c13b0
      try clear c13b1
      try clear c14
      try clear c14b0
      try clear c14b1
      try clear c16
      try clear c16b0
      try clear c17
      try clear c18
      try clear c18b0
      try clear c18b1
      try clear c19
      try clear c19b0
      try clear c19b1
      try clear c20
      try clear c20b0
      try clear c20b1
      try clear p2
      try clear p3
      try clear q3
      obtain ⟨kq, x5_3, x6_3, x7_3, rfl, rfl, rfl, HA, HJ3, ⟨mc3, rfl⟩⟩ := hcut
      cases kq with
      | zero => exact absurd HA.out (by simp [impl_could.j3])
      | succ kj3 =>
        have H := HA.out
        clear HA
        simp only [impl_could.j3] at H
        have H' := Aside0.mk H
        clear H
        go_wp2
        go_loopg [6, 7, 8] kj3 (fun kq v6 v7 v8 w' => ∃ (x6_2 : Int) (x7_2 : Int) (x8_2 : Int), v6 = .int .u8 x6_2 ∧ v7 = .int .u8 x7_2 ∧ v8 = .int .i64 x8_2 ∧ Aside0 (impl_could.l0 kq a0 x5_3 x6_2 x7_2 x8_2 = some (r1, r2)) ∧ Aside0 (kq ≤ kj3) ∧ Drawn0 w w')
        case atStart => exact ⟨(x6_3), (x7_3), (1), (by first | rfl | (simp; done) | (simp [*]; done)), (by first | rfl | (simp; done) | (simp [*]; done)), (by first | rfl | (simp; done) | (simp [*]; done)), H', ⟨Nat.le_refl _⟩, by repeat (first | exact Drawn0.refl _ | apply Drawn0.step)⟩
        case round =>
          clear H'
          try clear c1
          try clear c2
          try clear c2b0
          try clear c2b1
          try clear p2
          try clear c3
          try clear p3
          try clear q3
          try clear hx3
          try clear qi3
          try clear c5
          try clear c5b0
          try clear c7
          try clear c7b0
          try clear c8
          try clear c10
          try clear c10b0
          try clear c11
          try clear c12
          try clear c12b0
          try clear c12b1
          try clear c13
          try clear c13b0
          try clear c13b1
          try clear c14
          try clear c14b0
          try clear c14b1
          try clear c16
          try clear c16b0
          try clear c17
          try clear c18
          try clear c18b0
          try clear c18b1
          try clear c19
          try clear c19b0
          try clear c19b1
          try clear c20
          try clear c20b0
          try clear c20b1
          try clear p2
          try clear p3
          try clear q3
          obtain ⟨x6_2, x7_2, x8_2, rfl, rfl, rfl, HA, HK2, ⟨m2, rfl⟩⟩ := hrel
          cases gk with
          | zero => exact absurd HA.out (by simp [impl_could.l0])
          | succ k2 =>
            have H := HA.out
            clear HA
            simp only [impl_could.l0] at H
            by_cases c21 : x8_2 < x5_3
            · rw [if_pos c21] at H
              have c21b0 : decide (x8_2 < x5_3) = true := decide_eq_true c21
              clear c21
              by_cases c22 : x8_2 < (a0.size : Int)
              · rw [if_pos c22] at H
                have c22b0 : decide (x8_2 < (a0.size : Int)) = true := decide_eq_true c22
                clear c22
                by_cases c23 : 0 ≤ x8_2
                · rw [if_pos c23] at H
                  have c23b0 : decide (0 ≤ x8_2) = true := decide_eq_true c23
                  clear c23
                  by_cases c25 : (bt a0 x8_2) ≥ x6_2
                  · rw [if_pos c25] at H
                    have c25b0 : decide (x6_2 ≤ (bt a0 x8_2)) = true := decide_eq_true c25
                    clear c25
                    by_cases c27 : (bt a0 x8_2) ≤ x7_2
                    · rw [if_pos c27] at H
                      have c27b0 : decide ((bt a0 x8_2) ≤ x7_2) = true := decide_eq_true c27
                      clear c27
                      have H' := Aside0.mk H
                      clear H
                      have p24 : 0 ≤ (x8_2 : Int) := of_decide_eq_true (by first | (with_reducible assumption) | assumption)
                      have q24 : x8_2 < (a0.size : Int) := of_decide_eq_true (by first | (with_reducible assumption) | assumption)
                      have hx24 := bt_at a0 x8_2
                      replace p24 := eq_true p24
                      replace q24 := eq_true q24
                      have p26 : 0 ≤ (x8_2 : Int) := of_decide_eq_true (by first | (with_reducible assumption) | assumption)
                      have q26 : x8_2 < (a0.size : Int) := of_decide_eq_true (by first | (with_reducible assumption) | assumption)
                      have hx26 := bt_at a0 x8_2
                      replace p26 := eq_true p26
                      replace q26 := eq_true q26
                      go_wp2
                      go_roundg k2
                      case measure => have := HJ3.out; have := HK2.out; omega
                      case rel => exact ⟨(128), (191), (wrap64 (x8_2 + 1)), (by first | rfl | (simp; done) | (simp [*]; done)), (by first | rfl | (simp; done) | (simp [*]; done)), (by first | rfl | (simp; done) | (simp [*]; done)), H', ⟨by have := HJ3.out; have := HK2.out; omega⟩, by repeat (first | exact Drawn0.refl _ | apply Drawn0.step)⟩
                    · rw [if_neg c27] at H
                      have c27b0 : decide ((bt a0 x8_2) ≤ x7_2) = false := decide_eq_false c27
                      clear c27
                      simp only [Option.some.injEq, Prod.mk.injEq] at H
                      obtain ⟨rfl, rfl⟩ := H
                      have p24 : 0 ≤ (x8_2 : Int) := of_decide_eq_true (by first | (with_reducible assumption) | assumption)
                      have q24 : x8_2 < (a0.size : Int) := of_decide_eq_true (by first | (with_reducible assumption) | assumption)
                      have hx24 := bt_at a0 x8_2
                      replace p24 := eq_true p24
                      replace q24 := eq_true q24
                      have p26 : 0 ≤ (x8_2 : Int) := of_decide_eq_true (by first | (with_reducible assumption) | assumption)
                      have q26 : x8_2 < (a0.size : Int) := of_decide_eq_true (by first | (with_reducible assumption) | assumption)
                      have hx26 := bt_at a0 x8_2
                      replace p26 := eq_true p26
                      replace q26 := eq_true q26
                      go_wp2
                      go_ret2
                      exact ⟨by first | rfl | (simp; done) | (simp [*]; done), by repeat (first | exact Drawn0.refl _ | apply Drawn0.step)⟩
                  · rw [if_neg c25] at H
                    have c25b0 : decide (x6_2 ≤ (bt a0 x8_2)) = false := decide_eq_false c25
                    clear c25
                    simp only [Option.some.injEq, Prod.mk.injEq] at H
                    obtain ⟨rfl, rfl⟩ := H
                    have p24 : 0 ≤ (x8_2 : Int) := of_decide_eq_true (by first | (with_reducible assumption) | assumption)
                    have q24 : x8_2 < (a0.size : Int) := of_decide_eq_true (by first | (with_reducible assumption) | assumption)
                    have hx24 := bt_at a0 x8_2
                    replace p24 := eq_true p24
                    replace q24 := eq_true q24
                    go_wp2
                    go_ret2
                    exact ⟨by first | rfl | (simp; done) | (simp [*]; done), by repeat (first | exact Drawn0.refl _ | apply Drawn0.step)⟩
                · rw [if_neg c23] at H
                  exact absurd H (by simp)
              · rw [if_neg c22] at H
                have c22b0 : decide (x8_2 < (a0.size : Int)) = false := decide_eq_false c22
                clear c22
                simp only [Option.some.injEq, Prod.mk.injEq] at H
                obtain ⟨rfl, rfl⟩ := H
                go_wp2
                go_ret2
                exact ⟨by first | rfl | (simp; done) | (simp [*]; done), by repeat (first | exact Drawn0.refl _ | apply Drawn0.step)⟩
            · rw [if_neg c21] at H
              have c21b0 : decide (x8_2 < x5_3) = false := decide_eq_false c21
              clear c21
              simp only [Option.some.injEq, Prod.mk.injEq] at H
              obtain ⟨rfl, rfl⟩ := H
              go_wp2
              go_ret2
              exact ⟨by first | rfl | (simp; done) | (simp [*]; done), by repeat (first | exact Drawn0.refl _ | apply Drawn0.step)⟩
  · rw [if_neg c2] at H
    exact absurd H (by simp)

def W_impl_could.f (a0 : ByteArray) : Option (Int × Bool) := if 0 < a0.size ∧ a0.size ≤ 1099511627776 then some ((((YtnonijganceneaaDoorDec.could (bytesOf a0)).1 : Nat) : Int), (YtnonijganceneaaDoorDec.could (bytesOf a0)).2) else none
theorem impl_could.getD (s : ByteArray) (i : Nat) : (bytesOf s).getD i 0 = bt s (i : Int) := by rw [← rd_bytesOf]; simp [rd]
def impl_could.c (s : ByteArray) (n : Nat) (lo hi : Int) : Nat :=
  if 1 < s.size ∧ lo ≤ bt s 1 ∧ bt s 1 ≤ hi then
    (if 2 < n ∧ 2 < s.size ∧ 128 ≤ bt s 2 ∧ bt s 2 ≤ 191 then (if 3 < n ∧ 3 < s.size ∧ 128 ≤ bt s 3 ∧ bt s 3 ≤ 191 then 4 else 3) else 2) else 1
theorem impl_could.stop (k : Nat) (s : ByteArray) (n i : Nat) (lo hi : Int) (h : i = n ∨ s.size = i ∨ (i < n ∧ i < s.size ∧ ¬ (lo ≤ bt s (i : Int) ∧ bt s (i : Int) ≤ hi))) : impl_could.l0 (k + 1) s (n : Int) lo hi (i : Int) = some ((i : Int), (i : Int) == (n : Int)) := by
  rw [impl_could.l0]
  by_cases a : i < n
  · rw [if_pos (by omega)]
    by_cases b : i < s.size
    · rw [if_pos (by omega), if_pos (by omega)]
      by_cases c : bt s (i : Int) ≥ lo
      · rw [if_pos c, if_neg (by omega)]
      · rw [if_neg c]
    · rw [if_neg (by omega)]
  · rw [if_neg (by omega)]
theorem impl_could.go_ (k : Nat) (s : ByteArray) (n i : Nat) (lo hi : Int) (h : i < n) (h2 : i < s.size) (hs : s.size ≤ 1099511627776) (h3 : lo ≤ bt s (i : Int) ∧ bt s (i : Int) ≤ hi) : impl_could.l0 (k + 1) s (n : Int) lo hi (i : Int) = impl_could.l0 k s (n : Int) 128 191 ((i + 1 : Nat) : Int) := by
  have hw : wrap64 ((i : Int) + 1) = ((i + 1 : Nat) : Int) := by unfold wrap64; omega
  rw [impl_could.l0, if_pos (by omega), if_pos (by omega), if_pos (by omega), if_pos h3.1, if_pos h3.2, hw]
theorem impl_could.loop (k : Nat) (s : ByteArray) (hs : s.size ≤ 1099511627776) (h0 : 0 < s.size) (n : Nat) (hn : 2 ≤ n) (h4 : n ≤ 4) (lo hi : Int) : impl_could.l0 (k + 5) s (n : Int) lo hi 1 = some (((impl_could.c s n lo hi : Nat) : Int), impl_could.c s n lo hi == n) := by
  have hb : ∀ a b : Nat, ((a : Int) == (b : Int)) = (a == b) := by
    intro a b
    rw [Bool.eq_iff_iff, beq_iff_eq, beq_iff_eq]; omega
  unfold impl_could.c
  rw [show (1 : Int) = ((1 : Nat) : Int) from rfl, show (2 : Int) = ((2 : Nat) : Int) from rfl, show (3 : Int) = ((3 : Nat) : Int) from rfl]
  by_cases g1 : 1 < s.size ∧ lo ≤ bt s ((1 : Nat) : Int) ∧ bt s ((1 : Nat) : Int) ≤ hi
  · rw [if_pos g1, impl_could.go_ (k + 4) s n 1 lo hi (by omega) g1.1 hs g1.2]
    by_cases g2 : 2 < n ∧ 2 < s.size ∧ 128 ≤ bt s ((2 : Nat) : Int) ∧ bt s ((2 : Nat) : Int) ≤ 191
    · rw [if_pos g2, impl_could.go_ (k + 3) s n 2 128 191 g2.1 g2.2.1 hs g2.2.2]
      by_cases g3 : 3 < n ∧ 3 < s.size ∧ 128 ≤ bt s ((3 : Nat) : Int) ∧ bt s ((3 : Nat) : Int) ≤ 191
      · rw [if_pos g3, impl_could.go_ (k + 2) s n 3 128 191 g3.1 g3.2.1 hs g3.2.2, impl_could.stop (k + 1) s n 4 128 191 (by omega), hb]
      · rw [if_neg g3, impl_could.stop (k + 2) s n 3 128 191 (by omega), hb]
    · rw [if_neg g2, impl_could.stop (k + 3) s n 2 128 191 (by omega), hb]
  · rw [if_neg g1, impl_could.stop (k + 4) s n 1 lo hi (by omega), hb]
theorem impl_could.eq (s : ByteArray) (h0 : 0 < s.size) (hs : s.size ≤ 1099511627776) : impl_could.f 20 s = some ((((YtnonijganceneaaDoorDec.could (bytesOf s)).1 : Nat) : Int), (YtnonijganceneaaDoorDec.could (bytesOf s)).2) := by
  have hr := bt_range s 0
  unfold YtnonijganceneaaDoorDec.could
  rw [bytesOf_length, impl_could.getD, impl_could.getD, impl_could.getD, impl_could.getD]
  have fin : ∀ (k n : Nat) (lo hi : Int), 2 ≤ n → n ≤ 4 → YtnonijganceneaaDoorDec.most (bt s 0) = n → YtnonijganceneaaDoorDec.low (bt s 0) = lo → YtnonijganceneaaDoorDec.high (bt s 0) = hi →
      impl_could.j3 (k + 6) s (n : Int) lo hi = some ((((YtnonijganceneaaDoorDec.couldN s.size (bt s ((0 : Nat) : Int)) (bt s ((1 : Nat) : Int)) (bt s ((2 : Nat) : Int)) (bt s ((3 : Nat) : Int))).1 : Nat) : Int), (YtnonijganceneaaDoorDec.couldN s.size (bt s ((0 : Nat) : Int)) (bt s ((1 : Nat) : Int)) (bt s ((2 : Nat) : Int)) (bt s ((3 : Nat) : Int))).2) := by
    intro k n lo hi h2 h4 hm hl hh
    have e : YtnonijganceneaaDoorDec.couldN s.size (bt s ((0 : Nat) : Int)) (bt s ((1 : Nat) : Int)) (bt s ((2 : Nat) : Int)) (bt s ((3 : Nat) : Int)) = (impl_could.c s n lo hi, impl_could.c s n lo hi == n) := by
      unfold YtnonijganceneaaDoorDec.couldN YtnonijganceneaaDoorDec.cnt impl_could.c
      rw [show bt s ((0 : Nat) : Int) = bt s 0 from rfl, hm, hl, hh, if_neg (by omega), if_neg (by omega)]
      rfl
    rw [impl_could.j3, impl_could.loop k s hs h0 n h2 h4, e]
  unfold impl_could.f
  rw [if_pos (by omega)]
  by_cases c0 : bt s 0 < 128
  · rw [if_pos c0]
    have m : YtnonijganceneaaDoorDec.most (bt s ((0 : Nat) : Int)) = 1 := by unfold YtnonijganceneaaDoorDec.most; rw [if_pos (show bt s ((0 : Nat) : Int) < 128 from c0)]
    unfold YtnonijganceneaaDoorDec.couldN
    rw [m]; rfl
  · rw [if_neg c0]
    have z0 : ∀ _ : Nat, YtnonijganceneaaDoorDec.most (bt s 0) = 0 → some ((0 : Int), false) = some ((((YtnonijganceneaaDoorDec.couldN s.size (bt s ((0 : Nat) : Int)) (bt s ((1 : Nat) : Int)) (bt s ((2 : Nat) : Int)) (bt s ((3 : Nat) : Int))).1 : Nat) : Int), (YtnonijganceneaaDoorDec.couldN s.size (bt s ((0 : Nat) : Int)) (bt s ((1 : Nat) : Int)) (bt s ((2 : Nat) : Int)) (bt s ((3 : Nat) : Int))).2) := by
      intro _ m
      unfold YtnonijganceneaaDoorDec.couldN
      rw [show bt s ((0 : Nat) : Int) = bt s 0 from rfl, m]; rfl
    by_cases c1 : bt s 0 ≥ 194
    · rw [if_pos c1]
      by_cases c2 : bt s 0 ≤ 223
      · rw [decide_eq_true c2, impl_could.j0, if_pos rfl]
        exact fin _ 2 _ _ (by omega) (by omega) (by unfold YtnonijganceneaaDoorDec.most; rw [if_neg (by omega), if_pos (by omega)]) (by unfold YtnonijganceneaaDoorDec.low; rw [if_neg (by omega), if_neg (by omega)]) (by unfold YtnonijganceneaaDoorDec.high; rw [if_neg (by omega), if_neg (by omega)])
      · rw [decide_eq_false c2, impl_could.j0, if_neg (by decide), if_pos (by omega)]
        by_cases c3 : bt s 0 ≤ 239
        · have m : YtnonijganceneaaDoorDec.most (bt s 0) = 3 := by unfold YtnonijganceneaaDoorDec.most; rw [if_neg (by omega), if_neg (by omega), if_pos (by omega)]
          rw [decide_eq_true c3, impl_could.j1, if_pos rfl]
          by_cases d1 : bt s 0 = 224
          · rw [if_pos d1, if_neg (by omega)]
            exact fin _ 3 _ _ (by omega) (by omega) m (by unfold YtnonijganceneaaDoorDec.low; rw [if_pos d1]) (by unfold YtnonijganceneaaDoorDec.high; rw [if_neg (by omega), if_neg (by omega)])
          · rw [if_neg d1]
            by_cases d2 : bt s 0 = 237
            · rw [if_pos d2]
              exact fin _ 3 _ _ (by omega) (by omega) m (by unfold YtnonijganceneaaDoorDec.low; rw [if_neg (by omega), if_neg (by omega)]) (by unfold YtnonijganceneaaDoorDec.high; rw [if_pos d2])
            · rw [if_neg d2]
              exact fin _ 3 _ _ (by omega) (by omega) m (by unfold YtnonijganceneaaDoorDec.low; rw [if_neg (by omega), if_neg (by omega)]) (by unfold YtnonijganceneaaDoorDec.high; rw [if_neg (by omega), if_neg (by omega)])
        · rw [decide_eq_false c3, impl_could.j1, if_neg (by decide), if_pos (by omega)]
          by_cases c4 : bt s 0 ≤ 244
          · have m : YtnonijganceneaaDoorDec.most (bt s 0) = 4 := by unfold YtnonijganceneaaDoorDec.most; rw [if_neg (by omega), if_neg (by omega), if_neg (by omega), if_pos (by omega)]
            rw [decide_eq_true c4, impl_could.j2, if_pos rfl]
            by_cases d1 : bt s 0 = 240
            · rw [if_pos d1, if_neg (by omega)]
              exact fin _ 4 _ _ (by omega) (by omega) m (by unfold YtnonijganceneaaDoorDec.low; rw [if_neg (by omega), if_pos d1]) (by unfold YtnonijganceneaaDoorDec.high; rw [if_neg (by omega), if_neg (by omega)])
            · rw [if_neg d1]
              by_cases d2 : bt s 0 = 244
              · rw [if_pos d2]
                exact fin _ 4 _ _ (by omega) (by omega) m (by unfold YtnonijganceneaaDoorDec.low; rw [if_neg (by omega), if_neg (by omega)]) (by unfold YtnonijganceneaaDoorDec.high; rw [if_neg (by omega), if_pos d2])
              · rw [if_neg d2]
                exact fin _ 4 _ _ (by omega) (by omega) m (by unfold YtnonijganceneaaDoorDec.low; rw [if_neg (by omega), if_neg (by omega)]) (by unfold YtnonijganceneaaDoorDec.high; rw [if_neg (by omega), if_neg (by omega)])
          · rw [decide_eq_false c4, impl_could.j2, if_neg (by decide)]
            exact z0 0 (by unfold YtnonijganceneaaDoorDec.most; rw [if_neg (by omega), if_neg (by omega), if_neg (by omega), if_neg (by omega)])
    · rw [if_neg c1, impl_could.j0, if_neg (by decide), if_neg (by omega), impl_could.j1, if_neg (by decide), if_neg (by omega), impl_could.j2, if_neg (by decide)]
      exact z0 0 (by unfold YtnonijganceneaaDoorDec.most; rw [if_neg (by omega), if_neg (by omega), if_neg (by omega), if_neg (by omega)])
theorem W_impl_could.to {a0 : ByteArray} {r : Int × Bool} (h : W_impl_could.f a0 = some r) : ∃ k, impl_could.f k a0 = some r := by
  unfold W_impl_could.f at h
  split at h
  · rename_i hc
    exact ⟨20, by rw [← h]; exact impl_could.eq a0 hc.1 hc.2⟩
  · cases h
theorem W_impl_could.calls (a0 : ByteArray) (r1 : Int) (r2 : Bool) (w : World) (h : W_impl_could.f a0 = some (r1, r2)) :
    Calls Tryd.prog 221 #[.string a0] w fun e w' => e = .returned (.tuple #[.int .i64 r1, .bool r2]) ∧ Drawn0 w w' := by
  obtain ⟨k, hk⟩ := W_impl_could.to h
  exact impl_could.calls k a0 r1 r2 w hk

end Go.Proofs.YtnonijganceneaaDoor.QFnCodes
