/- The law FnExactEndDecoder: at every input the call answers true (this text: contracts on its way, by a program of this session's; no condition of ours). -/
import Derived.Test.YtnonijganceneaaDoorQFnExactEndDecoderx0
namespace Go.Proofs.YtnonijganceneaaDoor.QFnExactEndDecoder
open Go.RowKit Go.Proofs.YtnonijganceneaaDoorW.PrintWords Go.Proofs.YtnonijganceneaaDoorW.PrintLast Go.Proofs.YtnonijganceneaaDoorW.PrintMore
attribute [local go_sem] max2_int min2_int max_two min_two max_three min_three max_four min_four   -- for this text's walks alone
set_option linter.unusedVariables false
set_option linter.unusedSimpArgs false

/-! ### spec_l02Begins: function 218 -/
mutual
def spec_l02Begins.j2 : Nat → ByteArray → Int → Int → Int → Option (Bool)
  | 0, _, _, _, _ => none
  | k + 1, x0, x3, x4, x5 => if 0 < (x0.size : Int) then (if (bt x0 0) = 224 then (spec_l02Begins.j3 k x0 160 x4 x5) else (if (bt x0 0) = 237 then (spec_l02Begins.j3 k x0 x3 159 x5) else (if (bt x0 0) = 240 then (spec_l02Begins.j3 k x0 144 x4 x5) else (if (bt x0 0) = 244 then (spec_l02Begins.j3 k x0 x3 143 x5) else (spec_l02Begins.j3 k x0 x3 x4 x5))))) else (none)
def spec_l02Begins.j3 : Nat → ByteArray → Int → Int → Int → Option (Bool)
  | 0, _, _, _, _ => none
  | k + 1, x0, x3, x4, x5 => if (x0.size : Int) > x5 then (some false) else (spec_l02Begins.l0 k x0 x3 x4 1)
def spec_l02Begins.l0 : Nat → ByteArray → Int → Int → Int → Option (Bool)
  | 0, _, _, _, _ => none
  | k + 1, x0, x3, x4, x7 => if x7 < (x0.size : Int) then (if x7 = 1 then (if 0 ≤ x7 then (if (bt x0 x7) < x3 then (some false) else (if (bt x0 x7) > x4 then (some false) else (if (bt x0 x7) < 128 then (some false) else (if (bt x0 x7) > 191 then (some false) else (spec_l02Begins.l0 k x0 x3 x4 (wrap64 (x7 + 1))))))) else (none)) else (if 0 ≤ x7 then (if (bt x0 x7) < 128 then (some false) else (if (bt x0 x7) > 191 then (some false) else (spec_l02Begins.l0 k x0 x3 x4 (wrap64 (x7 + 1))))) else (none))) else (some true)
def spec_l02Begins.j0 : Nat → ByteArray → Int → Int → Int → Int → Bool → Option (Bool)
  | 0, _, _, _, _, _, _ => none
  | k + 1, x0, x3, x4, x5, x6, x12 => if x12 = true then (spec_l02Begins.j2 k x0 x3 x4 1) else (if x6 ≥ 224 then (spec_l02Begins.j1 k x0 x3 x4 x5 x6 (decide (x6 ≤ 239))) else (spec_l02Begins.j1 k x0 x3 x4 x5 x6 false))
def spec_l02Begins.j1 : Nat → ByteArray → Int → Int → Int → Int → Bool → Option (Bool)
  | 0, _, _, _, _, _, _ => none
  | k + 1, x0, x3, x4, x5, x6, x19 => if x19 = true then (spec_l02Begins.j2 k x0 x3 x4 2) else (if x6 ≥ 240 then (if x6 ≤ 244 then (spec_l02Begins.j2 k x0 x3 x4 3) else (spec_l02Begins.j2 k x0 x3 x4 x5)) else (spec_l02Begins.j2 k x0 x3 x4 x5))
end
def spec_l02Begins.f (k : Nat) (a0 : ByteArray) : Option (Bool) := if a0.toList = ([] : List UInt8) then (some false) else (if 0 < (a0.size : Int) then (if (bt a0 0) ≥ 194 then (spec_l02Begins.j0 k a0 128 191 0 (bt a0 0) (decide ((bt a0 0) ≤ 223))) else (spec_l02Begins.j0 k a0 128 191 0 (bt a0 0) false)) else (none))
theorem spec_l02Begins.mono_l : ∀ k, (∀ y0 y1 y2 y3, LeO (spec_l02Begins.j2 k y0 y1 y2 y3) (spec_l02Begins.j2 (k + 1) y0 y1 y2 y3)) ∧ (∀ y0 y1 y2 y3, LeO (spec_l02Begins.j3 k y0 y1 y2 y3) (spec_l02Begins.j3 (k + 1) y0 y1 y2 y3)) ∧ (∀ y0 y1 y2 y3, LeO (spec_l02Begins.l0 k y0 y1 y2 y3) (spec_l02Begins.l0 (k + 1) y0 y1 y2 y3)) ∧ (∀ y0 y1 y2 y3 y4 y5, LeO (spec_l02Begins.j0 k y0 y1 y2 y3 y4 y5) (spec_l02Begins.j0 (k + 1) y0 y1 y2 y3 y4 y5)) ∧ (∀ y0 y1 y2 y3 y4 y5, LeO (spec_l02Begins.j1 k y0 y1 y2 y3 y4 y5) (spec_l02Begins.j1 (k + 1) y0 y1 y2 y3 y4 y5))
  | 0 => ⟨fun _ _ _ _ r h => by simp [spec_l02Begins.j2] at h, fun _ _ _ _ r h => by simp [spec_l02Begins.j3] at h, fun _ _ _ _ r h => by simp [spec_l02Begins.l0] at h, fun _ _ _ _ _ _ r h => by simp [spec_l02Begins.j0] at h, fun _ _ _ _ _ _ r h => by simp [spec_l02Begins.j1] at h⟩
  | k + 1 => by
    obtain ⟨ih0, ih1, ih2, ih3, ih4⟩ := spec_l02Begins.mono_l k
    refine ⟨?_, ?_, ?_, ?_, ?_⟩
    · intro y0 y1 y2 y3
      unfold spec_l02Begins.j2
      repeat' first
      | (with_reducible exact ih0 _ _ _ _)
      | (with_reducible exact ih1 _ _ _ _)
      | (with_reducible exact ih2 _ _ _ _)
      | (with_reducible exact ih3 _ _ _ _ _ _)
      | (with_reducible exact ih4 _ _ _ _ _ _)
      | (with_reducible exact LeO.refl _)
      | (with_reducible exact LeO.none _)
      | (with_reducible refine LeO.ite ?_ ?_)
      | (with_reducible refine LeO.bind ?_ (fun _ => ?_))
      | exact ih0 _ _ _ _
      | exact ih1 _ _ _ _
      | exact ih2 _ _ _ _
      | exact ih3 _ _ _ _ _ _
      | exact ih4 _ _ _ _ _ _
      | exact LeO.none _
      | refine LeO.ite ?_ ?_
      | refine LeO.bind ?_ (fun _ => ?_)
    · intro y0 y1 y2 y3
      unfold spec_l02Begins.j3
      repeat' first
      | (with_reducible exact ih0 _ _ _ _)
      | (with_reducible exact ih1 _ _ _ _)
      | (with_reducible exact ih2 _ _ _ _)
      | (with_reducible exact ih3 _ _ _ _ _ _)
      | (with_reducible exact ih4 _ _ _ _ _ _)
      | (with_reducible exact LeO.refl _)
      | (with_reducible exact LeO.none _)
      | (with_reducible refine LeO.ite ?_ ?_)
      | (with_reducible refine LeO.bind ?_ (fun _ => ?_))
      | exact ih0 _ _ _ _
      | exact ih1 _ _ _ _
      | exact ih2 _ _ _ _
      | exact ih3 _ _ _ _ _ _
      | exact ih4 _ _ _ _ _ _
      | exact LeO.none _
      | refine LeO.ite ?_ ?_
      | refine LeO.bind ?_ (fun _ => ?_)
    · intro y0 y1 y2 y3
      unfold spec_l02Begins.l0
      repeat' first
      | (with_reducible exact ih0 _ _ _ _)
      | (with_reducible exact ih1 _ _ _ _)
      | (with_reducible exact ih2 _ _ _ _)
      | (with_reducible exact ih3 _ _ _ _ _ _)
      | (with_reducible exact ih4 _ _ _ _ _ _)
      | (with_reducible exact LeO.refl _)
      | (with_reducible exact LeO.none _)
      | (with_reducible refine LeO.ite ?_ ?_)
      | (with_reducible refine LeO.bind ?_ (fun _ => ?_))
      | exact ih0 _ _ _ _
      | exact ih1 _ _ _ _
      | exact ih2 _ _ _ _
      | exact ih3 _ _ _ _ _ _
      | exact ih4 _ _ _ _ _ _
      | exact LeO.none _
      | refine LeO.ite ?_ ?_
      | refine LeO.bind ?_ (fun _ => ?_)
    · intro y0 y1 y2 y3 y4 y5
      unfold spec_l02Begins.j0
      repeat' first
      | (with_reducible exact ih0 _ _ _ _)
      | (with_reducible exact ih1 _ _ _ _)
      | (with_reducible exact ih2 _ _ _ _)
      | (with_reducible exact ih3 _ _ _ _ _ _)
      | (with_reducible exact ih4 _ _ _ _ _ _)
      | (with_reducible exact LeO.refl _)
      | (with_reducible exact LeO.none _)
      | (with_reducible refine LeO.ite ?_ ?_)
      | (with_reducible refine LeO.bind ?_ (fun _ => ?_))
      | exact ih0 _ _ _ _
      | exact ih1 _ _ _ _
      | exact ih2 _ _ _ _
      | exact ih3 _ _ _ _ _ _
      | exact ih4 _ _ _ _ _ _
      | exact LeO.none _
      | refine LeO.ite ?_ ?_
      | refine LeO.bind ?_ (fun _ => ?_)
    · intro y0 y1 y2 y3 y4 y5
      unfold spec_l02Begins.j1
      repeat' first
      | (with_reducible exact ih0 _ _ _ _)
      | (with_reducible exact ih1 _ _ _ _)
      | (with_reducible exact ih2 _ _ _ _)
      | (with_reducible exact ih3 _ _ _ _ _ _)
      | (with_reducible exact ih4 _ _ _ _ _ _)
      | (with_reducible exact LeO.refl _)
      | (with_reducible exact LeO.none _)
      | (with_reducible refine LeO.ite ?_ ?_)
      | (with_reducible refine LeO.bind ?_ (fun _ => ?_))
      | exact ih0 _ _ _ _
      | exact ih1 _ _ _ _
      | exact ih2 _ _ _ _
      | exact ih3 _ _ _ _ _ _
      | exact ih4 _ _ _ _ _ _
      | exact LeO.none _
      | refine LeO.ite ?_ ?_
      | refine LeO.bind ?_ (fun _ => ?_)
theorem spec_l02Begins.mono : ∀ a0 k, LeO (spec_l02Begins.f k a0) (spec_l02Begins.f (k + 1) a0) := by
  intro a0 k
  obtain ⟨ih0, ih1, ih2, ih3, ih4⟩ := spec_l02Begins.mono_l k
  unfold spec_l02Begins.f
  repeat' first
      | (with_reducible exact ih0 _ _ _ _)
      | (with_reducible exact ih1 _ _ _ _)
      | (with_reducible exact ih2 _ _ _ _)
      | (with_reducible exact ih3 _ _ _ _ _ _)
      | (with_reducible exact ih4 _ _ _ _ _ _)
      | (with_reducible exact LeO.refl _)
      | (with_reducible exact LeO.none _)
      | (with_reducible refine LeO.ite ?_ ?_)
      | (with_reducible refine LeO.bind ?_ (fun _ => ?_))
      | exact ih0 _ _ _ _
      | exact ih1 _ _ _ _
      | exact ih2 _ _ _ _
      | exact ih3 _ _ _ _ _ _
      | exact ih4 _ _ _ _ _ _
      | exact LeO.none _
      | refine LeO.ite ?_ ?_
      | refine LeO.bind ?_ (fun _ => ?_)
set_option maxHeartbeats 8000000 in
set_option maxRecDepth 100000 in
theorem spec_l02Begins.calls (k : Nat) (a0 : ByteArray) (r : Bool) (w : World) (h : spec_l02Begins.f k a0 = some r) :
    Calls Tryd.prog 218 #[.string a0] w fun e w' => e = .returned (.bool r) ∧ Drawn0 w w' := by
  have H : (if a0.toList = ([] : List UInt8) then (some false) else (if 0 < (a0.size : Int) then (if (bt a0 0) ≥ 194 then (spec_l02Begins.j0 k a0 128 191 0 (bt a0 0) (decide ((bt a0 0) ≤ 223))) else (spec_l02Begins.j0 k a0 128 191 0 (bt a0 0) false)) else (none))) = some r := h
  clear h
  by_cases c2 : a0.toList = ([] : List UInt8)
  · rw [if_pos c2] at H
    have c2b0 : (a0.toList == ([] : List UInt8)) = true := beq_iff_eq.mpr c2
    have c2b1 : (a0.toList != ([] : List UInt8)) = false := bne_eq_false_iff_eq.mpr c2
    clear c2
    obtain rfl := Option.some.inj H
    go_enter Tryd.func218, Tryd.ntmps218
    go_wp2
    go_ret
    exact ⟨by first | rfl | (simp; done) | (simp [*]; done), by repeat (first | exact Drawn0.refl _ | apply Drawn0.step)⟩
  · rw [if_neg c2] at H
    have c2b0 : (a0.toList == ([] : List UInt8)) = false := beq_eq_false_iff_ne.mpr c2
    have c2b1 : (a0.toList != ([] : List UInt8)) = true := bne_iff_ne.mpr c2
    by_cases c3 : 0 < (a0.size : Int)
    · rw [if_pos c3] at H
      have c3b0 : decide (0 < (a0.size : Int)) = true := decide_eq_true c3
      have c3b1 : decide (0 < a0.size) = true := decide_eq_true (by omega)
      clear c3
      have HC5 := Aside0.mk H
      clear H
      have p4 : 0 ≤ (0 : Int) := (by omega)
      have q4 : 0 < a0.size := (by have : (0 : Int) < (a0.size : Int) := of_decide_eq_true (by first | (with_reducible assumption) | assumption); omega)
      have hx4 : ∀ h : 0 < a0.size, ((a0[0]'h).toNat : Int) = bt a0 0 := bt_at a0 0
      clear p4
      have qi4 : (0 < (a0.size : Int)) = True := eq_true (of_decide_eq_true (by first | (with_reducible assumption) | assumption))
      replace q4 := eq_true q4
      go_enter Tryd.func218, Tryd.ntmps218
      go_upto_block 0 with (fail)
      go_cut [5] (fun v5 wc => ∃ (kq : Nat) (x5_4 : Int), v5 = .int .i64 x5_4 ∧ Aside0 (spec_l02Begins.j2 kq a0 128 191 x5_4 = some r) ∧ Aside0 (kq ≤ k) ∧ Drawn0 w wc)
      case first =>
        have H := HC5.out
        clear HC5
        have HC6 := Aside0.mk H
        clear H
        go_upto_region 7 with (fail)
        go_cut [12] (fun v12 wc => ∃ (kq : Nat) (x12_5 : Bool), v12 = .bool x12_5 ∧ Aside0 (spec_l02Begins.j0 kq a0 128 191 0 (bt a0 0) x12_5 = some r) ∧ Aside0 (kq ≤ k) ∧ Drawn0 w wc)
        case first =>
          have H := HC6.out
          clear HC6
          by_cases c7 : (bt a0 0) ≥ 194
          · rw [if_pos c7] at H
            have c7b0 : decide (194 ≤ (bt a0 0)) = true := decide_eq_true c7
            clear c7
            (first | rw [c7b0] | (simp only [i64_w, i32_w]; rw [c7b0]) | skip)
            have H' := Aside0.mk H
            clear H
            go_wp2
            go_meet
            case rel => exact ⟨_, (decide ((bt a0 0) ≤ 223)), (by first | rfl | (simp; done) | (simp [*]; done)), H', ⟨by first | omega | exact Nat.le_refl _⟩, by repeat (first | exact Drawn0.refl _ | apply Drawn0.step)⟩
          · rw [if_neg c7] at H
            have c7b0 : decide (194 ≤ (bt a0 0)) = false := decide_eq_false c7
            clear c7
            (first | rw [c7b0] | (simp only [i64_w, i32_w]; rw [c7b0]) | skip)
            have H' := Aside0.mk H
            clear H
            go_wp2
            go_meet
            case rel => exact ⟨_, (false), (by first | rfl | (simp; done) | (simp [*]; done)), H', ⟨by first | omega | exact Nat.le_refl _⟩, by repeat (first | exact Drawn0.refl _ | apply Drawn0.step)⟩
        case rest =>
          clear HC6
          try clear c2
          try clear c2b0
          try clear c2b1
          try clear p2
          try clear c3
          try clear c3b0
          try clear c3b1
          try clear p4
          try clear q4
          try clear hx4
          try clear qi4
          try clear c7
          try clear c7b0
          try clear p4
          try clear q4
          obtain ⟨kq, x12_5, rfl, HA, HJ5, ⟨mc5, rfl⟩⟩ := hcut
          cases kq with
          | zero => exact absurd HA.out (by simp [spec_l02Begins.j0])
          | succ kj5 =>
            have H := HA.out
            clear HA
            simp only [spec_l02Begins.j0] at H
            by_cases c8 : x12_5 = true
            · subst c8
              have H1 : (spec_l02Begins.j2 kj5 a0 128 191 1) = some r := by rw [if_pos rfl] at H; exact H
              clear H
              have H := H1
              clear H1
              have H' := Aside0.mk H
              clear H
              go_wp2
              go_meet
              case rel => exact ⟨_, (1), (by first | rfl | (simp; done) | (simp [*]; done)), H', ⟨by have := HJ5.out; first | omega | exact Nat.le_refl _⟩, by repeat (first | exact Drawn0.refl _ | apply Drawn0.step)⟩
            · replace c8 := Bool.eq_false_iff.mpr c8
              subst c8
              have H1 : (if (bt a0 0) ≥ 224 then (spec_l02Begins.j1 kj5 a0 128 191 0 (bt a0 0) (decide ((bt a0 0) ≤ 239))) else (spec_l02Begins.j1 kj5 a0 128 191 0 (bt a0 0) false)) = some r := by rw [if_neg (show ¬ (false = true) by decide)] at H; exact H
              clear H
              have H := H1
              clear H1
              have HC9 := Aside0.mk H
              clear H
              go_upto_region 9 with (fail)
              go_cut [19] (fun v19 wc => ∃ (kq : Nat) (x19_8 : Bool), v19 = .bool x19_8 ∧ Aside0 (spec_l02Begins.j1 kq a0 128 191 0 (bt a0 0) x19_8 = some r) ∧ Aside0 (kq ≤ kj5) ∧ Drawn0 w wc)
              case first =>
                have H := HC9.out
                clear HC9
                by_cases c10 : (bt a0 0) ≥ 224
                · rw [if_pos c10] at H
                  have c10b0 : decide (224 ≤ (bt a0 0)) = true := decide_eq_true c10
                  clear c10
                  (first | rw [c10b0] | (simp only [i64_w, i32_w]; rw [c10b0]) | skip)
                  have H' := Aside0.mk H
                  clear H
                  go_wp2
                  go_meet
                  case rel => exact ⟨_, (decide ((bt a0 0) ≤ 239)), (by first | rfl | (simp; done) | (simp [*]; done)), H', ⟨by have := HJ5.out; first | omega | exact Nat.le_refl _⟩, by repeat (first | exact Drawn0.refl _ | apply Drawn0.step)⟩
                · rw [if_neg c10] at H
                  have c10b0 : decide (224 ≤ (bt a0 0)) = false := decide_eq_false c10
                  clear c10
                  (first | rw [c10b0] | (simp only [i64_w, i32_w]; rw [c10b0]) | skip)
                  have H' := Aside0.mk H
                  clear H
                  go_wp2
                  go_meet
                  case rel => exact ⟨_, (false), (by first | rfl | (simp; done) | (simp [*]; done)), H', ⟨by have := HJ5.out; first | omega | exact Nat.le_refl _⟩, by repeat (first | exact Drawn0.refl _ | apply Drawn0.step)⟩
              case rest =>
                clear HC9
                try clear c1
                try clear c2
                try clear c2b0
                try clear c2b1
                try clear p2
                try clear c3
                try clear c3b0
                try clear c3b1
                try clear p4
                try clear q4
                try clear hx4
                try clear qi4
                try clear c5
                try clear c7
                try clear c7b0
                try clear c8
                try clear c10
                try clear c10b0
                try clear p2
                try clear p4
                try clear q4
                obtain ⟨kq, x19_8, rfl, HA, HJ8, ⟨mc8, rfl⟩⟩ := hcut
                cases kq with
                | zero => exact absurd HA.out (by simp [spec_l02Begins.j1])
                | succ kj8 =>
                  have H := HA.out
                  clear HA
                  simp only [spec_l02Begins.j1] at H
                  by_cases c11 : x19_8 = true
                  · subst c11
                    have H1 : (spec_l02Begins.j2 kj8 a0 128 191 2) = some r := by rw [if_pos rfl] at H; exact H
                    clear H
                    have H := H1
                    clear H1
                    have H' := Aside0.mk H
                    clear H
                    go_wp2
                    go_meet
                    case rel => exact ⟨_, (2), (by first | rfl | (simp; done) | (simp [*]; done)), H', ⟨by have := HJ5.out; have := HJ8.out; first | omega | exact Nat.le_refl _⟩, by repeat (first | exact Drawn0.refl _ | apply Drawn0.step)⟩
                  · replace c11 := Bool.eq_false_iff.mpr c11
                    subst c11
                    have H1 : (if (bt a0 0) ≥ 240 then (if (bt a0 0) ≤ 244 then (spec_l02Begins.j2 kj8 a0 128 191 3) else (spec_l02Begins.j2 kj8 a0 128 191 0)) else (spec_l02Begins.j2 kj8 a0 128 191 0)) = some r := by rw [if_neg (show ¬ (false = true) by decide)] at H; exact H
                    clear H
                    have H := H1
                    clear H1
                    by_cases c12 : (bt a0 0) ≥ 240
                    · rw [if_pos c12] at H
                      have c12b0 : decide (240 ≤ (bt a0 0)) = true := decide_eq_true c12
                      clear c12
                      by_cases c13 : (bt a0 0) ≤ 244
                      · rw [if_pos c13] at H
                        have c13b0 : decide ((bt a0 0) ≤ 244) = true := decide_eq_true c13
                        clear c13
                        have H' := Aside0.mk H
                        clear H
                        go_wp2
                        go_meet
                        case rel => exact ⟨_, (3), (by first | rfl | (simp; done) | (simp [*]; done)), H', ⟨by have := HJ5.out; have := HJ8.out; first | omega | exact Nat.le_refl _⟩, by repeat (first | exact Drawn0.refl _ | apply Drawn0.step)⟩
                      · rw [if_neg c13] at H
                        have c13b0 : decide ((bt a0 0) ≤ 244) = false := decide_eq_false c13
                        clear c13
                        have H' := Aside0.mk H
                        clear H
                        go_wp2
                        go_meet
                        case rel => exact ⟨_, (0), (by first | rfl | (simp; done) | (simp [*]; done)), H', ⟨by have := HJ5.out; have := HJ8.out; first | omega | exact Nat.le_refl _⟩, by repeat (first | exact Drawn0.refl _ | apply Drawn0.step)⟩
                    · rw [if_neg c12] at H
                      have c12b0 : decide (240 ≤ (bt a0 0)) = false := decide_eq_false c12
                      clear c12
                      have H' := Aside0.mk H
                      clear H
                      go_wp2
                      go_meet
                      case rel => exact ⟨_, (0), (by first | rfl | (simp; done) | (simp [*]; done)), H', ⟨by have := HJ5.out; have := HJ8.out; first | omega | exact Nat.le_refl _⟩, by repeat (first | exact Drawn0.refl _ | apply Drawn0.step)⟩
      case rest =>
        clear HC5
        try clear c1
        try clear c2
        try clear c2b0
        try clear c2b1
        try clear p2
        try clear c3
        try clear c3b0
        try clear c3b1
        try clear p4
        try clear q4
        try clear hx4
        try clear qi4
        try clear c5
        try clear c7
        try clear c7b0
        try clear c8
        try clear c10
        try clear c10b0
        try clear c11
        try clear c12
        try clear c12b0
        try clear c13
        try clear c13b0
        try clear p2
        try clear p4
        try clear q4
        obtain ⟨kq, x5_4, rfl, HA, HJ4, ⟨mc4, rfl⟩⟩ := hcut
        cases kq with
        | zero => exact absurd HA.out (by simp [spec_l02Begins.j2])
        | succ kj4 =>
          have H := HA.out
          clear HA
          simp only [spec_l02Begins.j2] at H
          by_cases c14 : 0 < (a0.size : Int)
          · rw [if_pos c14] at H
            have c14b0 : decide (0 < (a0.size : Int)) = true := decide_eq_true c14
            have c14b1 : decide (0 < a0.size) = true := decide_eq_true (by omega)
            clear c14
            have HC16 := Aside0.mk H
            clear H
            have p15 : 0 ≤ (0 : Int) := (by omega)
            have q15 : 0 < a0.size := (by have : (0 : Int) < (a0.size : Int) := of_decide_eq_true (by first | (with_reducible assumption) | assumption); omega)
            have hx15 : ∀ h : 0 < a0.size, ((a0[0]'h).toNat : Int) = bt a0 0 := bt_at a0 0
            clear p15
            have qi15 : (0 < (a0.size : Int)) = True := eq_true (of_decide_eq_true (by first | (with_reducible assumption) | assumption))
            replace q15 := eq_true q15
            go_upto_block 1 with (fail)
            go_cut [3, 4] (fun v3 v4 wc => ∃ (kq : Nat) (x3_15 : Int) (x4_15 : Int), v3 = .int .u8 x3_15 ∧ v4 = .int .u8 x4_15 ∧ Aside0 (spec_l02Begins.j3 kq a0 x3_15 x4_15 x5_4 = some r) ∧ Aside0 (kq ≤ kj4) ∧ Drawn0 w wc)
            case first =>
              have H := HC16.out
              clear HC16
              by_cases c17 : (bt a0 0) = 224
              · rw [if_pos c17] at H
                have c17b0 : ((bt a0 0) == 224) = true := beq_iff_eq.mpr c17
                have c17b1 : ((bt a0 0) != 224) = false := bne_eq_false_iff_eq.mpr c17
                clear c17
                (first | rw [c17b0] | (simp only [i64_w, i32_w]; rw [c17b0]) | skip)
                have H' := Aside0.mk H
                clear H
                go_wp2
                go_meet
                case rel => exact ⟨_, (160), (191), (by first | rfl | (simp; done) | (simp [*]; done)), (by first | rfl | (simp; done) | (simp [*]; done)), H', ⟨by have := HJ4.out; first | omega | exact Nat.le_refl _⟩, by repeat (first | exact Drawn0.refl _ | apply Drawn0.step)⟩
              · rw [if_neg c17] at H
                have c17b0 : ((bt a0 0) == 224) = false := beq_eq_false_iff_ne.mpr c17
                have c17b1 : ((bt a0 0) != 224) = true := bne_iff_ne.mpr c17
                (first | rw [c17b0] | (simp only [i64_w, i32_w]; rw [c17b0]) | skip)
                by_cases c18 : (bt a0 0) = 237
                · rw [if_pos c18] at H
                  have c18b0 : ((bt a0 0) == 237) = true := beq_iff_eq.mpr c18
                  have c18b1 : ((bt a0 0) != 237) = false := bne_eq_false_iff_eq.mpr c18
                  clear c18
                  have H' := Aside0.mk H
                  clear H
                  go_wp2
                  go_meet
                  case rel => exact ⟨_, (128), (159), (by first | rfl | (simp; done) | (simp [*]; done)), (by first | rfl | (simp; done) | (simp [*]; done)), H', ⟨by have := HJ4.out; first | omega | exact Nat.le_refl _⟩, by repeat (first | exact Drawn0.refl _ | apply Drawn0.step)⟩
                · rw [if_neg c18] at H
                  have c18b0 : ((bt a0 0) == 237) = false := beq_eq_false_iff_ne.mpr c18
                  have c18b1 : ((bt a0 0) != 237) = true := bne_iff_ne.mpr c18
                  by_cases c19 : (bt a0 0) = 240
                  · rw [if_pos c19] at H
                    have c19b0 : ((bt a0 0) == 240) = true := beq_iff_eq.mpr c19
                    have c19b1 : ((bt a0 0) != 240) = false := bne_eq_false_iff_eq.mpr c19
                    clear c19
                    have H' := Aside0.mk H
                    clear H
                    go_wp2
                    go_meet
                    case rel => exact ⟨_, (144), (191), (by first | rfl | (simp; done) | (simp [*]; done)), (by first | rfl | (simp; done) | (simp [*]; done)), H', ⟨by have := HJ4.out; first | omega | exact Nat.le_refl _⟩, by repeat (first | exact Drawn0.refl _ | apply Drawn0.step)⟩
                  · rw [if_neg c19] at H
                    have c19b0 : ((bt a0 0) == 240) = false := beq_eq_false_iff_ne.mpr c19
                    have c19b1 : ((bt a0 0) != 240) = true := bne_iff_ne.mpr c19
                    by_cases c20 : (bt a0 0) = 244
                    · rw [if_pos c20] at H
                      have c20b0 : ((bt a0 0) == 244) = true := beq_iff_eq.mpr c20
                      have c20b1 : ((bt a0 0) != 244) = false := bne_eq_false_iff_eq.mpr c20
                      clear c20
                      have H' := Aside0.mk H
                      clear H
                      go_wp2
                      go_meet
                      case rel => exact ⟨_, (128), (143), (by first | rfl | (simp; done) | (simp [*]; done)), (by first | rfl | (simp; done) | (simp [*]; done)), H', ⟨by have := HJ4.out; first | omega | exact Nat.le_refl _⟩, by repeat (first | exact Drawn0.refl _ | apply Drawn0.step)⟩
                    · rw [if_neg c20] at H
                      have c20b0 : ((bt a0 0) == 244) = false := beq_eq_false_iff_ne.mpr c20
                      have c20b1 : ((bt a0 0) != 244) = true := bne_iff_ne.mpr c20
                      have H' := Aside0.mk H
                      clear H
                      go_wp2
                      go_meet
                      case rel => exact ⟨_, (128), (191), (by first | rfl | (simp; done) | (simp [*]; done)), (by first | rfl | (simp; done) | (simp [*]; done)), H', ⟨by have := HJ4.out; first | omega | exact Nat.le_refl _⟩, by repeat (first | exact Drawn0.refl _ | apply Drawn0.step)⟩
            case rest =>
              clear HC16
              try clear c1
              try clear p1
              try clear q1
              try clear hx1
              try clear qi1
              try clear c2
              try clear c2b0
              try clear c2b1
              try clear p2
              try clear c3
              try clear c3b0
              try clear c3b1
              try clear c4
              try clear p4
              try clear q4
              try clear hx4
              try clear qi4
              try clear c5
              try clear c7
              try clear c7b0
              try clear c8
              try clear c10
              try clear c10b0
              try clear c11
              try clear c12
              try clear c12b0
              try clear c13
              try clear c13b0
              try clear c14
              try clear c14b0
              try clear c14b1
              try clear p15
              try clear q15
              try clear hx15
              try clear qi15
              try clear c17
              try clear c17b0
              try clear c17b1
              try clear c18
              try clear c18b0
              try clear c18b1
              try clear c19
              try clear c19b0
              try clear c19b1
              try clear c20
              try clear c20b0
              try clear c20b1
              try clear p15
              try clear p2
              try clear p4
              try clear q15
              try clear q4
              obtain ⟨kq, x3_15, x4_15, rfl, rfl, HA, HJ15, ⟨mc15, rfl⟩⟩ := hcut
              cases kq with
              | zero => exact absurd HA.out (by simp [spec_l02Begins.j3])
              | succ kj15 =>
                have H := HA.out
                clear HA
                simp only [spec_l02Begins.j3] at H
                by_cases c21 : (a0.size : Int) > x5_4
                · rw [if_pos c21] at H
                  have c21b0 : decide (x5_4 < (a0.size : Int)) = true := decide_eq_true c21
                  clear c21
                  obtain rfl := Option.some.inj H
                  go_wp2
                  go_ret
                  exact ⟨by first | rfl | (simp; done) | (simp [*]; done), by repeat (first | exact Drawn0.refl _ | apply Drawn0.step)⟩
                · rw [if_neg c21] at H
                  have c21b0 : decide (x5_4 < (a0.size : Int)) = false := decide_eq_false c21
                  clear c21
                  have H' := Aside0.mk H
                  clear H
                  go_wp2
                  go_loopg [7] kj15 (fun kq v7 w' => ∃ (x7_3 : Int), v7 = .int .i64 x7_3 ∧ Aside0 (spec_l02Begins.l0 kq a0 x3_15 x4_15 x7_3 = some r) ∧ Aside0 (kq ≤ kj15) ∧ Drawn0 w w')
                  case atStart => exact ⟨(1), (by first | rfl | (simp; done) | (simp [*]; done)), H', ⟨Nat.le_refl _⟩, by repeat (first | exact Drawn0.refl _ | apply Drawn0.step)⟩
                  case round =>
                    clear H'
                    try clear c1
                    try clear p1
                    try clear q1
                    try clear hx1
                    try clear qi1
                    try clear c2
                    try clear c2b0
                    try clear c2b1
                    try clear p2
                    try clear c3
                    try clear c3b0
                    try clear c3b1
                    try clear c4
                    try clear p4
                    try clear q4
                    try clear hx4
                    try clear qi4
                    try clear c5
                    try clear c7
                    try clear c7b0
                    try clear c8
                    try clear c10
                    try clear c10b0
                    try clear c11
                    try clear c12
                    try clear c12b0
                    try clear c13
                    try clear c13b0
                    try clear c14
                    try clear c14b0
                    try clear c14b1
                    try clear c15
                    try clear p15
                    try clear q15
                    try clear hx15
                    try clear qi15
                    try clear c17
                    try clear c17b0
                    try clear c17b1
                    try clear c18
                    try clear c18b0
                    try clear c18b1
                    try clear c19
                    try clear c19b0
                    try clear c19b1
                    try clear c20
                    try clear c20b0
                    try clear c20b1
                    try clear c21
                    try clear c21b0
                    try clear p1
                    try clear p15
                    try clear p2
                    try clear p4
                    try clear q1
                    try clear q15
                    try clear q4
                    obtain ⟨x7_3, rfl, HA, HK3, ⟨m3, rfl⟩⟩ := hrel
                    cases gk with
                    | zero => exact absurd HA.out (by simp [spec_l02Begins.l0])
                    | succ k3 =>
                      have H := HA.out
                      clear HA
                      simp only [spec_l02Begins.l0] at H
                      by_cases c22 : x7_3 < (a0.size : Int)
                      · rw [if_pos c22] at H
                        have c22b0 : decide (x7_3 < (a0.size : Int)) = true := decide_eq_true c22
                        clear c22
                        by_cases c23 : x7_3 = 1
                        · rw [if_pos c23] at H
                          have c23b0 : (x7_3 == 1) = true := beq_iff_eq.mpr c23
                          have c23b1 : (x7_3 != 1) = false := bne_eq_false_iff_eq.mpr c23
                          clear c23
                          by_cases c24 : 0 ≤ x7_3
                          · rw [if_pos c24] at H
                            have c24b0 : decide (0 ≤ x7_3) = true := decide_eq_true c24
                            clear c24
                            by_cases c26 : (bt a0 x7_3) < x3_15
                            · rw [if_pos c26] at H
                              have c26b0 : decide ((bt a0 x7_3) < x3_15) = true := decide_eq_true c26
                              clear c26
                              obtain rfl := Option.some.inj H
                              have p25 : 0 ≤ (x7_3 : Int) := of_decide_eq_true (by first | (with_reducible assumption) | assumption)
                              have q25 : x7_3 < (a0.size : Int) := of_decide_eq_true (by first | (with_reducible assumption) | assumption)
                              have hx25 := bt_at a0 x7_3
                              replace p25 := eq_true p25
                              replace q25 := eq_true q25
                              go_wp2
                              go_ret
                              exact ⟨by first | rfl | (simp; done) | (simp [*]; done), by repeat (first | exact Drawn0.refl _ | apply Drawn0.step)⟩
                            · rw [if_neg c26] at H
                              have c26b0 : decide ((bt a0 x7_3) < x3_15) = false := decide_eq_false c26
                              clear c26
                              by_cases c28 : (bt a0 x7_3) > x4_15
                              · rw [if_pos c28] at H
                                have c28b0 : decide (x4_15 < (bt a0 x7_3)) = true := decide_eq_true c28
                                clear c28
                                obtain rfl := Option.some.inj H
                                have p25 : 0 ≤ (x7_3 : Int) := of_decide_eq_true (by first | (with_reducible assumption) | assumption)
                                have q25 : x7_3 < (a0.size : Int) := of_decide_eq_true (by first | (with_reducible assumption) | assumption)
                                have hx25 := bt_at a0 x7_3
                                replace p25 := eq_true p25
                                replace q25 := eq_true q25
                                have p27 : 0 ≤ (x7_3 : Int) := of_decide_eq_true (by first | (with_reducible assumption) | assumption)
                                have q27 : x7_3 < (a0.size : Int) := of_decide_eq_true (by first | (with_reducible assumption) | assumption)
                                have hx27 := bt_at a0 x7_3
                                replace p27 := eq_true p27
                                replace q27 := eq_true q27
                                go_wp2
                                go_ret
                                exact ⟨by first | rfl | (simp; done) | (simp [*]; done), by repeat (first | exact Drawn0.refl _ | apply Drawn0.step)⟩
                              · rw [if_neg c28] at H
                                have c28b0 : decide (x4_15 < (bt a0 x7_3)) = false := decide_eq_false c28
                                clear c28
                                by_cases c30 : (bt a0 x7_3) < 128
                                · rw [if_pos c30] at H
                                  have c30b0 : decide ((bt a0 x7_3) < 128) = true := decide_eq_true c30
                                  clear c30
                                  obtain rfl := Option.some.inj H
                                  have p25 : 0 ≤ (x7_3 : Int) := of_decide_eq_true (by first | (with_reducible assumption) | assumption)
                                  have q25 : x7_3 < (a0.size : Int) := of_decide_eq_true (by first | (with_reducible assumption) | assumption)
                                  have hx25 := bt_at a0 x7_3
                                  replace p25 := eq_true p25
                                  replace q25 := eq_true q25
                                  have p27 : 0 ≤ (x7_3 : Int) := of_decide_eq_true (by first | (with_reducible assumption) | assumption)
                                  have q27 : x7_3 < (a0.size : Int) := of_decide_eq_true (by first | (with_reducible assumption) | assumption)
                                  have hx27 := bt_at a0 x7_3
                                  replace p27 := eq_true p27
                                  replace q27 := eq_true q27
                                  have p29 : 0 ≤ (x7_3 : Int) := of_decide_eq_true (by first | (with_reducible assumption) | assumption)
                                  have q29 : x7_3 < (a0.size : Int) := of_decide_eq_true (by first | (with_reducible assumption) | assumption)
                                  have hx29 := bt_at a0 x7_3
                                  replace p29 := eq_true p29
                                  replace q29 := eq_true q29
                                  go_wp2
                                  go_ret
                                  exact ⟨by first | rfl | (simp; done) | (simp [*]; done), by repeat (first | exact Drawn0.refl _ | apply Drawn0.step)⟩
                                · rw [if_neg c30] at H
                                  have c30b0 : decide ((bt a0 x7_3) < 128) = false := decide_eq_false c30
                                  clear c30
                                  by_cases c32 : (bt a0 x7_3) > 191
                                  · rw [if_pos c32] at H
                                    have c32b0 : decide (191 < (bt a0 x7_3)) = true := decide_eq_true c32
                                    clear c32
                                    obtain rfl := Option.some.inj H
                                    have p25 : 0 ≤ (x7_3 : Int) := of_decide_eq_true (by first | (with_reducible assumption) | assumption)
                                    have q25 : x7_3 < (a0.size : Int) := of_decide_eq_true (by first | (with_reducible assumption) | assumption)
                                    have hx25 := bt_at a0 x7_3
                                    replace p25 := eq_true p25
                                    replace q25 := eq_true q25
                                    have p27 : 0 ≤ (x7_3 : Int) := of_decide_eq_true (by first | (with_reducible assumption) | assumption)
                                    have q27 : x7_3 < (a0.size : Int) := of_decide_eq_true (by first | (with_reducible assumption) | assumption)
                                    have hx27 := bt_at a0 x7_3
                                    replace p27 := eq_true p27
                                    replace q27 := eq_true q27
                                    have p29 : 0 ≤ (x7_3 : Int) := of_decide_eq_true (by first | (with_reducible assumption) | assumption)
                                    have q29 : x7_3 < (a0.size : Int) := of_decide_eq_true (by first | (with_reducible assumption) | assumption)
                                    have hx29 := bt_at a0 x7_3
                                    replace p29 := eq_true p29
                                    replace q29 := eq_true q29
                                    have p31 : 0 ≤ (x7_3 : Int) := of_decide_eq_true (by first | (with_reducible assumption) | assumption)
                                    have q31 : x7_3 < (a0.size : Int) := of_decide_eq_true (by first | (with_reducible assumption) | assumption)
                                    have hx31 := bt_at a0 x7_3
                                    replace p31 := eq_true p31
                                    replace q31 := eq_true q31
                                    go_wp2
                                    go_ret
                                    exact ⟨by first | rfl | (simp; done) | (simp [*]; done), by repeat (first | exact Drawn0.refl _ | apply Drawn0.step)⟩
                                  · rw [if_neg c32] at H
                                    have c32b0 : decide (191 < (bt a0 x7_3)) = false := decide_eq_false c32
                                    clear c32
                                    have H' := Aside0.mk H
                                    clear H
                                    have p25 : 0 ≤ (x7_3 : Int) := of_decide_eq_true (by first | (with_reducible assumption) | assumption)
                                    have q25 : x7_3 < (a0.size : Int) := of_decide_eq_true (by first | (with_reducible assumption) | assumption)
                                    have hx25 := bt_at a0 x7_3
                                    replace p25 := eq_true p25
                                    replace q25 := eq_true q25
                                    have p27 : 0 ≤ (x7_3 : Int) := of_decide_eq_true (by first | (with_reducible assumption) | assumption)
                                    have q27 : x7_3 < (a0.size : Int) := of_decide_eq_true (by first | (with_reducible assumption) | assumption)
                                    have hx27 := bt_at a0 x7_3
                                    replace p27 := eq_true p27
                                    replace q27 := eq_true q27
                                    have p29 : 0 ≤ (x7_3 : Int) := of_decide_eq_true (by first | (with_reducible assumption) | assumption)
                                    have q29 : x7_3 < (a0.size : Int) := of_decide_eq_true (by first | (with_reducible assumption) | assumption)
                                    have hx29 := bt_at a0 x7_3
                                    replace p29 := eq_true p29
                                    replace q29 := eq_true q29
                                    have p31 : 0 ≤ (x7_3 : Int) := of_decide_eq_true (by first | (with_reducible assumption) | assumption)
                                    have q31 : x7_3 < (a0.size : Int) := of_decide_eq_true (by first | (with_reducible assumption) | assumption)
                                    have hx31 := bt_at a0 x7_3
                                    replace p31 := eq_true p31
                                    replace q31 := eq_true q31
                                    go_wp2
                                    go_roundg k3
                                    case measure => have := HJ4.out; have := HJ15.out; have := HK3.out; omega
                                    case rel => exact ⟨(wrap64 (x7_3 + 1)), (by first | rfl | (simp; done) | (simp [*]; done)), H', ⟨by have := HJ4.out; have := HJ15.out; have := HK3.out; omega⟩, by repeat (first | exact Drawn0.refl _ | apply Drawn0.step)⟩
                          · rw [if_neg c24] at H
                            exact absurd H (by simp)
                        · rw [if_neg c23] at H
                          have c23b0 : (x7_3 == 1) = false := beq_eq_false_iff_ne.mpr c23
                          have c23b1 : (x7_3 != 1) = true := bne_iff_ne.mpr c23
                          by_cases c33 : 0 ≤ x7_3
                          · rw [if_pos c33] at H
                            have c33b0 : decide (0 ≤ x7_3) = true := decide_eq_true c33
                            clear c33
                            by_cases c35 : (bt a0 x7_3) < 128
                            · rw [if_pos c35] at H
                              have c35b0 : decide ((bt a0 x7_3) < 128) = true := decide_eq_true c35
                              clear c35
                              obtain rfl := Option.some.inj H
                              have p34 : 0 ≤ (x7_3 : Int) := of_decide_eq_true (by first | (with_reducible assumption) | assumption)
                              have q34 : x7_3 < (a0.size : Int) := of_decide_eq_true (by first | (with_reducible assumption) | assumption)
                              have hx34 := bt_at a0 x7_3
                              replace p34 := eq_true p34
                              replace q34 := eq_true q34
                              go_wp2
                              go_ret
                              exact ⟨by first | rfl | (simp; done) | (simp [*]; done), by repeat (first | exact Drawn0.refl _ | apply Drawn0.step)⟩
                            · rw [if_neg c35] at H
                              have c35b0 : decide ((bt a0 x7_3) < 128) = false := decide_eq_false c35
                              clear c35
                              by_cases c37 : (bt a0 x7_3) > 191
                              · rw [if_pos c37] at H
                                have c37b0 : decide (191 < (bt a0 x7_3)) = true := decide_eq_true c37
                                clear c37
                                obtain rfl := Option.some.inj H
                                have p34 : 0 ≤ (x7_3 : Int) := of_decide_eq_true (by first | (with_reducible assumption) | assumption)
                                have q34 : x7_3 < (a0.size : Int) := of_decide_eq_true (by first | (with_reducible assumption) | assumption)
                                have hx34 := bt_at a0 x7_3
                                replace p34 := eq_true p34
                                replace q34 := eq_true q34
                                have p36 : 0 ≤ (x7_3 : Int) := of_decide_eq_true (by first | (with_reducible assumption) | assumption)
                                have q36 : x7_3 < (a0.size : Int) := of_decide_eq_true (by first | (with_reducible assumption) | assumption)
                                have hx36 := bt_at a0 x7_3
                                replace p36 := eq_true p36
                                replace q36 := eq_true q36
                                go_wp2
                                go_ret
                                exact ⟨by first | rfl | (simp; done) | (simp [*]; done), by repeat (first | exact Drawn0.refl _ | apply Drawn0.step)⟩
                              · rw [if_neg c37] at H
                                have c37b0 : decide (191 < (bt a0 x7_3)) = false := decide_eq_false c37
                                clear c37
                                have H' := Aside0.mk H
                                clear H
                                have p34 : 0 ≤ (x7_3 : Int) := of_decide_eq_true (by first | (with_reducible assumption) | assumption)
                                have q34 : x7_3 < (a0.size : Int) := of_decide_eq_true (by first | (with_reducible assumption) | assumption)
                                have hx34 := bt_at a0 x7_3
                                replace p34 := eq_true p34
                                replace q34 := eq_true q34
                                have p36 : 0 ≤ (x7_3 : Int) := of_decide_eq_true (by first | (with_reducible assumption) | assumption)
                                have q36 : x7_3 < (a0.size : Int) := of_decide_eq_true (by first | (with_reducible assumption) | assumption)
                                have hx36 := bt_at a0 x7_3
                                replace p36 := eq_true p36
                                replace q36 := eq_true q36
                                go_wp2
                                go_roundg k3
                                case measure => have := HJ4.out; have := HJ15.out; have := HK3.out; omega
                                case rel => exact ⟨(wrap64 (x7_3 + 1)), (by first | rfl | (simp; done) | (simp [*]; done)), H', ⟨by have := HJ4.out; have := HJ15.out; have := HK3.out; omega⟩, by repeat (first | exact Drawn0.refl _ | apply Drawn0.step)⟩
                          · rw [if_neg c33] at H
                            exact absurd H (by simp)
                      · rw [if_neg c22] at H
                        have c22b0 : decide (x7_3 < (a0.size : Int)) = false := decide_eq_false c22
                        clear c22
                        obtain rfl := Option.some.inj H
                        go_wp2
                        go_ret
                        exact ⟨by first | rfl | (simp; done) | (simp [*]; done), by repeat (first | exact Drawn0.refl _ | apply Drawn0.step)⟩
          · rw [if_neg c14] at H
            exact absurd H (by simp)
    · rw [if_neg c3] at H
      exact absurd H (by simp)

def W_spec_l02Begins.f (a0 : ByteArray) : Option (Bool) := if a0.size ≤ 1099511627776 then some (YtnonijganceneaaDoorDec.begins (bytesOf a0)) else none
theorem spec_l02Begins.getD (s : ByteArray) (i : Nat) : (bytesOf s).getD i 0 = bt s (i : Int) := by rw [← rd_bytesOf]; simp [rd]
theorem spec_l02Begins.tail (k : Nat) (s : ByteArray) (hs : s.size ≤ 3) (lo hi : Int) (hlo : 128 ≤ lo) (hhi : hi ≤ 191) :
    spec_l02Begins.l0 (k + 4) s lo hi 1 = some (decide ((1 < s.size → lo ≤ bt s 1 ∧ bt s 1 ≤ hi) ∧ (2 < s.size → 128 ≤ bt s 2 ∧ bt s 2 ≤ 191))) := by
  rw [spec_l02Begins.l0]
  by_cases c1 : 1 < s.size
  · rw [if_pos (by omega), if_pos rfl, if_pos (by omega)]
    by_cases g1 : lo ≤ bt s 1 ∧ bt s 1 ≤ hi
    · rw [if_neg (by omega), if_neg (by omega), if_neg (by omega), if_neg (by omega), show wrap64 ((1 : Int) + 1) = 2 from by unfold wrap64; omega, spec_l02Begins.l0]
      by_cases c2 : 2 < s.size
      · rw [if_pos (by omega), if_neg (by omega), if_pos (by omega)]
        by_cases g2 : 128 ≤ bt s 2 ∧ bt s 2 ≤ 191
        · rw [if_neg (by omega), if_neg (by omega), show wrap64 ((2 : Int) + 1) = 3 from by unfold wrap64; omega, spec_l02Begins.l0, if_neg (by omega), decide_eq_true ⟨fun _ => g1, fun _ => g2⟩]
        · rw [decide_eq_false (fun z => g2 (z.2 c2))]
          by_cases h : bt s 2 < 128
          · rw [if_pos h]
          · rw [if_neg h, if_pos (by omega)]
      · rw [if_neg (by omega), decide_eq_true ⟨fun _ => g1, fun z => absurd z c2⟩]
    · rw [decide_eq_false (fun z => g1 (z.1 c1))]
      by_cases h : bt s 1 < lo
      · rw [if_pos h]
      · rw [if_neg h, if_pos (by omega)]
  · rw [if_neg (by omega), decide_eq_true ⟨fun z => absurd z c1, fun z => absurd z (by omega)⟩]
theorem spec_l02Begins.mid (k : Nat) (s : ByteArray) (h0 : 0 < s.size) (m : Nat) (hm : m ≤ 3) :
    spec_l02Begins.j2 (k + 6) s 128 191 (m : Int) = some (decide (s.size ≤ m ∧ (1 < s.size → YtnonijganceneaaDoorDec.low (bt s 0) ≤ bt s 1 ∧ bt s 1 ≤ YtnonijganceneaaDoorDec.high (bt s 0)) ∧ (2 < s.size → 128 ≤ bt s 2 ∧ bt s 2 ≤ 191))) := by
  have fin : ∀ lo hi : Int, 128 ≤ lo → hi ≤ 191 → spec_l02Begins.j3 (k + 5) s lo hi (m : Int) = some (decide (s.size ≤ m ∧ (1 < s.size → lo ≤ bt s 1 ∧ bt s 1 ≤ hi) ∧ (2 < s.size → 128 ≤ bt s 2 ∧ bt s 2 ≤ 191))) := by
    intro lo hi h1 h2
    rw [spec_l02Begins.j3]
    by_cases c : (s.size : Int) > (m : Int)
    · rw [if_pos c, decide_eq_false (fun z => absurd z.1 (by omega))]
    · rw [if_neg c, spec_l02Begins.tail k s (by omega) lo hi h1 h2]
      congr 1
      apply decide_eq_decide.2
      constructor
      · intro z; exact ⟨by omega, z⟩
      · intro z; exact z.2
  rw [spec_l02Begins.j2, if_pos (by omega)]
  unfold YtnonijganceneaaDoorDec.low YtnonijganceneaaDoorDec.high
  by_cases c1 : bt s 0 = 224
  · rw [if_pos c1, if_pos c1, if_neg (by omega), if_neg (by omega)]; exact fin _ _ (by omega) (by omega)
  · rw [if_neg c1, if_neg c1]
    by_cases c2 : bt s 0 = 237
    · rw [if_pos c2, if_neg (by omega), if_pos c2]; exact fin _ _ (by omega) (by omega)
    · rw [if_neg c2, if_neg c2]
      by_cases c3 : bt s 0 = 240
      · rw [if_pos c3, if_pos c3, if_neg (by omega)]; exact fin _ _ (by omega) (by omega)
      · rw [if_neg c3, if_neg c3]
        by_cases c4 : bt s 0 = 244
        · rw [if_pos c4, if_pos c4]; exact fin _ _ (by omega) (by omega)
        · rw [if_neg c4, if_neg c4]; exact fin _ _ (by omega) (by omega)
theorem spec_l02Begins.eq (s : ByteArray) (hs : s.size ≤ 1099511627776) : spec_l02Begins.f 20 s = some (YtnonijganceneaaDoorDec.begins (bytesOf s)) := by
  unfold spec_l02Begins.f YtnonijganceneaaDoorDec.begins
  rw [bytesOf_length, spec_l02Begins.getD, spec_l02Begins.getD, spec_l02Begins.getD]
  by_cases e : s.toList = []
  · rw [if_pos e]
    have h0 : s.size = 0 := by rw [← data_length, ← ByteArray.toList_eq, e]; rfl
    unfold YtnonijganceneaaDoorDec.beginsN
    rw [decide_eq_false (fun z => absurd z.1 (by omega))]
  · rw [if_neg e]
    have h0 : 0 < s.size := by
      rcases Nat.eq_zero_or_pos s.size with h | h
      · exact absurd (List.eq_nil_of_length_eq_zero (by rw [ByteArray.toList_eq, data_length]; exact h)) e
      · exact h
    rw [if_pos (by omega)]
    have fin : ∀ (k m : Nat), m ≤ 3 → YtnonijganceneaaDoorDec.most (bt s 0) = m + 1 ∨ (YtnonijganceneaaDoorDec.most (bt s 0) = 0 ∧ m = 0) → spec_l02Begins.j2 (k + 6) s 128 191 (m : Int) = some (YtnonijganceneaaDoorDec.beginsN s.size (bt s ((0 : Nat) : Int)) (bt s ((1 : Nat) : Int)) (bt s ((2 : Nat) : Int))) := by
      intro k m hm hmost
      rw [spec_l02Begins.mid k s h0 m hm]
      unfold YtnonijganceneaaDoorDec.beginsN
      congr 1
      apply decide_eq_decide.2
      constructor
      · rintro ⟨z1, z2, z3⟩; exact ⟨h0, by show s.size + 1 ≤ YtnonijganceneaaDoorDec.most (bt s 0); omega, z2, z3⟩
      · rintro ⟨_, z1, z2, z3⟩
        have z1 : s.size + 1 ≤ YtnonijganceneaaDoorDec.most (bt s 0) := z1
        exact ⟨by omega, z2, z3⟩
    have hr := bt_range s 0
    by_cases c1 : bt s 0 ≥ 194
    · rw [if_pos c1]
      by_cases c2 : bt s 0 ≤ 223
      · rw [decide_eq_true c2, spec_l02Begins.j0, if_pos rfl]
        exact fin _ 1 (by omega) (.inl (by unfold YtnonijganceneaaDoorDec.most; rw [if_neg (by omega), if_pos (by omega)]))
      · rw [decide_eq_false c2, spec_l02Begins.j0, if_neg (by decide)]
        by_cases c3 : bt s 0 ≥ 224
        · rw [if_pos c3]
          by_cases c4 : bt s 0 ≤ 239
          · rw [decide_eq_true c4, spec_l02Begins.j1, if_pos rfl]
            exact fin _ 2 (by omega) (.inl (by unfold YtnonijganceneaaDoorDec.most; rw [if_neg (by omega), if_neg (by omega), if_pos (by omega)]))
          · rw [decide_eq_false c4, spec_l02Begins.j1, if_neg (by decide), if_pos (by omega)]
            by_cases c5 : bt s 0 ≤ 244
            · rw [if_pos c5]
              exact fin _ 3 (by omega) (.inl (by unfold YtnonijganceneaaDoorDec.most; rw [if_neg (by omega), if_neg (by omega), if_neg (by omega), if_pos (by omega)]))
            · rw [if_neg c5]
              exact fin _ 0 (by omega) (.inr ⟨by unfold YtnonijganceneaaDoorDec.most; rw [if_neg (by omega), if_neg (by omega), if_neg (by omega), if_neg (by omega)], rfl⟩)
        · omega
    · rw [if_neg c1, spec_l02Begins.j0, if_neg (by decide), if_neg (by omega), spec_l02Begins.j1, if_neg (by decide), if_neg (by omega)]
      refine fin _ 0 (by omega) ?_
      by_cases c2 : bt s 0 < 128
      · exact .inl (by unfold YtnonijganceneaaDoorDec.most; rw [if_pos c2])
      · exact .inr ⟨by unfold YtnonijganceneaaDoorDec.most; rw [if_neg (by omega), if_neg (by omega), if_neg (by omega), if_neg (by omega)], rfl⟩
theorem W_spec_l02Begins.to {a0 : ByteArray} {r : Bool} (h : W_spec_l02Begins.f a0 = some r) : ∃ k, spec_l02Begins.f k a0 = some r := by
  unfold W_spec_l02Begins.f at h
  split at h
  · rename_i hs
    exact ⟨20, by rw [← h]; exact spec_l02Begins.eq a0 hs⟩
  · cases h
theorem W_spec_l02Begins.calls (a0 : ByteArray) (r : Bool) (w : World) (h : W_spec_l02Begins.f a0 = some r) :
    Calls Tryd.prog 218 #[.string a0] w fun e w' => e = .returned (.bool r) ∧ Drawn0 w w' := by
  obtain ⟨k, hk⟩ := W_spec_l02Begins.to h
  exact spec_l02Begins.calls k a0 r w hk

end Go.Proofs.YtnonijganceneaaDoor.QFnExactEndDecoder
