/- The law FnQuick: at every input the call answers true (this text: contracts on its way, by a program of this session's; no condition of ours). -/
import Derived.Test.YtiabgmddnddeiaaDoorQFnQuickx0
import Derived.Test.YtiabgmddnddeiaaDoorQFnQuickx1
import Derived.Test.YtiabgmddnddeiaaDoorQFnQuickx6
import Derived.Test.YtiabgmddnddeiaaDoorQFnQuickx7
import Derived.Test.YtiabgmddnddeiaaDoorQFnQuickx8
import Derived.Test.YtiabgmddnddeiaaDoorQFnQuickx9
import Derived.Test.YtiabgmddnddeiaaDoorQFnQuickx13
namespace Go.Proofs.YtiabgmddnddeiaaDoor.QFnQuick
open Go.RowKit Go.Proofs.YtiabgmddnddeiaaDoorW.PrintWords Go.Proofs.YtiabgmddnddeiaaDoorW.PrintLast Go.Proofs.YtiabgmddnddeiaaDoorW.PrintMore
attribute [local go_sem] max2_int min2_int max_two min_two max_three min_three max_four min_four   -- for this text's walks alone
set_option linter.unusedVariables false
set_option linter.unusedSimpArgs false

/-! ### spec_l05Second: function 147 -/
def spec_l05Second.f (a0 : Int) : Option (Bool) := if a0 ≥ 4096 then (if a0 ≤ 4103 then (some true) else (if a0 ≥ 4112 then (if a0 ≤ 4119 then (some true) else (if a0 ≥ 1824 then (if a0 ≤ 1844 then (some true) else (if a0 ≥ 1857 then (some (decide (a0 ≤ 1883))) else (some false))) else (if a0 ≥ 1857 then (some (decide (a0 ≤ 1883))) else (some false)))) else (if a0 ≥ 1824 then (if a0 ≤ 1844 then (some true) else (if a0 ≥ 1857 then (some (decide (a0 ≤ 1883))) else (some false))) else (if a0 ≥ 1857 then (some (decide (a0 ≤ 1883))) else (some false))))) else (if a0 ≥ 4112 then (if a0 ≤ 4119 then (some true) else (if a0 ≥ 1824 then (if a0 ≤ 1844 then (some true) else (if a0 ≥ 1857 then (some (decide (a0 ≤ 1883))) else (some false))) else (if a0 ≥ 1857 then (some (decide (a0 ≤ 1883))) else (some false)))) else (if a0 ≥ 1824 then (if a0 ≤ 1844 then (some true) else (if a0 ≥ 1857 then (some (decide (a0 ≤ 1883))) else (some false))) else (if a0 ≥ 1857 then (some (decide (a0 ≤ 1883))) else (some false))))
set_option maxHeartbeats 8000000 in
set_option maxRecDepth 100000 in
theorem spec_l05Second.calls (a0 : Int) (r : Bool) (w : World) (h : spec_l05Second.f a0 = some r) :
  Calls Tryd.prog 147 #[.int .i64 a0] w fun e w' => e = .returned (.bool r) ∧ Drawn0 w w' := by
 have H : (if a0 ≥ 4096 then (if a0 ≤ 4103 then (some true) else (if a0 ≥ 4112 then (if a0 ≤ 4119 then (some true) else (if a0 ≥ 1824 then (if a0 ≤ 1844 then (some true) else (if a0 ≥ 1857 then (some (decide (a0 ≤ 1883))) else (some false))) else (if a0 ≥ 1857 then (some (decide (a0 ≤ 1883))) else (some false)))) else (if a0 ≥ 1824 then (if a0 ≤ 1844 then (some true) else (if a0 ≥ 1857 then (some (decide (a0 ≤ 1883))) else (some false))) else (if a0 ≥ 1857 then (some (decide (a0 ≤ 1883))) else (some false))))) else (if a0 ≥ 4112 then (if a0 ≤ 4119 then (some true) else (if a0 ≥ 1824 then (if a0 ≤ 1844 then (some true) else (if a0 ≥ 1857 then (some (decide (a0 ≤ 1883))) else (some false))) else (if a0 ≥ 1857 then (some (decide (a0 ≤ 1883))) else (some false)))) else (if a0 ≥ 1824 then (if a0 ≤ 1844 then (some true) else (if a0 ≥ 1857 then (some (decide (a0 ≤ 1883))) else (some false))) else (if a0 ≥ 1857 then (some (decide (a0 ≤ 1883))) else (some false))))) = some r := h
 clear h
 by_cases c2 : a0 ≥ 4096
 ·rw [if_pos c2] at H
  have c2b0 : decide (4096 ≤ a0) = true := decide_eq_true c2; clear c2
  by_cases c3 : a0 ≤ 4103
  ·rw [if_pos c3] at H
   have c3b0 : decide (a0 ≤ 4103) = true := decide_eq_true c3; clear c3; obtain rfl := Option.some.inj H
   go_enter Tryd.func147, Tryd.ntmps147
   go_wp2
   go_ret
   exact ⟨by first | rfl | (simp; done) | (simp [*]; done), by repeat (first | exact Drawn0.refl _ | apply Drawn0.step)⟩
  rw [if_neg c3] at H; have c3b0 : decide (a0 ≤ 4103) = false := decide_eq_false c3; clear c3
  by_cases c4 : a0 ≥ 4112
  ·rw [if_pos c4] at H
   have c4b0 : decide (4112 ≤ a0) = true := decide_eq_true c4; clear c4
   by_cases c5 : a0 ≤ 4119
   ·rw [if_pos c5] at H
    have c5b0 : decide (a0 ≤ 4119) = true := decide_eq_true c5; clear c5; obtain rfl := Option.some.inj H
    go_enter Tryd.func147, Tryd.ntmps147
    go_wp2
    go_ret
    exact ⟨by first | rfl | (simp; done) | (simp [*]; done), by repeat (first | exact Drawn0.refl _ | apply Drawn0.step)⟩
   rw [if_neg c5] at H; have c5b0 : decide (a0 ≤ 4119) = false := decide_eq_false c5; clear c5
   by_cases c6 : a0 ≥ 1824
   ·rw [if_pos c6] at H
    have c6b0 : decide (1824 ≤ a0) = true := decide_eq_true c6; clear c6
    by_cases c7 : a0 ≤ 1844
    ·rw [if_pos c7] at H
     have c7b0 : decide (a0 ≤ 1844) = true := decide_eq_true c7; clear c7; obtain rfl := Option.some.inj H
     go_enter Tryd.func147, Tryd.ntmps147
     go_wp2
     go_ret
     exact ⟨by first | rfl | (simp; done) | (simp [*]; done), by repeat (first | exact Drawn0.refl _ | apply Drawn0.step)⟩
    rw [if_neg c7] at H; have c7b0 : decide (a0 ≤ 1844) = false := decide_eq_false c7; clear c7
    by_cases c8 : a0 ≥ 1857
    ·rw [if_pos c8] at H
     have c8b0 : decide (1857 ≤ a0) = true := decide_eq_true c8; clear c8; obtain rfl := Option.some.inj H
     go_enter Tryd.func147, Tryd.ntmps147
     go_wp2
     go_ret
     exact ⟨by first | rfl | (simp; done) | (simp [*]; done), by repeat (first | exact Drawn0.refl _ | apply Drawn0.step)⟩
    rw [if_neg c8] at H; have c8b0 : decide (1857 ≤ a0) = false := decide_eq_false c8; clear c8; obtain rfl := Option.some.inj H
    go_enter Tryd.func147, Tryd.ntmps147
    go_wp2
    go_ret
    exact ⟨by first | rfl | (simp; done) | (simp [*]; done), by repeat (first | exact Drawn0.refl _ | apply Drawn0.step)⟩
   rw [if_neg c6] at H; have c6b0 : decide (1824 ≤ a0) = false := decide_eq_false c6; clear c6
   by_cases c9 : a0 ≥ 1857
   ·rw [if_pos c9] at H
    have c9b0 : decide (1857 ≤ a0) = true := decide_eq_true c9; clear c9; obtain rfl := Option.some.inj H
    go_enter Tryd.func147, Tryd.ntmps147
    go_wp2
    go_ret
    exact ⟨by first | rfl | (simp; done) | (simp [*]; done), by repeat (first | exact Drawn0.refl _ | apply Drawn0.step)⟩
   rw [if_neg c9] at H; have c9b0 : decide (1857 ≤ a0) = false := decide_eq_false c9; clear c9; obtain rfl := Option.some.inj H
   go_enter Tryd.func147, Tryd.ntmps147
   go_wp2
   go_ret
   exact ⟨by first | rfl | (simp; done) | (simp [*]; done), by repeat (first | exact Drawn0.refl _ | apply Drawn0.step)⟩
  rw [if_neg c4] at H; have c4b0 : decide (4112 ≤ a0) = false := decide_eq_false c4; clear c4
  by_cases c10 : a0 ≥ 1824
  ·rw [if_pos c10] at H
   have c10b0 : decide (1824 ≤ a0) = true := decide_eq_true c10; clear c10
   by_cases c11 : a0 ≤ 1844
   ·rw [if_pos c11] at H
    have c11b0 : decide (a0 ≤ 1844) = true := decide_eq_true c11; clear c11; obtain rfl := Option.some.inj H
    go_enter Tryd.func147, Tryd.ntmps147
    go_wp2
    go_ret
    exact ⟨by first | rfl | (simp; done) | (simp [*]; done), by repeat (first | exact Drawn0.refl _ | apply Drawn0.step)⟩
   rw [if_neg c11] at H; have c11b0 : decide (a0 ≤ 1844) = false := decide_eq_false c11; clear c11
   by_cases c12 : a0 ≥ 1857
   ·rw [if_pos c12] at H
    have c12b0 : decide (1857 ≤ a0) = true := decide_eq_true c12; clear c12; obtain rfl := Option.some.inj H
    go_enter Tryd.func147, Tryd.ntmps147
    go_wp2
    go_ret
    exact ⟨by first | rfl | (simp; done) | (simp [*]; done), by repeat (first | exact Drawn0.refl _ | apply Drawn0.step)⟩
   rw [if_neg c12] at H; have c12b0 : decide (1857 ≤ a0) = false := decide_eq_false c12; clear c12; obtain rfl := Option.some.inj H
   go_enter Tryd.func147, Tryd.ntmps147
   go_wp2
   go_ret
   exact ⟨by first | rfl | (simp; done) | (simp [*]; done), by repeat (first | exact Drawn0.refl _ | apply Drawn0.step)⟩
  rw [if_neg c10] at H; have c10b0 : decide (1824 ≤ a0) = false := decide_eq_false c10; clear c10
  by_cases c13 : a0 ≥ 1857
  ·rw [if_pos c13] at H
   have c13b0 : decide (1857 ≤ a0) = true := decide_eq_true c13; clear c13; obtain rfl := Option.some.inj H
   go_enter Tryd.func147, Tryd.ntmps147
   go_wp2
   go_ret
   exact ⟨by first | rfl | (simp; done) | (simp [*]; done), by repeat (first | exact Drawn0.refl _ | apply Drawn0.step)⟩
  rw [if_neg c13] at H; have c13b0 : decide (1857 ≤ a0) = false := decide_eq_false c13; clear c13; obtain rfl := Option.some.inj H
  go_enter Tryd.func147, Tryd.ntmps147
  go_wp2
  go_ret
  exact ⟨by first | rfl | (simp; done) | (simp [*]; done), by repeat (first | exact Drawn0.refl _ | apply Drawn0.step)⟩
 rw [if_neg c2] at H
 have c2b0 : decide (4096 ≤ a0) = false := decide_eq_false c2
 clear c2
 by_cases c14 : a0 ≥ 4112
 ·rw [if_pos c14] at H
  have c14b0 : decide (4112 ≤ a0) = true := decide_eq_true c14; clear c14
  by_cases c15 : a0 ≤ 4119
  ·rw [if_pos c15] at H
   have c15b0 : decide (a0 ≤ 4119) = true := decide_eq_true c15; clear c15; obtain rfl := Option.some.inj H
   go_enter Tryd.func147, Tryd.ntmps147
   go_wp2
   go_ret
   exact ⟨by first | rfl | (simp; done) | (simp [*]; done), by repeat (first | exact Drawn0.refl _ | apply Drawn0.step)⟩
  rw [if_neg c15] at H; have c15b0 : decide (a0 ≤ 4119) = false := decide_eq_false c15; clear c15
  by_cases c16 : a0 ≥ 1824
  ·rw [if_pos c16] at H
   have c16b0 : decide (1824 ≤ a0) = true := decide_eq_true c16; clear c16
   by_cases c17 : a0 ≤ 1844
   ·rw [if_pos c17] at H
    have c17b0 : decide (a0 ≤ 1844) = true := decide_eq_true c17; clear c17; obtain rfl := Option.some.inj H
    go_enter Tryd.func147, Tryd.ntmps147
    go_wp2
    go_ret
    exact ⟨by first | rfl | (simp; done) | (simp [*]; done), by repeat (first | exact Drawn0.refl _ | apply Drawn0.step)⟩
   rw [if_neg c17] at H; have c17b0 : decide (a0 ≤ 1844) = false := decide_eq_false c17; clear c17
   by_cases c18 : a0 ≥ 1857
   ·rw [if_pos c18] at H
    have c18b0 : decide (1857 ≤ a0) = true := decide_eq_true c18; clear c18; obtain rfl := Option.some.inj H
    go_enter Tryd.func147, Tryd.ntmps147
    go_wp2
    go_ret
    exact ⟨by first | rfl | (simp; done) | (simp [*]; done), by repeat (first | exact Drawn0.refl _ | apply Drawn0.step)⟩
   rw [if_neg c18] at H; have c18b0 : decide (1857 ≤ a0) = false := decide_eq_false c18; clear c18; obtain rfl := Option.some.inj H
   go_enter Tryd.func147, Tryd.ntmps147
   go_wp2
   go_ret
   exact ⟨by first | rfl | (simp; done) | (simp [*]; done), by repeat (first | exact Drawn0.refl _ | apply Drawn0.step)⟩
  rw [if_neg c16] at H; have c16b0 : decide (1824 ≤ a0) = false := decide_eq_false c16; clear c16
  by_cases c19 : a0 ≥ 1857
  ·rw [if_pos c19] at H
   have c19b0 : decide (1857 ≤ a0) = true := decide_eq_true c19; clear c19; obtain rfl := Option.some.inj H
   go_enter Tryd.func147, Tryd.ntmps147
   go_wp2
   go_ret
   exact ⟨by first | rfl | (simp; done) | (simp [*]; done), by repeat (first | exact Drawn0.refl _ | apply Drawn0.step)⟩
  rw [if_neg c19] at H; have c19b0 : decide (1857 ≤ a0) = false := decide_eq_false c19; clear c19; obtain rfl := Option.some.inj H
  go_enter Tryd.func147, Tryd.ntmps147
  go_wp2
  go_ret
  exact ⟨by first | rfl | (simp; done) | (simp [*]; done), by repeat (first | exact Drawn0.refl _ | apply Drawn0.step)⟩
 rw [if_neg c14] at H
 have c14b0 : decide (4112 ≤ a0) = false := decide_eq_false c14
 clear c14
 by_cases c20 : a0 ≥ 1824
 ·rw [if_pos c20] at H
  have c20b0 : decide (1824 ≤ a0) = true := decide_eq_true c20; clear c20
  by_cases c21 : a0 ≤ 1844
  ·rw [if_pos c21] at H
   have c21b0 : decide (a0 ≤ 1844) = true := decide_eq_true c21; clear c21; obtain rfl := Option.some.inj H
   go_enter Tryd.func147, Tryd.ntmps147
   go_wp2
   go_ret
   exact ⟨by first | rfl | (simp; done) | (simp [*]; done), by repeat (first | exact Drawn0.refl _ | apply Drawn0.step)⟩
  rw [if_neg c21] at H; have c21b0 : decide (a0 ≤ 1844) = false := decide_eq_false c21; clear c21
  by_cases c22 : a0 ≥ 1857
  ·rw [if_pos c22] at H
   have c22b0 : decide (1857 ≤ a0) = true := decide_eq_true c22; clear c22; obtain rfl := Option.some.inj H
   go_enter Tryd.func147, Tryd.ntmps147
   go_wp2
   go_ret
   exact ⟨by first | rfl | (simp; done) | (simp [*]; done), by repeat (first | exact Drawn0.refl _ | apply Drawn0.step)⟩
  rw [if_neg c22] at H; have c22b0 : decide (1857 ≤ a0) = false := decide_eq_false c22; clear c22; obtain rfl := Option.some.inj H
  go_enter Tryd.func147, Tryd.ntmps147
  go_wp2
  go_ret
  exact ⟨by first | rfl | (simp; done) | (simp [*]; done), by repeat (first | exact Drawn0.refl _ | apply Drawn0.step)⟩
 rw [if_neg c20] at H
 have c20b0 : decide (1824 ≤ a0) = false := decide_eq_false c20
 clear c20
 by_cases c23 : a0 ≥ 1857
 ·rw [if_pos c23] at H
  have c23b0 : decide (1857 ≤ a0) = true := decide_eq_true c23; clear c23; obtain rfl := Option.some.inj H
  go_enter Tryd.func147, Tryd.ntmps147
  go_wp2
  go_ret
  exact ⟨by first | rfl | (simp; done) | (simp [*]; done), by repeat (first | exact Drawn0.refl _ | apply Drawn0.step)⟩
 rw [if_neg c23] at H
 have c23b0 : decide (1857 ≤ a0) = false := decide_eq_false c23
 clear c23
 obtain rfl := Option.some.inj H
 go_enter Tryd.func147, Tryd.ntmps147
 go_wp2
 go_ret
 exact ⟨by first | rfl | (simp; done) | (simp [*]; done), by repeat (first | exact Drawn0.refl _ | apply Drawn0.step)⟩

theorem spec_l05Second.eq (p : Int) : spec_l05Second.f p = some (decide (YtiabgmddnddeiaaDoorNrm.second p)) := by
  unfold spec_l05Second.f
  repeat' split
  all_goals first
    | (congr 1; symm; exact decide_eq_true (by unfold YtiabgmddnddeiaaDoorNrm.second; omega))
    | (congr 1; symm; exact decide_eq_false (by unfold YtiabgmddnddeiaaDoorNrm.second; omega))
    | (congr 1; rw [decide_eq_decide]; unfold YtiabgmddnddeiaaDoorNrm.second; omega)

/-! ### spec_QuickCheck: function 60 -/
mutual
def spec_QuickCheck.j0 : Nat → Int → ByteArray → Bool → Option (Int)
 | 0, _, _, _ => none
 | k + 1, x0, x1, x20 => if x20 = true then (some 0) else (spec_QuickCheck.l0 k x0 x1 0 1 0)
def spec_QuickCheck.l0 : Nat → Int → ByteArray → Int → Int → Int → Option (Int)
 | 0, _, _, _, _, _ => none
 | k + 1, x0, x1, x5, x6, x7 => if x7 < (x1.size : Int) then ((W_spec_l01Next.f x1 x7).bind fun bt330 => ((W_spec_l01Class.f bt330.1).bind fun t333 => (if bt330.2.2 = true then (if t333 = 0 then (spec_QuickCheck.j2 k x0 x1 x6 x7 bt330.1 bt330.2.1 t333 false) else (spec_QuickCheck.j2 k x0 x1 x6 x7 bt330.1 bt330.2.1 t333 (decide (t333 < x5)))) else (spec_QuickCheck.j2 k x0 x1 x6 x7 bt330.1 bt330.2.1 t333 true)))) else (some x6)
def spec_QuickCheck.j2 : Nat → Int → ByteArray → Int → Int → Int → Int → Int → Bool → Option (Int)
 | 0, _, _, _, _, _, _, _, _ => none
 | k + 1, x0, x1, x6, x7, x8, x9, x11, x44 => if x44 = true then (some 2) else ((W_spec_l05Norm.f x0 (([x8] : List Int))).bind fun t337 => (if (t337.length : Int) = 1 then (if 0 < (t337.length : Int) then (spec_QuickCheck.j3 k x0 x1 x6 x7 x8 x9 x11 ((rd t337 0) != x8)) else (none)) else (spec_QuickCheck.j3 k x0 x1 x6 x7 x8 x9 x11 true)))
def spec_QuickCheck.j3 : Nat → Int → ByteArray → Int → Int → Int → Int → Int → Bool → Option (Int)
 | 0, _, _, _, _, _, _, _, _ => none
 | k + 1, x0, x1, x6, x7, x8, x9, x11, x58 => if x58 = true then (some 2) else ((spec_l05C.f x0).bind fun t341 => (if t341 = true then ((spec_l05Second.f x8).bind fun t342 => (if t342 = true then (spec_QuickCheck.l0 k x0 x1 x11 3 (wrap64 (x7 + x9))) else (spec_QuickCheck.l0 k x0 x1 x11 x6 (wrap64 (x7 + x9))))) else (spec_QuickCheck.l0 k x0 x1 x11 x6 (wrap64 (x7 + x9)))))
end
def spec_QuickCheck.f (k : Nat) (a0 : Int) (a1 : ByteArray) : Option (Int) := if (a1.size : Int) > 65536 then (spec_QuickCheck.j0 k a0 a1 true) else ((spec_l05IsForm.f a0).bind fun t329 => (spec_QuickCheck.j0 k a0 a1 (!t329)))
theorem spec_QuickCheck.mono_l : ∀ k, (∀ y0 y1 y2, LeO (spec_QuickCheck.j0 k y0 y1 y2) (spec_QuickCheck.j0 (k + 1) y0 y1 y2)) ∧ (∀ y0 y1 y2 y3 y4, LeO (spec_QuickCheck.l0 k y0 y1 y2 y3 y4) (spec_QuickCheck.l0 (k + 1) y0 y1 y2 y3 y4)) ∧ (∀ y0 y1 y2 y3 y4 y5 y6 y7, LeO (spec_QuickCheck.j2 k y0 y1 y2 y3 y4 y5 y6 y7) (spec_QuickCheck.j2 (k + 1) y0 y1 y2 y3 y4 y5 y6 y7)) ∧ (∀ y0 y1 y2 y3 y4 y5 y6 y7, LeO (spec_QuickCheck.j3 k y0 y1 y2 y3 y4 y5 y6 y7) (spec_QuickCheck.j3 (k + 1) y0 y1 y2 y3 y4 y5 y6 y7))
 | 0 => ⟨fun _ _ _ r h => by simp [spec_QuickCheck.j0] at h, fun _ _ _ _ _ r h => by simp [spec_QuickCheck.l0] at h, fun _ _ _ _ _ _ _ _ r h => by simp [spec_QuickCheck.j2] at h, fun _ _ _ _ _ _ _ _ r h => by simp [spec_QuickCheck.j3] at h⟩
 | k + 1 => by
  obtain ⟨ih0, ih1, ih2, ih3⟩ := spec_QuickCheck.mono_l k; refine ⟨?_, ?_, ?_, ?_⟩
  ·intro y0 y1 y2
   unfold spec_QuickCheck.j0
   repeat' first
   | (with_reducible exact ih0 _ _ _)
   | (with_reducible exact ih1 _ _ _ _ _)
   | (with_reducible exact ih2 _ _ _ _ _ _ _ _)
   | (with_reducible exact ih3 _ _ _ _ _ _ _ _)
   | (with_reducible exact LeO.refl _)
   | (with_reducible exact LeO.none _)
   | (with_reducible refine LeO.ite ?_ ?_)
   | (with_reducible refine LeO.bind ?_ (fun _ => ?_))
   | exact ih0 _ _ _
   | exact ih1 _ _ _ _ _
   | exact ih2 _ _ _ _ _ _ _ _
   | exact ih3 _ _ _ _ _ _ _ _
   | exact LeO.none _
   | refine LeO.ite ?_ ?_
   | refine LeO.bind ?_ (fun _ => ?_)
  ·intro y0 y1 y2 y3 y4
   unfold spec_QuickCheck.l0
   repeat' first
   | (with_reducible exact ih0 _ _ _)
   | (with_reducible exact ih1 _ _ _ _ _)
   | (with_reducible exact ih2 _ _ _ _ _ _ _ _)
   | (with_reducible exact ih3 _ _ _ _ _ _ _ _)
   | (with_reducible exact LeO.refl _)
   | (with_reducible exact LeO.none _)
   | (with_reducible refine LeO.ite ?_ ?_)
   | (with_reducible refine LeO.bind ?_ (fun _ => ?_))
   | exact ih0 _ _ _
   | exact ih1 _ _ _ _ _
   | exact ih2 _ _ _ _ _ _ _ _
   | exact ih3 _ _ _ _ _ _ _ _
   | exact LeO.none _
   | refine LeO.ite ?_ ?_
   | refine LeO.bind ?_ (fun _ => ?_)
  ·intro y0 y1 y2 y3 y4 y5 y6 y7
   unfold spec_QuickCheck.j2
   repeat' first
   | (with_reducible exact ih0 _ _ _)
   | (with_reducible exact ih1 _ _ _ _ _)
   | (with_reducible exact ih2 _ _ _ _ _ _ _ _)
   | (with_reducible exact ih3 _ _ _ _ _ _ _ _)
   | (with_reducible exact LeO.refl _)
   | (with_reducible exact LeO.none _)
   | (with_reducible refine LeO.ite ?_ ?_)
   | (with_reducible refine LeO.bind ?_ (fun _ => ?_))
   | exact ih0 _ _ _
   | exact ih1 _ _ _ _ _
   | exact ih2 _ _ _ _ _ _ _ _
   | exact ih3 _ _ _ _ _ _ _ _
   | exact LeO.none _
   | refine LeO.ite ?_ ?_
   | refine LeO.bind ?_ (fun _ => ?_)
  intro y0 y1 y2 y3 y4 y5 y6 y7
  unfold spec_QuickCheck.j3
  repeat' first
  | (with_reducible exact ih0 _ _ _)
  | (with_reducible exact ih1 _ _ _ _ _)
  | (with_reducible exact ih2 _ _ _ _ _ _ _ _)
  | (with_reducible exact ih3 _ _ _ _ _ _ _ _)
  | (with_reducible exact LeO.refl _)
  | (with_reducible exact LeO.none _)
  | (with_reducible refine LeO.ite ?_ ?_)
  | (with_reducible refine LeO.bind ?_ (fun _ => ?_))
  | exact ih0 _ _ _
  | exact ih1 _ _ _ _ _
  | exact ih2 _ _ _ _ _ _ _ _
  | exact ih3 _ _ _ _ _ _ _ _
  | exact LeO.none _
  | refine LeO.ite ?_ ?_
  | refine LeO.bind ?_ (fun _ => ?_)
theorem spec_QuickCheck.mono : ∀ a0 a1 k, LeO (spec_QuickCheck.f k a0 a1) (spec_QuickCheck.f (k + 1) a0 a1) := by
 intro a0 a1 k
 obtain ⟨ih0, ih1, ih2, ih3⟩ := spec_QuickCheck.mono_l k
 unfold spec_QuickCheck.f
 repeat' first
   | (with_reducible exact ih0 _ _ _)
   | (with_reducible exact ih1 _ _ _ _ _)
   | (with_reducible exact ih2 _ _ _ _ _ _ _ _)
   | (with_reducible exact ih3 _ _ _ _ _ _ _ _)
   | (with_reducible exact LeO.refl _)
   | (with_reducible exact LeO.none _)
   | (with_reducible refine LeO.ite ?_ ?_)
   | (with_reducible refine LeO.bind ?_ (fun _ => ?_))
   | exact ih0 _ _ _
   | exact ih1 _ _ _ _ _
   | exact ih2 _ _ _ _ _ _ _ _
   | exact ih3 _ _ _ _ _ _ _ _
   | exact LeO.none _
   | refine LeO.ite ?_ ?_
   | refine LeO.bind ?_ (fun _ => ?_)
set_option maxHeartbeats 8000000 in
set_option maxRecDepth 100000 in
theorem spec_QuickCheck.calls (k : Nat) (a0 : Int) (a1 : ByteArray) (r : Int) (w : World) (h : spec_QuickCheck.f k a0 a1 = some r) :
  Calls Tryd.prog 60 #[.int .i64 a0, .string a1] w fun e w' => e = .returned (.int .i64 r) ∧ Below w.heap.size w w' := by
 have HB := Aside0.mk (Below.refl w.heap.size w)
 have H : (if (a1.size : Int) > 65536 then (spec_QuickCheck.j0 k a0 a1 true) else ((spec_l05IsForm.f a0).bind fun t329 => (spec_QuickCheck.j0 k a0 a1 (!t329)))) = some r := h
 clear h
 have HC3 := Aside0.mk H
 clear H
 go_enter Tryd.func60, Tryd.ntmps60
 go_upto_region 1 with (fail)
 go_cut [20] (fun v20 wc => ∃ (kq : Nat) (x20_2 : Bool), v20 = .bool x20_2 ∧ Aside0 (spec_QuickCheck.j0 kq a0 a1 x20_2 = some r) ∧ Aside0 (kq ≤ k) ∧ Aside0 (Below w.heap.size w wc))
 case first =>
  have H := HC3.out; clear HC3
  by_cases c4 : (a1.size : Int) > 65536
  ·rw [if_pos c4] at H
   have c4b0 : decide (65536 < (a1.size : Int)) = true := decide_eq_true c4
   have c4b1 : decide (65536 < a1.size) = true := decide_eq_true (by omega)
   clear c4
   (first | rw [c4b0] | (simp only [i64_w, i32_w]; rw [c4b0]) | skip)
   have H' := Aside0.mk H; clear H
   go_wp2
   go_meet
   case rel => exact ⟨_, (true), (by first | rfl | (simp; done) | (simp [*]; done)), H', ⟨by first | omega | exact Nat.le_refl _⟩, ⟨belowA⟩⟩
  rw [if_neg c4] at H; have c4b0 : decide (65536 < (a1.size : Int)) = false := decide_eq_false c4
  have c4b1 : decide (65536 < a1.size) = false := decide_eq_false (by omega)
  clear c4
  (first | rw [c4b0] | (simp only [i64_w, i32_w]; rw [c4b0]) | skip)
  replace H := Option.bind_eq_some_iff.mp H; obtain ⟨t329, A50, H⟩ := H
  try dsimp only at H
  have A5 := Aside0.mk A50; clear A50; have H' := Aside0.mk H; clear H
  go_wp2_with (first | (go_at_call 83; (with_reducible refine (spec_l05IsForm.calls a0 t329 _ A5.out).mono ?_); rintro e w' ⟨rfl, ⟨nd, rfl⟩⟩))
  go_meet
  case rel => exact ⟨_, (!t329), (by first | rfl | (simp; done) | (simp [*]; done)), H', ⟨by first | omega | exact Nat.le_refl _⟩, ⟨belowA⟩⟩
 case rest =>
  clear HC3
  try clear p2; try clear c4; try clear c4b0; try clear c4b1
  obtain ⟨kq, x20_2, rfl, HA, HJ2, HB⟩ := hcut
  cases kq with
  | zero => exact absurd HA.out (by simp [spec_QuickCheck.j0])
  | succ kj2 =>
   have H := HA.out; clear HA; simp only [spec_QuickCheck.j0] at H
   by_cases c6 : x20_2 = true
   ·subst c6
    have H1 : (some 0) = some r := by rw [if_pos rfl] at H; exact H
    clear H; have H := H1; clear H1; obtain rfl := Option.some.inj H
    go_wp2
    go_ret
    exact ⟨by first | rfl | (simp [errW_none, errW_some] <;> rfl) | (simp [*, errW_none, errW_some] <;> rfl), belowA⟩
   replace c6 := Bool.eq_false_iff.mpr c6; subst c6
   have H1 : (spec_QuickCheck.l0 kj2 a0 a1 0 1 0) = some r := by rw [if_neg (show ¬ (false = true) by decide)] at H; exact H
   clear H; have H := H1; clear H1; have H' := Aside0.mk H; clear H
   go_wp2
   go_loopg [5, 6, 7] kj2 (fun kq v5 v6 v7 w' => ∃ (x5_2 : Int) (x6_2 : Int) (x7_2 : Int), v5 = .int .i64 x5_2 ∧ v6 = .int .i64 x6_2 ∧ v7 = .int .i64 x7_2 ∧ Aside0 (spec_QuickCheck.l0 kq a0 a1 x5_2 x6_2 x7_2 = some r) ∧ Aside0 (kq ≤ kj2) ∧ Aside0 (Below w.heap.size w w'))
   case atStart => exact ⟨(0), (1), (0), (by first | rfl | (simp; done) | (simp [*]; done)), (by first | rfl | (simp; done) | (simp [*]; done)), (by first | rfl | (simp; done) | (simp [*]; done)), H', ⟨Nat.le_refl _⟩, ⟨belowA⟩⟩
   case round =>
    clear H'
    try clear p2; try clear c4; try clear c4b0; try clear c4b1; try clear c6; try clear p2
    obtain ⟨x5_2, x6_2, x7_2, rfl, rfl, rfl, HA, HK2, HB⟩ := hrel
    cases gk with
    | zero => exact absurd HA.out (by simp [spec_QuickCheck.l0])
    | succ k2 =>
     have H := HA.out; clear HA; simp only [spec_QuickCheck.l0] at H
     by_cases c7 : x7_2 < (a1.size : Int)
     ·rw [if_pos c7] at H
      have c7b0 : decide (x7_2 < (a1.size : Int)) = true := decide_eq_true c7; clear c7; replace H := Option.bind_eq_some_iff.mp H; obtain ⟨⟨t330, t331, t332⟩, A80, H⟩ := H
      try dsimp only at H
      have A8 := Aside0.mk A80; clear A80; replace H := Option.bind_eq_some_iff.mp H; obtain ⟨t333, A90, H⟩ := H
      try dsimp only at H
      have A9 := Aside0.mk A90; clear A90; have HC10 := Aside0.mk H; clear H
      go_upto_region 9 with (first | ((with_reducible refine gate_callee (f := 144) rfl ?_); refine goesL_ (some 28) rfl rfl Tryd.func144 (by kernel_rfl) rfl #[.string a1, .int .i64 x7_2] rfl (by (try simp only [List.map_toArray, List.map_cons, List.map_nil]); first | done | rfl) ?_; (with_reducible refine (W_spec_l01Next.calls a1 x7_2 t330 t331 t332 _ A8.out).mono ?_); rintro e w11 ⟨rfl, hb⟩; refine ⟨_, rfl, ?_⟩; have n0_ := Aside0.mk (below_step (belowA) hb); clear HB; have HB := n0_; clear n0_; (try clear hb); (try clear hb2); (try clear hk); (try clear hi)) | ((with_reducible refine gate_callee (f := 145) rfl ?_); refine goesL_ (some 33) rfl rfl Tryd.func145 (by kernel_rfl) rfl #[.int .i64 t330] rfl (by (try simp only [List.map_toArray, List.map_cons, List.map_nil]); first | done | rfl) ?_; (with_reducible refine (W_spec_l01Class.calls t330 t333 _ A9.out).mono ?_); rintro e w' ⟨rfl, ⟨nd, rfl⟩⟩; refine ⟨_, rfl, ?_⟩))
      (try simp only [Act.put, List.setIfInBounds_toArray, List.set_cons_zero, List.set_cons_succ])
      go_cut [44] (fun v44 wc => ∃ (kq : Nat) (x44_9 : Bool), v44 = .bool x44_9 ∧ Aside0 (spec_QuickCheck.j2 kq a0 a1 x6_2 x7_2 t330 t331 t333 x44_9 = some r) ∧ Aside0 (kq ≤ k2) ∧ Aside0 (Below w.heap.size w wc))
      case first =>
       have H := HC10.out; clear HC10
       by_cases c12 : t332 = true
       ·subst c12
        have H1 : (if t333 = 0 then (spec_QuickCheck.j2 k2 a0 a1 x6_2 x7_2 t330 t331 t333 false) else (spec_QuickCheck.j2 k2 a0 a1 x6_2 x7_2 t330 t331 t333 (decide (t333 < x5_2)))) = some r := by rw [if_pos rfl] at H; exact H
        clear H; have H := H1; clear H1
        by_cases c13 : t333 = 0
        ·rw [if_pos c13] at H
         have c13b0 : (t333 == 0) = true := beq_iff_eq.mpr c13; have c13b1 : (t333 != 0) = false := bne_eq_false_iff_eq.mpr c13; clear c13
         (first | rw [c13b0] | (simp only [i64_w, i32_w]; rw [c13b0]) | skip)
         have H' := Aside0.mk H; clear H
         go_wp2
         go_meet
         case rel => exact ⟨_, (false), (by first | rfl | (simp; done) | (simp [*]; done)), H', ⟨by have := HJ2.out; have := HK2.out; first | omega | exact Nat.le_refl _⟩, ⟨belowA⟩⟩
        rw [if_neg c13] at H; have c13b0 : (t333 == 0) = false := beq_eq_false_iff_ne.mpr c13; have c13b1 : (t333 != 0) = true := bne_iff_ne.mpr c13
        (first | rw [c13b0] | (simp only [i64_w, i32_w]; rw [c13b0]) | skip)
        have H' := Aside0.mk H; clear H
        go_wp2
        go_meet
        case rel => exact ⟨_, (decide (t333 < x5_2)), (by first | rfl | (simp; done) | (simp [*]; done)), H', ⟨by have := HJ2.out; have := HK2.out; first | omega | exact Nat.le_refl _⟩, ⟨belowA⟩⟩
       replace c12 := Bool.eq_false_iff.mpr c12; subst c12
       have H1 : (spec_QuickCheck.j2 k2 a0 a1 x6_2 x7_2 t330 t331 t333 true) = some r := by rw [if_neg (show ¬ (false = true) by decide)] at H; exact H
       clear H; have H := H1; clear H1; have H' := Aside0.mk H; clear H
       go_wp2
       go_meet
       case rel => exact ⟨_, (true), (by first | rfl | (simp; done) | (simp [*]; done)), H', ⟨by have := HJ2.out; have := HK2.out; first | omega | exact Nat.le_refl _⟩, ⟨belowA⟩⟩
      case rest =>
       clear HC10
       try clear c1; try clear p2; try clear c4; try clear c4b0; try clear c4b1; try clear c6; try clear c7; try clear c7b0; try clear c12; try clear c13; try clear c13b0; try clear c13b1; try clear p2
       obtain ⟨kq, x44_9, rfl, HA, HJ9, HB⟩ := hcut
       cases kq with
       | zero => exact absurd HA.out (by simp [spec_QuickCheck.j2])
       | succ kj9 =>
        have H := HA.out; clear HA; simp only [spec_QuickCheck.j2] at H
        by_cases c14 : x44_9 = true
        ·subst c14
         have H1 : (some 2) = some r := by rw [if_pos rfl] at H; exact H
         clear H; have H := H1; clear H1; obtain rfl := Option.some.inj H
         go_wp2
         go_ret
         exact ⟨by first | rfl | (simp [errW_none, errW_some] <;> rfl) | (simp [*, errW_none, errW_some] <;> rfl), belowA⟩
        replace c14 := Bool.eq_false_iff.mpr c14; subst c14
        have H1 : ((W_spec_l05Norm.f a0 (([t330] : List Int))).bind fun t337 => (if (t337.length : Int) = 1 then (if 0 < (t337.length : Int) then (spec_QuickCheck.j3 kj9 a0 a1 x6_2 x7_2 t330 t331 t333 ((rd t337 0) != t330)) else (none)) else (spec_QuickCheck.j3 kj9 a0 a1 x6_2 x7_2 t330 t331 t333 true))) = some r := by rw [if_neg (show ¬ (false = true) by decide)] at H; exact H
        clear H; have H := H1; clear H1; obtain ⟨y334, hy334⟩ : ∃ y_ : List Int, y_ = (([t330] : List Int)) := ⟨_, rfl⟩
        replace H : ((W_spec_l05Norm.f a0 y334).bind fun t337 => (if (t337.length : Int) = 1 then (if 0 < (t337.length : Int) then (spec_QuickCheck.j3 kj9 a0 a1 x6_2 x7_2 t330 t331 t333 ((rd t337 0) != t330)) else (none)) else (spec_QuickCheck.j3 kj9 a0 a1 x6_2 x7_2 t330 t331 t333 true))) = some r := by first | (rw [hy334]; with_reducible exact H) | (have H2_ := (Option.bind_some _ _).symm.trans H; rw [hy334]; with_reducible exact H2_) | (have H2_ := (Option.bind_some _ _).symm.trans H; with_reducible exact H2_) | with_reducible exact H | (rw [hy334]; exact H) | exact H
        have Ny334 := Aside0.mk hy334; clear hy334; replace H := Option.bind_eq_some_iff.mp H; obtain ⟨t337, A150, H⟩ := H
        try dsimp only at H
        have A15 := Aside0.mk A150; clear A150; have HC16 := Aside0.mk H; clear H
        go_upto_region 12 with (first | ((with_reducible refine gate_dst (N := 47) rfl ?_); refine Kd.R_lit (Kd.int .i64) _ 2 ?hg (N := 47) ?hd (xs := ([t330] : List Int)) (inner := [.int .i64 t330]) (ok := fun _ => True) (okp := fun _ => True) ?hr ?hp (fun _ hk => hk) trivial (Below.refl _ _) (Nat.le_refl _) (by simp) ?_; (case hd => rfl); (case hg => rfl); (case hr => first | (go_simp; done) | (go_simp; rfl)); (case hp => exact (Reps.one (show Kd.M (Kd.int .i64) _ _ _ t330 [.int .i64 t330] from rfl) (Reps.none _ _))); intro v335 w17 ho18 hb hg_ hnew_; clear hg_ hnew_; (first | rw [← Ny334.out] at ho18 | (simp only [Int.reduceToNat] at ho18; rw [← Ny334.out] at ho18)); have n0_ := Aside0.mk (Kd.R_lower ho18 (below_size (belowA))); have n1_ := Aside0.mk (below_step (belowA) hb); clear HB; have HO336 := n0_; have HB := n1_; clear n0_ n1_; clear hb ho18; obtain ⟨Ao19, co19, eo19⟩ := Kd.R_slice HO336.out; subst eo19) | ((with_reducible refine gate_callee (f := 98) rfl ?_); refine goesL_ (some 48) rfl rfl Tryd.func98 (by kernel_rfl) rfl #[.int .i64 a0, .slice Ao19 y334.length co19] rfl (by (try simp only [List.map_toArray, List.map_cons, List.map_nil]); first | done | rfl) ?_; (with_reducible refine (W_spec_l05Norm.calls a0 _ _ y334 t337 _ ?side1 ?side2 A15.out).mono ?_); (case side1 => repeat (first | exact (Kd.R_reads' HO336.out).2.2 | (with_reducible refine Kd.C_alloc ?_ _) | (with_reducible refine Kd.C_drewN ?_ _) | (with_reducible refine Kd.C_drew ?_))); (case side2 => exact (Kd.R_reads' HO336.out).2.1); rintro e w20 ⟨v338, rfl, ho0, hb⟩; refine ⟨_, rfl, ?_⟩; have n0_ := Aside0.mk (Kd.R_elder' (by (with_reducible repeat (first | apply Kd.R_alloc | apply Kd.R_drewN | apply Kd.R_drew)); exact HO336.out) (Kd.R_base ho0) hb); have n1_ := Aside0.mk (Kd.R_lower (Kd.R_new' ho0 (Kd.R_lt (by (with_reducible repeat (first | apply Kd.R_alloc | apply Kd.R_drewN | apply Kd.R_drew)); exact HO336.out))) (below_size (belowA))); have n2_ := Aside0.mk (below_step (belowA) hb); clear HO336; clear HB; have HO336 := n0_; have HO339 := n1_; have HB := n2_; clear n0_ n1_ n2_; (try clear hb); (try clear hb2); (try clear hk); (try clear hi); (try clear ho0)))
        (try simp only [Act.put, List.setIfInBounds_toArray, List.set_cons_zero, List.set_cons_succ])
        go_cut [58] (fun v58 wc => ∃ (kq : Nat) (x58_15 : Bool), v58 = .bool x58_15 ∧ Aside0 (spec_QuickCheck.j3 kq a0 a1 x6_2 x7_2 t330 t331 t333 x58_15 = some r) ∧ Aside0 (kq ≤ kj9) ∧ Aside0 (Below w.heap.size w wc))
        case first =>
         have H := HC16.out; clear HC16
         by_cases c21 : (t337.length : Int) = 1
         ·rw [if_pos c21] at H
          have c21b0 : ((t337.length : Int) == 1) = true := beq_iff_eq.mpr c21; have c21b1 : ((t337.length : Int) != 1) = false := bne_eq_false_iff_eq.mpr c21; clear c21
          (first | rw [c21b0] | (simp only [i64_w, i32_w]; rw [c21b0]) | skip)
          by_cases c22 : 0 < (t337.length : Int)
          ·rw [if_pos c22] at H
           have c22b0 : decide (0 < (t337.length : Int)) = true := decide_eq_true c22
           have c22b1 : decide (0 < t337.length) = true := decide_eq_true (by omega)
           clear c22; have H' := Aside0.mk H; clear H; obtain ⟨Ao23, co23, eo23⟩ := Kd.R_slice HO339.out; subst eo23
           have p340 : 0 ≤ (0 : Int) := (by omega)
           have q340 : 0 < (t337.length : Int) := of_decide_eq_true (by first | (with_reducible assumption) | assumption)
           obtain ⟨ad340, e340, hx340_0⟩ := Kd.at_int (Kd.R_reads' HO339.out).2.2 0 p340 q340; cases e340
           have qi340 : (0 < t337.length) = True := eq_true (by omega)
           (try rw [show ((0 : Int)).toNat = 0 from rfl] at hx340_0)
           (try rw [Addr.add_zero'] at hx340_0)
           replace p340 := eq_true p340; replace q340 := eq_true q340
           go_wp2
           go_meet
           case rel => exact ⟨_, (((rd t337 0) != t330)), (by first | rfl | (simp; done) | (simp [*]; done)), H', ⟨by have := HJ2.out; have := HK2.out; have := HJ9.out; first | omega | exact Nat.le_refl _⟩, ⟨belowA⟩⟩
          rw [if_neg c22] at H
          exact absurd H (by simp)
         rw [if_neg c21] at H; have c21b0 : ((t337.length : Int) == 1) = false := beq_eq_false_iff_ne.mpr c21; have c21b1 : ((t337.length : Int) != 1) = true := bne_iff_ne.mpr c21
         (first | rw [c21b0] | (simp only [i64_w, i32_w]; rw [c21b0]) | skip)
         have H' := Aside0.mk H; clear H; obtain ⟨Ao24, co24, eo24⟩ := Kd.R_slice HO339.out; subst eo24
         go_wp2
         go_meet
         case rel => exact ⟨_, (true), (by first | rfl | (simp; done) | (simp [*]; done)), H', ⟨by have := HJ2.out; have := HK2.out; have := HJ9.out; first | omega | exact Nat.le_refl _⟩, ⟨belowA⟩⟩
        case rest =>
         clear HC16
         try clear c1; try clear c2; try clear p2; try clear p3; try clear q3; try clear hx3; try clear qi3; try clear c4; try clear c4b0; try clear c4b1; try clear c6; try clear c7; try clear c7b0; try clear c9; try clear c12; try clear c13; try clear c13b0; try clear c13b1; try clear c14; try clear c21; try clear c21b0; try clear c21b1; try clear c22; try clear c22b0; try clear c22b1; try clear hx340_0; try clear p2; try clear p340; try clear q340
         obtain ⟨kq, x58_15, rfl, HA, HJ15, HB⟩ := hcut
         cases kq with
         | zero => exact absurd HA.out (by simp [spec_QuickCheck.j3])
         | succ kj15 =>
          have H := HA.out; clear HA; simp only [spec_QuickCheck.j3] at H
          by_cases c25 : x58_15 = true
          ·subst c25
           have H1 : (some 2) = some r := by rw [if_pos rfl] at H; exact H
           clear H; have H := H1; clear H1; obtain rfl := Option.some.inj H
           go_wp2
           go_ret
           exact ⟨by first | rfl | (simp [errW_none, errW_some] <;> rfl) | (simp [*, errW_none, errW_some] <;> rfl), belowA⟩
          replace c25 := Bool.eq_false_iff.mpr c25; subst c25
          have H1 : ((spec_l05C.f a0).bind fun t341 => (if t341 = true then ((spec_l05Second.f t330).bind fun t342 => (if t342 = true then (spec_QuickCheck.l0 kj15 a0 a1 t333 3 (wrap64 (x7_2 + t331))) else (spec_QuickCheck.l0 kj15 a0 a1 t333 x6_2 (wrap64 (x7_2 + t331))))) else (spec_QuickCheck.l0 kj15 a0 a1 t333 x6_2 (wrap64 (x7_2 + t331))))) = some r := by rw [if_neg (show ¬ (false = true) by decide)] at H; exact H
          clear H; have H := H1; clear H1; replace H := Option.bind_eq_some_iff.mp H; obtain ⟨t341, A260, H⟩ := H
          try dsimp only at H
          have A26 := Aside0.mk A260; clear A260
          by_cases c27 : t341 = true
          ·subst c27
           have H1 : ((spec_l05Second.f t330).bind fun t342 => (if t342 = true then (spec_QuickCheck.l0 kj15 a0 a1 t333 3 (wrap64 (x7_2 + t331))) else (spec_QuickCheck.l0 kj15 a0 a1 t333 x6_2 (wrap64 (x7_2 + t331))))) = some r := by rw [if_pos rfl] at H; exact H
           clear H; have H := H1; clear H1; replace H := Option.bind_eq_some_iff.mp H; obtain ⟨t342, A280, H⟩ := H
           try dsimp only at H
           have A28 := Aside0.mk A280; clear A280
           by_cases c29 : t342 = true
           ·subst c29
            have H1 : (spec_QuickCheck.l0 kj15 a0 a1 t333 3 (wrap64 (x7_2 + t331))) = some r := by rw [if_pos rfl] at H; exact H
            clear H; have H := H1; clear H1; have H' := Aside0.mk H; clear H
            go_wp2_with (first | ((with_reducible refine gate_callee (f := 146) rfl ?_); refine goesL_ (some 60) rfl rfl Tryd.func146 (by kernel_rfl) rfl #[.int .i64 a0] rfl (by (try simp only [List.map_toArray, List.map_cons, List.map_nil]); first | done | rfl) ?_; (with_reducible refine (spec_l05C.calls a0 true _ A26.out).mono ?_); rintro e w' ⟨rfl, ⟨nd, rfl⟩⟩; refine ⟨_, rfl, ?_⟩) | (go_at_call 147; (with_reducible refine (spec_l05Second.calls t330 true _ A28.out).mono ?_); rintro e w' ⟨rfl, ⟨nd, rfl⟩⟩))
            go_roundg kj15
            case measure => have := HJ2.out; have := HK2.out; have := HJ9.out; have := HJ15.out; omega
            case rel => exact ⟨(t333), (3), (wrap64 (x7_2 + t331)), (by first | rfl | (simp; done) | (simp [*]; done)), (by first | rfl | (simp; done) | (simp [*]; done)), (by first | rfl | (simp; done) | (simp [*]; done)), H', ⟨by have := HJ2.out; have := HK2.out; have := HJ9.out; have := HJ15.out; omega⟩, ⟨belowA⟩⟩
           replace c29 := Bool.eq_false_iff.mpr c29; subst c29
           have H1 : (spec_QuickCheck.l0 kj15 a0 a1 t333 x6_2 (wrap64 (x7_2 + t331))) = some r := by rw [if_neg (show ¬ (false = true) by decide)] at H; exact H
           clear H; have H := H1; clear H1; have H' := Aside0.mk H; clear H
           go_wp2_with (first | ((with_reducible refine gate_callee (f := 146) rfl ?_); refine goesL_ (some 60) rfl rfl Tryd.func146 (by kernel_rfl) rfl #[.int .i64 a0] rfl (by (try simp only [List.map_toArray, List.map_cons, List.map_nil]); first | done | rfl) ?_; (with_reducible refine (spec_l05C.calls a0 true _ A26.out).mono ?_); rintro e w' ⟨rfl, ⟨nd, rfl⟩⟩; refine ⟨_, rfl, ?_⟩) | (go_at_call 147; (with_reducible refine (spec_l05Second.calls t330 false _ A28.out).mono ?_); rintro e w' ⟨rfl, ⟨nd, rfl⟩⟩))
           go_roundg kj15
           case measure => have := HJ2.out; have := HK2.out; have := HJ9.out; have := HJ15.out; omega
           case rel => exact ⟨(t333), (x6_2), (wrap64 (x7_2 + t331)), (by first | rfl | (simp; done) | (simp [*]; done)), (by first | rfl | (simp; done) | (simp [*]; done)), (by first | rfl | (simp; done) | (simp [*]; done)), H', ⟨by have := HJ2.out; have := HK2.out; have := HJ9.out; have := HJ15.out; omega⟩, ⟨belowA⟩⟩
          replace c27 := Bool.eq_false_iff.mpr c27; subst c27
          have H1 : (spec_QuickCheck.l0 kj15 a0 a1 t333 x6_2 (wrap64 (x7_2 + t331))) = some r := by rw [if_neg (show ¬ (false = true) by decide)] at H; exact H
          clear H; have H := H1; clear H1; have H' := Aside0.mk H; clear H
          go_wp2_with (first | ((with_reducible refine gate_callee (f := 146) rfl ?_); refine goesL_ (some 60) rfl rfl Tryd.func146 (by kernel_rfl) rfl #[.int .i64 a0] rfl (by (try simp only [List.map_toArray, List.map_cons, List.map_nil]); first | done | rfl) ?_; (with_reducible refine (spec_l05C.calls a0 false _ A26.out).mono ?_); rintro e w' ⟨rfl, ⟨nd, rfl⟩⟩; refine ⟨_, rfl, ?_⟩))
          go_roundg kj15
          case measure => have := HJ2.out; have := HK2.out; have := HJ9.out; have := HJ15.out; omega
          case rel => exact ⟨(t333), (x6_2), (wrap64 (x7_2 + t331)), (by first | rfl | (simp; done) | (simp [*]; done)), (by first | rfl | (simp; done) | (simp [*]; done)), (by first | rfl | (simp; done) | (simp [*]; done)), H', ⟨by have := HJ2.out; have := HK2.out; have := HJ9.out; have := HJ15.out; omega⟩, ⟨belowA⟩⟩
     rw [if_neg c7] at H; have c7b0 : decide (x7_2 < (a1.size : Int)) = false := decide_eq_false c7; clear c7; obtain rfl := Option.some.inj H
     go_wp2
     go_ret
     exact ⟨by first | rfl | (simp [errW_none, errW_some] <;> rfl) | (simp [*, errW_none, errW_some] <;> rfl), belowA⟩

def W_spec_QuickCheck.f (f : Int) (t : ByteArray) : Option Int := if t.size ≤ 100000000 then some (YtiabgmddnddeiaaDoorQck.QC f t) else none
set_option maxHeartbeats 2000000 in
theorem spec_QuickCheck.run (f : Int) (hf : 1 ≤ f ∧ f ≤ 4) (s : ByteArray) (hs : s.size ≤ 100000000) (d : Nat) : ∀ (k i : Nat) (last out : Int), i ≤ s.size → s.size - i ≤ d → 3 * d + 2 < k →
    spec_QuickCheck.l0 k f s last out (i : Int) = some (YtiabgmddnddeiaaDoorQck.qc f ((YtiabgmddnddeiaaDoorDec.readsAt ((bytesOf s).drop i) (i : Int)).map (fun x => (x.1, x.2.2.2))) last out) := by
  induction d with
  | zero =>
    intro k i last out h1 h2 h3
    obtain ⟨k, rfl⟩ : ∃ m, k = m + 1 := ⟨k - 1, by omega⟩
    simp only [spec_QuickCheck.l0]
    rw [if_neg (by omega), List.drop_eq_nil_of_le (by rw [bytesOf_length]; omega)]
    rfl
  | succ d ih =>
    intro k i last out h1 h2 h3
    obtain ⟨k, rfl⟩ : ∃ m, k = m + 1 + 1 + 1 := ⟨k - 3, by omega⟩
    by_cases hlt : i < s.size
    · have hne : (bytesOf s).drop i ≠ [] := by intro h; have := congrArg List.length h; rw [List.length_drop, bytesOf_length] at this; simp at this; omega
      have hb := YtiabgmddnddeiaaDoorPts.dec_bound hne
      have hby : ∀ b ∈ (bytesOf s).drop i, 0 ≤ b ∧ b < 256 := fun b h => YtiabgmddnddeiaaDoorPts.bytes_range s b (List.mem_of_mem_drop h)
      have hone := YtiabgmddnddeiaaDoorQck.dec_one hne hby
      have hg := spec_l01Next.getD s (i : Int) (by omega) 0
      rw [Int.toNat_natCast] at hg
      rw [hg, show (i : Int) + ((0 : Nat) : Int) = (i : Int) by omega] at hone
      rw [List.length_drop, bytesOf_length] at hb
      have hd : spec_l01Next.d s (i : Int) = YtiabgmddnddeiaaDoorPts.dec ((bytesOf s).drop i) := by unfold spec_l01Next.d; rw [Int.toNat_natCast]
      rw [YtiabgmddnddeiaaDoorDec.readsAt_cons hne, List.drop_drop, List.map_cons]
      generalize YtiabgmddnddeiaaDoorPts.dec ((bytesOf s).drop i) = D at hb hone hd
      obtain ⟨p, n⟩ := D
      simp only at hb hone ⊢
      have hpr : 0 ≤ p ∧ p ≤ 1114111 := by have := hb.2.2.2; unfold YtiabgmddnddeiaaDoorPts.isP at this; omega
      have IH := fun last out => ih k (i + n) last out (by clear hone hpr; omega) (by clear hone hpr; omega) (by clear hone hpr; omega)
      rw [show ((i + n : Nat) : Int) = (i : Int) + (n : Int) by clear hone; omega] at IH
      simp only [spec_QuickCheck.l0]
      rw [if_pos (by omega)]
      unfold W_spec_l01Next.f
      rw [if_pos ⟨by omega, by omega, by omega⟩, hd]
      simp only [Option.bind_some]
      rw [show W_spec_l01Class.f p = some (YtiabgmddnddeiaaDoorNrm.cls p) from if_pos (by omega)]
      simp only [Option.bind_some]
      rw [YtiabgmddnddeiaaDoorQck.qc]
      simp only
      have hi : wrap64 ((i : Int) + (n : Int)) = (i : Int) + (n : Int) := by clear hone; unfold wrap64; omega
      have hj3 : ∀ b : Bool, spec_QuickCheck.j3 (k + 1) f s out (i : Int) p (n : Int) (YtiabgmddnddeiaaDoorNrm.cls p) b = if b = true then some 2 else some (YtiabgmddnddeiaaDoorQck.qc f ((YtiabgmddnddeiaaDoorDec.readsAt ((bytesOf s).drop (i + n)) ((i : Int) + (n : Int))).map (fun x => (x.1, x.2.2.2))) (YtiabgmddnddeiaaDoorNrm.cls p) (if f % 2 = 0 ∧ YtiabgmddnddeiaaDoorNrm.second p then 3 else out)) := by
        intro b
        simp only [spec_QuickCheck.j3]
        cases b with
        | true => rw [if_pos rfl, if_pos rfl]
        | false =>
          rw [if_neg (by decide), if_neg (by decide)]
          unfold spec_l05C.f
          simp only [Option.bind_some]
          rw [Int.tmod_eq_emod_of_nonneg (by omega)]
          by_cases e : f % 2 = 0
          · rw [if_pos (by rw [e]; rfl), spec_l05Second.eq]
            simp only [Option.bind_some]
            by_cases g : YtiabgmddnddeiaaDoorNrm.second p
            · rw [if_pos (decide_eq_true g), if_pos ⟨e, g⟩, hi, IH]
            · rw [if_neg (by rw [decide_eq_false g]; decide), if_neg (fun z => g z.2), hi, IH]
          · rw [if_neg (by simpa using e), if_neg (fun z => e z.1), hi, IH]
      have hj2 : ∀ b : Bool, spec_QuickCheck.j2 (k + 1 + 1) f s out (i : Int) p (n : Int) (YtiabgmddnddeiaaDoorNrm.cls p) b = if b = true ∨ YtiabgmddnddeiaaDoorNrm.nf f [p] ≠ [p] then some 2 else some (YtiabgmddnddeiaaDoorQck.qc f ((YtiabgmddnddeiaaDoorDec.readsAt ((bytesOf s).drop (i + n)) ((i : Int) + (n : Int))).map (fun x => (x.1, x.2.2.2))) (YtiabgmddnddeiaaDoorNrm.cls p) (if f % 2 = 0 ∧ YtiabgmddnddeiaaDoorNrm.second p then 3 else out)) := by
        intro b
        simp only [spec_QuickCheck.j2]
        cases b with
        | true => rw [if_pos rfl, if_pos (.inl rfl)]
        | false =>
          rw [if_neg (by decide)]
          rw [show W_spec_l05Norm.f f [p] = some (YtiabgmddnddeiaaDoorNrm.nf f [p]) from if_pos ⟨hf.1, hf.2, by simp, fun q hq => by rw [List.mem_singleton.1 hq]; omega⟩]
          simp only [Option.bind_some]
          by_cases g : (YtiabgmddnddeiaaDoorNrm.nf f [p]).length = 1
          · obtain ⟨x, hx⟩ := List.length_eq_one_iff.1 g
            rw [hx, if_pos (by simp), if_pos (by simp), hj3]
            have hrx : rd [x] 0 = x := rfl
            rw [hrx]
            by_cases y : x = p
            · subst y; exact (if_neg (by simp)).trans (if_neg (by simp)).symm
            · rw [if_pos (by simpa using y), if_pos (.inr (by simpa using y))]
          · rw [if_neg (by omega), hj3, if_pos rfl, if_pos (.inr (fun z => g (by rw [z]; rfl)))]
      by_cases ho : n ≠ 1 ∨ bt s (i : Int) < 128
      · rw [decide_eq_true ho, if_pos rfl]
        have hbad : decide (p = 65533 ∧ n = 1) = false := decide_eq_false (hone.1 ho)
        rw [hbad]
        by_cases c0 : YtiabgmddnddeiaaDoorNrm.cls p = 0
        · rw [if_pos c0, hj2]
          by_cases g : YtiabgmddnddeiaaDoorNrm.nf f [p] ≠ [p]
          · rw [if_pos (.inr g), if_pos (.inr (.inr g))]
          · refine (if_neg ?_).trans (congrArg some (if_neg ?_).symm); (rintro (z | z); cases z; exact g z); (rintro (z | z | z); cases z; exact z.1 c0; exact g z)
        · rw [if_neg c0, hj2]
          by_cases c1 : YtiabgmddnddeiaaDoorNrm.cls p < last
          · rw [if_pos (.inl (decide_eq_true c1)), if_pos (.inr (.inl ⟨c0, c1⟩))]
          · by_cases g : YtiabgmddnddeiaaDoorNrm.nf f [p] ≠ [p]
            · rw [if_pos (.inr g), if_pos (.inr (.inr g))]
            · refine (if_neg ?_).trans (congrArg some (if_neg ?_).symm); (rintro (z | z); exact c1 (of_decide_eq_true z); exact g z); (rintro (z | z | z); cases z; exact c1 z.2; exact g z)
      · rw [decide_eq_false ho, if_neg (by decide), hj2, if_pos (.inl rfl)]
        have hbad : decide (p = 65533 ∧ n = 1) = true := decide_eq_true (Classical.byContradiction (fun z => ho (hone.2 z)))
        rw [hbad, if_pos (.inl rfl)]
    · obtain ⟨k, rfl⟩ : ∃ m, k = m := ⟨k, rfl⟩
      simp only [spec_QuickCheck.l0]
      rw [if_neg (by omega), List.drop_eq_nil_of_le (by rw [bytesOf_length]; omega)]
      rfl
theorem W_spec_QuickCheck.to {f : Int} {t : ByteArray} {r : Int} (h : W_spec_QuickCheck.f f t = some r) : ∃ k, spec_QuickCheck.f k f t = some r := by
  unfold W_spec_QuickCheck.f at h
  split at h
  · rename_i hs
    refine ⟨3 * t.size + 4, ?_⟩
    rw [← h]
    unfold spec_QuickCheck.f YtiabgmddnddeiaaDoorQck.QC
    by_cases c : (t.size : Int) > 65536
    · rw [if_pos c, if_pos (.inl c)]
      simp only [spec_QuickCheck.j0]
      rw [if_pos trivial]
    · rw [if_neg c, spec_l05IsForm.eq]
      simp only [Option.bind_some, spec_QuickCheck.j0]
      cases ho : YtiabgmddnddeiaaDoorNst.ok f with
      | false => rw [if_pos (by rfl), if_pos (.inr rfl)]
      | true =>
        rw [if_neg (by decide), if_neg (by rintro (z | z); exact c z; cases z)]
        have := spec_QuickCheck.run f (of_decide_eq_true ho) t hs t.size (3 * t.size + 3) 0 0 1 (by omega) (by omega) (by omega)
        rw [List.drop_zero] at this
        show _ = some (YtiabgmddnddeiaaDoorQck.qc f ((YtiabgmddnddeiaaDoorDec.readsAt (bytesOf t) ((0 : Nat) : Int)).map (fun x => (x.1, x.2.2.2))) 0 1)
        exact this
  · cases h
theorem W_spec_QuickCheck.calls (a0 : Int) (a1 : ByteArray) (r : Int) (w : World) (h : W_spec_QuickCheck.f a0 a1 = some r) :
    Calls Tryd.prog 60 #[.int .i64 a0, .string a1] w fun e w' => e = .returned (.int .i64 r) ∧ Below w.heap.size w w' := by
  obtain ⟨k, hk⟩ := W_spec_QuickCheck.to h
  exact spec_QuickCheck.calls k a0 a1 r w hk

end Go.Proofs.YtiabgmddnddeiaaDoor.QFnQuick
