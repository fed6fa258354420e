/- The law FnNormer: at every input the call answers true (this text: contracts on its way, by a program of this session's; no condition of ours). -/
import Derived.Test.YtiabgmddnddeiaaDoorQFnNormerx0
import Derived.Test.YtiabgmddnddeiaaDoorQFnNormerx1
import Derived.Test.YtiabgmddnddeiaaDoorQFnNormerx2
import Derived.Test.YtiabgmddnddeiaaDoorQFnNormerx3
import Derived.Test.YtiabgmddnddeiaaDoorQFnNormerx4
import Derived.Test.YtiabgmddnddeiaaDoorQFnNormerx5
import Derived.Test.YtiabgmddnddeiaaDoorQFnNormerx8
namespace Go.Proofs.YtiabgmddnddeiaaDoor.QFnNormer
open Go.RowKit Go.Proofs.YtiabgmddnddeiaaDoorW.PrintWords Go.Proofs.YtiabgmddnddeiaaDoorW.PrintLast Go.Proofs.YtiabgmddnddeiaaDoorW.PrintMore
attribute [local go_sem] max2_int min2_int max_two min_two max_three min_three max_four min_four   -- for this text's walks alone
set_option linter.unusedVariables false
set_option linter.unusedSimpArgs false

/-! ### spec_l05Second: function 147 -/
def spec_l05Second.f (a0 : Int) : Option (Bool) := if a0 ≥ 4096 then (if a0 ≤ 4103 then (some true) else (if a0 ≥ 4112 then (if a0 ≤ 4119 then (some true) else (if a0 ≥ 1824 then (if a0 ≤ 1844 then (some true) else (if a0 ≥ 1857 then (some (decide (a0 ≤ 1883))) else (some false))) else (if a0 ≥ 1857 then (some (decide (a0 ≤ 1883))) else (some false)))) else (if a0 ≥ 1824 then (if a0 ≤ 1844 then (some true) else (if a0 ≥ 1857 then (some (decide (a0 ≤ 1883))) else (some false))) else (if a0 ≥ 1857 then (some (decide (a0 ≤ 1883))) else (some false))))) else (if a0 ≥ 4112 then (if a0 ≤ 4119 then (some true) else (if a0 ≥ 1824 then (if a0 ≤ 1844 then (some true) else (if a0 ≥ 1857 then (some (decide (a0 ≤ 1883))) else (some false))) else (if a0 ≥ 1857 then (some (decide (a0 ≤ 1883))) else (some false)))) else (if a0 ≥ 1824 then (if a0 ≤ 1844 then (some true) else (if a0 ≥ 1857 then (some (decide (a0 ≤ 1883))) else (some false))) else (if a0 ≥ 1857 then (some (decide (a0 ≤ 1883))) else (some false))))
set_option maxHeartbeats 8000000 in
set_option maxRecDepth 100000 in
theorem spec_l05Second.calls (a0 : Int) (r : Bool) (w : World) (h : spec_l05Second.f a0 = some r) :
  Calls Tryd.prog 147 #[.int .i64 a0] w fun e w' => e = .returned (.bool r) ∧ Drawn0 w w' := by
 have H : (if a0 ≥ 4096 then (if a0 ≤ 4103 then (some true) else (if a0 ≥ 4112 then (if a0 ≤ 4119 then (some true) else (if a0 ≥ 1824 then (if a0 ≤ 1844 then (some true) else (if a0 ≥ 1857 then (some (decide (a0 ≤ 1883))) else (some false))) else (if a0 ≥ 1857 then (some (decide (a0 ≤ 1883))) else (some false)))) else (if a0 ≥ 1824 then (if a0 ≤ 1844 then (some true) else (if a0 ≥ 1857 then (some (decide (a0 ≤ 1883))) else (some false))) else (if a0 ≥ 1857 then (some (decide (a0 ≤ 1883))) else (some false))))) else (if a0 ≥ 4112 then (if a0 ≤ 4119 then (some true) else (if a0 ≥ 1824 then (if a0 ≤ 1844 then (some true) else (if a0 ≥ 1857 then (some (decide (a0 ≤ 1883))) else (some false))) else (if a0 ≥ 1857 then (some (decide (a0 ≤ 1883))) else (some false)))) else (if a0 ≥ 1824 then (if a0 ≤ 1844 then (some true) else (if a0 ≥ 1857 then (some (decide (a0 ≤ 1883))) else (some false))) else (if a0 ≥ 1857 then (some (decide (a0 ≤ 1883))) else (some false))))) = some r := h
 clear h
 by_cases c2 : a0 ≥ 4096
 ·rw [if_pos c2] at H
  have c2b0 : decide (4096 ≤ a0) = true := decide_eq_true c2; clear c2
  by_cases c3 : a0 ≤ 4103
  ·rw [if_pos c3] at H
   have c3b0 : decide (a0 ≤ 4103) = true := decide_eq_true c3; clear c3; obtain rfl := Option.some.inj H
   go_enter Tryd.func147, Tryd.ntmps147
   go_wp2
   go_ret
   exact ⟨by first | rfl | (simp; done) | (simp [*]; done), drw0⟩
  rw [if_neg c3] at H; have c3b0 : decide (a0 ≤ 4103) = false := decide_eq_false c3; clear c3
  by_cases c4 : a0 ≥ 4112
  ·rw [if_pos c4] at H
   have c4b0 : decide (4112 ≤ a0) = true := decide_eq_true c4; clear c4
   by_cases c5 : a0 ≤ 4119
   ·rw [if_pos c5] at H
    have c5b0 : decide (a0 ≤ 4119) = true := decide_eq_true c5; clear c5; obtain rfl := Option.some.inj H
    go_enter Tryd.func147, Tryd.ntmps147
    go_wp2
    go_ret
    exact ⟨by first | rfl | (simp; done) | (simp [*]; done), drw0⟩
   rw [if_neg c5] at H; have c5b0 : decide (a0 ≤ 4119) = false := decide_eq_false c5; clear c5
   by_cases c6 : a0 ≥ 1824
   ·rw [if_pos c6] at H
    have c6b0 : decide (1824 ≤ a0) = true := decide_eq_true c6; clear c6
    by_cases c7 : a0 ≤ 1844
    ·rw [if_pos c7] at H
     have c7b0 : decide (a0 ≤ 1844) = true := decide_eq_true c7; clear c7; obtain rfl := Option.some.inj H
     go_enter Tryd.func147, Tryd.ntmps147
     go_wp2
     go_ret
     exact ⟨by first | rfl | (simp; done) | (simp [*]; done), drw0⟩
    rw [if_neg c7] at H; have c7b0 : decide (a0 ≤ 1844) = false := decide_eq_false c7; clear c7
    by_cases c8 : a0 ≥ 1857
    ·rw [if_pos c8] at H
     have c8b0 : decide (1857 ≤ a0) = true := decide_eq_true c8; clear c8; obtain rfl := Option.some.inj H
     go_enter Tryd.func147, Tryd.ntmps147
     go_wp2
     go_ret
     exact ⟨by first | rfl | (simp; done) | (simp [*]; done), drw0⟩
    rw [if_neg c8] at H; have c8b0 : decide (1857 ≤ a0) = false := decide_eq_false c8; clear c8; obtain rfl := Option.some.inj H
    go_enter Tryd.func147, Tryd.ntmps147
    go_wp2
    go_ret
    exact ⟨by first | rfl | (simp; done) | (simp [*]; done), drw0⟩
   rw [if_neg c6] at H; have c6b0 : decide (1824 ≤ a0) = false := decide_eq_false c6; clear c6
   by_cases c9 : a0 ≥ 1857
   ·rw [if_pos c9] at H
    have c9b0 : decide (1857 ≤ a0) = true := decide_eq_true c9; clear c9; obtain rfl := Option.some.inj H
    go_enter Tryd.func147, Tryd.ntmps147
    go_wp2
    go_ret
    exact ⟨by first | rfl | (simp; done) | (simp [*]; done), drw0⟩
   rw [if_neg c9] at H; have c9b0 : decide (1857 ≤ a0) = false := decide_eq_false c9; clear c9; obtain rfl := Option.some.inj H
   go_enter Tryd.func147, Tryd.ntmps147
   go_wp2
   go_ret
   exact ⟨by first | rfl | (simp; done) | (simp [*]; done), drw0⟩
  rw [if_neg c4] at H; have c4b0 : decide (4112 ≤ a0) = false := decide_eq_false c4; clear c4
  by_cases c10 : a0 ≥ 1824
  ·rw [if_pos c10] at H
   have c10b0 : decide (1824 ≤ a0) = true := decide_eq_true c10; clear c10
   by_cases c11 : a0 ≤ 1844
   ·rw [if_pos c11] at H
    have c11b0 : decide (a0 ≤ 1844) = true := decide_eq_true c11; clear c11; obtain rfl := Option.some.inj H
    go_enter Tryd.func147, Tryd.ntmps147
    go_wp2
    go_ret
    exact ⟨by first | rfl | (simp; done) | (simp [*]; done), drw0⟩
   rw [if_neg c11] at H; have c11b0 : decide (a0 ≤ 1844) = false := decide_eq_false c11; clear c11
   by_cases c12 : a0 ≥ 1857
   ·rw [if_pos c12] at H
    have c12b0 : decide (1857 ≤ a0) = true := decide_eq_true c12; clear c12; obtain rfl := Option.some.inj H
    go_enter Tryd.func147, Tryd.ntmps147
    go_wp2
    go_ret
    exact ⟨by first | rfl | (simp; done) | (simp [*]; done), drw0⟩
   rw [if_neg c12] at H; have c12b0 : decide (1857 ≤ a0) = false := decide_eq_false c12; clear c12; obtain rfl := Option.some.inj H
   go_enter Tryd.func147, Tryd.ntmps147
   go_wp2
   go_ret
   exact ⟨by first | rfl | (simp; done) | (simp [*]; done), drw0⟩
  rw [if_neg c10] at H; have c10b0 : decide (1824 ≤ a0) = false := decide_eq_false c10; clear c10
  by_cases c13 : a0 ≥ 1857
  ·rw [if_pos c13] at H
   have c13b0 : decide (1857 ≤ a0) = true := decide_eq_true c13; clear c13; obtain rfl := Option.some.inj H
   go_enter Tryd.func147, Tryd.ntmps147
   go_wp2
   go_ret
   exact ⟨by first | rfl | (simp; done) | (simp [*]; done), drw0⟩
  rw [if_neg c13] at H; have c13b0 : decide (1857 ≤ a0) = false := decide_eq_false c13; clear c13; obtain rfl := Option.some.inj H
  go_enter Tryd.func147, Tryd.ntmps147
  go_wp2
  go_ret
  exact ⟨by first | rfl | (simp; done) | (simp [*]; done), drw0⟩
 rw [if_neg c2] at H
 have c2b0 : decide (4096 ≤ a0) = false := decide_eq_false c2
 clear c2
 by_cases c14 : a0 ≥ 4112
 ·rw [if_pos c14] at H
  have c14b0 : decide (4112 ≤ a0) = true := decide_eq_true c14; clear c14
  by_cases c15 : a0 ≤ 4119
  ·rw [if_pos c15] at H
   have c15b0 : decide (a0 ≤ 4119) = true := decide_eq_true c15; clear c15; obtain rfl := Option.some.inj H
   go_enter Tryd.func147, Tryd.ntmps147
   go_wp2
   go_ret
   exact ⟨by first | rfl | (simp; done) | (simp [*]; done), drw0⟩
  rw [if_neg c15] at H; have c15b0 : decide (a0 ≤ 4119) = false := decide_eq_false c15; clear c15
  by_cases c16 : a0 ≥ 1824
  ·rw [if_pos c16] at H
   have c16b0 : decide (1824 ≤ a0) = true := decide_eq_true c16; clear c16
   by_cases c17 : a0 ≤ 1844
   ·rw [if_pos c17] at H
    have c17b0 : decide (a0 ≤ 1844) = true := decide_eq_true c17; clear c17; obtain rfl := Option.some.inj H
    go_enter Tryd.func147, Tryd.ntmps147
    go_wp2
    go_ret
    exact ⟨by first | rfl | (simp; done) | (simp [*]; done), drw0⟩
   rw [if_neg c17] at H; have c17b0 : decide (a0 ≤ 1844) = false := decide_eq_false c17; clear c17
   by_cases c18 : a0 ≥ 1857
   ·rw [if_pos c18] at H
    have c18b0 : decide (1857 ≤ a0) = true := decide_eq_true c18; clear c18; obtain rfl := Option.some.inj H
    go_enter Tryd.func147, Tryd.ntmps147
    go_wp2
    go_ret
    exact ⟨by first | rfl | (simp; done) | (simp [*]; done), drw0⟩
   rw [if_neg c18] at H; have c18b0 : decide (1857 ≤ a0) = false := decide_eq_false c18; clear c18; obtain rfl := Option.some.inj H
   go_enter Tryd.func147, Tryd.ntmps147
   go_wp2
   go_ret
   exact ⟨by first | rfl | (simp; done) | (simp [*]; done), drw0⟩
  rw [if_neg c16] at H; have c16b0 : decide (1824 ≤ a0) = false := decide_eq_false c16; clear c16
  by_cases c19 : a0 ≥ 1857
  ·rw [if_pos c19] at H
   have c19b0 : decide (1857 ≤ a0) = true := decide_eq_true c19; clear c19; obtain rfl := Option.some.inj H
   go_enter Tryd.func147, Tryd.ntmps147
   go_wp2
   go_ret
   exact ⟨by first | rfl | (simp; done) | (simp [*]; done), drw0⟩
  rw [if_neg c19] at H; have c19b0 : decide (1857 ≤ a0) = false := decide_eq_false c19; clear c19; obtain rfl := Option.some.inj H
  go_enter Tryd.func147, Tryd.ntmps147
  go_wp2
  go_ret
  exact ⟨by first | rfl | (simp; done) | (simp [*]; done), drw0⟩
 rw [if_neg c14] at H
 have c14b0 : decide (4112 ≤ a0) = false := decide_eq_false c14
 clear c14
 by_cases c20 : a0 ≥ 1824
 ·rw [if_pos c20] at H
  have c20b0 : decide (1824 ≤ a0) = true := decide_eq_true c20; clear c20
  by_cases c21 : a0 ≤ 1844
  ·rw [if_pos c21] at H
   have c21b0 : decide (a0 ≤ 1844) = true := decide_eq_true c21; clear c21; obtain rfl := Option.some.inj H
   go_enter Tryd.func147, Tryd.ntmps147
   go_wp2
   go_ret
   exact ⟨by first | rfl | (simp; done) | (simp [*]; done), drw0⟩
  rw [if_neg c21] at H; have c21b0 : decide (a0 ≤ 1844) = false := decide_eq_false c21; clear c21
  by_cases c22 : a0 ≥ 1857
  ·rw [if_pos c22] at H
   have c22b0 : decide (1857 ≤ a0) = true := decide_eq_true c22; clear c22; obtain rfl := Option.some.inj H
   go_enter Tryd.func147, Tryd.ntmps147
   go_wp2
   go_ret
   exact ⟨by first | rfl | (simp; done) | (simp [*]; done), drw0⟩
  rw [if_neg c22] at H; have c22b0 : decide (1857 ≤ a0) = false := decide_eq_false c22; clear c22; obtain rfl := Option.some.inj H
  go_enter Tryd.func147, Tryd.ntmps147
  go_wp2
  go_ret
  exact ⟨by first | rfl | (simp; done) | (simp [*]; done), drw0⟩
 rw [if_neg c20] at H
 have c20b0 : decide (1824 ≤ a0) = false := decide_eq_false c20
 clear c20
 by_cases c23 : a0 ≥ 1857
 ·rw [if_pos c23] at H
  have c23b0 : decide (1857 ≤ a0) = true := decide_eq_true c23; clear c23; obtain rfl := Option.some.inj H
  go_enter Tryd.func147, Tryd.ntmps147
  go_wp2
  go_ret
  exact ⟨by first | rfl | (simp; done) | (simp [*]; done), drw0⟩
 rw [if_neg c23] at H
 have c23b0 : decide (1857 ≤ a0) = false := decide_eq_false c23
 clear c23
 obtain rfl := Option.some.inj H
 go_enter Tryd.func147, Tryd.ntmps147
 go_wp2
 go_ret
 exact ⟨by first | rfl | (simp; done) | (simp [*]; done), drw0⟩

theorem spec_l05Second.eq (p : Int) : spec_l05Second.f p = some (decide (YtiabgmddnddeiaaDoorNrm.second p)) := by
  unfold spec_l05Second.f
  repeat' split
  all_goals first
    | (congr 1; symm; exact decide_eq_true (by unfold YtiabgmddnddeiaaDoorNrm.second; omega))
    | (congr 1; symm; exact decide_eq_false (by unfold YtiabgmddnddeiaaDoorNrm.second; omega))
    | (congr 1; rw [decide_eq_decide]; unfold YtiabgmddnddeiaaDoorNrm.second; omega)

/-! ### spec_l05Safe: function 97 -/
def spec_l05Safe.f (a0 : Int) (a1 : Int) : Option (Bool) := (spec_l05K.f a0).bind fun t374 => ((W_spec_l05All.f a1 t374).bind fun t375 => (if 0 < (t375.length : Int) then ((W_spec_l01Class.f (rd t375 0)).bind fun t379 => (if t379 = 0 then ((spec_l05Second.f (rd t375 0)).bind fun t380 => (some (!t380))) else (some false))) else (none)))
set_option maxHeartbeats 8000000 in
set_option maxRecDepth 100000 in
theorem spec_l05Safe.calls (a0 : Int) (a1 : Int) (r : Bool) (w : World) (h : spec_l05Safe.f a0 a1 = some r) :
  Calls Tryd.prog 97 #[.int .i64 a0, .int .i64 a1] w fun e w' => e = .returned (.bool r) ∧ Below w.heap.size w w' := by
 have HB := Aside0.mk (Below.refl w.heap.size w)
 have H : ((spec_l05K.f a0).bind fun t374 => ((W_spec_l05All.f a1 t374).bind fun t375 => (if 0 < (t375.length : Int) then ((W_spec_l01Class.f (rd t375 0)).bind fun t379 => (if t379 = 0 then ((spec_l05Second.f (rd t375 0)).bind fun t380 => (some (!t380))) else (some false))) else (none)))) = some r := h
 clear h
 replace H := Option.bind_eq_some_iff.mp H
 obtain ⟨t374, A30, H⟩ := H
 try dsimp only at H
 have A3 := Aside0.mk A30
 clear A30
 replace H := Option.bind_eq_some_iff.mp H
 obtain ⟨t375, A40, H⟩ := H
 try dsimp only at H
 have A4 := Aside0.mk A40
 clear A40
 by_cases c5 : 0 < (t375.length : Int)
 ·rw [if_pos c5] at H
  have c5b0 : decide (0 < (t375.length : Int)) = true := decide_eq_true c5
  have c5b1 : decide (0 < t375.length) = true := decide_eq_true (by omega)
  clear c5; replace H := Option.bind_eq_some_iff.mp H; obtain ⟨t379, A60, H⟩ := H
  try dsimp only at H
  have A6 := Aside0.mk A60; clear A60
  by_cases c7 : t379 = 0
  ·rw [if_pos c7] at H
   have c7b0 : (t379 == 0) = true := beq_iff_eq.mpr c7; have c7b1 : (t379 != 0) = false := bne_eq_false_iff_eq.mpr c7; clear c7; replace H := Option.bind_eq_some_iff.mp H; obtain ⟨t380, A80, H⟩ := H
   try dsimp only at H
   have A8 := Aside0.mk A80; clear A80; obtain rfl := Option.some.inj H
   go_enter Tryd.func97, Tryd.ntmps97
   go_wp2_with (first | (go_at_call 175; (with_reducible refine (spec_l05K.calls a0 t374 _ A3.out).mono ?_); rintro e w' ⟨rfl, ⟨nd, rfl⟩⟩) | (go_at_call 174; (with_reducible refine (W_spec_l05All.calls a1 t374 t375 _ A4.out).mono ?_); rintro e w9 ⟨v376, rfl, ho0, hb⟩; have n0_ := Aside0.mk (Kd.R_lower ho0 (below_size (belowA))); have n1_ := Aside0.mk (below_step (belowA) hb); have HO377 := n0_; replace HB := n1_; clear n0_ n1_; clear hb; (try clear ho0); obtain ⟨Ao10, co10, eo10⟩ := Kd.R_slice HO377.out; subst eo10; have p378 : 0 ≤ (0 : Int) := (by omega); have q378 : 0 < (t375.length : Int) := ode; obtain ⟨ad378, e378, hx378_0⟩ := Kd.at_int (Kd.R_reads' HO377.out).2.2 0 p378 q378; cases e378; have qi378 : (0 < t375.length) = True := eq_true (by omega); (try rw [show ((0 : Int)).toNat = 0 from rfl] at hx378_0); (try rw [Addr.add_zero'] at hx378_0); replace p378 := eq_true p378; replace q378 := eq_true q378) | (go_at_call 145; (with_reducible refine (W_spec_l01Class.calls (rd t375 0) t379 _ A6.out).mono ?_); rintro e w' ⟨rfl, ⟨nd, rfl⟩⟩) | (go_at_call 147; (with_reducible refine (spec_l05Second.calls (rd t375 0) t380 _ A8.out).mono ?_); rintro e w' ⟨rfl, ⟨nd, rfl⟩⟩))
   go_ret
   exact ⟨by first | rfl | (simp [errW_none, errW_some] <;> rfl) | (simp [*, errW_none, errW_some] <;> rfl), belowA⟩
  rw [if_neg c7] at H; have c7b0 : (t379 == 0) = false := beq_eq_false_iff_ne.mpr c7; have c7b1 : (t379 != 0) = true := bne_iff_ne.mpr c7; obtain rfl := Option.some.inj H
  go_enter Tryd.func97, Tryd.ntmps97
  go_wp2_with (first | (go_at_call 175; (with_reducible refine (spec_l05K.calls a0 t374 _ A3.out).mono ?_); rintro e w' ⟨rfl, ⟨nd, rfl⟩⟩) | (go_at_call 174; (with_reducible refine (W_spec_l05All.calls a1 t374 t375 _ A4.out).mono ?_); rintro e w11 ⟨v376, rfl, ho0, hb⟩; have n0_ := Aside0.mk (Kd.R_lower ho0 (below_size (belowA))); have n1_ := Aside0.mk (below_step (belowA) hb); have HO377 := n0_; replace HB := n1_; clear n0_ n1_; clear hb; (try clear ho0); obtain ⟨Ao12, co12, eo12⟩ := Kd.R_slice HO377.out; subst eo12; have p378 : 0 ≤ (0 : Int) := (by omega); have q378 : 0 < (t375.length : Int) := ode; obtain ⟨ad378, e378, hx378_0⟩ := Kd.at_int (Kd.R_reads' HO377.out).2.2 0 p378 q378; cases e378; have qi378 : (0 < t375.length) = True := eq_true (by omega); (try rw [show ((0 : Int)).toNat = 0 from rfl] at hx378_0); (try rw [Addr.add_zero'] at hx378_0); replace p378 := eq_true p378; replace q378 := eq_true q378) | (go_at_call 145; (with_reducible refine (W_spec_l01Class.calls (rd t375 0) t379 _ A6.out).mono ?_); rintro e w' ⟨rfl, ⟨nd, rfl⟩⟩))
  go_ret
  exact ⟨by first | rfl | (simp [errW_none, errW_some] <;> rfl) | (simp [*, errW_none, errW_some] <;> rfl), belowA⟩
 rw [if_neg c5] at H
 exact absurd H (by simp)

theorem spec_l05Safe.eq {f p : Int} (h0 : 0 ≤ p) (h1 : p ≤ 1114111) : spec_l05Safe.f f p = some (YtiabgmddnddeiaaDoorNmr.sf f p) := by
  have hd := YtiabgmddnddeiaaDoorNrm.dec_first (decide (f ≥ 3)) p
  have hr : 0 ≤ YtiabgmddnddeiaaDoorNrm.first (decide (f ≥ 3)) p ∧ YtiabgmddnddeiaaDoorNrm.first (decide (f ≥ 3)) p ≤ 1114111 := spec_l05Norm.drange h0 h1 _ (by rw [hd]; exact List.mem_cons_self)
  unfold spec_l05Safe.f spec_l05K.f W_spec_l05All.f
  simp only [Option.bind_some]
  rw [if_pos ⟨h0, h1⟩, hd]
  simp only [Option.bind_some]
  have hrd : ∀ (a : Int) (l : List Int), rd (a :: l) 0 = a := fun _ _ => rfl
  rw [if_pos (by simp), hrd, show W_spec_l01Class.f (YtiabgmddnddeiaaDoorNrm.first (decide (f ≥ 3)) p) = some (YtiabgmddnddeiaaDoorNrm.cls (YtiabgmddnddeiaaDoorNrm.first (decide (f ≥ 3)) p)) from if_pos (by omega)]
  simp only [Option.bind_some]
  have hs : YtiabgmddnddeiaaDoorNmr.sf f p = decide (YtiabgmddnddeiaaDoorNrm.cls (YtiabgmddnddeiaaDoorNrm.first (decide (f ≥ 3)) p) = 0 ∧ ¬ YtiabgmddnddeiaaDoorNrm.second (YtiabgmddnddeiaaDoorNrm.first (decide (f ≥ 3)) p)) := by
    unfold YtiabgmddnddeiaaDoorNmr.sf; exact decide_eq_decide.2 Iff.rfl
  rw [hs]
  by_cases c : YtiabgmddnddeiaaDoorNrm.cls (YtiabgmddnddeiaaDoorNrm.first (decide (f ≥ 3)) p) = 0
  · rw [if_pos c, spec_l05Second.eq]
    simp only [Option.bind_some]
    by_cases g : YtiabgmddnddeiaaDoorNrm.second (YtiabgmddnddeiaaDoorNrm.first (decide (f ≥ 3)) p)
    · rw [decide_eq_true g, decide_eq_false (fun z => z.2 g)]; rfl
    · rw [decide_eq_false g, decide_eq_true ⟨c, g⟩]; rfl
  · rw [if_neg c, decide_eq_false (fun z => c z.1)]

/-! ### spec_l05WellWritten: function 173 -/
def spec_l05WellWritten.f (a0 : ByteArray) : Option (Bool) := (W_spec_l01Points.f a0).bind fun t381 => ((W_spec_l01Text.f t381).bind fun t384 => (some (t384.toList == a0.toList)))
set_option maxHeartbeats 8000000 in
set_option maxRecDepth 100000 in
theorem spec_l05WellWritten.calls (a0 : ByteArray) (r : Bool) (w : World) (h : spec_l05WellWritten.f a0 = some r) :
    Calls Tryd.prog 173 #[.string a0] w fun e w' => e = .returned (.bool r) ∧ Below w.heap.size w w' := by
  have HB := Aside0.mk (Below.refl w.heap.size w)
  have H : ((W_spec_l01Points.f a0).bind fun t381 => ((W_spec_l01Text.f t381).bind fun t384 => (some (t384.toList == a0.toList)))) = some r := h
  clear h
  replace H := Option.bind_eq_some_iff.mp H
  obtain ⟨t381, A20, H⟩ := H
  replace H : ((W_spec_l01Text.f t381).bind fun t384 => (some (t384.toList == a0.toList))) = some r := H
  have A2 := Aside0.mk A20
  clear A20
  replace H := Option.bind_eq_some_iff.mp H
  obtain ⟨t384, A30, H⟩ := H
  replace H : (some (t384.toList == a0.toList)) = some r := H
  have A3 := Aside0.mk A30
  clear A30
  obtain rfl := Option.some.inj H
  go_enter Tryd.func173, Tryd.ntmps173
  go_wp2_with (first | (go_at_call 90; (with_reducible refine (W_spec_l01Points.calls a0 t381 _ A2.out).mono ?_); rintro e w4 ⟨v382, rfl, ho0, hb⟩; have n0_ := Aside0.mk (Kd.R_lower ho0 (below_size (by repeat (first | (with_reducible first | exact HB.out | apply below_alloc | apply pw_below_drewN | apply below_drew1) | exact HB.out)))); have n1_ := Aside0.mk (below_step (by repeat (first | (with_reducible first | exact HB.out | apply below_alloc | apply pw_below_drewN | apply below_drew1) | exact HB.out)) hb); have HO383 := n0_; replace HB := n1_; clear n0_ n1_; clear hb; (try clear ho0); obtain ⟨Ao5, co5, eo5⟩ := Kd.R_slice HO383.out; subst eo5) | (go_at_call 95; (with_reducible refine (W_spec_l01Text.calls _ _ t381 t384 _ ?side1 ?side2 A3.out).mono ?_); (case side1 => repeat (first | exact (Kd.R_reads' HO383.out).2.2 | (with_reducible refine Kd.C_alloc ?_ _) | (with_reducible refine Kd.C_drewN ?_ _) | (with_reducible refine Kd.C_drew ?_))); (case side2 => exact (Kd.R_reads' HO383.out).2.1); rintro e w6 ⟨rfl, hb⟩; have n0_ := Aside0.mk (Kd.R_below (by (with_reducible repeat (first | apply Kd.R_alloc | apply Kd.R_drewN | apply Kd.R_drew)); exact HO383.out) hb); have n1_ := Aside0.mk (below_step (by repeat (first | (with_reducible first | exact HB.out | apply below_alloc | apply pw_below_drewN | apply below_drew1) | exact HB.out)) hb); replace HO383 := n0_; replace HB := n1_; clear n0_ n1_; clear hb))
  go_ret
  exact ⟨by first | rfl | (simp [errW_none, errW_some] <;> rfl) | (simp [*, errW_none, errW_some] <;> rfl), by repeat (first | (with_reducible first | exact HB.out | apply below_alloc | apply pw_below_drewN | apply below_drew1) | exact HB.out)⟩

/-! ### spec_NormerFault: function 96 -/
mutual
def spec_NormerFault.j0 : Nat → Bool → Int → ByteArray → Option (Int)
 | 0, _, _, _ => none
 | k + 1, x20, x386000, x386001 => if x20 = true then (some 1) else ((W_spec_l01Points.f x386001).bind fun t388 => (spec_NormerFault.l0 k t388 1 x386000 x386001))
def spec_NormerFault.l0 : Nat → List Int → Int → Int → ByteArray → Option (Int)
 | 0, _, _, _, _ => none
 | k + 1, x3, x4, x386000, x386001 => if x4 < (x3.length : Int) then (if 0 ≤ x4 then ((spec_l05Safe.f x386000 (rd x3 x4)).bind fun t392 => (if t392 = true then (some 1) else (spec_NormerFault.l0 k x3 (wrap64 (x4 + 1)) x386000 x386001))) else (none)) else (some 0)
end
def spec_NormerFault.f (k : Nat) (a0_0 : Int) (a0_1 : ByteArray) : Option (Int) := (spec_l05IsForm.f a0_0).bind fun t386 => (if t386 = true then (if (a0_1.size : Int) > 1000 then (spec_NormerFault.j0 k true a0_0 a0_1) else ((spec_l05WellWritten.f a0_1).bind fun t387 => (spec_NormerFault.j0 k (!t387) a0_0 a0_1))) else (spec_NormerFault.j0 k true a0_0 a0_1))
theorem spec_NormerFault.mono_l : ∀ k, (∀ y0 y1 y2, LeO (spec_NormerFault.j0 k y0 y1 y2) (spec_NormerFault.j0 (k + 1) y0 y1 y2)) ∧ (∀ y0 y1 y2 y3, LeO (spec_NormerFault.l0 k y0 y1 y2 y3) (spec_NormerFault.l0 (k + 1) y0 y1 y2 y3))
 | 0 => ⟨fun _ _ _ r h => by simp [spec_NormerFault.j0] at h, fun _ _ _ _ r h => by simp [spec_NormerFault.l0] at h⟩
 | k + 1 => by
  obtain ⟨ih0, ih1⟩ := spec_NormerFault.mono_l k; refine ⟨?_, ?_⟩
  ·intro y0 y1 y2
   unfold spec_NormerFault.j0
   repeat' first
   | (with_reducible exact ih0 _ _ _)
   | (with_reducible exact ih1 _ _ _ _)
   | (with_reducible exact LeO.refl _)
   | (with_reducible exact LeO.none _)
   | (with_reducible refine LeO.ite ?_ ?_)
   | (with_reducible refine LeO.bind ?_ (fun _ => ?_))
   | exact ih0 _ _ _
   | exact ih1 _ _ _ _
   | exact LeO.none _
   | refine LeO.ite ?_ ?_
   | refine LeO.bind ?_ (fun _ => ?_)
  intro y0 y1 y2 y3
  unfold spec_NormerFault.l0
  repeat' first
  | (with_reducible exact ih0 _ _ _)
  | (with_reducible exact ih1 _ _ _ _)
  | (with_reducible exact LeO.refl _)
  | (with_reducible exact LeO.none _)
  | (with_reducible refine LeO.ite ?_ ?_)
  | (with_reducible refine LeO.bind ?_ (fun _ => ?_))
  | exact ih0 _ _ _
  | exact ih1 _ _ _ _
  | exact LeO.none _
  | refine LeO.ite ?_ ?_
  | refine LeO.bind ?_ (fun _ => ?_)
theorem spec_NormerFault.mono : ∀ a0 a1 k, LeO (spec_NormerFault.f k a0 a1) (spec_NormerFault.f (k + 1) a0 a1) := by
 intro a0 a1 k
 obtain ⟨ih0, ih1⟩ := spec_NormerFault.mono_l k
 unfold spec_NormerFault.f
 repeat' first
   | (with_reducible exact ih0 _ _ _)
   | (with_reducible exact ih1 _ _ _ _)
   | (with_reducible exact LeO.refl _)
   | (with_reducible exact LeO.none _)
   | (with_reducible refine LeO.ite ?_ ?_)
   | (with_reducible refine LeO.bind ?_ (fun _ => ?_))
   | exact ih0 _ _ _
   | exact ih1 _ _ _ _
   | exact LeO.none _
   | refine LeO.ite ?_ ?_
   | refine LeO.bind ?_ (fun _ => ?_)
set_option maxHeartbeats 8000000 in
set_option maxRecDepth 100000 in
theorem spec_NormerFault.calls (k : Nat) (a0_0 : Int) (a0_1 : ByteArray) (r : Int) (w : World) (h : spec_NormerFault.f k a0_0 a0_1 = some r) :
  Calls Tryd.prog 96 #[.agg #[.int .i64 a0_0, .string a0_1]] w fun e w' => e = .returned (.int .i64 r) ∧ Below w.heap.size w w' := by
 have hu27 := Tryd.underlying27
 have HB := Aside0.mk (Below.refl w.heap.size w)
 have H : ((spec_l05IsForm.f a0_0).bind fun t386 => (if t386 = true then (if (a0_1.size : Int) > 1000 then (spec_NormerFault.j0 k true a0_0 a0_1) else ((spec_l05WellWritten.f a0_1).bind fun t387 => (spec_NormerFault.j0 k (!t387) a0_0 a0_1))) else (spec_NormerFault.j0 k true a0_0 a0_1))) = some r := h
 clear h
 have HC2 := Aside0.mk H
 clear H
 go_enter Tryd.func96, Tryd.ntmps96
 go_upto_region 1 with (first | ((with_reducible refine gate_dst (N := 1) rfl ?_); (try (refine gate_guard (by rfl) ?_; dsimp only)); refine box_event ?hg (N := 1) ?hd (cs := #[.int .i64 a0_0, .string a0_1]) (t := 27) ?hr ?_; (case hd => rfl); (case hg => rfl); (case hr => first | (go_simp; done) | (go_simp; rfl)); intro gb385 hg w3 hbox hb; have n0_ := Aside0.mk (below_step (belowA) hb); have n1_ := Aside0.mk (hbox); have n2_ := Aside0.mk ((by rw [hg]; exact (below_size (belowA)) : w.heap.size ≤ gb385)); have n3_ := Aside0.mk ((by rw [hg]; exact (below_size (belowA)) : w.heap.size ≤ gb385)); replace HB := n0_; have BK385 := n1_; have GW385 := n2_; have GE385 := n3_; clear n0_ n1_ n2_ n3_; clear hb hbox hg))
 (try simp only [Act.put, List.setIfInBounds_toArray, List.set_cons_zero, List.set_cons_succ])
 go_cut [20] (fun v20 wc => ∃ (kq : Nat) (x20_1 : Bool), v20 = .bool x20_1 ∧ Aside0 (spec_NormerFault.j0 kq x20_1 a0_0 a0_1 = some r) ∧ Aside0 (kq ≤ k) ∧ Aside0 (wc.heap[gb385]? = some (.cells #[.int .i64 a0_0, .string a0_1] 27 (0, 0))) ∧ Aside0 (Below w.heap.size w wc))
 case first =>
  have H := HC2.out; clear HC2; replace H := Option.bind_eq_some_iff.mp H; obtain ⟨t386, A40, H⟩ := H
  try dsimp only at H
  have A4 := Aside0.mk A40; clear A40
  by_cases c5 : t386 = true
  ·subst c5
   have H1 : (if (a0_1.size : Int) > 1000 then (spec_NormerFault.j0 k true a0_0 a0_1) else ((spec_l05WellWritten.f a0_1).bind fun t387 => (spec_NormerFault.j0 k (!t387) a0_0 a0_1))) = some r := by rw [if_pos rfl] at H; exact H
   clear H; have H := H1; clear H1
   by_cases c6 : (a0_1.size : Int) > 1000
   ·rw [if_pos c6] at H
    have c6b0 : decide (1000 < (a0_1.size : Int)) = true := decide_eq_true c6
    have c6b1 : decide (1000 < a0_1.size) = true := decide_eq_true (by omega)
    clear c6
    (first | rw [c6b0] | (simp only [i64_w, i32_w]; rw [c6b0]) | skip)
    have H' := Aside0.mk H; clear H; have hcz7_0 : w3.cell? ⟨gb385, 0, none⟩ = some (.int .i64 a0_0) := (blk_cell BK385.out 0).trans rfl; have hcz7_1 : w3.cell? ⟨gb385, 1, none⟩ = some (.string a0_1) := (blk_cell BK385.out 1).trans rfl; have hfz7_0 := blk_frozen BK385.out 0; have hfz7_1 := blk_frozen BK385.out 1
    go_wp2_with (first | (go_at_call 83; (with_reducible refine (spec_l05IsForm.calls a0_0 true _ A4.out).mono ?_); rintro e w' ⟨rfl, ⟨nd, rfl⟩⟩))
    go_meet
    case rel => exact ⟨_, (true), (by first | rfl | (simp; done) | (simp [*]; done)), H', ⟨by first | omega | exact Nat.le_refl _⟩, ⟨by (with_reducible repeat (first | refine blk_drewN ?_ _ | refine blk_drew ?_ | refine blk_alloc ?_ _)); exact BK385.out⟩, ⟨belowG⟩⟩
   rw [if_neg c6] at H; have c6b0 : decide (1000 < (a0_1.size : Int)) = false := decide_eq_false c6
   have c6b1 : decide (1000 < a0_1.size) = false := decide_eq_false (by omega)
   clear c6
   (first | rw [c6b0] | (simp only [i64_w, i32_w]; rw [c6b0]) | skip)
   replace H := Option.bind_eq_some_iff.mp H; obtain ⟨t387, A80, H⟩ := H
   try dsimp only at H
   have A8 := Aside0.mk A80; clear A80; have H' := Aside0.mk H; clear H; have hcz9_0 : w3.cell? ⟨gb385, 0, none⟩ = some (.int .i64 a0_0) := (blk_cell BK385.out 0).trans rfl; have hcz9_1 : w3.cell? ⟨gb385, 1, none⟩ = some (.string a0_1) := (blk_cell BK385.out 1).trans rfl; have hfz9_0 := blk_frozen BK385.out 0; have hfz9_1 := blk_frozen BK385.out 1
   go_wp2_with (first | (go_at_call 83; (with_reducible refine (spec_l05IsForm.calls a0_0 true _ A4.out).mono ?_); rintro e w' ⟨rfl, ⟨nd, rfl⟩⟩) | (go_at_call 173; (with_reducible refine (spec_l05WellWritten.calls a0_1 t387 _ A8.out).mono ?_); rintro e w10 ⟨rfl, hb⟩; have n0_ := bkb BK385.out hb; have n1_ := Aside0.mk (below_step (belowG) hb); replace BK385 := n0_; replace HB := n1_; clear n0_ n1_; clear hb))
   go_meet
   case rel => exact ⟨_, (!t387), (by first | rfl | (simp; done) | (simp [*]; done)), H', ⟨by first | omega | exact Nat.le_refl _⟩, ⟨by (with_reducible repeat (first | refine blk_drewN ?_ _ | refine blk_drew ?_ | refine blk_alloc ?_ _)); exact BK385.out⟩, ⟨belowG⟩⟩
  replace c5 := Bool.eq_false_iff.mpr c5; subst c5
  have H1 : (spec_NormerFault.j0 k true a0_0 a0_1) = some r := by rw [if_neg (show ¬ (false = true) by decide)] at H; exact H
  clear H; have H := H1; clear H1; have H' := Aside0.mk H; clear H; have hcz11_0 : w3.cell? ⟨gb385, 0, none⟩ = some (.int .i64 a0_0) := (blk_cell BK385.out 0).trans rfl; have hcz11_1 : w3.cell? ⟨gb385, 1, none⟩ = some (.string a0_1) := (blk_cell BK385.out 1).trans rfl; have hfz11_0 := blk_frozen BK385.out 0; have hfz11_1 := blk_frozen BK385.out 1
  go_wp2_with (first | (go_at_call 83; (with_reducible refine (spec_l05IsForm.calls a0_0 false _ A4.out).mono ?_); rintro e w' ⟨rfl, ⟨nd, rfl⟩⟩))
  go_meet
  case rel => exact ⟨_, (true), (by first | rfl | (simp; done) | (simp [*]; done)), H', ⟨by first | omega | exact Nat.le_refl _⟩, ⟨by (with_reducible repeat (first | refine blk_drewN ?_ _ | refine blk_drew ?_ | refine blk_alloc ?_ _)); exact BK385.out⟩, ⟨belowG⟩⟩
 case rest =>
  clear HC2
  try clear p2; try clear c5; try clear c6; try clear c6b0; try clear c6b1; try clear c8; try clear c9; try clear hcz11_0; try clear hcz11_1; try clear hcz7_0; try clear hcz7_1; try clear hcz9_0; try clear hcz9_1; try clear hfz11_0; try clear hfz11_1; try clear hfz7_0; try clear hfz7_1; try clear hfz9_0; try clear hfz9_1
  obtain ⟨kq, x20_1, rfl, HA, HJ1, BK385, HB⟩ := hcut
  cases kq with
  | zero => exact absurd HA.out (by simp [spec_NormerFault.j0])
  | succ kj1 =>
   have H := HA.out; clear HA; simp only [spec_NormerFault.j0] at H
   by_cases c12 : x20_1 = true
   ·subst c12
    have H1 : (some 1) = some r := by rw [if_pos rfl] at H; exact H
    clear H; have H := H1; clear H1; obtain rfl := Option.some.inj H
    go_wp2
    go_ret
    exact ⟨by first | rfl | (simp [errW_none, errW_some] <;> rfl) | (simp [*, errW_none, errW_some] <;> rfl), belowG⟩
   replace c12 := Bool.eq_false_iff.mpr c12; subst c12
   have H1 : ((W_spec_l01Points.f a0_1).bind fun t388 => (spec_NormerFault.l0 kj1 t388 1 a0_0 a0_1)) = some r := by rw [if_neg (show ¬ (false = true) by decide)] at H; exact H
   clear H; have H := H1; clear H1; replace H := Option.bind_eq_some_iff.mp H; obtain ⟨t388, A130, H⟩ := H
   try dsimp only at H
   have A13 := Aside0.mk A130; clear A130; have H' := Aside0.mk H; clear H; have hcz14_0 : wc.cell? ⟨gb385, 0, none⟩ = some (.int .i64 a0_0) := (blk_cell BK385.out 0).trans rfl; have hcz14_1 : wc.cell? ⟨gb385, 1, none⟩ = some (.string a0_1) := (blk_cell BK385.out 1).trans rfl; have hfz14_0 := blk_frozen BK385.out 0; have hfz14_1 := blk_frozen BK385.out 1
   go_wp2_with (first | (go_at_call 90; (with_reducible refine (W_spec_l01Points.calls a0_1 t388 _ A13.out).mono ?_); rintro e w15 ⟨v389, rfl, ho0, hb⟩; have n0_ := Aside0.mk (Kd.R_lower ho0 (below_size (belowG))); have n1_ := bkb BK385.out hb; have n2_ := Aside0.mk (below_step (belowG) hb); have HO390 := n0_; replace BK385 := n1_; replace HB := n2_; clear n0_ n1_ n2_; clear hb; (try clear ho0)))
   go_loopg [4] kj1 (fun kq v4 w' => ∃ (x4_2 : Int), v4 = .int .i64 x4_2 ∧ Aside0 (spec_NormerFault.l0 kq t388 x4_2 a0_0 a0_1 = some r) ∧ Aside0 (kq ≤ kj1) ∧ Aside0 (Kd.R (Kd.int .i64) 2 w' w.heap.size (fun _ => True) v389 t388) ∧ Aside0 (w'.heap[gb385]? = some (.cells #[.int .i64 a0_0, .string a0_1] 27 (0, 0))) ∧ Aside0 (Below w.heap.size w w'))
   case atStart => exact ⟨(1), (by first | rfl | (simp; done) | (simp [*]; done)), H', ⟨Nat.le_refl _⟩, ⟨by (with_reducible repeat (first | apply Kd.R_alloc | apply Kd.R_drewN | apply Kd.R_drew)); exact HO390.out⟩, ⟨by (with_reducible repeat (first | refine blk_drewN ?_ _ | refine blk_drew ?_ | refine blk_alloc ?_ _)); exact BK385.out⟩, ⟨belowG⟩⟩
   case round =>
    clear H'
    try clear c1; try clear p2; try clear c5; try clear c6; try clear c6b0; try clear c6b1; try clear c8; try clear c9; try clear c12; try clear hcz11_0; try clear hcz11_1; try clear hcz14_0; try clear hcz14_1; try clear hcz7_0; try clear hcz7_1; try clear hcz9_0; try clear hcz9_1; try clear hfz11_0; try clear hfz11_1; try clear hfz14_0; try clear hfz14_1; try clear hfz7_0; try clear hfz7_1; try clear hfz9_0; try clear hfz9_1; try clear p2
    obtain ⟨x4_2, rfl, HA, HK2, HO_3, BK385, HB⟩ := hrel
    cases gk with
    | zero => exact absurd HA.out (by simp [spec_NormerFault.l0])
    | succ k2 =>
     have H := HA.out; clear HA; simp only [spec_NormerFault.l0] at H
     by_cases c16 : x4_2 < (t388.length : Int)
     ·rw [if_pos c16] at H
      have c16b0 : decide (x4_2 < (t388.length : Int)) = true := decide_eq_true c16; clear c16
      by_cases c17 : 0 ≤ x4_2
      ·rw [if_pos c17] at H
       have c17b0 : decide (0 ≤ x4_2) = true := decide_eq_true c17; clear c17; replace H := Option.bind_eq_some_iff.mp H; obtain ⟨t392, A180, H⟩ := H
       try dsimp only at H
       have A18 := Aside0.mk A180; clear A180
       by_cases c19 : t392 = true
       ·subst c19
        have H1 : (some 1) = some r := by rw [if_pos rfl] at H; exact H
        clear H; have H := H1; clear H1; obtain rfl := Option.some.inj H; obtain ⟨Ao20, co20, eo20⟩ := Kd.R_slice HO_3.out; subst eo20
        try go_wp2
        have n0_ := Aside0.mk (Kd.R_drew HO_3.out); have n1_ := Aside0.mk (blk_drew BK385.out); have n2_ := Aside0.mk (below_drew1 HB.out); clear HO_3; clear BK385; clear HB; have HO_3 := n0_; have BK385 := n1_; have HB := n2_; clear n0_ n1_ n2_; have p391 : 0 ≤ (x4_2 : Int) := ode; have q391 : x4_2 < (t388.length : Int) := ode; obtain ⟨ad391, e391, hx391_0⟩ := Kd.at_int (Kd.R_reads' HO_3.out).2.2 x4_2 p391 q391; cases e391; replace p391 := eq_true p391; replace q391 := eq_true q391
        refine start_ (n := 7) (S := fun w' => w'.cell? ⟨gb385, 0, none⟩ = some (.int .i64 a0_0) ∧ w'.cell? ⟨gb385, 1, none⟩ = some (.string a0_1) ∧ w'.cell? (ad391.add (x4_2).toNat) = some (.int .i64 (rd t388 x4_2))) (ds := []) #[false,false,false,false,false,false,false] (by kernel_rfl) rfl rfl ⟨(blk_cell BK385.out 0).trans rfl, (blk_cell BK385.out 1).trans rfl, hx391_0⟩ (fun hHeld => ?_)
        generalize wr.drew = w21 at HO_3 BK385 HB hx391_0 hHeld ⊢
        refine pure_ (i := 0) (N := some 30) (v := ?_) (a' := ?_) #[true,false,false,false,false,false,false] rfl rfl (by kernel_rfl) (fun _ _ _ h => h) (Or.inl ⟨by rfl, ?_⟩) ?_ ?_
        rotate_left
        ·intro w'
         go_simp; with_reducible rfl
        rotate_left
        ·simp only [Act.put, List.setIfInBounds_toArray, List.set_cons_zero, List.set_cons_succ, i64_w, i32_w]
         rfl
        refine pure_ (i := 2) (N := some 32) (v := ?_) (a' := ?_) #[true,false,true,false,false,false,false] rfl rfl (by kernel_rfl) (fun _ _ _ h => h) (Or.inl ⟨by rfl, ?_⟩) ?_ ?_
        rotate_left
        ·intro w'
         go_simp; with_reducible rfl
        rotate_left
        ·simp only [Act.put, List.setIfInBounds_toArray, List.set_cons_zero, List.set_cons_succ, i64_w, i32_w]
         rfl
        refine pure_ (i := 3) (N := some 33) (v := ?_) (a' := ?_) #[true,false,true,true,false,false,false] rfl rfl (by kernel_rfl) (fun _ _ _ h => h) (Or.inl ⟨by rfl, ?_⟩) ?_ ?_
        rotate_left
        ·intro w'
         go_simp; with_reducible rfl
        rotate_left
        ·simp only [Act.put, List.setIfInBounds_toArray, List.set_cons_zero, List.set_cons_succ, i64_w, i32_w]
         rfl
        refine pure_ (i := 4) (N := some 34) (v := ?_) (a' := ?_) #[true,false,true,true,true,false,false] rfl rfl (by kernel_rfl) (fun _ _ _ h => h) (Or.inl ⟨by rfl, ?_⟩) ?_ ?_
        rotate_left
        ·intro w'
         go_simp; with_reducible rfl
        rotate_left
        ·simp only [Act.put, List.setIfInBounds_toArray, List.set_cons_zero, List.set_cons_succ, i64_w, i32_w]
         rfl
        refine take_ (i := 1) (N := some 31) (v := ?_) (a' := ?_) #[true,true,true,true,true,false,false] rfl rfl (by kernel_rfl) (fun _ _ _ h => h) (Or.inl ⟨by rfl, ?_⟩) hHeld ?_ ?_
        rotate_left
        ·rintro w' ⟨s0, s1, s2⟩
         go_simp; with_reducible rfl
        rotate_left
        ·simp only [Act.put, List.setIfInBounds_toArray, List.set_cons_zero, List.set_cons_succ, i64_w, i32_w]
         rfl
        refine take_ (i := 5) (N := some 35) (v := ?_) (a' := ?_) #[true,true,true,true,true,true,false] rfl rfl (by kernel_rfl) (fun _ _ _ h => h) (Or.inl ⟨by rfl, ?_⟩) hHeld ?_ ?_
        rotate_left
        ·rintro w' ⟨s0, s1, s2⟩
         go_simp; with_reducible rfl
        rotate_left
        ·simp only [Act.put, List.setIfInBounds_toArray, List.set_cons_zero, List.set_cons_succ, i64_w, i32_w]
         rfl
        refine one_ (i := 6) (N := some 36) #[true,true,true,true,true,true,true] rfl rfl (by kernel_rfl) (by decide) (fun K hK => ?_)
        refine goes_ Tryd.func97 (by kernel_rfl) rfl #[.int .i64 a0_0, .int .i64 (rd t388 x4_2)] (by rfl) rfl rfl (by (try simp only [List.map_toArray, List.map_cons, List.map_nil]); first | done | rfl) ?_
        with_reducible refine (spec_l05Safe.calls a0_0 (rd t388 x4_2) true _ A18.out).mono ?_
        rintro e w22 ⟨rfl, hb⟩; have HS2_ := (hb.cell (World.block_lt_of_cell? _ _ (hHeld.2.2))).trans (hHeld.2.2); refine ⟨_, rfl, ?_⟩; have n0_ := rbb HO_3.out hb; have n1_ := bkb BK385.out hb; have n2_ := Aside0.mk (below_step (belowG) hb); clear HO_3; clear BK385; clear HB; have HO_3 := n0_; have BK385 := n1_; have HB := n2_; clear n0_ n1_ n2_
        (try clear hb)
        (try clear hb2)
        (try clear hk)
        (try clear hi)
        refine hK.out _ _ ⟨(blk_cell BK385.out 0).trans rfl, (blk_cell BK385.out 1).trans rfl, HS2_⟩ (fun hHeld => ?_)
        clear hK K
        refine norm_ (a' := ?_) ?_ ?_
        rotate_left
        ·show Act.put _ (some 36) _ = _
         simp only [Act.put, List.setIfInBounds_toArray, List.set_cons_zero, List.set_cons_succ, i64_w, i32_w]; rfl
        refine done_ (by kernel_rfl) ?_
        try go_wp2
        go_ret
        exact ⟨by first | rfl | (simp [errW_none, errW_some] <;> rfl) | (simp [*, errW_none, errW_some] <;> rfl), belowG⟩
       replace c19 := Bool.eq_false_iff.mpr c19; subst c19
       have H1 : (spec_NormerFault.l0 k2 t388 (wrap64 (x4_2 + 1)) a0_0 a0_1) = some r := by rw [if_neg (show ¬ (false = true) by decide)] at H; exact H
       clear H; have H := H1; clear H1; have H' := Aside0.mk H; clear H; obtain ⟨Ao23, co23, eo23⟩ := Kd.R_slice HO_3.out; subst eo23
       try go_wp2
       have n0_ := Aside0.mk (Kd.R_drew HO_3.out); have n1_ := Aside0.mk (blk_drew BK385.out); have n2_ := Aside0.mk (below_drew1 HB.out); clear HO_3; clear BK385; clear HB; have HO_3 := n0_; have BK385 := n1_; have HB := n2_; clear n0_ n1_ n2_; have p391 : 0 ≤ (x4_2 : Int) := ode; have q391 : x4_2 < (t388.length : Int) := ode; obtain ⟨ad391, e391, hx391_0⟩ := Kd.at_int (Kd.R_reads' HO_3.out).2.2 x4_2 p391 q391; cases e391; replace p391 := eq_true p391; replace q391 := eq_true q391
       refine start_ (n := 7) (S := fun w' => w'.cell? ⟨gb385, 0, none⟩ = some (.int .i64 a0_0) ∧ w'.cell? ⟨gb385, 1, none⟩ = some (.string a0_1) ∧ w'.cell? (ad391.add (x4_2).toNat) = some (.int .i64 (rd t388 x4_2))) (ds := []) #[false,false,false,false,false,false,false] (by kernel_rfl) rfl rfl ⟨(blk_cell BK385.out 0).trans rfl, (blk_cell BK385.out 1).trans rfl, hx391_0⟩ (fun hHeld => ?_)
       generalize wr.drew = w24 at HO_3 BK385 HB hx391_0 hHeld ⊢
       refine pure_ (i := 0) (N := some 30) (v := ?_) (a' := ?_) #[true,false,false,false,false,false,false] rfl rfl (by kernel_rfl) (fun _ _ _ h => h) (Or.inl ⟨by rfl, ?_⟩) ?_ ?_
       rotate_left
       ·intro w'
        go_simp; with_reducible rfl
       rotate_left
       ·simp only [Act.put, List.setIfInBounds_toArray, List.set_cons_zero, List.set_cons_succ, i64_w, i32_w]
        rfl
       refine pure_ (i := 2) (N := some 32) (v := ?_) (a' := ?_) #[true,false,true,false,false,false,false] rfl rfl (by kernel_rfl) (fun _ _ _ h => h) (Or.inl ⟨by rfl, ?_⟩) ?_ ?_
       rotate_left
       ·intro w'
        go_simp; with_reducible rfl
       rotate_left
       ·simp only [Act.put, List.setIfInBounds_toArray, List.set_cons_zero, List.set_cons_succ, i64_w, i32_w]
        rfl
       refine pure_ (i := 3) (N := some 33) (v := ?_) (a' := ?_) #[true,false,true,true,false,false,false] rfl rfl (by kernel_rfl) (fun _ _ _ h => h) (Or.inl ⟨by rfl, ?_⟩) ?_ ?_
       rotate_left
       ·intro w'
        go_simp; with_reducible rfl
       rotate_left
       ·simp only [Act.put, List.setIfInBounds_toArray, List.set_cons_zero, List.set_cons_succ, i64_w, i32_w]
        rfl
       refine pure_ (i := 4) (N := some 34) (v := ?_) (a' := ?_) #[true,false,true,true,true,false,false] rfl rfl (by kernel_rfl) (fun _ _ _ h => h) (Or.inl ⟨by rfl, ?_⟩) ?_ ?_
       rotate_left
       ·intro w'
        go_simp; with_reducible rfl
       rotate_left
       ·simp only [Act.put, List.setIfInBounds_toArray, List.set_cons_zero, List.set_cons_succ, i64_w, i32_w]
        rfl
       refine take_ (i := 1) (N := some 31) (v := ?_) (a' := ?_) #[true,true,true,true,true,false,false] rfl rfl (by kernel_rfl) (fun _ _ _ h => h) (Or.inl ⟨by rfl, ?_⟩) hHeld ?_ ?_
       rotate_left
       ·rintro w' ⟨s0, s1, s2⟩
        go_simp; with_reducible rfl
       rotate_left
       ·simp only [Act.put, List.setIfInBounds_toArray, List.set_cons_zero, List.set_cons_succ, i64_w, i32_w]
        rfl
       refine take_ (i := 5) (N := some 35) (v := ?_) (a' := ?_) #[true,true,true,true,true,true,false] rfl rfl (by kernel_rfl) (fun _ _ _ h => h) (Or.inl ⟨by rfl, ?_⟩) hHeld ?_ ?_
       rotate_left
       ·rintro w' ⟨s0, s1, s2⟩
        go_simp; with_reducible rfl
       rotate_left
       ·simp only [Act.put, List.setIfInBounds_toArray, List.set_cons_zero, List.set_cons_succ, i64_w, i32_w]
        rfl
       refine one_ (i := 6) (N := some 36) #[true,true,true,true,true,true,true] rfl rfl (by kernel_rfl) (by decide) (fun K hK => ?_)
       refine goes_ Tryd.func97 (by kernel_rfl) rfl #[.int .i64 a0_0, .int .i64 (rd t388 x4_2)] (by rfl) rfl rfl (by (try simp only [List.map_toArray, List.map_cons, List.map_nil]); first | done | rfl) ?_
       with_reducible refine (spec_l05Safe.calls a0_0 (rd t388 x4_2) false _ A18.out).mono ?_
       rintro e w25 ⟨rfl, hb⟩; have HS2_ := (hb.cell (World.block_lt_of_cell? _ _ (hHeld.2.2))).trans (hHeld.2.2); refine ⟨_, rfl, ?_⟩; have n0_ := rbb HO_3.out hb; have n1_ := bkb BK385.out hb; have n2_ := Aside0.mk (below_step (belowG) hb); clear HO_3; clear BK385; clear HB; have HO_3 := n0_; have BK385 := n1_; have HB := n2_; clear n0_ n1_ n2_
       (try clear hb)
       (try clear hb2)
       (try clear hk)
       (try clear hi)
       refine hK.out _ _ ⟨(blk_cell BK385.out 0).trans rfl, (blk_cell BK385.out 1).trans rfl, HS2_⟩ (fun hHeld => ?_)
       clear hK K
       refine norm_ (a' := ?_) ?_ ?_
       rotate_left
       ·show Act.put _ (some 36) _ = _
        simp only [Act.put, List.setIfInBounds_toArray, List.set_cons_zero, List.set_cons_succ, i64_w, i32_w]; rfl
       refine done_ (by kernel_rfl) ?_
       try go_wp2
       go_roundg k2
       case measure => have := HJ1.out; have := HK2.out; omega
       case rel => exact ⟨(wrap64 (x4_2 + 1)), (by first | rfl | (simp; done) | (simp [*]; done)), H', ⟨by have := HJ1.out; have := HK2.out; omega⟩, ⟨by (with_reducible repeat (first | apply Kd.R_alloc | apply Kd.R_drewN | apply Kd.R_drew)); exact HO_3.out⟩, ⟨by (with_reducible repeat (first | refine blk_drewN ?_ _ | refine blk_drew ?_ | refine blk_alloc ?_ _)); exact BK385.out⟩, ⟨belowG⟩⟩
      rw [if_neg c17] at H
      exact absurd H (by simp)
     rw [if_neg c16] at H; have c16b0 : decide (x4_2 < (t388.length : Int)) = false := decide_eq_false c16; clear c16; obtain rfl := Option.some.inj H; obtain ⟨Ao26, co26, eo26⟩ := Kd.R_slice HO_3.out; subst eo26
     go_wp2
     go_ret
     exact ⟨by first | rfl | (simp [errW_none, errW_some] <;> rfl) | (simp [*, errW_none, errW_some] <;> rfl), belowG⟩

def W_spec_NormerFault.f (f : Int) (t : ByteArray) : Option Int := if t.size ≤ 100000000 then some (YtiabgmddnddeiaaDoorNmr.NF f t) else none
theorem spec_NormerFault.run (f : Int) (t : ByteArray) (l : List Int) (hl : l.length ≤ 100000000) (hp : ∀ p ∈ l, 0 ≤ p ∧ p ≤ 1114111) (d : Nat) : ∀ (k i : Nat), 1 ≤ i → l.length - i = d → d < k →
    spec_NormerFault.l0 k l (i : Int) f t = some (if (l.drop i).all (fun p => !YtiabgmddnddeiaaDoorNmr.sf f p) = true then 0 else 1) := by
  induction d with
  | zero =>
    intro k i h1 h2 h3
    obtain ⟨k, rfl⟩ : ∃ m, k = m + 1 := ⟨k - 1, by omega⟩
    simp only [spec_NormerFault.l0]
    rw [if_neg (by omega), List.drop_eq_nil_of_le (by omega)]; rfl
  | succ d ih =>
    intro k i h1 h2 h3
    obtain ⟨k, rfl⟩ : ∃ m, k = m + 1 := ⟨k - 1, by omega⟩
    have hlt : i < l.length := by omega
    have hr : rd l (i : Int) = l[i] := by simp [rd, List.getD, hlt]
    have hw : wrap64 ((i : Int) + 1) = ((i + 1 : Nat) : Int) := by unfold wrap64; omega
    have hpp := hp _ (List.getElem_mem hlt)
    simp only [spec_NormerFault.l0]
    rw [if_pos (by omega), if_pos (by omega), hr, spec_l05Safe.eq hpp.1 hpp.2]
    simp only [Option.bind_some]
    rw [List.drop_eq_getElem_cons hlt, List.all_cons, hw, ih k (i + 1) (by omega) (by omega) (by omega)]
    cases YtiabgmddnddeiaaDoorNmr.sf f l[i] <;> simp
theorem W_spec_NormerFault.to {f : Int} {t : ByteArray} {r : Int} (h : W_spec_NormerFault.f f t = some r) : ∃ k, spec_NormerFault.f k f t = some r := by
  unfold W_spec_NormerFault.f at h
  split at h
  · rename_i hs
    refine ⟨t.size + 4, ?_⟩
    rw [← h]
    unfold spec_NormerFault.f YtiabgmddnddeiaaDoorNmr.NF
    rw [spec_l05IsForm.eq]
    simp only [Option.bind_some]
    cases ho : YtiabgmddnddeiaaDoorNst.ok f with
    | false =>
      rw [if_neg (by decide), if_neg (by rintro ⟨z, _⟩; cases z)]
      simp only [spec_NormerFault.j0]
      rw [if_pos trivial]
    | true =>
      rw [if_pos rfl]
      by_cases c : (t.size : Int) > 1000
      · rw [if_pos c, if_neg (by rintro ⟨_, z, _⟩; omega)]
        simp only [spec_NormerFault.j0]
        rw [if_pos trivial]
      · rw [if_neg c]
        have hP : YtiabgmddnddeiaaDoorPts.pts (bytesOf t) = YtiabgmddnddeiaaDoorNst.P t := rfl
        have hl := YtiabgmddnddeiaaDoorNst.P_len t
        have hr := YtiabgmddnddeiaaDoorNst.range (YtiabgmddnddeiaaDoorNst.P_isP t)
        have hw : Lib.validD t.data.toList = ((strOfNums (YtiabgmddnddeiaaDoorPts.encs (YtiabgmddnddeiaaDoorNst.P t))).toList == t.toList) := by
          rw [YtiabgmddnddeiaaDoorVal.well, hP, Bool.eq_iff_iff, decide_eq_true_iff, beq_iff_eq]
          constructor
          · intro e; rw [e, YtiabgmddnddeiaaDoorPts.strOfNums_bytesOf]
          · intro e
            have := congrArg bytesOf (YtiabgmddnddeiaaDoorNst.toList_inj e)
            rw [YtiabgmddnddeiaaDoorPts.bytesOf_strOfNums (YtiabgmddnddeiaaDoorPts.encs_bytes _)] at this
            exact this
        unfold spec_l05WellWritten.f W_spec_l01Points.f W_spec_l01Text.f
        rw [if_pos (by omega), hP]
        simp only [Option.bind_some]
        rw [if_pos (by omega)]
        simp only [Option.bind_some, spec_NormerFault.j0]
        rw [← hw]
        cases hv : Lib.validD t.data.toList with
        | false => rw [if_pos (by rfl), if_neg (by rintro ⟨_, _, z, _⟩; cases z)]
        | true =>
          rw [if_neg (by decide)]
          unfold W_spec_l01Points.f
          rw [if_pos (by omega), hP]
          simp only [Option.bind_some]
          have := spec_NormerFault.run f t (YtiabgmddnddeiaaDoorNst.P t) (by omega) hr _ (t.size + 3) 1 (by omega) rfl (by omega)
          rw [show (1 : Int) = ((1 : Nat) : Int) from rfl, this]
          unfold YtiabgmddnddeiaaDoorNmr.tailBad
          simp only [List.drop_one]
          by_cases g : (YtiabgmddnddeiaaDoorNst.P t).tail.all (fun p => !YtiabgmddnddeiaaDoorNmr.sf f p) = true
          · rw [if_pos g, if_pos ⟨trivial, by omega, trivial, g⟩]
          · rw [if_neg g, if_neg (fun z => g z.2.2.2)]; rfl
  · cases h
theorem W_spec_NormerFault.calls (a0_0 : Int) (a0_1 : ByteArray) (r : Int) (w : World) (h : W_spec_NormerFault.f a0_0 a0_1 = some r) :
    Calls Tryd.prog 96 #[.agg #[.int .i64 a0_0, .string a0_1]] w fun e w' => e = .returned (.int .i64 r) ∧ Below w.heap.size w w' := by
  obtain ⟨k, hk⟩ := W_spec_NormerFault.to h
  exact spec_NormerFault.calls k a0_0 a0_1 r w hk

end Go.Proofs.YtiabgmddnddeiaaDoor.QFnNormer
