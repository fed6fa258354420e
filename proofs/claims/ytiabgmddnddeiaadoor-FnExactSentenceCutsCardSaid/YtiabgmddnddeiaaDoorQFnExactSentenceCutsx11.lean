/- The law FnExactSentenceCuts: at every input the call answers true (this text: contracts on its way, by a program of this session's; no condition of ours). -/
import Derived.Test.YtiabgmddnddeiaaDoorQFnExactSentenceCutsx0
import Derived.Test.YtiabgmddnddeiaaDoorQFnExactSentenceCutsx10
namespace Go.Proofs.YtiabgmddnddeiaaDoor.QFnExactSentenceCuts
open Go.RowKit Go.Proofs.YtiabgmddnddeiaaDoorW.PrintWords Go.Proofs.YtiabgmddnddeiaaDoorW.PrintLast Go.Proofs.YtiabgmddnddeiaaDoorW.PrintMore
attribute [local go_sem] max2_int min2_int max_two min_two max_three min_three max_four min_four   -- for this text's walks alone
set_option linter.unusedVariables false
set_option linter.unusedSimpArgs false

/-! ### impl_charClass: function 190 -/
mutual
def impl_charClass.j0 : Nat → Int → Bool → Option (Int)
 | 0, _, _ => none
 | k + 1, x0, x3 => if x3 = true then (some 1) else ((impl_isMark.f x0).bind fun t252 => (if t252 = true then (impl_charClass.j1 k x0 true) else (if x0 = 7936 then (impl_charClass.j1 k x0 true) else ((impl_in.f x0 7744 7748).bind fun t253 => (impl_charClass.j1 k x0 t253)))))
def impl_charClass.j1 : Nat → Int → Bool → Option (Int)
 | 0, _, _ => none
 | k + 1, x0, x11 => if x11 = true then (some 2) else ((impl_in.f x0 1792 1810).bind fun t254 => (if t254 = true then (some 3) else ((impl_in.f x0 1824 1844).bind fun t255 => (if t255 = true then (some 4) else ((impl_in.f x0 1857 1883).bind fun t256 => (if t256 = true then (some 5) else ((impl_isOpen.f x0).bind fun t257 => (if t257 = true then (some 6) else ((impl_isSyllable.f x0).bind fun t258 => (if t258 = true then (some 7) else ((impl_isPicture.f x0).bind fun t259 => (if t259 = true then (some 8) else ((impl_in.f x0 7760 7785).bind fun t260 => (if t260 = true then (some 9) else (some 0)))))))))))))))
end
def impl_charClass.f (k : Nat) (a0 : Int) : Option (Int) := (impl_Category.f a0).bind fun t251 => (if t251 = 1 then (impl_charClass.j0 k a0 true) else (impl_charClass.j0 k a0 (a0 == 7954)))
theorem impl_charClass.mono_l : ∀ k, (∀ y0 y1, LeO (impl_charClass.j0 k y0 y1) (impl_charClass.j0 (k + 1) y0 y1)) ∧ (∀ y0 y1, LeO (impl_charClass.j1 k y0 y1) (impl_charClass.j1 (k + 1) y0 y1))
 | 0 => ⟨fun _ _ r h => by simp [impl_charClass.j0] at h, fun _ _ r h => by simp [impl_charClass.j1] at h⟩
 | k + 1 => by
  obtain ⟨ih0, ih1⟩ := impl_charClass.mono_l k; refine ⟨?_, ?_⟩
  ·intro y0 y1
   unfold impl_charClass.j0
   repeat' first
   | (with_reducible exact ih0 _ _)
   | (with_reducible exact ih1 _ _)
   | (with_reducible exact LeO.refl _)
   | (with_reducible exact LeO.none _)
   | (with_reducible refine LeO.ite ?_ ?_)
   | (with_reducible refine LeO.bind ?_ (fun _ => ?_))
   | exact ih0 _ _
   | exact ih1 _ _
   | exact LeO.none _
   | refine LeO.ite ?_ ?_
   | refine LeO.bind ?_ (fun _ => ?_)
  intro y0 y1
  unfold impl_charClass.j1
  repeat' first
  | (with_reducible exact ih0 _ _)
  | (with_reducible exact ih1 _ _)
  | (with_reducible exact LeO.refl _)
  | (with_reducible exact LeO.none _)
  | (with_reducible refine LeO.ite ?_ ?_)
  | (with_reducible refine LeO.bind ?_ (fun _ => ?_))
  | exact ih0 _ _
  | exact ih1 _ _
  | exact LeO.none _
  | refine LeO.ite ?_ ?_
  | refine LeO.bind ?_ (fun _ => ?_)
theorem impl_charClass.mono : ∀ a0 k, LeO (impl_charClass.f k a0) (impl_charClass.f (k + 1) a0) := by
 intro a0 k
 obtain ⟨ih0, ih1⟩ := impl_charClass.mono_l k
 unfold impl_charClass.f
 repeat' first
   | (with_reducible exact ih0 _ _)
   | (with_reducible exact ih1 _ _)
   | (with_reducible exact LeO.refl _)
   | (with_reducible exact LeO.none _)
   | (with_reducible refine LeO.ite ?_ ?_)
   | (with_reducible refine LeO.bind ?_ (fun _ => ?_))
   | exact ih0 _ _
   | exact ih1 _ _
   | exact LeO.none _
   | refine LeO.ite ?_ ?_
   | refine LeO.bind ?_ (fun _ => ?_)
set_option maxHeartbeats 8000000 in
set_option maxRecDepth 100000 in
theorem impl_charClass.calls (k : Nat) (a0 : Int) (r : Int) (w : World) (h : impl_charClass.f k a0 = some r) :
  Calls Tryd.prog 190 #[.int .i64 a0] w fun e w' => e = .returned (.int .i64 r) ∧ Drawn0 w w' := by
 have H : ((impl_Category.f a0).bind fun t251 => (if t251 = 1 then (impl_charClass.j0 k a0 true) else (impl_charClass.j0 k a0 (a0 == 7954)))) = some r := h
 clear h
 have HC2 := Aside0.mk H
 clear H
 go_enter Tryd.func190, Tryd.ntmps190
 go_upto_region 1 with (fail)
 go_cut [3] (fun v3 wc => ∃ (kq : Nat) (x3_1 : Bool), v3 = .bool x3_1 ∧ Aside0 (impl_charClass.j0 kq a0 x3_1 = some r) ∧ Aside0 (kq ≤ k) ∧ Drawn0 w wc)
 case first =>
  have H := HC2.out; clear HC2; replace H := Option.bind_eq_some_iff.mp H; obtain ⟨t251, A30, H⟩ := H
  try dsimp only at H
  have A3 := Aside0.mk A30; clear A30
  by_cases c4 : t251 = 1
  ·rw [if_pos c4] at H
   have c4b0 : (t251 == 1) = true := beq_iff_eq.mpr c4; have c4b1 : (t251 != 1) = false := bne_eq_false_iff_eq.mpr c4; clear c4
   (first | rw [c4b0] | (simp only [i64_w, i32_w]; rw [c4b0]) | skip)
   have H' := Aside0.mk H; clear H
   go_wp2_with (first | ((with_reducible refine gate_callee (f := 119) rfl ?_); refine goesL_ (some 5) rfl rfl Tryd.func119 (by kernel_rfl) rfl #[.int .i64 a0] rfl (by (try simp only [List.map_toArray, List.map_cons, List.map_nil]); first | done | rfl) ?_; (with_reducible refine (impl_Category.calls a0 t251 _ A3.out).mono ?_); rintro e w' ⟨rfl, ⟨nd, rfl⟩⟩; refine ⟨_, rfl, ?_⟩))
   go_meet
   case rel => exact ⟨_, (true), (by first | rfl | (simp; done) | (simp [*]; done)), H', ⟨by first | omega | exact Nat.le_refl _⟩, by repeat (first | exact Drawn0.refl _ | apply Drawn0.step)⟩
  rw [if_neg c4] at H; have c4b0 : (t251 == 1) = false := beq_eq_false_iff_ne.mpr c4; have c4b1 : (t251 != 1) = true := bne_iff_ne.mpr c4
  (first | rw [c4b0] | (simp only [i64_w, i32_w]; rw [c4b0]) | skip)
  have H' := Aside0.mk H; clear H
  go_wp2_with (first | ((with_reducible refine gate_callee (f := 119) rfl ?_); refine goesL_ (some 5) rfl rfl Tryd.func119 (by kernel_rfl) rfl #[.int .i64 a0] rfl (by (try simp only [List.map_toArray, List.map_cons, List.map_nil]); first | done | rfl) ?_; (with_reducible refine (impl_Category.calls a0 t251 _ A3.out).mono ?_); rintro e w' ⟨rfl, ⟨nd, rfl⟩⟩; refine ⟨_, rfl, ?_⟩))
  go_meet
  case rel => exact ⟨_, ((a0 == 7954)), (by first | rfl | (simp; done) | (simp [*]; done)), H', ⟨by first | omega | exact Nat.le_refl _⟩, by repeat (first | exact Drawn0.refl _ | apply Drawn0.step)⟩
 case rest =>
  clear HC2
  try clear c1; try clear p2; try clear c4; try clear c4b0; try clear c4b1
  obtain ⟨kq, x3_1, rfl, HA, HJ1, ⟨mc1, rfl⟩⟩ := hcut
  cases kq with
  | zero => exact absurd HA.out (by simp [impl_charClass.j0])
  | succ kj1 =>
   have H := HA.out; clear HA; simp only [impl_charClass.j0] at H
   by_cases c5 : x3_1 = true
   ·subst c5
    have H1 : (some 1) = some r := by rw [if_pos rfl] at H; exact H
    clear H; have H := H1; clear H1; obtain rfl := Option.some.inj H
    go_wp2
    go_ret
    exact ⟨by first | rfl | (simp; done) | (simp [*]; done), by repeat (first | exact Drawn0.refl _ | apply Drawn0.step)⟩
   replace c5 := Bool.eq_false_iff.mpr c5; subst c5
   have H1 : ((impl_isMark.f a0).bind fun t252 => (if t252 = true then (impl_charClass.j1 kj1 a0 true) else (if a0 = 7936 then (impl_charClass.j1 kj1 a0 true) else ((impl_in.f a0 7744 7748).bind fun t253 => (impl_charClass.j1 kj1 a0 t253))))) = some r := by rw [if_neg (show ¬ (false = true) by decide)] at H; exact H
   clear H; have H := H1; clear H1; have HC6 := Aside0.mk H; clear H
   go_upto_region 3 with (fail)
   go_cut [11] (fun v11 wc => ∃ (kq : Nat) (x11_5 : Bool), v11 = .bool x11_5 ∧ Aside0 (impl_charClass.j1 kq a0 x11_5 = some r) ∧ Aside0 (kq ≤ kj1) ∧ Drawn0 w wc)
   case first =>
    have H := HC6.out; clear HC6; replace H := Option.bind_eq_some_iff.mp H; obtain ⟨t252, A70, H⟩ := H
    try dsimp only at H
    have A7 := Aside0.mk A70; clear A70
    by_cases c8 : t252 = true
    ·subst c8
     have H1 : (impl_charClass.j1 kj1 a0 true) = some r := by rw [if_pos rfl] at H; exact H
     clear H; have H := H1; clear H1; have H' := Aside0.mk H; clear H
     go_wp2_with (first | ((with_reducible refine gate_callee (f := 118) rfl ?_); refine goesL_ (some 13) rfl rfl Tryd.func118 (by kernel_rfl) rfl #[.int .i64 a0] rfl (by (try simp only [List.map_toArray, List.map_cons, List.map_nil]); first | done | rfl) ?_; (with_reducible refine (impl_isMark.calls a0 true _ A7.out).mono ?_); rintro e w' ⟨rfl, ⟨nd, rfl⟩⟩; refine ⟨_, rfl, ?_⟩))
     go_meet
     case rel => exact ⟨_, (true), (by first | rfl | (simp; done) | (simp [*]; done)), H', ⟨by have := HJ1.out; first | omega | exact Nat.le_refl _⟩, by repeat (first | exact Drawn0.refl _ | apply Drawn0.step)⟩
    replace c8 := Bool.eq_false_iff.mpr c8; subst c8
    have H1 : (if a0 = 7936 then (impl_charClass.j1 kj1 a0 true) else ((impl_in.f a0 7744 7748).bind fun t253 => (impl_charClass.j1 kj1 a0 t253))) = some r := by rw [if_neg (show ¬ (false = true) by decide)] at H; exact H
    clear H; have H := H1; clear H1
    by_cases c9 : a0 = 7936
    ·rw [if_pos c9] at H
     have c9b0 : (a0 == 7936) = true := beq_iff_eq.mpr c9; have c9b1 : (a0 != 7936) = false := bne_eq_false_iff_eq.mpr c9; clear c9
     (first | rw [c9b0] | (simp only [i64_w, i32_w]; rw [c9b0]) | skip)
     have H' := Aside0.mk H; clear H
     go_wp2_with (first | ((with_reducible refine gate_callee (f := 118) rfl ?_); refine goesL_ (some 13) rfl rfl Tryd.func118 (by kernel_rfl) rfl #[.int .i64 a0] rfl (by (try simp only [List.map_toArray, List.map_cons, List.map_nil]); first | done | rfl) ?_; (with_reducible refine (impl_isMark.calls a0 false _ A7.out).mono ?_); rintro e w' ⟨rfl, ⟨nd, rfl⟩⟩; refine ⟨_, rfl, ?_⟩))
     go_meet
     case rel => exact ⟨_, (true), (by first | rfl | (simp; done) | (simp [*]; done)), H', ⟨by have := HJ1.out; first | omega | exact Nat.le_refl _⟩, by repeat (first | exact Drawn0.refl _ | apply Drawn0.step)⟩
    rw [if_neg c9] at H; have c9b0 : (a0 == 7936) = false := beq_eq_false_iff_ne.mpr c9; have c9b1 : (a0 != 7936) = true := bne_iff_ne.mpr c9
    (first | rw [c9b0] | (simp only [i64_w, i32_w]; rw [c9b0]) | skip)
    replace H := Option.bind_eq_some_iff.mp H; obtain ⟨t253, A100, H⟩ := H
    try dsimp only at H
    have A10 := Aside0.mk A100; clear A100; have H' := Aside0.mk H; clear H
    go_wp2_with (first | ((with_reducible refine gate_callee (f := 118) rfl ?_); refine goesL_ (some 13) rfl rfl Tryd.func118 (by kernel_rfl) rfl #[.int .i64 a0] rfl (by (try simp only [List.map_toArray, List.map_cons, List.map_nil]); first | done | rfl) ?_; (with_reducible refine (impl_isMark.calls a0 false _ A7.out).mono ?_); rintro e w' ⟨rfl, ⟨nd, rfl⟩⟩; refine ⟨_, rfl, ?_⟩) | (go_at_call 105; (with_reducible refine (impl_in.calls a0 7744 7748 t253 _ A10.out).mono ?_); rintro e w' ⟨rfl, ⟨nd, rfl⟩⟩))
    go_meet
    case rel => exact ⟨_, (t253), (by first | rfl | (simp; done) | (simp [*]; done)), H', ⟨by have := HJ1.out; first | omega | exact Nat.le_refl _⟩, by repeat (first | exact Drawn0.refl _ | apply Drawn0.step)⟩
   case rest =>
    clear HC6
    try clear c1; try clear p2; try clear c4; try clear c4b0; try clear c4b1; try clear c5; try clear c8; try clear c9; try clear c9b0; try clear c9b1; try clear p2
    obtain ⟨kq, x11_5, rfl, HA, HJ5, ⟨mc5, rfl⟩⟩ := hcut
    cases kq with
    | zero => exact absurd HA.out (by simp [impl_charClass.j1])
    | succ kj5 =>
     have H := HA.out; clear HA; simp only [impl_charClass.j1] at H
     by_cases c11 : x11_5 = true
     ·subst c11
      have H1 : (some 2) = some r := by rw [if_pos rfl] at H; exact H
      clear H; have H := H1; clear H1; obtain rfl := Option.some.inj H
      go_wp2
      go_ret
      exact ⟨by first | rfl | (simp; done) | (simp [*]; done), by repeat (first | exact Drawn0.refl _ | apply Drawn0.step)⟩
     replace c11 := Bool.eq_false_iff.mpr c11; subst c11
     have H1 : ((impl_in.f a0 1792 1810).bind fun t254 => (if t254 = true then (some 3) else ((impl_in.f a0 1824 1844).bind fun t255 => (if t255 = true then (some 4) else ((impl_in.f a0 1857 1883).bind fun t256 => (if t256 = true then (some 5) else ((impl_isOpen.f a0).bind fun t257 => (if t257 = true then (some 6) else ((impl_isSyllable.f a0).bind fun t258 => (if t258 = true then (some 7) else ((impl_isPicture.f a0).bind fun t259 => (if t259 = true then (some 8) else ((impl_in.f a0 7760 7785).bind fun t260 => (if t260 = true then (some 9) else (some 0))))))))))))))) = some r := by rw [if_neg (show ¬ (false = true) by decide)] at H; exact H
     clear H; have H := H1; clear H1; replace H := Option.bind_eq_some_iff.mp H; obtain ⟨t254, A120, H⟩ := H
     try dsimp only at H
     have A12 := Aside0.mk A120; clear A120
     by_cases c13 : t254 = true
     ·subst c13
      have H1 : (some 3) = some r := by rw [if_pos rfl] at H; exact H
      clear H; have H := H1; clear H1; obtain rfl := Option.some.inj H
      go_wp2_with (first | ((with_reducible refine gate_callee (f := 105) rfl ?_); refine goesL_ (some 24) rfl rfl Tryd.func105 (by kernel_rfl) rfl #[.int .i64 a0, .int .i64 1792, .int .i64 1810] rfl (by (try simp only [List.map_toArray, List.map_cons, List.map_nil]); first | done | rfl) ?_; (with_reducible refine (impl_in.calls a0 1792 1810 true _ A12.out).mono ?_); rintro e w' ⟨rfl, ⟨nd, rfl⟩⟩; refine ⟨_, rfl, ?_⟩))
      go_ret
      exact ⟨by first | rfl | (simp; done) | (simp [*]; done), by repeat (first | exact Drawn0.refl _ | apply Drawn0.step)⟩
     replace c13 := Bool.eq_false_iff.mpr c13; subst c13
     have H1 : ((impl_in.f a0 1824 1844).bind fun t255 => (if t255 = true then (some 4) else ((impl_in.f a0 1857 1883).bind fun t256 => (if t256 = true then (some 5) else ((impl_isOpen.f a0).bind fun t257 => (if t257 = true then (some 6) else ((impl_isSyllable.f a0).bind fun t258 => (if t258 = true then (some 7) else ((impl_isPicture.f a0).bind fun t259 => (if t259 = true then (some 8) else ((impl_in.f a0 7760 7785).bind fun t260 => (if t260 = true then (some 9) else (some 0))))))))))))) = some r := by rw [if_neg (show ¬ (false = true) by decide)] at H; exact H
     clear H; have H := H1; clear H1; replace H := Option.bind_eq_some_iff.mp H; obtain ⟨t255, A140, H⟩ := H
     try dsimp only at H
     have A14 := Aside0.mk A140; clear A140
     by_cases c15 : t255 = true
     ·subst c15
      have H1 : (some 4) = some r := by rw [if_pos rfl] at H; exact H
      clear H; have H := H1; clear H1; obtain rfl := Option.some.inj H
      go_wp2_with (first | ((with_reducible refine gate_callee (f := 105) rfl ?_); refine goesL_ (some 24) rfl rfl Tryd.func105 (by kernel_rfl) rfl #[.int .i64 a0, .int .i64 1792, .int .i64 1810] rfl (by (try simp only [List.map_toArray, List.map_cons, List.map_nil]); first | done | rfl) ?_; (with_reducible refine (impl_in.calls a0 1792 1810 false _ A12.out).mono ?_); rintro e w' ⟨rfl, ⟨nd, rfl⟩⟩; refine ⟨_, rfl, ?_⟩) | ((with_reducible refine gate_callee (f := 105) rfl ?_); refine goesL_ (some 27) rfl rfl Tryd.func105 (by kernel_rfl) rfl #[.int .i64 a0, .int .i64 1824, .int .i64 1844] rfl (by (try simp only [List.map_toArray, List.map_cons, List.map_nil]); first | done | rfl) ?_; (with_reducible refine (impl_in.calls a0 1824 1844 true _ A14.out).mono ?_); rintro e w' ⟨rfl, ⟨nd, rfl⟩⟩; refine ⟨_, rfl, ?_⟩))
      go_ret
      exact ⟨by first | rfl | (simp; done) | (simp [*]; done), by repeat (first | exact Drawn0.refl _ | apply Drawn0.step)⟩
     replace c15 := Bool.eq_false_iff.mpr c15; subst c15
     have H1 : ((impl_in.f a0 1857 1883).bind fun t256 => (if t256 = true then (some 5) else ((impl_isOpen.f a0).bind fun t257 => (if t257 = true then (some 6) else ((impl_isSyllable.f a0).bind fun t258 => (if t258 = true then (some 7) else ((impl_isPicture.f a0).bind fun t259 => (if t259 = true then (some 8) else ((impl_in.f a0 7760 7785).bind fun t260 => (if t260 = true then (some 9) else (some 0))))))))))) = some r := by rw [if_neg (show ¬ (false = true) by decide)] at H; exact H
     clear H; have H := H1; clear H1; replace H := Option.bind_eq_some_iff.mp H; obtain ⟨t256, A160, H⟩ := H
     try dsimp only at H
     have A16 := Aside0.mk A160; clear A160
     by_cases c17 : t256 = true
     ·subst c17
      have H1 : (some 5) = some r := by rw [if_pos rfl] at H; exact H
      clear H; have H := H1; clear H1; obtain rfl := Option.some.inj H
      go_wp2_with (first | ((with_reducible refine gate_callee (f := 105) rfl ?_); refine goesL_ (some 24) rfl rfl Tryd.func105 (by kernel_rfl) rfl #[.int .i64 a0, .int .i64 1792, .int .i64 1810] rfl (by (try simp only [List.map_toArray, List.map_cons, List.map_nil]); first | done | rfl) ?_; (with_reducible refine (impl_in.calls a0 1792 1810 false _ A12.out).mono ?_); rintro e w' ⟨rfl, ⟨nd, rfl⟩⟩; refine ⟨_, rfl, ?_⟩) | ((with_reducible refine gate_callee (f := 105) rfl ?_); refine goesL_ (some 27) rfl rfl Tryd.func105 (by kernel_rfl) rfl #[.int .i64 a0, .int .i64 1824, .int .i64 1844] rfl (by (try simp only [List.map_toArray, List.map_cons, List.map_nil]); first | done | rfl) ?_; (with_reducible refine (impl_in.calls a0 1824 1844 false _ A14.out).mono ?_); rintro e w' ⟨rfl, ⟨nd, rfl⟩⟩; refine ⟨_, rfl, ?_⟩) | ((with_reducible refine gate_callee (f := 105) rfl ?_); refine goesL_ (some 30) rfl rfl Tryd.func105 (by kernel_rfl) rfl #[.int .i64 a0, .int .i64 1857, .int .i64 1883] rfl (by (try simp only [List.map_toArray, List.map_cons, List.map_nil]); first | done | rfl) ?_; (with_reducible refine (impl_in.calls a0 1857 1883 true _ A16.out).mono ?_); rintro e w' ⟨rfl, ⟨nd, rfl⟩⟩; refine ⟨_, rfl, ?_⟩))
      go_ret
      exact ⟨by first | rfl | (simp; done) | (simp [*]; done), by repeat (first | exact Drawn0.refl _ | apply Drawn0.step)⟩
     replace c17 := Bool.eq_false_iff.mpr c17; subst c17
     have H1 : ((impl_isOpen.f a0).bind fun t257 => (if t257 = true then (some 6) else ((impl_isSyllable.f a0).bind fun t258 => (if t258 = true then (some 7) else ((impl_isPicture.f a0).bind fun t259 => (if t259 = true then (some 8) else ((impl_in.f a0 7760 7785).bind fun t260 => (if t260 = true then (some 9) else (some 0))))))))) = some r := by rw [if_neg (show ¬ (false = true) by decide)] at H; exact H
     clear H; have H := H1; clear H1; replace H := Option.bind_eq_some_iff.mp H; obtain ⟨t257, A180, H⟩ := H
     try dsimp only at H
     have A18 := Aside0.mk A180; clear A180
     by_cases c19 : t257 = true
     ·subst c19
      have H1 : (some 6) = some r := by rw [if_pos rfl] at H; exact H
      clear H; have H := H1; clear H1; obtain rfl := Option.some.inj H
      go_wp2_with (first | ((with_reducible refine gate_callee (f := 105) rfl ?_); refine goesL_ (some 24) rfl rfl Tryd.func105 (by kernel_rfl) rfl #[.int .i64 a0, .int .i64 1792, .int .i64 1810] rfl (by (try simp only [List.map_toArray, List.map_cons, List.map_nil]); first | done | rfl) ?_; (with_reducible refine (impl_in.calls a0 1792 1810 false _ A12.out).mono ?_); rintro e w' ⟨rfl, ⟨nd, rfl⟩⟩; refine ⟨_, rfl, ?_⟩) | ((with_reducible refine gate_callee (f := 105) rfl ?_); refine goesL_ (some 27) rfl rfl Tryd.func105 (by kernel_rfl) rfl #[.int .i64 a0, .int .i64 1824, .int .i64 1844] rfl (by (try simp only [List.map_toArray, List.map_cons, List.map_nil]); first | done | rfl) ?_; (with_reducible refine (impl_in.calls a0 1824 1844 false _ A14.out).mono ?_); rintro e w' ⟨rfl, ⟨nd, rfl⟩⟩; refine ⟨_, rfl, ?_⟩) | ((with_reducible refine gate_callee (f := 105) rfl ?_); refine goesL_ (some 30) rfl rfl Tryd.func105 (by kernel_rfl) rfl #[.int .i64 a0, .int .i64 1857, .int .i64 1883] rfl (by (try simp only [List.map_toArray, List.map_cons, List.map_nil]); first | done | rfl) ?_; (with_reducible refine (impl_in.calls a0 1857 1883 false _ A16.out).mono ?_); rintro e w' ⟨rfl, ⟨nd, rfl⟩⟩; refine ⟨_, rfl, ?_⟩) | ((with_reducible refine gate_callee (f := 222) rfl ?_); refine goesL_ (some 33) rfl rfl Tryd.func222 (by kernel_rfl) rfl #[.int .i64 a0] rfl (by (try simp only [List.map_toArray, List.map_cons, List.map_nil]); first | done | rfl) ?_; (with_reducible refine (impl_isOpen.calls a0 true _ A18.out).mono ?_); rintro e w' ⟨rfl, ⟨nd, rfl⟩⟩; refine ⟨_, rfl, ?_⟩))
      go_ret
      exact ⟨by first | rfl | (simp; done) | (simp [*]; done), by repeat (first | exact Drawn0.refl _ | apply Drawn0.step)⟩
     replace c19 := Bool.eq_false_iff.mpr c19; subst c19
     have H1 : ((impl_isSyllable.f a0).bind fun t258 => (if t258 = true then (some 7) else ((impl_isPicture.f a0).bind fun t259 => (if t259 = true then (some 8) else ((impl_in.f a0 7760 7785).bind fun t260 => (if t260 = true then (some 9) else (some 0))))))) = some r := by rw [if_neg (show ¬ (false = true) by decide)] at H; exact H
     clear H; have H := H1; clear H1; replace H := Option.bind_eq_some_iff.mp H; obtain ⟨t258, A200, H⟩ := H
     try dsimp only at H
     have A20 := Aside0.mk A200; clear A200
     by_cases c21 : t258 = true
     ·subst c21
      have H1 : (some 7) = some r := by rw [if_pos rfl] at H; exact H
      clear H; have H := H1; clear H1; obtain rfl := Option.some.inj H
      go_wp2_with (first | ((with_reducible refine gate_callee (f := 105) rfl ?_); refine goesL_ (some 24) rfl rfl Tryd.func105 (by kernel_rfl) rfl #[.int .i64 a0, .int .i64 1792, .int .i64 1810] rfl (by (try simp only [List.map_toArray, List.map_cons, List.map_nil]); first | done | rfl) ?_; (with_reducible refine (impl_in.calls a0 1792 1810 false _ A12.out).mono ?_); rintro e w' ⟨rfl, ⟨nd, rfl⟩⟩; refine ⟨_, rfl, ?_⟩) | ((with_reducible refine gate_callee (f := 105) rfl ?_); refine goesL_ (some 27) rfl rfl Tryd.func105 (by kernel_rfl) rfl #[.int .i64 a0, .int .i64 1824, .int .i64 1844] rfl (by (try simp only [List.map_toArray, List.map_cons, List.map_nil]); first | done | rfl) ?_; (with_reducible refine (impl_in.calls a0 1824 1844 false _ A14.out).mono ?_); rintro e w' ⟨rfl, ⟨nd, rfl⟩⟩; refine ⟨_, rfl, ?_⟩) | ((with_reducible refine gate_callee (f := 105) rfl ?_); refine goesL_ (some 30) rfl rfl Tryd.func105 (by kernel_rfl) rfl #[.int .i64 a0, .int .i64 1857, .int .i64 1883] rfl (by (try simp only [List.map_toArray, List.map_cons, List.map_nil]); first | done | rfl) ?_; (with_reducible refine (impl_in.calls a0 1857 1883 false _ A16.out).mono ?_); rintro e w' ⟨rfl, ⟨nd, rfl⟩⟩; refine ⟨_, rfl, ?_⟩) | ((with_reducible refine gate_callee (f := 222) rfl ?_); refine goesL_ (some 33) rfl rfl Tryd.func222 (by kernel_rfl) rfl #[.int .i64 a0] rfl (by (try simp only [List.map_toArray, List.map_cons, List.map_nil]); first | done | rfl) ?_; (with_reducible refine (impl_isOpen.calls a0 false _ A18.out).mono ?_); rintro e w' ⟨rfl, ⟨nd, rfl⟩⟩; refine ⟨_, rfl, ?_⟩) | ((with_reducible refine gate_callee (f := 229) rfl ?_); refine goesL_ (some 36) rfl rfl Tryd.func229 (by kernel_rfl) rfl #[.int .i64 a0] rfl (by (try simp only [List.map_toArray, List.map_cons, List.map_nil]); first | done | rfl) ?_; (with_reducible refine (impl_isSyllable.calls a0 true _ A20.out).mono ?_); rintro e w' ⟨rfl, ⟨nd, rfl⟩⟩; refine ⟨_, rfl, ?_⟩))
      go_ret
      exact ⟨by first | rfl | (simp; done) | (simp [*]; done), by repeat (first | exact Drawn0.refl _ | apply Drawn0.step)⟩
     replace c21 := Bool.eq_false_iff.mpr c21; subst c21
     have H1 : ((impl_isPicture.f a0).bind fun t259 => (if t259 = true then (some 8) else ((impl_in.f a0 7760 7785).bind fun t260 => (if t260 = true then (some 9) else (some 0))))) = some r := by rw [if_neg (show ¬ (false = true) by decide)] at H; exact H
     clear H; have H := H1; clear H1; replace H := Option.bind_eq_some_iff.mp H; obtain ⟨t259, A220, H⟩ := H
     try dsimp only at H
     have A22 := Aside0.mk A220; clear A220
     by_cases c23 : t259 = true
     ·subst c23
      have H1 : (some 8) = some r := by rw [if_pos rfl] at H; exact H
      clear H; have H := H1; clear H1; obtain rfl := Option.some.inj H
      go_wp2_with (first | ((with_reducible refine gate_callee (f := 105) rfl ?_); refine goesL_ (some 24) rfl rfl Tryd.func105 (by kernel_rfl) rfl #[.int .i64 a0, .int .i64 1792, .int .i64 1810] rfl (by (try simp only [List.map_toArray, List.map_cons, List.map_nil]); first | done | rfl) ?_; (with_reducible refine (impl_in.calls a0 1792 1810 false _ A12.out).mono ?_); rintro e w' ⟨rfl, ⟨nd, rfl⟩⟩; refine ⟨_, rfl, ?_⟩) | ((with_reducible refine gate_callee (f := 105) rfl ?_); refine goesL_ (some 27) rfl rfl Tryd.func105 (by kernel_rfl) rfl #[.int .i64 a0, .int .i64 1824, .int .i64 1844] rfl (by (try simp only [List.map_toArray, List.map_cons, List.map_nil]); first | done | rfl) ?_; (with_reducible refine (impl_in.calls a0 1824 1844 false _ A14.out).mono ?_); rintro e w' ⟨rfl, ⟨nd, rfl⟩⟩; refine ⟨_, rfl, ?_⟩) | ((with_reducible refine gate_callee (f := 105) rfl ?_); refine goesL_ (some 30) rfl rfl Tryd.func105 (by kernel_rfl) rfl #[.int .i64 a0, .int .i64 1857, .int .i64 1883] rfl (by (try simp only [List.map_toArray, List.map_cons, List.map_nil]); first | done | rfl) ?_; (with_reducible refine (impl_in.calls a0 1857 1883 false _ A16.out).mono ?_); rintro e w' ⟨rfl, ⟨nd, rfl⟩⟩; refine ⟨_, rfl, ?_⟩) | ((with_reducible refine gate_callee (f := 222) rfl ?_); refine goesL_ (some 33) rfl rfl Tryd.func222 (by kernel_rfl) rfl #[.int .i64 a0] rfl (by (try simp only [List.map_toArray, List.map_cons, List.map_nil]); first | done | rfl) ?_; (with_reducible refine (impl_isOpen.calls a0 false _ A18.out).mono ?_); rintro e w' ⟨rfl, ⟨nd, rfl⟩⟩; refine ⟨_, rfl, ?_⟩) | ((with_reducible refine gate_callee (f := 229) rfl ?_); refine goesL_ (some 36) rfl rfl Tryd.func229 (by kernel_rfl) rfl #[.int .i64 a0] rfl (by (try simp only [List.map_toArray, List.map_cons, List.map_nil]); first | done | rfl) ?_; (with_reducible refine (impl_isSyllable.calls a0 false _ A20.out).mono ?_); rintro e w' ⟨rfl, ⟨nd, rfl⟩⟩; refine ⟨_, rfl, ?_⟩) | ((with_reducible refine gate_callee (f := 230) rfl ?_); refine goesL_ (some 39) rfl rfl Tryd.func230 (by kernel_rfl) rfl #[.int .i64 a0] rfl (by (try simp only [List.map_toArray, List.map_cons, List.map_nil]); first | done | rfl) ?_; (with_reducible refine (impl_isPicture.calls a0 true _ A22.out).mono ?_); rintro e w' ⟨rfl, ⟨nd, rfl⟩⟩; refine ⟨_, rfl, ?_⟩))
      go_ret
      exact ⟨by first | rfl | (simp; done) | (simp [*]; done), by repeat (first | exact Drawn0.refl _ | apply Drawn0.step)⟩
     replace c23 := Bool.eq_false_iff.mpr c23; subst c23
     have H1 : ((impl_in.f a0 7760 7785).bind fun t260 => (if t260 = true then (some 9) else (some 0))) = some r := by rw [if_neg (show ¬ (false = true) by decide)] at H; exact H
     clear H; have H := H1; clear H1; replace H := Option.bind_eq_some_iff.mp H; obtain ⟨t260, A240, H⟩ := H
     try dsimp only at H
     have A24 := Aside0.mk A240; clear A240
     by_cases c25 : t260 = true
     ·subst c25
      have H1 : (some 9) = some r := by rw [if_pos rfl] at H; exact H
      clear H; have H := H1; clear H1; obtain rfl := Option.some.inj H
      go_wp2_with (first | ((with_reducible refine gate_callee (f := 105) rfl ?_); refine goesL_ (some 24) rfl rfl Tryd.func105 (by kernel_rfl) rfl #[.int .i64 a0, .int .i64 1792, .int .i64 1810] rfl (by (try simp only [List.map_toArray, List.map_cons, List.map_nil]); first | done | rfl) ?_; (with_reducible refine (impl_in.calls a0 1792 1810 false _ A12.out).mono ?_); rintro e w' ⟨rfl, ⟨nd, rfl⟩⟩; refine ⟨_, rfl, ?_⟩) | ((with_reducible refine gate_callee (f := 105) rfl ?_); refine goesL_ (some 27) rfl rfl Tryd.func105 (by kernel_rfl) rfl #[.int .i64 a0, .int .i64 1824, .int .i64 1844] rfl (by (try simp only [List.map_toArray, List.map_cons, List.map_nil]); first | done | rfl) ?_; (with_reducible refine (impl_in.calls a0 1824 1844 false _ A14.out).mono ?_); rintro e w' ⟨rfl, ⟨nd, rfl⟩⟩; refine ⟨_, rfl, ?_⟩) | ((with_reducible refine gate_callee (f := 105) rfl ?_); refine goesL_ (some 30) rfl rfl Tryd.func105 (by kernel_rfl) rfl #[.int .i64 a0, .int .i64 1857, .int .i64 1883] rfl (by (try simp only [List.map_toArray, List.map_cons, List.map_nil]); first | done | rfl) ?_; (with_reducible refine (impl_in.calls a0 1857 1883 false _ A16.out).mono ?_); rintro e w' ⟨rfl, ⟨nd, rfl⟩⟩; refine ⟨_, rfl, ?_⟩) | ((with_reducible refine gate_callee (f := 222) rfl ?_); refine goesL_ (some 33) rfl rfl Tryd.func222 (by kernel_rfl) rfl #[.int .i64 a0] rfl (by (try simp only [List.map_toArray, List.map_cons, List.map_nil]); first | done | rfl) ?_; (with_reducible refine (impl_isOpen.calls a0 false _ A18.out).mono ?_); rintro e w' ⟨rfl, ⟨nd, rfl⟩⟩; refine ⟨_, rfl, ?_⟩) | ((with_reducible refine gate_callee (f := 229) rfl ?_); refine goesL_ (some 36) rfl rfl Tryd.func229 (by kernel_rfl) rfl #[.int .i64 a0] rfl (by (try simp only [List.map_toArray, List.map_cons, List.map_nil]); first | done | rfl) ?_; (with_reducible refine (impl_isSyllable.calls a0 false _ A20.out).mono ?_); rintro e w' ⟨rfl, ⟨nd, rfl⟩⟩; refine ⟨_, rfl, ?_⟩) | ((with_reducible refine gate_callee (f := 230) rfl ?_); refine goesL_ (some 39) rfl rfl Tryd.func230 (by kernel_rfl) rfl #[.int .i64 a0] rfl (by (try simp only [List.map_toArray, List.map_cons, List.map_nil]); first | done | rfl) ?_; (with_reducible refine (impl_isPicture.calls a0 false _ A22.out).mono ?_); rintro e w' ⟨rfl, ⟨nd, rfl⟩⟩; refine ⟨_, rfl, ?_⟩) | ((with_reducible refine gate_callee (f := 105) rfl ?_); refine goesL_ (some 42) rfl rfl Tryd.func105 (by kernel_rfl) rfl #[.int .i64 a0, .int .i64 7760, .int .i64 7785] rfl (by (try simp only [List.map_toArray, List.map_cons, List.map_nil]); first | done | rfl) ?_; (with_reducible refine (impl_in.calls a0 7760 7785 true _ A24.out).mono ?_); rintro e w' ⟨rfl, ⟨nd, rfl⟩⟩; refine ⟨_, rfl, ?_⟩))
      go_ret
      exact ⟨by first | rfl | (simp; done) | (simp [*]; done), by repeat (first | exact Drawn0.refl _ | apply Drawn0.step)⟩
     replace c25 := Bool.eq_false_iff.mpr c25; subst c25
     have H1 : (some 0) = some r := by rw [if_neg (show ¬ (false = true) by decide)] at H; exact H
     clear H; have H := H1; clear H1; obtain rfl := Option.some.inj H
     go_wp2_with (first | ((with_reducible refine gate_callee (f := 105) rfl ?_); refine goesL_ (some 24) rfl rfl Tryd.func105 (by kernel_rfl) rfl #[.int .i64 a0, .int .i64 1792, .int .i64 1810] rfl (by (try simp only [List.map_toArray, List.map_cons, List.map_nil]); first | done | rfl) ?_; (with_reducible refine (impl_in.calls a0 1792 1810 false _ A12.out).mono ?_); rintro e w' ⟨rfl, ⟨nd, rfl⟩⟩; refine ⟨_, rfl, ?_⟩) | ((with_reducible refine gate_callee (f := 105) rfl ?_); refine goesL_ (some 27) rfl rfl Tryd.func105 (by kernel_rfl) rfl #[.int .i64 a0, .int .i64 1824, .int .i64 1844] rfl (by (try simp only [List.map_toArray, List.map_cons, List.map_nil]); first | done | rfl) ?_; (with_reducible refine (impl_in.calls a0 1824 1844 false _ A14.out).mono ?_); rintro e w' ⟨rfl, ⟨nd, rfl⟩⟩; refine ⟨_, rfl, ?_⟩) | ((with_reducible refine gate_callee (f := 105) rfl ?_); refine goesL_ (some 30) rfl rfl Tryd.func105 (by kernel_rfl) rfl #[.int .i64 a0, .int .i64 1857, .int .i64 1883] rfl (by (try simp only [List.map_toArray, List.map_cons, List.map_nil]); first | done | rfl) ?_; (with_reducible refine (impl_in.calls a0 1857 1883 false _ A16.out).mono ?_); rintro e w' ⟨rfl, ⟨nd, rfl⟩⟩; refine ⟨_, rfl, ?_⟩) | ((with_reducible refine gate_callee (f := 222) rfl ?_); refine goesL_ (some 33) rfl rfl Tryd.func222 (by kernel_rfl) rfl #[.int .i64 a0] rfl (by (try simp only [List.map_toArray, List.map_cons, List.map_nil]); first | done | rfl) ?_; (with_reducible refine (impl_isOpen.calls a0 false _ A18.out).mono ?_); rintro e w' ⟨rfl, ⟨nd, rfl⟩⟩; refine ⟨_, rfl, ?_⟩) | ((with_reducible refine gate_callee (f := 229) rfl ?_); refine goesL_ (some 36) rfl rfl Tryd.func229 (by kernel_rfl) rfl #[.int .i64 a0] rfl (by (try simp only [List.map_toArray, List.map_cons, List.map_nil]); first | done | rfl) ?_; (with_reducible refine (impl_isSyllable.calls a0 false _ A20.out).mono ?_); rintro e w' ⟨rfl, ⟨nd, rfl⟩⟩; refine ⟨_, rfl, ?_⟩) | ((with_reducible refine gate_callee (f := 230) rfl ?_); refine goesL_ (some 39) rfl rfl Tryd.func230 (by kernel_rfl) rfl #[.int .i64 a0] rfl (by (try simp only [List.map_toArray, List.map_cons, List.map_nil]); first | done | rfl) ?_; (with_reducible refine (impl_isPicture.calls a0 false _ A22.out).mono ?_); rintro e w' ⟨rfl, ⟨nd, rfl⟩⟩; refine ⟨_, rfl, ?_⟩) | ((with_reducible refine gate_callee (f := 105) rfl ?_); refine goesL_ (some 42) rfl rfl Tryd.func105 (by kernel_rfl) rfl #[.int .i64 a0, .int .i64 7760, .int .i64 7785] rfl (by (try simp only [List.map_toArray, List.map_cons, List.map_nil]); first | done | rfl) ?_; (with_reducible refine (impl_in.calls a0 7760 7785 false _ A24.out).mono ?_); rintro e w' ⟨rfl, ⟨nd, rfl⟩⟩; refine ⟨_, rfl, ?_⟩))
     go_ret
     exact ⟨by first | rfl | (simp; done) | (simp [*]; done), by repeat (first | exact Drawn0.refl _ | apply Drawn0.step)⟩

def W_impl_charClass.f (p : Int) : Option Int := if 0 ≤ p ∧ p ≤ 1114111 then some (YtiabgmddnddeiaaDoorChr.cc p) else none
theorem impl_charClass.in_ (a b c : Int) : impl_in.f a b c = some (decide (b ≤ a ∧ a ≤ c)) := by
  unfold impl_in.f
  by_cases h : b ≤ a
  · rw [if_pos (show a ≥ b from h)]; congr 1; exact decide_eq_decide.2 ⟨fun z => ⟨h, z⟩, fun z => z.2⟩
  · rw [if_neg (show ¬ a ≥ b from h), decide_eq_false (fun z => h z.1)]
theorem impl_charClass.open_ {p : Int} (h0 : 0 ≤ p) (h1 : p ≤ 1114111) : impl_isOpen.f p = some (decide ((12288 ≤ p ∧ p ≤ 23459) ∧ (p - 12288) % 28 = 0)) := by
  unfold impl_isOpen.f impl_isSyllable.f
  rw [impl_charClass.in_]
  simp only [Option.bind_some]
  by_cases h : 12288 ≤ p ∧ p ≤ 23459
  · rw [decide_eq_true h, if_pos rfl]
    have hw : wrap64 (p - 12288) = p - 12288 := by unfold wrap64; omega
    rw [hw, Int.tmod_eq_emod_of_nonneg (by omega)]
    congr 1
    by_cases g : (p - 12288) % 28 = 0
    · rw [g, decide_eq_true ⟨h, rfl⟩]; rfl
    · rw [decide_eq_false (fun z => g z.2)]; simpa using g
  · rw [decide_eq_false h, if_neg (by decide), decide_eq_false (fun z => h z.1)]
theorem W_impl_charClass.to {p r : Int} (h : W_impl_charClass.f p = some r) : ∃ k, impl_charClass.f k p = some r := by
  unfold W_impl_charClass.f at h
  split at h
  · rename_i hp
    refine ⟨3, ?_⟩
    rw [← h]
    have hc : impl_Category.f p = some (YtiabgmddnddeiaaDoorCas.kind p).1 := rfl
    have j1t : ∀ k, impl_charClass.j1 (k + 1) p true = some 2 := fun k => by simp only [impl_charClass.j1]; rw [if_pos trivial]
    unfold impl_charClass.f YtiabgmddnddeiaaDoorChr.cc
    rw [hc]
    simp only [Option.bind_some]
    by_cases a : (YtiabgmddnddeiaaDoorCas.kind p).1 = 1
    · rw [if_pos a, if_pos (.inl a)]; simp only [impl_charClass.j0]; rw [if_pos trivial]
    rw [if_neg a]
    by_cases b : p = 7954
    · rw [show (p == 7954) = true by simpa using b, if_pos (.inr b)]; simp only [impl_charClass.j0]; rw [if_pos trivial]
    rw [show (p == 7954) = false by simpa using b, if_neg (fun z => z.elim a b)]
    simp only [impl_charClass.j0]
    rw [if_neg (by decide)]
    unfold impl_isMark.f
    rw [hc]
    simp only [Option.bind_some]
    by_cases c : (YtiabgmddnddeiaaDoorCas.kind p).1 = 3
    · rw [show ((YtiabgmddnddeiaaDoorCas.kind p).1 == 3) = true by simpa using c, if_pos rfl, j1t, if_pos (.inl c)]
    rw [show ((YtiabgmddnddeiaaDoorCas.kind p).1 == 3) = false by simpa using c, if_neg (by decide)]
    by_cases d : p = 7936
    · rw [if_pos d, j1t, if_pos (.inr (.inl d))]
    rw [if_neg d, impl_charClass.in_]
    simp only [Option.bind_some]
    by_cases e : 7744 ≤ p ∧ p ≤ 7748
    · rw [decide_eq_true e, j1t, if_pos (.inr (.inr e))]
    rw [decide_eq_false e, if_neg (fun z => z.elim c (fun z => z.elim d e))]
    simp only [impl_charClass.j1, impl_charClass.in_, Option.bind_some]
    rw [if_neg (by decide)]
    simp only [decide_eq_true_eq]
    rw [impl_charClass.open_ hp.1 hp.2]
    simp only [Option.bind_some, decide_eq_true_eq]
    unfold impl_isSyllable.f impl_isPicture.f
    simp only [impl_charClass.in_, Option.bind_some, decide_eq_true_eq]
    repeat' split
    all_goals rfl
  · cases h
theorem W_impl_charClass.calls (a0 : Int) (r : Int) (w : World) (h : W_impl_charClass.f a0 = some r) :
    Calls Tryd.prog 190 #[.int .i64 a0] w fun e w' => e = .returned (.int .i64 r) ∧ Drawn0 w w' := by
  obtain ⟨k, hk⟩ := W_impl_charClass.to h
  exact impl_charClass.calls k a0 r w hk

/-! ### impl_charCuts: function 115 (by hand) -/
/-- whether there is a cut of characters ahead of p, behind q; c, d: their classes -/
def impl_charCuts.cut (q p c d : Int) (bind picture : Bool) (flags : Int) (inp : Bool) : Bool :=
  if (q == 13 && p == 10) = true then false
  else if (c == 1 || d == 1) = true then true
  else if (d == 3 && (c == 3 || c == 4 || c == 6 || c == 7)) = true then false
  else if ((d == 4 || d == 6) && (c == 4 || c == 5)) = true then false
  else if ((d == 5 || d == 7) && c == 5) = true then false
  else if (c == 2) = true then false
  else if (inp && bind) = true then false
  else if (q == 7936 && c == 8 && picture) = true then false
  else if (c == 9 && d == 9 && flags % 2 == 1) = true then false
  else true
theorem impl_charCuts.ret_ {a b : Bool} (h : a = b) : Ending.returned (Value.bool a) = .returned (.bool b) := by rw [h]
set_option maxHeartbeats 8000000 in
set_option maxRecDepth 100000 in
theorem impl_charCuts.inner (aq ap ac ad ab ai af : Addr) (q p c d flags : Int) (bind picture inp : Bool) (W : World) (h0 : W.cell? aq = some (.int .i64 q)) (h1 : W.cell? ap = some (.int .i64 p)) (h2 : W.cell? ac = some (.int .i64 c)) (h3 : W.cell? ad = some (.int .i64 d)) (h4 : W.cell? ab = some (.bool bind)) (h5 : W.cell? ai = some (.bool picture)) (h6 : W.cell? af = some (.int .i64 flags))
    (hf0 : 0 ≤ flags) (hf1 : flags ≤ 1000000000000) (HI : ∀ V : World, Calls Tryd.prog 105 #[.int .i64 p, .int .i64 1536, .int .i64 1567] V fun e w' => e = .returned (.bool inp) ∧ Drawn0 V w') :
    Calls Tryd.prog 191 #[.pointer (some aq), .pointer (some ap), .pointer (some ac), .pointer (some ad), .pointer (some ab), .pointer (some ai), .pointer (some af)] W fun e w' => e = .returned (.bool (impl_charCuts.cut q p c d bind picture flags inp)) ∧ Drawn0 W w' := by
  go_enter Tryd.func191, Tryd.ntmps191
  go_wp2_with (go_at_call 105; ((with_reducible refine (HI _).mono ?_); rintro e w1 ⟨rfl, ⟨nd, rfl⟩⟩))
  all_goals
    go_ret
    refine ⟨impl_charCuts.ret_ ?_, ?_⟩
    · unfold impl_charCuts.cut
      first | (simp [*]; done) | (simp_all; done) | (simp_all; omega)
    · first | exact ⟨_, rfl⟩ | exact ⟨0, (World.drewN_zero _).symm⟩
def impl_charCuts.cutO (cc : Int → Int) (prev : Option Int) (pic bind : Bool) (fl p : Int) : Bool := match prev with
  | none => false
  | some q => impl_charCuts.cut q p (cc p) (cc q) bind pic fl (decide (1536 ≤ p) && decide (p ≤ 1567))
/-- the cuts ahead of the points of a row, from a state -/
def impl_charCuts.go (cc : Int → Int) : Option Int → Bool → Bool → Int → List Int → List Bool
  | _, _, _, _, [] => []
  | prev, pic, bind, fl, p :: t => impl_charCuts.cutO cc prev pic bind fl p ::
    impl_charCuts.go cc (some p) (if cc p = 2 then pic else cc p == 8) (p == 1584 || (p == 1585 && bind)) (if cc p = 9 then fl + 1 else 0) t
theorem impl_charCuts.step (cc : Int → Int) (prev : Option Int) (pic bind : Bool) (fl : Int) (l : List Int) (out R : List Bool) (i : Nat) (p : Int) (hlt : i < l.length) (hp : l[i] = p) (hL : out.length = l.length) (hE : out.take i ++ impl_charCuts.go cc prev pic bind fl (l.drop i) = R) (b : Bool) (hb : b = impl_charCuts.cutO cc prev pic bind fl p) :
    (out.set i b).take (i + 1) ++ impl_charCuts.go cc (if i + 1 = 0 then none else l[i + 1 - 1]?) (if cc p = 2 then pic else cc p == 8) (p == 1584 || (p == 1585 && bind)) (if cc p = 9 then fl + 1 else 0) (l.drop (i + 1)) = R := by
  rw [List.drop_eq_getElem_cons hlt, hp] at hE
  rw [← hE, if_neg (by omega), Nat.add_sub_cancel, List.getElem?_eq_getElem hlt, hp]
  have hgo : ∀ t, impl_charCuts.go cc prev pic bind fl (p :: t) = b :: impl_charCuts.go cc (some p) (if cc p = 2 then pic else cc p == 8) (p == 1584 || (p == 1585 && bind)) (if cc p = 9 then fl + 1 else 0) t := by
    intro t; rw [hb]; rfl
  rw [hgo]
  rw [show (out.set i b).take (i + 1) = out.take i ++ [b] by
    rw [List.take_add_one, List.getElem?_set_self (by omega), List.take_set_of_le (Nat.le_refl _)]; rfl]
  simp
theorem impl_charCuts.tail0 (out : List Bool) (n i : Nat) (h : out.drop i = List.replicate (n - i) false) (hi : i < n) : out.set i false = out := by
  have : out[i]? = some false := by
    have := congrArg (·[0]?) h
    simpa [List.getElem?_drop, List.getElem?_replicate, hi, Nat.sub_pos_of_lt hi] using this
  apply List.ext_getElem?
  intro k
  rw [List.getElem?_set]
  split
  · rename_i h1; subst h1; have := (List.getElem?_eq_some_iff.1 this).1; simp_all
  · rfl
theorem impl_charCuts.tail1 (out : List Bool) (b : Bool) (n i : Nat) (h : out.drop i = List.replicate (n - i) false) : (out.set i b).drop (i + 1) = List.replicate (n - (i + 1)) false := by
  rw [List.drop_set_of_lt (by omega), ← List.drop_drop, h, List.drop_replicate]; congr 1
theorem impl_charCuts.blk_one {w : World} {g : Nat} {t : TypeId} {v : Value} (h : w.heap[g]? = some (.cells #[v] t (0, 0))) (u : Value) : (w.setCell ⟨g, 0, none⟩ u).heap[g]? = some (.cells #[u] t (0, 0)) := blk_put h 0 u rfl
theorem impl_charCuts.far {W : World} {b g4 g5 g6 x : Nat} {v : Value} {xs : List Bool} (h : Kd.R Kd.bool 4 W b (fun k => k ≠ g4 ∧ k ≠ g5 ∧ k ≠ g6) v xs) (hx : x = g4 ∨ x = g5 ∨ x = g6) (u : Value) : Kd.R Kd.bool 4 (W.setCell ⟨x, 0, none⟩ u) b (fun k => k ≠ g4 ∧ k ≠ g5 ∧ k ≠ g6) v xs :=
  Kd.R_far h (fun k hk => by show k ≠ x; rcases hx with e | e | e; exact e ▸ hk.1; exact e ▸ hk.2.1; exact e ▸ hk.2.2) u
theorem impl_charCuts.leaf {cc : Int → Int} {l : List Int} {R : List Bool} {w W : World} {g4 g5 g6 c5 i : Nat} {A5 : Option Addr} {c p : Int} {pic bind b X4 X5 : Bool} {fl X6 : Int} {out : List Bool} (hlt : i < l.length)
    (b4 : W.heap[g4]? = some (.cells #[.bool X4] 4 (0, 0))) (b5 : W.heap[g5]? = some (.cells #[.bool X5] 4 (0, 0))) (b6 : W.heap[g6]? = some (.cells #[.int .i64 X6] 3 (0, 0)))
    (ro : Kd.R Kd.bool 4 W w.heap.size (fun k => k ≠ g4 ∧ k ≠ g5 ∧ k ≠ g6) (.slice A5 l.length c5) (out.set i b)) (bw : Below w.heap.size w W)
    (hL : out.length = l.length) (hD : (out.set i b).drop (i + 1) = List.replicate (l.length - (i + 1)) false)
    (hE : (out.set i b).take (i + 1) ++ impl_charCuts.go cc (if i + 1 = 0 then none else l[i + 1 - 1]?) (if c = 2 then pic else c == 8) (p == 1584 || (p == 1585 && bind)) (if c = 9 then fl + 1 else 0) (l.drop (i + 1)) = R)
    (hf0 : 0 ≤ fl) (hf1 : fl ≤ i) (e4 : X4 = if c = 2 then pic else c == 8) (e5 : X5 = (p == 1584 || (p == 1585 && bind))) (e6 : X6 = if c = 9 then fl + 1 else 0) :
    (∃ (i1 : Nat) (pic bind : Bool) (fl : Int) (out : List Bool), i1 ≤ l.length ∧ Value.int .i64 ((i : Int) + 1) = .int .i64 i1 ∧ 0 ≤ fl ∧ fl ≤ i1 ∧ Aside0 (out.length = l.length ∧ out.drop i1 = List.replicate (l.length - i1) false) ∧ Aside0 (out.take i1 ++ impl_charCuts.go cc (if i1 = 0 then none else l[i1 - 1]?) pic bind fl (l.drop i1) = R) ∧ Aside0 (W.heap[g4]? = some (.cells #[.bool pic] 4 (0, 0))) ∧ Aside0 (W.heap[g5]? = some (.cells #[.bool bind] 4 (0, 0))) ∧ Aside0 (W.heap[g6]? = some (.cells #[.int .i64 fl] 3 (0, 0))) ∧ Aside0 (Kd.R Kd.bool 4 W w.heap.size (fun k => k ≠ g4 ∧ k ≠ g5 ∧ k ≠ g6) (.slice A5 l.length c5) out) ∧ Aside0 (Below w.heap.size w W)) ∧
    l.length - (intOf (.int .i64 ((i : Int) + 1))).toNat < l.length - (intOf (.int .i64 (i : Int))).toNat := by
  rw [← e4, ← e5, ← e6] at hE
  refine ⟨⟨i + 1, X4, X5, X6, out.set i b, hlt, by rw [Int.natCast_add]; rfl, ?_, ?_, ⟨by rw [List.length_set]; exact hL, hD⟩, ⟨hE⟩, ⟨b4⟩, ⟨b5⟩, ⟨b6⟩, ⟨ro⟩, ⟨bw⟩⟩, ?_⟩
  · rw [e6]; split <;> omega
  · rw [e6]; split <;> omega
  · simp only [intOf]; omega
set_option maxHeartbeats 8000000 in
set_option maxRecDepth 100000 in
theorem impl_charCuts.run (cc : Int → Int) (HC : ∀ (p : Int) (W : World), 0 ≤ p → p ≤ 1114111 → Calls Tryd.prog 190 #[.int .i64 p] W fun e w' => e = .returned (.int .i64 (cc p)) ∧ Drawn0 W w') (HIN : ∀ (p : Int) (V : World), Calls Tryd.prog 105 #[.int .i64 p, .int .i64 1536, .int .i64 1567] V fun e w' => e = .returned (.bool (decide (1536 ≤ p) && decide (p ≤ 1567))) ∧ Drawn0 V w') (A0 : Option Addr) (c0 : Nat) (l : List Int) (w : World) (hr0 : Kd.C (Kd.int .i64) w A0 l.length l) (hc0 : l.length ≤ c0) (hl : l.length ≤ 1000000000) (hp : ∀ p ∈ l, 0 ≤ p ∧ p ≤ 1114111) (R : List Bool) (hR : impl_charCuts.go cc none false false 0 l = R) :
    Calls Tryd.prog 115 #[.slice A0 l.length c0] w fun e w' => ∃ v0_ : Value, e = .returned (v0_) ∧ Kd.R Kd.bool 4 w' w.heap.size (fun _ => True) v0_ R ∧ Below w.heap.size w w' := by
  have HR := Aside0.mk hr0
  have HP := Aside0.mk hp
  have hn : (0 : Int) ≤ (l.length : Int) := by omega
  have HRR := Aside0.mk hR
  clear hr0 hp hR
  go_enter Tryd.func115, Tryd.ntmps115
  go_wp2_with (first | ((with_reducible refine gate_dst (N := 14) rfl ?_); refine Kd.R_make Kd.bool (w0 := w) w.heap.size 4 rfl (N := 14) rfl 90 _ _ rfl (l.length : Int) rfl rfl Tryd.underlying90 (.bool false) 1 info4 rfl (by decide) (by omega) false (ok := fun _ => True) (okp := fun _ => False) rfl (fun _ hk => hk.elim) ?aF hn (by omega) (Below.refl _ _) (Nat.le_refl _) ?_; (case aF => simp); intro v5 w4 ho5 hb5 hg5 hn5; rw [Int.toNat_natCast] at ho5; have HO5 := Aside0.mk ho5; have HB5 := Aside0.mk hb5; clear ho5 hb5 hg5 hn5))
  obtain ⟨w5, hw5⟩ : ∃ x, x = ((w4.alloc (.cells #[.bool false] 4)).alloc (.cells #[.bool false] 4)).alloc (.cells #[.int .i64 0] 3) := ⟨_, rfl⟩
  have hs := HB5.out.size
  have hrow : Kd.R Kd.bool 4 w5 w.heap.size (fun k => k ≠ w4.heap.size ∧ k ≠ w4.heap.size + 1 ∧ k ≠ w4.heap.size + 1 + 1) v5 (List.replicate l.length false) := by
    rw [hw5]
    refine Kd.R_mono (Kd.R_bound (Kd.R_alloc (Kd.R_alloc (Kd.R_alloc (Kd.R_bound HO5.out) _) _) _)) ?_
    intro k hk
    have := hk.1.2.2.1
    omega
  have hb4 : w5.heap[w4.heap.size]? = some (.cells #[.bool false] 4 (0, 0)) := by rw [hw5]; exact blk_alloc (blk_alloc (blk_new w4 _) _) _
  have hb5 : w5.heap[w4.heap.size + 1]? = some (.cells #[.bool false] 4 (0, 0)) := by rw [hw5]; exact blk_alloc (by have := blk_new (w4.alloc (.cells #[.bool false] 4)) (.cells #[.bool false] 4); simpa using this) _
  have hb6 : w5.heap[w4.heap.size + 1 + 1]? = some (.cells #[.int .i64 0] 3 (0, 0)) := by rw [hw5]; have := blk_new ((w4.alloc (.cells #[.bool false] 4)).alloc (.cells #[.bool false] 4)) (.cells #[.int .i64 0] 3); simpa using this
  have HB0 : Aside0 (Below w.heap.size w w5) := ⟨by rw [hw5]; exact below_alloc (below_alloc (below_alloc HB5.out _) _) _⟩
  rw [← hw5]
  obtain ⟨A5, c5, rfl⟩ : ∃ A c, v5 = .slice A l.length c := by
    obtain ⟨A, c, h⟩ := Kd.R_slice HO5.out
    rw [List.length_replicate] at h
    exact ⟨A, c, h⟩
  obtain ⟨g4, hg4⟩ : ∃ g, w4.heap.size = g := ⟨_, rfl⟩
  obtain ⟨g5, hg5⟩ : ∃ g, g4 + 1 = g := ⟨_, rfl⟩
  obtain ⟨g6, hg6⟩ : ∃ g, g5 + 1 = g := ⟨_, rfl⟩
  rw [hg4] at hs hrow hb4 hb5 hb6 ⊢
  rw [hg5] at hrow hb5 hb6 ⊢
  rw [hg6] at hrow hb6 ⊢
  have B4 := Aside0.mk hb4
  have B5 := Aside0.mk hb5
  have B6 := Aside0.mk hb6
  have HO := Aside0.mk hrow
  have HG : Aside0 (w.heap.size ≤ g4 ∧ g4 + 1 = g5 ∧ g5 + 1 = g6) := ⟨⟨hs, hg5, hg6⟩⟩
  clear hw5 hs hrow hb4 hb5 hb6 hg4 hg5 hg6 HB5 HO5
  go_loopw [17] (fun v17 wr => ∃ (i : Nat) (pic bind : Bool) (fl : Int) (out : List Bool), i ≤ l.length ∧ v17 = .int .i64 i ∧ 0 ≤ fl ∧ fl ≤ i ∧ Aside0 (out.length = l.length ∧ out.drop i = List.replicate (l.length - i) false) ∧ Aside0 (out.take i ++ impl_charCuts.go cc (if i = 0 then none else l[i - 1]?) pic bind fl (l.drop i) = R) ∧ Aside0 (wr.heap[g4]? = some (.cells #[.bool pic] 4 (0, 0))) ∧ Aside0 (wr.heap[g5]? = some (.cells #[.bool bind] 4 (0, 0))) ∧ Aside0 (wr.heap[g6]? = some (.cells #[.int .i64 fl] 3 (0, 0))) ∧ Aside0 (Kd.R Kd.bool 4 wr w.heap.size (fun k => k ≠ g4 ∧ k ≠ g5 ∧ k ≠ g6) (.slice A5 l.length c5) out) ∧ Aside0 (Below w.heap.size w wr)) (fun v17 _ => l.length - (intOf v17).toNat)
  case atStart => exact ⟨0, false, false, 0, List.replicate l.length false, Nat.zero_le _, rfl, by omega, by omega, ⟨by simp, by simp⟩, ⟨by simpa using HRR.out⟩, B4, B5, B6, HO, HB0⟩
  case round =>
    clear B4 B5 B6 HO HB0 HRR
    obtain ⟨i, pic, bind, fl, out, hi, rfl, hf0, hf1, HL, HE, B4, B5, B6, HO, HW⟩ := hrel
    by_cases hlt : i < l.length
    · obtain ⟨g, cap, hv, -⟩ := Kd.R_form HO.out (by rw [HL.out.1]; omega)
      have hgb : w.heap.size ≤ g := Kd.R_base HO.out g (by rw [hv]; simp [Value.ownBlock])
      have hgn := HO.out.1 g (by rw [hv]; simp [Value.ownBlock])
      injection hv with hv1 hv2 hv3
      subst hv1
      subst hv3
      have i0 : (0 : Int) ≤ (i : Int) := by omega
      have i1 : (i : Int) < (l.length : Int) := by omega
      obtain ⟨ad2, e1, hx0⟩ := Kd.at_int HR.out (i : Int) i0 i1
      subst e1
      have hx := (HW.out.cell (World.block_lt_of_cell? w _ hx0)).trans hx0
      rw [Int.toNat_natCast] at hx
      have hrd : rd l (i : Int) = l[i] := by simp [rd, List.getD, hlt]
      obtain ⟨p, hpe⟩ : ∃ p, l[i] = p := ⟨_, rfl⟩
      rw [hrd, hpe] at hx
      have k4 : wr.cell? ⟨g4, 0, none⟩ = some (.bool pic) := (blk_cell B4.out 0).trans rfl
      have k5 : wr.cell? ⟨g5, 0, none⟩ = some (.bool bind) := (blk_cell B5.out 0).trans rfl
      have k6 : wr.cell? ⟨g6, 0, none⟩ = some (.int .i64 fl) := (blk_cell B6.out 0).trans rfl
      have f4 := blk_frozen B4.out 0
      have f5 := blk_frozen B5.out 0
      have f6 := blk_frozen B6.out 0
      have d45 : g4 ≠ g5 := by have := HG.out; omega
      have d46 : g4 ≠ g6 := by have := HG.out; omega
      have d56 : g5 ≠ g6 := by have := HG.out; omega
      have n4 := World.new_ne wr _ k4
      have n5 := World.new_ne wr _ k5
      have n6 := World.new_ne wr _ k6
      have hpr := HP.out p (by rw [← hpe]; exact List.getElem_mem hlt)
      have HCP := Aside0.mk (fun W => HC p W hpr.1 hpr.2)
      obtain ⟨c, hc⟩ : ∃ c, cc p = c := ⟨_, rfl⟩
      rw [hc] at HCP
      have q0 := eq_true i0
      have q1 := eq_true i1
      clear hx0 hrd hv2
      have hglt : g < wr.heap.size := Kd.R_lt HO.out g rfl
      have HPE := Aside0.mk hpe
      clear hpe
      go_upto_if 25 with (go_at_call 190; (with_reducible refine (HCP.out _).mono ?_); rintro e w6 ⟨rfl, ⟨nd, rfl⟩⟩; obtain ⟨gp, hgp⟩ : ∃ g, wr.heap.size = g := ⟨_, rfl⟩; have m4 := blk_drewN (blk_alloc B4.out (.cells #[.int .i64 p] 2)) nd; have m5 := blk_drewN (blk_alloc B5.out (.cells #[.int .i64 p] 2)) nd; have m6 := blk_drewN (blk_alloc B6.out (.cells #[.int .i64 p] 2)) nd; have mp := blk_drewN (blk_new wr (.cells #[.int .i64 p] 2)) nd; have mo := Kd.R_drewN (Kd.R_alloc HO.out (.cells #[.int .i64 p] 2)) nd; have mw := pw_below_drewN (below_alloc HW.out (.cells #[.int .i64 p] 2)) nd; have ms : ((wr.alloc (.cells #[.int .i64 p] 2)).drewN nd).heap.size = gp + 1 := (by rw [← hgp]; exact (by simp : (wr.alloc (.cells #[.int .i64 p] 2)).heap.size = wr.heap.size + 1)); obtain ⟨wq, hq⟩ : ∃ x, (wr.alloc (.cells #[.int .i64 p] 2)).drewN nd = x := ⟨_, rfl⟩; rw [hq] at m4 m5 m6 mp mo mw ms ⊢; clear hq; rw [hgp] at mp n4 n5 n6 hglt ⊢)
      have b4 := blk_alloc m4 (.cells #[.int .i64 c] 3)
      have b5 := blk_alloc m5 (.cells #[.int .i64 c] 3)
      have b6 := blk_alloc m6 (.cells #[.int .i64 c] 3)
      have bp := blk_alloc mp (.cells #[.int .i64 c] 3)
      have bc : (wq.alloc (.cells #[.int .i64 c] 3)).heap[gp + 1]? = some (.cells #[.int .i64 c] 3 (0, 0)) := by have := blk_new wq (.cells #[.int .i64 c] 3); rw [ms] at this; exact this
      have ro := Kd.R_alloc mo (.cells #[.int .i64 c] 3)
      have bw := below_alloc mw (.cells #[.int .i64 c] 3)
      have s1 : (wq.alloc (.cells #[.int .i64 c] 3)).heap.size = gp + 2 := by simp; omega
      obtain ⟨W1, hW1⟩ : ∃ x, wq.alloc (.cells #[.int .i64 c] 3) = x := ⟨_, rfl⟩
      rw [hW1] at b4 b5 b6 bp bc ro bw s1 ⊢
      clear hW1 ms m4 m5 m6 mp mo mw HO HW B4 B5 B6 k4 k5 k6 f4 f5 f6 hx
      have d4 : g4 ≠ gp := fun h => n4 h.symm
      have d5 : g5 ≠ gp := fun h => n5 h.symm
      have d6 : g6 ≠ gp := fun h => n6 h.symm
      have hgs := HG.out
      have HGP : Aside0 (g6 < gp) := ⟨by have := b6; have h6 : g6 < W1.heap.size := blk_lt b6; omega⟩
      clear n4 n5 n6
      have B4 := Aside0.mk b4
      have B5 := Aside0.mk b5
      have B6 := Aside0.mk b6
      have BP := Aside0.mk bp
      have BC := Aside0.mk bc
      have HO := Aside0.mk ro
      have HW := Aside0.mk bw
      have HS := Aside0.mk s1
      clear b4 b5 b6 bp bc ro bw s1
      go_cut [] (fun wx => ∃ b : Bool, Aside0 (b = impl_charCuts.cutO cc (if i = 0 then none else l[i - 1]?) pic bind fl p) ∧ Aside0 (wx.heap[g4]? = some (.cells #[.bool pic] 4 (0, 0))) ∧ Aside0 (wx.heap[g5]? = some (.cells #[.bool bind] 4 (0, 0))) ∧ Aside0 (wx.heap[g6]? = some (.cells #[.int .i64 fl] 3 (0, 0))) ∧ Aside0 (wx.heap[gp]? = some (.cells #[.int .i64 p] 2 (0, 0))) ∧ Aside0 (wx.heap[gp + 1]? = some (.cells #[.int .i64 c] 3 (0, 0))) ∧ Aside0 (Kd.R Kd.bool 4 wx w.heap.size (fun k => k ≠ g4 ∧ k ≠ g5 ∧ k ≠ g6) (.slice (some ⟨g, 0, none⟩) l.length c5) (out.set i b)) ∧ Aside0 (Below w.heap.size w wx))
      case first =>
        by_cases hz : i = 0
        · have hzb : decide (0 < i) = false := by rw [hz]; rfl
          go_wp2_with fail
          go_meet
          exact ⟨false, ⟨by rw [if_pos hz]; rfl⟩, B4, B5, B6, BP, BC, ⟨by rw [impl_charCuts.tail0 out l.length i HL.out.2 hlt]; exact HO.out⟩, HW⟩
        · have hzb : decide (0 < i) = true := decide_eq_true (by omega)
          have j0 : (0 : Int) ≤ (i : Int) - 1 := by omega
          have j1 : (i : Int) - 1 < (l.length : Int) := by omega
          obtain ⟨ad3, e3, hy0⟩ := Kd.at_int HR.out ((i : Int) - 1) j0 j1
          obtain rfl : ad2 = ad3 := Option.some.inj e3
          have hy := (HW.out.cell (World.block_lt_of_cell? w _ hy0)).trans hy0
          rw [show ((i : Int) - 1).toNat = i - 1 by omega] at hy
          obtain ⟨q, hq⟩ : ∃ q, rd l ((i : Int) - 1) = q := ⟨_, rfl⟩
          have hq2 : l[i - 1]? = some q := by
            rw [← hq]
            have : ((i : Int) - 1).toNat = i - 1 := by omega
            have h3 : i - 1 < l.length := by omega
            simp [rd, List.getD, this, h3]
          rw [hq] at hy
          have HQ2 := Aside0.mk hq2
          have hqr := HP.out q (List.mem_of_getElem? hq2)
          have HCQ := Aside0.mk (fun W => HC q W hqr.1 hqr.2)
          obtain ⟨d, hd⟩ : ∃ d, cc q = d := ⟨_, rfl⟩
          rw [hd] at HCQ
          have q2 := eq_true j0
          have q3 := eq_true j1
          clear hy0 e3 hq hq2
          go_upto_region 10 with (go_at_call 190; (with_reducible refine (HCQ.out _).mono ?_); rintro e w6 ⟨rfl, ⟨nd2, rfl⟩⟩)
          have e4 := blk_alloc (blk_drewN (blk_alloc B4.out (.cells #[.int .i64 q] 2)) nd2) (.cells #[.int .i64 d] 3)
          have e5 := blk_alloc (blk_drewN (blk_alloc B5.out (.cells #[.int .i64 q] 2)) nd2) (.cells #[.int .i64 d] 3)
          have e6 := blk_alloc (blk_drewN (blk_alloc B6.out (.cells #[.int .i64 q] 2)) nd2) (.cells #[.int .i64 d] 3)
          have ep := blk_alloc (blk_drewN (blk_alloc BP.out (.cells #[.int .i64 q] 2)) nd2) (.cells #[.int .i64 d] 3)
          have ec := blk_alloc (blk_drewN (blk_alloc BC.out (.cells #[.int .i64 q] 2)) nd2) (.cells #[.int .i64 d] 3)
          have hs1 := HS.out
          have eq_ : (((W1.alloc (.cells #[.int .i64 q] 2)).drewN nd2).alloc (.cells #[.int .i64 d] 3)).heap[gp + 2]? = some (.cells #[.int .i64 q] 2 (0, 0)) := by have := blk_alloc (blk_drewN (blk_new W1 (.cells #[.int .i64 q] 2)) nd2) (.cells #[.int .i64 d] 3); rw [hs1] at this; exact this
          have ed : (((W1.alloc (.cells #[.int .i64 q] 2)).drewN nd2).alloc (.cells #[.int .i64 d] 3)).heap[gp + 2 + 1]? = some (.cells #[.int .i64 d] 3 (0, 0)) := by
            have := blk_new ((W1.alloc (.cells #[.int .i64 q] 2)).drewN nd2) (.cells #[.int .i64 d] 3)
            rw [show ((W1.alloc (.cells #[.int .i64 q] 2)).drewN nd2).heap.size = gp + 2 + 1 by rw [← hs1]; exact (by simp : (W1.alloc (.cells #[.int .i64 q] 2)).heap.size = W1.heap.size + 1)] at this
            exact this
          have eo := Kd.R_alloc (Kd.R_drewN (Kd.R_alloc HO.out (.cells #[.int .i64 q] 2)) nd2) (.cells #[.int .i64 d] 3)
          have ew := below_alloc (pw_below_drewN (below_alloc HW.out (.cells #[.int .i64 q] 2)) nd2) (.cells #[.int .i64 d] 3)
          rw [hs1]
          obtain ⟨W4, hW4⟩ : ∃ x, (((W1.alloc (.cells #[.int .i64 q] 2)).drewN nd2).alloc (.cells #[.int .i64 d] 3)) = x := ⟨_, rfl⟩
          rw [hW4] at e4 e5 e6 ep ec eq_ ed eo ew ⊢
          clear hW4 hy B4 B5 B6 BP BC HO HW HS hs1
          have k0 := (blk_cell eq_ 0).trans rfl
          go_wp2_with (go_at_call 191; refine (impl_charCuts.inner _ _ _ _ _ _ _ q p c d fl bind pic _ _ ((blk_cell eq_ 0).trans rfl) ((blk_cell ep 0).trans rfl) ((blk_cell ec 0).trans rfl) ((blk_cell ed 0).trans rfl) ((blk_cell e5 0).trans rfl) ((blk_cell e4 0).trans rfl) ((blk_cell e6 0).trans rfl) hf0 (by omega) (HIN p)).mono ?_; rintro e w6 ⟨rfl, ⟨nd3, rfl⟩⟩; obtain ⟨hxs, hfs⟩ := Kd.R_celln false (Kd.R_drewN eo nd3) (i : Int) i0 i1; rw [Int.toNat_natCast] at hxs hfs)
          go_meet
          refine ⟨impl_charCuts.cut q p c d bind pic fl (decide (1536 ≤ p) && decide (p ≤ 1567)), ⟨?gx⟩, ⟨blk_far (blk_drewN e4 nd3) (fun h => hgn.1 h.symm) _⟩, ⟨blk_far (blk_drewN e5 nd3) (fun h => hgn.2.1 h.symm) _⟩, ⟨blk_far (blk_drewN e6 nd3) (fun h => hgn.2.2 h.symm) _⟩, ⟨blk_far (blk_drewN ep nd3) (by show gp ≠ g; omega) _⟩, ⟨blk_far (blk_drewN ec nd3) (by show gp + 1 ≠ g; omega) _⟩, ⟨?gr⟩, ⟨?gw⟩⟩
          case gr => have := Kd.R_putn (Kd.R_drewN eo nd3) (i : Int) (impl_charCuts.cut q p c d bind pic fl (decide (1536 ≤ p) && decide (p ≤ 1567))); rw [Int.toNat_natCast] at this; exact this
          case gw => exact below_set (pw_below_drewN ew nd3) hgb
          case gx => rw [if_neg hz, HQ2.out]; show _ = impl_charCuts.cut q p (cc p) (cc q) bind pic fl _; rw [hc, hd]
      case rest =>
        clear B4 B5 B6 BP BC HO HW HS
        obtain ⟨b, HX, B4, B5, B6, BP, BC, HO, HW⟩ := hcut
        have hgs := HG.out
        have hgp6 := HGP.out
        have k4 := (blk_cell B4.out 0).trans rfl
        have k5 := (blk_cell B5.out 0).trans rfl
        have k6 := (blk_cell B6.out 0).trans rfl
        have kp := (blk_cell BP.out 0).trans rfl
        have kc := (blk_cell BC.out 0).trans rfl
        have f4 := blk_frozen B4.out 0
        have f5 := blk_frozen B5.out 0
        have f6 := blk_frozen B6.out 0
        have d45 : g4 ≠ g5 := by omega
        have d46 : g4 ≠ g6 := by omega
        have d4p : g4 ≠ gp := by omega
        have d4c : g4 ≠ (gp + 1) := by omega
        have d54 : g5 ≠ g4 := by omega
        have d56 : g5 ≠ g6 := by omega
        have d5p : g5 ≠ gp := by omega
        have d5c : g5 ≠ (gp + 1) := by omega
        have d64 : g6 ≠ g4 := by omega
        have d65 : g6 ≠ g5 := by omega
        have d6p : g6 ≠ gp := by omega
        have d6c : g6 ≠ (gp + 1) := by omega
        have dp4 : gp ≠ g4 := by omega
        have dp5 : gp ≠ g5 := by omega
        have dp6 : gp ≠ g6 := by omega
        have dpc : gp ≠ (gp + 1) := by omega
        have dc4 : (gp + 1) ≠ g4 := by omega
        have dc5 : (gp + 1) ≠ g5 := by omega
        have dc6 : (gp + 1) ≠ g6 := by omega
        have dcp : (gp + 1) ≠ gp := by omega
        go_wp2_with fail
        all_goals
          have HE1 := impl_charCuts.step cc _ pic bind fl l out R i p hlt HPE.out HL.out.1 HE.out b HX.out
          have HD1 := impl_charCuts.tail1 out b l.length i HL.out.2
          rw [hc] at HE1
          exact impl_charCuts.leaf (pic := pic) (bind := bind) (fl := fl) (p := p) (c := c) hlt
            (by repeat (first | (with_reducible exact B4.out) | (with_reducible refine impl_charCuts.blk_one (v := .bool pic) ?_ _) | (with_reducible refine blk_far ?_ (by assumption) _)))
            (by repeat (first | (with_reducible exact B5.out) | (with_reducible refine impl_charCuts.blk_one (v := .bool bind) ?_ _) | (with_reducible refine blk_far ?_ (by assumption) _)))
            (by repeat (first | (with_reducible exact B6.out) | (with_reducible refine impl_charCuts.blk_one (v := .int .i64 fl) ?_ _) | (with_reducible refine blk_far ?_ (by assumption) _)))
            (by repeat (first | (with_reducible exact HO.out) | (with_reducible refine impl_charCuts.far ?_ (.inl rfl) _) | (with_reducible refine impl_charCuts.far ?_ (.inr (.inl rfl)) _) | (with_reducible refine impl_charCuts.far ?_ (.inr (.inr rfl)) _)))
            (by repeat (first | (with_reducible exact HW.out) | (with_reducible refine below_set ?_ (by omega))))
            HL.out.1 HD1 HE1 hf0 hf1
            (by first | (have h_ : (c != 2) = true := (by assumption); have h2 : c ≠ 2 := (by simpa using h_); rw [if_neg h2]) | (have h_ : (c != 2) = false := (by assumption); have h2 : c = 2 := (by simpa using h_); rw [if_pos h2]))
            (by first | (have a_ : p = 1584 := (by assumption); rw [a_]; rfl) | (have a_ : ¬ p = 1584 := (by assumption); have b_ : p = 1585 := (by assumption); rw [b_]; cases bind <;> rfl) | (have a_ : ¬ p = 1584 := (by assumption); have b_ : ¬ p = 1585 := (by assumption); simp [a_, b_]))
            (by first | (have h_ : (c == 9) = true := (by assumption); have h2 : c = 9 := (by simpa using h_); rw [if_pos h2]) | (have h_ : (c == 9) = false := (by assumption); have h2 : c ≠ 9 := (by simpa using h_); rw [if_neg h2]))
    · obtain rfl : i = l.length := by omega
      have hzb : decide (l.length < l.length) = false := decide_eq_false (by omega)
      have q1 : ((l.length : Int) < (l.length : Int)) = False := eq_false (by omega)
      go_wp2_with fail
      go_ret
      have hR : out = R := by
        have h1 := HE.out
        rw [List.drop_length, impl_charCuts.go, List.append_nil, ← HL.out.1, List.take_length] at h1
        exact h1
      exact ⟨_, rfl, hR ▸ Kd.R_mono HO.out (fun _ _ => trivial), HW.out⟩
theorem impl_charCuts.go_eq : ∀ (l : List Int) (prev : Option Int) (pic bind : Bool) (fl : Int), impl_charCuts.go YtiabgmddnddeiaaDoorChr.cc prev pic bind fl l = YtiabgmddnddeiaaDoorChr.go prev pic bind fl l
  | [], _, _, _, _ => rfl
  | p :: t, prev, pic, bind, fl => by
    rw [impl_charCuts.go, YtiabgmddnddeiaaDoorChr.go, impl_charCuts.go_eq t]
    congr 1
/-- where there is a cut of characters ahead of each point -/
def impl_charCuts.f (l0 : List Int) : Option (List Bool) := if l0.length ≤ 1000000000 ∧ (∀ p ∈ l0, 0 ≤ p ∧ p ≤ 1114111) then some (YtiabgmddnddeiaaDoorChr.go none false false 0 l0) else none
theorem impl_charCuts.calls (A0 : Option Addr) (c0 : Nat) (l0 : List Int) (r : List Bool) (w : World) (hr0 : Kd.C (Kd.int .i64) w A0 l0.length l0) (hc0 : l0.length ≤ c0) (h : impl_charCuts.f l0 = some r) :
    Calls Tryd.prog 115 #[.slice A0 l0.length c0] w fun e w' => ∃ v0_ : Value, e = .returned (v0_) ∧ Kd.R Kd.bool 4 w' w.heap.size (fun _ => True) v0_ r ∧ Below w.heap.size w w' := by
  unfold impl_charCuts.f at h
  split at h
  · rename_i hl
    refine impl_charCuts.run YtiabgmddnddeiaaDoorChr.cc (fun p W p0 p1 => W_impl_charClass.calls p _ W (if_pos ⟨p0, p1⟩)) (fun p V => impl_in.calls p 1536 1567 _ V ?_) A0 c0 l0 w hr0 hc0 hl.1 hl.2 r ?_
    · unfold impl_in.f
      by_cases g : 1536 ≤ p
      · rw [if_pos (show p ≥ 1536 from g), decide_eq_true g]; rfl
      · rw [if_neg (show ¬ p ≥ 1536 from g), decide_eq_false g]; rfl
    · rw [impl_charCuts.go_eq]; exact Option.some.inj h
  · cases h

/-! ### impl_one: function 116 (by hand) -/
/-- whether a point is one of a text's (a text of small points) -/
def impl_one.f (p : Int) (s : ByteArray) : Option Bool := if s.size ≤ 1000000 ∧ (∀ b ∈ bytesOf s, b < 128) then some (decide (p ∈ bytesOf s)) else none
set_option maxHeartbeats 8000000 in
set_option maxRecDepth 100000 in
theorem impl_one.calls (a0 : Int) (a1 : ByteArray) (r : Bool) (w : World) (h : impl_one.f a0 a1 = some r) :
    Calls Tryd.prog 116 #[.int .i64 a0, .string a1] w fun e w' => e = .returned (.bool r) ∧ Below w.heap.size w w' := by
  unfold impl_one.f at h
  split at h
  · rename_i hs
    obtain ⟨hz, ha⟩ := hs
    obtain rfl := Option.some.inj h
    have HA := Aside0.mk ha
    clear h ha
    go_enter Tryd.func116, Tryd.ntmps116
    go_wp2
    go_loopw [] (fun wr => ∃ pos : Nat, pos ≤ a1.size ∧ wr.heap[w.heap.size]? = some (.stringIter a1 pos) ∧ Below w.heap.size w wr ∧ Aside0 (a0 ∉ (bytesOf a1).take pos)) (fun wr => a1.size - wr.iterPos w.heap.size)
    case atStart =>
      refine ⟨0, Nat.zero_le _, ?_, below_alloc (Below.refl _ _) _, ⟨by simp⟩⟩
      have := World.iter_heap w a1 0
      simpa using this
    case round =>
      obtain ⟨pos, hpl, hit, hbw, HN⟩ := hrel
      have hsz : w.heap.size < wr.heap.size := (Array.getElem?_eq_some_iff.1 hit).1
      by_cases hp : pos < a1.size
      · have hlen : pos < (bytesOf a1).length := by rw [bytesOf_length]; exact hp
        have hb : (bytesOf a1)[pos] < 128 := HA.out _ (List.getElem_mem hlen)
        have hg : (bytesOf a1)[pos] = (((a1[pos]'hp).toNat : Nat) : Int) := by simp [bytesOf]; rfl
        have ha2 : (a1[pos]'hp).toNat < 128 := by omega
        have hnx : ∀ ty, (Instr.next (.pointer (some ⟨w.heap.size, 0, none⟩)) true ty).run Tryd.prog wr = _ := fun ty => Lib.run_next_ascii_at wr w.heap.size a1 pos ty hit hp ha2
        have hit2 := Lib.iterAt_heap wr w.heap.size a1 pos (pos + 1) hit
        have hbw2 := Lib.below_iterAt hbw (k := w.heap.size) (Nat.le_refl _) a1 (pos + 1)
        have ht : (bytesOf a1).take (pos + 1) = (bytesOf a1).take pos ++ [(bytesOf a1)[pos]] := List.take_succ_eq_append_getElem hlen
        by_cases hc : a0 = (((a1[pos]'hp).toNat : Nat) : Int)
        · have hcb : ((((a1[pos]'hp).toNat : Nat) : Int) == a0) = true := by simpa using hc.symm
          go_wp2
          go_ret
          have hm : a0 ∈ bytesOf a1 := by rw [hc, ← hg]; exact List.getElem_mem hlen
          exact ⟨by rw [decide_eq_true hm]; rfl, hbw2⟩
        · have hcb : ((((a1[pos]'hp).toNat : Nat) : Int) == a0) = false := by simpa using fun z => hc z.symm
          go_wp2
          refine ⟨⟨pos + 1, by omega, hit2, hbw2, ⟨?_⟩⟩, ?_⟩
          · rw [ht]
            intro hm
            rcases List.mem_append.1 hm with z | z
            · exact HN.out z
            · exact hc ((List.mem_singleton.1 z).trans hg)
          · simp only [World.iterPos, hit2, hit]; omega
      · have hnx : ∀ ty, (Instr.next (.pointer (some ⟨w.heap.size, 0, none⟩)) true ty).run Tryd.prog wr = _ := fun ty => Lib.run_next_end_at wr w.heap.size a1 pos ty hit hp
        go_wp2
        go_ret
        have e : (bytesOf a1).take pos = bytesOf a1 := List.take_of_length_le (by rw [bytesOf_length]; omega)
        have hn := HN.out
        rw [e] at hn
        exact ⟨by rw [decide_eq_false hn]; rfl, hbw⟩
  · cases h

theorem impl_one.st (p : Int) : impl_one.f p (⟨#[46, 33, 63]⟩ : ByteArray) = some (YtiabgmddnddeiaaDoorSen.st p) := by
  have e : bytesOf (⟨#[46, 33, 63]⟩ : ByteArray) = [46, 33, 63] := rfl
  unfold impl_one.f YtiabgmddnddeiaaDoorSen.st
  rw [e, if_pos ⟨by decide, by decide⟩]
theorem impl_one.cl (p : Int) : impl_one.f p (⟨#[41, 93, 125, 34, 39]⟩ : ByteArray) = some (YtiabgmddnddeiaaDoorSen.cl p) := by
  have e : bytesOf (⟨#[41, 93, 125, 34, 39]⟩ : ByteArray) = [41, 93, 125, 34, 39] := rfl
  unfold impl_one.f YtiabgmddnddeiaaDoorSen.cl
  rw [e, if_pos ⟨by decide, by decide⟩]

end Go.Proofs.YtiabgmddnddeiaaDoor.QFnExactSentenceCuts
