/- The law FnExactTitle: at every input the call answers true (this text: contracts on its way, by a program of this session's; no condition of ours). -/
import Derived.Test.YtnonijganceneaaDoorQFnExactTitlex0
import Derived.Test.YtnonijganceneaaDoorQFnExactTitlex7
import Derived.Test.YtnonijganceneaaDoorQFnExactTitlex8
import Derived.Test.YtnonijganceneaaDoorQFnExactTitlex9
import Derived.Test.YtnonijganceneaaDoorQFnExactTitlex10
namespace Go.Proofs.YtnonijganceneaaDoor.QFnExactTitle
open Go.RowKit Go.Proofs.YtnonijganceneaaDoorW.PrintWords Go.Proofs.YtnonijganceneaaDoorW.PrintLast Go.Proofs.YtnonijganceneaaDoorW.PrintMore
attribute [local go_sem] max2_int min2_int max_two min_two max_three min_three max_four min_four   -- for this text's walks alone
set_option linter.unusedVariables false
set_option linter.unusedSimpArgs false

/-! ### impl_isLetter: function 204 -/
def impl_isLetter.f (a0 : Int) : Option (Bool) := (impl_Category.f a0).bind fun t304 => ((impl_in.f t304 4 7).bind fun t305 => (some t305))
set_option maxHeartbeats 8000000 in
set_option maxRecDepth 100000 in
theorem impl_isLetter.calls (a0 : Int) (r : Bool) (w : World) (h : impl_isLetter.f a0 = some r) :
    Calls Tryd.prog 204 #[.int .i64 a0] w fun e w' => e = .returned (.bool r) ∧ Drawn0 w w' := by
  have H : ((impl_Category.f a0).bind fun t304 => ((impl_in.f t304 4 7).bind fun t305 => (some t305))) = some r := h
  clear h
  replace H := Option.bind_eq_some_iff.mp H
  obtain ⟨t304, A20, H⟩ := H
  replace H : ((impl_in.f t304 4 7).bind fun t305 => (some t305)) = some r := H
  have A2 := Aside0.mk A20
  clear A20
  replace H := Option.bind_eq_some_iff.mp H
  obtain ⟨t305, A30, H⟩ := H
  replace H : (some t305) = some r := H
  have A3 := Aside0.mk A30
  clear A30
  obtain rfl := Option.some.inj H
  go_enter Tryd.func204, Tryd.ntmps204
  go_wp2_with (first | ((with_reducible refine gate_callee (f := 14) rfl ?_); refine goesL_ (some 4) rfl rfl Tryd.func14 (by kernel_rfl) rfl #[.int .i64 a0] rfl (by (try simp only [List.map_toArray, List.map_cons, List.map_nil]); first | done | rfl | (simp only [List.length_drop, List.length_take]; rfl)) ?_; (with_reducible refine (impl_Category.calls a0 t304 _ A2.out).mono ?_); rintro e w' ⟨rfl, ⟨nd, rfl⟩⟩; refine ⟨_, rfl, ?_⟩) | ((with_reducible refine gate_callee (f := 76) rfl ?_); refine goesL_ (some 5) rfl rfl Tryd.func76 (by kernel_rfl) rfl #[.int .i64 t304, .int .i64 4, .int .i64 7] rfl (by (try simp only [List.map_toArray, List.map_cons, List.map_nil]); first | done | rfl | (simp only [List.length_drop, List.length_take]; rfl)) ?_; (with_reducible refine (impl_in.calls t304 4 7 t305 _ A3.out).mono ?_); rintro e w' ⟨rfl, ⟨nd, rfl⟩⟩; refine ⟨_, rfl, ?_⟩))
  go_ret
  exact ⟨by first | rfl | (simp; done) | (simp [*]; done), by repeat (first | exact Drawn0.refl _ | apply Drawn0.step)⟩

/-! ### impl_isDigit: function 205 -/
def impl_isDigit.f (a0 : Int) : Option (Bool) := (impl_Category.f a0).bind fun t306 => (some (t306 == 8))
set_option maxHeartbeats 8000000 in
set_option maxRecDepth 100000 in
theorem impl_isDigit.calls (a0 : Int) (r : Bool) (w : World) (h : impl_isDigit.f a0 = some r) :
    Calls Tryd.prog 205 #[.int .i64 a0] w fun e w' => e = .returned (.bool r) ∧ Drawn0 w w' := by
  have H : ((impl_Category.f a0).bind fun t306 => (some (t306 == 8))) = some r := h
  clear h
  replace H := Option.bind_eq_some_iff.mp H
  obtain ⟨t306, A20, H⟩ := H
  replace H : (some (t306 == 8)) = some r := H
  have A2 := Aside0.mk A20
  clear A20
  obtain rfl := Option.some.inj H
  go_enter Tryd.func205, Tryd.ntmps205
  go_wp2_with (first | ((with_reducible refine gate_callee (f := 14) rfl ?_); refine goesL_ (some 4) rfl rfl Tryd.func14 (by kernel_rfl) rfl #[.int .i64 a0] rfl (by (try simp only [List.map_toArray, List.map_cons, List.map_nil]); first | done | rfl | (simp only [List.length_drop, List.length_take]; rfl)) ?_; (with_reducible refine (impl_Category.calls a0 t306 _ A2.out).mono ?_); rintro e w' ⟨rfl, ⟨nd, rfl⟩⟩; refine ⟨_, rfl, ?_⟩))
  go_ret
  exact ⟨by first | rfl | (simp; done) | (simp [*]; done), by repeat (first | exact Drawn0.refl _ | apply Drawn0.step)⟩

/-! ### impl_SimpleTitle: function 208 -/
def impl_SimpleTitle.f (a0 : Int) : Option (Int) := (impl_isPoint.f a0).bind fun t307 => (if t307 = true then ((impl_cases.f a0).bind fun bt308 => (some bt308.2.1)) else (some 0))
set_option maxHeartbeats 8000000 in
set_option maxRecDepth 100000 in
theorem impl_SimpleTitle.calls (a0 : Int) (r : Int) (w : World) (h : impl_SimpleTitle.f a0 = some r) :
    Calls Tryd.prog 208 #[.int .i64 a0] w fun e w' => e = .returned (.int .i64 r) ∧ Drawn0 w w' := by
  have H : ((impl_isPoint.f a0).bind fun t307 => (if t307 = true then ((impl_cases.f a0).bind fun bt308 => (some bt308.2.1)) else (some 0))) = some r := h
  clear h
  replace H := Option.bind_eq_some_iff.mp H
  obtain ⟨t307, A20, H⟩ := H
  replace H : (if t307 = true then ((impl_cases.f a0).bind fun bt308 => (some bt308.2.1)) else (some 0)) = some r := H
  have A2 := Aside0.mk A20
  clear A20
  by_cases c3 : t307 = true
  · subst c3
    have H1 : ((impl_cases.f a0).bind fun bt308 => (some bt308.2.1)) = some r := by rw [if_pos rfl] at H; exact H
    clear H
    have H := H1
    clear H1
    replace H := Option.bind_eq_some_iff.mp H
    obtain ⟨⟨t308, t309, t310⟩, A40, H⟩ := H
    replace H : (some t309) = some r := H
    have A4 := Aside0.mk A40
    clear A40
    obtain rfl := Option.some.inj H
    go_enter Tryd.func208, Tryd.ntmps208
    go_wp2_with (first | ((with_reducible refine gate_callee (f := 87) rfl ?_); refine goesL_ (some 7) rfl rfl Tryd.func87 (by kernel_rfl) rfl #[.int .i64 a0] rfl (by (try simp only [List.map_toArray, List.map_cons, List.map_nil]); first | done | rfl | (simp only [List.length_drop, List.length_take]; rfl)) ?_; (with_reducible refine (impl_isPoint.calls a0 true _ A2.out).mono ?_); rintro e w' ⟨rfl, ⟨nd, rfl⟩⟩; refine ⟨_, rfl, ?_⟩) | ((with_reducible refine gate_callee (f := 230) rfl ?_); refine goesL_ (some 11) rfl rfl Tryd.func230 (by kernel_rfl) rfl #[.int .i64 a0] rfl (by (try simp only [List.map_toArray, List.map_cons, List.map_nil]); first | done | rfl | (simp only [List.length_drop, List.length_take]; rfl)) ?_; (with_reducible refine (impl_cases.calls a0 t308 t309 t310 _ A4.out).mono ?_); rintro e w' ⟨rfl, ⟨nd, rfl⟩⟩; refine ⟨_, rfl, ?_⟩))
    go_ret
    exact ⟨by first | rfl | (simp; done) | (simp [*]; done), by repeat (first | exact Drawn0.refl _ | apply Drawn0.step)⟩
  · replace c3 := Bool.eq_false_iff.mpr c3
    subst c3
    have H1 : (some 0) = some r := by rw [if_neg (show ¬ (false = true) by decide)] at H; exact H
    clear H
    have H := H1
    clear H1
    obtain rfl := Option.some.inj H
    go_enter Tryd.func208, Tryd.ntmps208
    go_wp2_with (first | ((with_reducible refine gate_callee (f := 87) rfl ?_); refine goesL_ (some 7) rfl rfl Tryd.func87 (by kernel_rfl) rfl #[.int .i64 a0] rfl (by (try simp only [List.map_toArray, List.map_cons, List.map_nil]); first | done | rfl | (simp only [List.length_drop, List.length_take]; rfl)) ?_; (with_reducible refine (impl_isPoint.calls a0 false _ A2.out).mono ?_); rintro e w' ⟨rfl, ⟨nd, rfl⟩⟩; refine ⟨_, rfl, ?_⟩))
    go_ret
    exact ⟨by first | rfl | (simp; done) | (simp [*]; done), by repeat (first | exact Drawn0.refl _ | apply Drawn0.step)⟩

/-! ### impl_title: function 148 -/
mutual
def impl_title.l0 : Nat → List Int → List Int → Bool → List Int → Int → Int → Option (List Int)
  | 0, _, _, _, _, _, _ => none
  | k + 1, x3, x4, x5, x12, x13, x14 => if x14 < x13 then (if 0 ≤ x14 then (if x14 < (x12.length : Int) then ((impl_isMark.f (rd x12 x14)).bind fun t315 => (if t315 = true then (impl_title.j1 k x3 x4 x5 x14 (rd x12 x14) x12 x13 x14 false) else ((impl_isLetter.f (rd x12 x14)).bind fun t316 => (if t316 = true then (impl_title.j1 k x3 x4 x5 x14 (rd x12 x14) x12 x13 x14 false) else ((impl_isDigit.f (rd x12 x14)).bind fun t317 => (if t317 = true then (impl_title.j1 k x3 x4 x5 x14 (rd x12 x14) x12 x13 x14 false) else (impl_title.j1 k x3 x4 x5 x14 (rd x12 x14) x12 x13 x14 ((rd x12 x14) != 39)))))))) else (none)) else (none)) else (some x4)
def impl_title.j1 : Nat → List Int → List Int → Bool → Int → Int → List Int → Int → Int → Bool → Option (List Int)
  | 0, _, _, _, _, _, _, _, _, _ => none
  | k + 1, x3, x4, x5, x6, x7, x12, x13, x14, x35 => if x35 = true then (if x4.length < 17592186044416 then (impl_title.l0 k x3 (x4 ++ [x7]) false x12 x13 (wrap64 (x14 + 1))) else (none)) else (if x5 = true then (if 0 ≤ x6 then (if x6 < (x3.length : Int) then (if x4.length < 17592186044416 then (impl_title.l0 k x3 (x4 ++ [rd x3 x6]) x5 x12 x13 (wrap64 (x14 + 1))) else (none)) else (none)) else (none)) else ((impl_isCased.f x7).bind fun t325 => (if t325 = true then ((impl_within.f x7 96).bind fun t326 => (if t326 = true then ((impl_block.f x7).bind fun bt327 => ((some (([wrap64 (bt327.1 + 18), wrap64 (bt327.1 + 50)] : List Int) : List Int)).bind fun y329 => (if x4.length + y329.length < 17592186044416 then (impl_title.l0 k x3 (x4 ++ y329) true x12 x13 (wrap64 (x14 + 1))) else (none)))) else ((impl_SimpleTitle.f x7).bind fun t335 => (if x4.length < 17592186044416 then (impl_title.l0 k x3 (x4 ++ [t335]) true x12 x13 (wrap64 (x14 + 1))) else (none))))) else (if x4.length < 17592186044416 then (impl_title.l0 k x3 (x4 ++ [x7]) x5 x12 x13 (wrap64 (x14 + 1))) else (none)))))
end
def impl_title.f (k : Nat) (l0 : List Int) : Option (List Int) := (W_impl_lower.f l0).bind fun t311 => (impl_title.l0 k t311 ([] : List Int) false l0 (l0.length : Int) 0)
theorem impl_title.mono_l : ∀ k, (∀ y0 y1 y2 y3 y4 y5, LeO (impl_title.l0 k y0 y1 y2 y3 y4 y5) (impl_title.l0 (k + 1) y0 y1 y2 y3 y4 y5)) ∧ (∀ y0 y1 y2 y3 y4 y5 y6 y7 y8, LeO (impl_title.j1 k y0 y1 y2 y3 y4 y5 y6 y7 y8) (impl_title.j1 (k + 1) y0 y1 y2 y3 y4 y5 y6 y7 y8))
  | 0 => ⟨fun _ _ _ _ _ _ r h => by simp [impl_title.l0] at h, fun _ _ _ _ _ _ _ _ _ r h => by simp [impl_title.j1] at h⟩
  | k + 1 => by
    obtain ⟨ih0, ih1⟩ := impl_title.mono_l k
    refine ⟨?_, ?_⟩
    · intro y0 y1 y2 y3 y4 y5
      unfold impl_title.l0
      repeat' first
      | (with_reducible exact ih0 _ _ _ _ _ _)
      | (with_reducible exact ih1 _ _ _ _ _ _ _ _ _)
      | (with_reducible exact LeO.refl _)
      | (with_reducible exact LeO.none _)
      | (with_reducible refine LeO.ite ?_ ?_)
      | (with_reducible refine LeO.bind ?_ (fun _ => ?_))
      | exact ih0 _ _ _ _ _ _
      | exact ih1 _ _ _ _ _ _ _ _ _
      | exact LeO.none _
      | refine LeO.ite ?_ ?_
      | refine LeO.bind ?_ (fun _ => ?_)
    · intro y0 y1 y2 y3 y4 y5 y6 y7 y8
      unfold impl_title.j1
      repeat' first
      | (with_reducible exact ih0 _ _ _ _ _ _)
      | (with_reducible exact ih1 _ _ _ _ _ _ _ _ _)
      | (with_reducible exact LeO.refl _)
      | (with_reducible exact LeO.none _)
      | (with_reducible refine LeO.ite ?_ ?_)
      | (with_reducible refine LeO.bind ?_ (fun _ => ?_))
      | exact ih0 _ _ _ _ _ _
      | exact ih1 _ _ _ _ _ _ _ _ _
      | exact LeO.none _
      | refine LeO.ite ?_ ?_
      | refine LeO.bind ?_ (fun _ => ?_)
theorem impl_title.mono : ∀ a0 k, LeO (impl_title.f k a0) (impl_title.f (k + 1) a0) := by
  intro a0 k
  obtain ⟨ih0, ih1⟩ := impl_title.mono_l k
  unfold impl_title.f
  repeat' first
      | (with_reducible exact ih0 _ _ _ _ _ _)
      | (with_reducible exact ih1 _ _ _ _ _ _ _ _ _)
      | (with_reducible exact LeO.refl _)
      | (with_reducible exact LeO.none _)
      | (with_reducible refine LeO.ite ?_ ?_)
      | (with_reducible refine LeO.bind ?_ (fun _ => ?_))
      | exact ih0 _ _ _ _ _ _
      | exact ih1 _ _ _ _ _ _ _ _ _
      | exact LeO.none _
      | refine LeO.ite ?_ ?_
      | refine LeO.bind ?_ (fun _ => ?_)
set_option maxHeartbeats 8000000 in
set_option maxRecDepth 100000 in
theorem impl_title.calls (k : Nat) (A0 : Option Addr) (c0 : Nat) (l0 : List Int) (r : List Int) (w : World) (hr0 : Kd.C (Kd.int .i64) w A0 l0.length l0) (hc0 : l0.length ≤ c0) (h : impl_title.f k l0 = some r) :
    Calls Tryd.prog 148 #[.slice A0 l0.length c0] w fun e w' => ∃ v0_ : Value, e = .returned (v0_) ∧ Kd.R (Kd.int .i64) 2 w' w.heap.size (fun _ => True) v0_ r ∧ Below w.heap.size w w' := by
  have HR0 := Aside0.mk hr0
  have HC0 := Aside0.mk hc0
  clear hr0 hc0
  have HB := Aside0.mk (Below.refl w.heap.size w)
  have H : ((W_impl_lower.f l0).bind fun t311 => (impl_title.l0 k t311 ([] : List Int) false l0 (l0.length : Int) 0)) = some r := h
  clear h
  replace H := Option.bind_eq_some_iff.mp H
  obtain ⟨t311, A20, H⟩ := H
  replace H : (impl_title.l0 k t311 ([] : List Int) false l0 (l0.length : Int) 0) = some r := H
  have A2 := Aside0.mk A20
  clear A20
  have H' := Aside0.mk H
  clear H
  go_enter Tryd.func148, Tryd.ntmps148
  go_wp2_with (first | ((with_reducible refine gate_callee (f := 203) rfl ?_); refine goesL_ (some 11) rfl rfl Tryd.func203 (by kernel_rfl) rfl #[.slice A0 l0.length c0] rfl (by (try simp only [List.map_toArray, List.map_cons, List.map_nil]); first | done | rfl | (simp only [List.length_drop, List.length_take]; rfl)) ?_; (with_reducible refine (W_impl_lower.calls _ _ l0 t311 _ ?side1 ?side2 A2.out).mono ?_); (case side1 => repeat (first | exact HR0.out | (with_reducible refine Kd.C_alloc ?_ _) | (with_reducible refine Kd.C_drewN ?_ _) | (with_reducible refine Kd.C_drew ?_))); (case side2 => exact HC0.out); rintro e w3 ⟨v312, rfl, ho0, hb⟩; refine ⟨_, rfl, ?_⟩; have n0_ := Aside0.mk (Kd.R_lower ho0 (below_size (by repeat (first | (with_reducible first | exact HB.out | apply below_alloc | apply pw_below_drewN | apply below_drew1) | exact HB.out)))); have n1_ := Aside0.mk (below_step (by repeat (first | (with_reducible first | exact HB.out | apply below_alloc | apply pw_below_drewN | apply below_drew1) | exact HB.out)) hb); clear HB; have HO313 := n0_; have HB := n1_; clear n0_ n1_; (try clear hb); (try clear hb2); (try clear hk); (try clear hi); (try clear ho0)))
  go_loopg [4, 5, 14] k (fun kq v4 v5 v14 w' => ∃ (x4_1 : List Int) (x5_1 : Bool) (x14_1 : Int), v5 = .bool x5_1 ∧ v14 = .int .i64 x14_1 ∧ Aside0 (impl_title.l0 kq t311 x4_1 x5_1 l0 (l0.length : Int) x14_1 = some r) ∧ Aside0 (kq ≤ k) ∧ Aside0 (Kd.R (Kd.int .i64) 2 w' w.heap.size (fun k_ => some k_ ≠ (v4 : Value).ownBlock) v312 t311) ∧ Aside0 (Kd.R (Kd.int .i64) 2 w' w.heap.size (fun k_ => some k_ ≠ (v312 : Value).ownBlock) v4 x4_1) ∧ Aside0 (Below w.heap.size w w'))
  case atStart => exact ⟨(([] : List Int)), (false), (0), (by first | rfl | (simp; done) | (simp [*]; done)), (by first | rfl | (simp; done) | (simp [*]; done)), H', ⟨Nat.le_refl _⟩, ⟨by (with_reducible repeat (first | apply Kd.R_alloc | apply Kd.R_drewN | apply Kd.R_drew)); exact Kd.R_mono HO313.out (fun _ hk => (by simp [Value.ownBlock]))⟩, ⟨by first | exact Kd.R_nil _ _ _ _ _ | exact Kd.N_nil _ _ _ _ _ | exact Kd.V_nil _ _ _ _ _ | exact Kd.Q_nil _ _ _ _ _ | exact Kd.S_nil _ _ _ _ _⟩, ⟨by repeat (first | (with_reducible first | exact HB.out | apply below_alloc | apply pw_below_drewN | apply below_drew1) | exact HB.out)⟩⟩
  case round =>
    clear H'
    try clear c1
    try clear c2
    try clear p2
    obtain ⟨x4_1, x5_1, x14_1, rfl, rfl, HA, HK1, HO_3, HO_4, HB⟩ := hrel
    cases gk with
    | zero => exact absurd HA.out (by simp [impl_title.l0])
    | succ k1 =>
      have H := HA.out
      clear HA
      simp only [impl_title.l0] at H
      by_cases c4 : x14_1 < (l0.length : Int)
      · rw [if_pos c4] at H
        have c4b0 : decide (x14_1 < (l0.length : Int)) = true := decide_eq_true c4
        clear c4
        by_cases c5 : 0 ≤ x14_1
        · rw [if_pos c5] at H
          have c5b0 : decide (0 ≤ x14_1) = true := decide_eq_true c5
          clear c5
          by_cases c6 : x14_1 < (l0.length : Int)
          · rw [if_pos c6] at H
            have c6b0 : decide (x14_1 < (l0.length : Int)) = true := decide_eq_true c6
            clear c6
            have HC7 := Aside0.mk H
            clear H
            have p314 : 0 ≤ (x14_1 : Int) := of_decide_eq_true (by first | (with_reducible assumption) | assumption)
            have q314 : x14_1 < (l0.length : Int) := of_decide_eq_true (by first | (with_reducible assumption) | assumption)
            obtain ⟨ad314, e314, hx314_0⟩ := Kd.at_int HR0.out x14_1 p314 q314
            cases e314
            replace hx314_0 := (HB.out.cell (World.block_lt_of_cell? w _ hx314_0)).trans hx314_0
            replace p314 := eq_true p314
            replace q314 := eq_true q314
            go_upto_region 7 with (fail)
            go_cut [35] (fun v35 wc => ∃ (kq : Nat) (x35_6 : Bool), v35 = .bool x35_6 ∧ Aside0 (impl_title.j1 kq t311 x4_1 x5_1 x14_1 (rd l0 x14_1) l0 (l0.length : Int) x14_1 x35_6 = some r) ∧ Aside0 (kq ≤ k1) ∧ Aside0 (Kd.R (Kd.int .i64) 2 wc w.heap.size (fun k_ => some k_ ≠ (u4 : Value).ownBlock) v312 t311) ∧ Aside0 (Kd.R (Kd.int .i64) 2 wc w.heap.size (fun k_ => some k_ ≠ (v312 : Value).ownBlock) u4 x4_1) ∧ Aside0 (Below w.heap.size w wc))
            case first =>
              have H := HC7.out
              clear HC7
              replace H := Option.bind_eq_some_iff.mp H
              obtain ⟨t315, A80, H⟩ := H
              replace H : (if t315 = true then (impl_title.j1 k1 t311 x4_1 x5_1 x14_1 (rd l0 x14_1) l0 (l0.length : Int) x14_1 false) else ((impl_isLetter.f (rd l0 x14_1)).bind fun t316 => (if t316 = true then (impl_title.j1 k1 t311 x4_1 x5_1 x14_1 (rd l0 x14_1) l0 (l0.length : Int) x14_1 false) else ((impl_isDigit.f (rd l0 x14_1)).bind fun t317 => (if t317 = true then (impl_title.j1 k1 t311 x4_1 x5_1 x14_1 (rd l0 x14_1) l0 (l0.length : Int) x14_1 false) else (impl_title.j1 k1 t311 x4_1 x5_1 x14_1 (rd l0 x14_1) l0 (l0.length : Int) x14_1 ((rd l0 x14_1) != 39))))))) = some r := H
              have A8 := Aside0.mk A80
              clear A80
              by_cases c9 : t315 = true
              · subst c9
                have H1 : (impl_title.j1 k1 t311 x4_1 x5_1 x14_1 (rd l0 x14_1) l0 (l0.length : Int) x14_1 false) = some r := by rw [if_pos rfl] at H; exact H
                clear H
                have H := H1
                clear H1
                have H' := Aside0.mk H
                clear H
                go_wp2_with (first | ((with_reducible refine gate_callee (f := 115) rfl ?_); refine goesL_ (some 20) rfl rfl Tryd.func115 (by kernel_rfl) rfl #[.int .i64 (rd l0 x14_1)] rfl (by (try simp only [List.map_toArray, List.map_cons, List.map_nil]); first | done | rfl | (simp only [List.length_drop, List.length_take]; rfl)) ?_; (with_reducible refine (impl_isMark.calls (rd l0 x14_1) true _ A8.out).mono ?_); rintro e w' ⟨rfl, ⟨nd, rfl⟩⟩; refine ⟨_, rfl, ?_⟩))
                go_meet
                case rel => exact ⟨_, (false), (by first | rfl | (simp; done) | (simp [*]; done)), H', ⟨by have := HK1.out; first | omega | exact Nat.le_refl _⟩, ⟨by (with_reducible repeat (first | apply Kd.R_alloc | apply Kd.R_drewN | apply Kd.R_drew)); exact HO_3.out⟩, ⟨by (with_reducible repeat (first | apply Kd.R_alloc | apply Kd.R_drewN | apply Kd.R_drew)); exact HO_4.out⟩, ⟨by repeat (first | (with_reducible first | exact HB.out | apply below_alloc | apply pw_below_drewN | apply below_drew1) | exact HB.out)⟩⟩
              · replace c9 := Bool.eq_false_iff.mpr c9
                subst c9
                have H1 : ((impl_isLetter.f (rd l0 x14_1)).bind fun t316 => (if t316 = true then (impl_title.j1 k1 t311 x4_1 x5_1 x14_1 (rd l0 x14_1) l0 (l0.length : Int) x14_1 false) else ((impl_isDigit.f (rd l0 x14_1)).bind fun t317 => (if t317 = true then (impl_title.j1 k1 t311 x4_1 x5_1 x14_1 (rd l0 x14_1) l0 (l0.length : Int) x14_1 false) else (impl_title.j1 k1 t311 x4_1 x5_1 x14_1 (rd l0 x14_1) l0 (l0.length : Int) x14_1 ((rd l0 x14_1) != 39)))))) = some r := by rw [if_neg (show ¬ (false = true) by decide)] at H; exact H
                clear H
                have H := H1
                clear H1
                replace H := Option.bind_eq_some_iff.mp H
                obtain ⟨t316, A100, H⟩ := H
                replace H : (if t316 = true then (impl_title.j1 k1 t311 x4_1 x5_1 x14_1 (rd l0 x14_1) l0 (l0.length : Int) x14_1 false) else ((impl_isDigit.f (rd l0 x14_1)).bind fun t317 => (if t317 = true then (impl_title.j1 k1 t311 x4_1 x5_1 x14_1 (rd l0 x14_1) l0 (l0.length : Int) x14_1 false) else (impl_title.j1 k1 t311 x4_1 x5_1 x14_1 (rd l0 x14_1) l0 (l0.length : Int) x14_1 ((rd l0 x14_1) != 39))))) = some r := H
                have A10 := Aside0.mk A100
                clear A100
                by_cases c11 : t316 = true
                · subst c11
                  have H1 : (impl_title.j1 k1 t311 x4_1 x5_1 x14_1 (rd l0 x14_1) l0 (l0.length : Int) x14_1 false) = some r := by rw [if_pos rfl] at H; exact H
                  clear H
                  have H := H1
                  clear H1
                  have H' := Aside0.mk H
                  clear H
                  go_wp2_with (first | ((with_reducible refine gate_callee (f := 115) rfl ?_); refine goesL_ (some 20) rfl rfl Tryd.func115 (by kernel_rfl) rfl #[.int .i64 (rd l0 x14_1)] rfl (by (try simp only [List.map_toArray, List.map_cons, List.map_nil]); first | done | rfl | (simp only [List.length_drop, List.length_take]; rfl)) ?_; (with_reducible refine (impl_isMark.calls (rd l0 x14_1) false _ A8.out).mono ?_); rintro e w' ⟨rfl, ⟨nd, rfl⟩⟩; refine ⟨_, rfl, ?_⟩) | (go_at_call 204; (with_reducible refine (impl_isLetter.calls (rd l0 x14_1) true _ A10.out).mono ?_); rintro e w' ⟨rfl, ⟨nd, rfl⟩⟩))
                  go_meet
                  case rel => exact ⟨_, (false), (by first | rfl | (simp; done) | (simp [*]; done)), H', ⟨by have := HK1.out; first | omega | exact Nat.le_refl _⟩, ⟨by (with_reducible repeat (first | apply Kd.R_alloc | apply Kd.R_drewN | apply Kd.R_drew)); exact HO_3.out⟩, ⟨by (with_reducible repeat (first | apply Kd.R_alloc | apply Kd.R_drewN | apply Kd.R_drew)); exact HO_4.out⟩, ⟨by repeat (first | (with_reducible first | exact HB.out | apply below_alloc | apply pw_below_drewN | apply below_drew1) | exact HB.out)⟩⟩
                · replace c11 := Bool.eq_false_iff.mpr c11
                  subst c11
                  have H1 : ((impl_isDigit.f (rd l0 x14_1)).bind fun t317 => (if t317 = true then (impl_title.j1 k1 t311 x4_1 x5_1 x14_1 (rd l0 x14_1) l0 (l0.length : Int) x14_1 false) else (impl_title.j1 k1 t311 x4_1 x5_1 x14_1 (rd l0 x14_1) l0 (l0.length : Int) x14_1 ((rd l0 x14_1) != 39)))) = some r := by rw [if_neg (show ¬ (false = true) by decide)] at H; exact H
                  clear H
                  have H := H1
                  clear H1
                  replace H := Option.bind_eq_some_iff.mp H
                  obtain ⟨t317, A120, H⟩ := H
                  replace H : (if t317 = true then (impl_title.j1 k1 t311 x4_1 x5_1 x14_1 (rd l0 x14_1) l0 (l0.length : Int) x14_1 false) else (impl_title.j1 k1 t311 x4_1 x5_1 x14_1 (rd l0 x14_1) l0 (l0.length : Int) x14_1 ((rd l0 x14_1) != 39))) = some r := H
                  have A12 := Aside0.mk A120
                  clear A120
                  by_cases c13 : t317 = true
                  · subst c13
                    have H1 : (impl_title.j1 k1 t311 x4_1 x5_1 x14_1 (rd l0 x14_1) l0 (l0.length : Int) x14_1 false) = some r := by rw [if_pos rfl] at H; exact H
                    clear H
                    have H := H1
                    clear H1
                    have H' := Aside0.mk H
                    clear H
                    go_wp2_with (first | ((with_reducible refine gate_callee (f := 115) rfl ?_); refine goesL_ (some 20) rfl rfl Tryd.func115 (by kernel_rfl) rfl #[.int .i64 (rd l0 x14_1)] rfl (by (try simp only [List.map_toArray, List.map_cons, List.map_nil]); first | done | rfl | (simp only [List.length_drop, List.length_take]; rfl)) ?_; (with_reducible refine (impl_isMark.calls (rd l0 x14_1) false _ A8.out).mono ?_); rintro e w' ⟨rfl, ⟨nd, rfl⟩⟩; refine ⟨_, rfl, ?_⟩) | (go_at_call 204; (with_reducible refine (impl_isLetter.calls (rd l0 x14_1) false _ A10.out).mono ?_); rintro e w' ⟨rfl, ⟨nd, rfl⟩⟩) | (go_at_call 205; (with_reducible refine (impl_isDigit.calls (rd l0 x14_1) true _ A12.out).mono ?_); rintro e w' ⟨rfl, ⟨nd, rfl⟩⟩))
                    go_meet
                    case rel => exact ⟨_, (false), (by first | rfl | (simp; done) | (simp [*]; done)), H', ⟨by have := HK1.out; first | omega | exact Nat.le_refl _⟩, ⟨by (with_reducible repeat (first | apply Kd.R_alloc | apply Kd.R_drewN | apply Kd.R_drew)); exact HO_3.out⟩, ⟨by (with_reducible repeat (first | apply Kd.R_alloc | apply Kd.R_drewN | apply Kd.R_drew)); exact HO_4.out⟩, ⟨by repeat (first | (with_reducible first | exact HB.out | apply below_alloc | apply pw_below_drewN | apply below_drew1) | exact HB.out)⟩⟩
                  · replace c13 := Bool.eq_false_iff.mpr c13
                    subst c13
                    have H1 : (impl_title.j1 k1 t311 x4_1 x5_1 x14_1 (rd l0 x14_1) l0 (l0.length : Int) x14_1 ((rd l0 x14_1) != 39)) = some r := by rw [if_neg (show ¬ (false = true) by decide)] at H; exact H
                    clear H
                    have H := H1
                    clear H1
                    have H' := Aside0.mk H
                    clear H
                    go_wp2_with (first | ((with_reducible refine gate_callee (f := 115) rfl ?_); refine goesL_ (some 20) rfl rfl Tryd.func115 (by kernel_rfl) rfl #[.int .i64 (rd l0 x14_1)] rfl (by (try simp only [List.map_toArray, List.map_cons, List.map_nil]); first | done | rfl | (simp only [List.length_drop, List.length_take]; rfl)) ?_; (with_reducible refine (impl_isMark.calls (rd l0 x14_1) false _ A8.out).mono ?_); rintro e w' ⟨rfl, ⟨nd, rfl⟩⟩; refine ⟨_, rfl, ?_⟩) | (go_at_call 204; (with_reducible refine (impl_isLetter.calls (rd l0 x14_1) false _ A10.out).mono ?_); rintro e w' ⟨rfl, ⟨nd, rfl⟩⟩) | (go_at_call 205; (with_reducible refine (impl_isDigit.calls (rd l0 x14_1) false _ A12.out).mono ?_); rintro e w' ⟨rfl, ⟨nd, rfl⟩⟩))
                    go_meet
                    case rel => exact ⟨_, (((rd l0 x14_1) != 39)), (by first | rfl | (simp; done) | (simp [*]; done)), H', ⟨by have := HK1.out; first | omega | exact Nat.le_refl _⟩, ⟨by (with_reducible repeat (first | apply Kd.R_alloc | apply Kd.R_drewN | apply Kd.R_drew)); exact HO_3.out⟩, ⟨by (with_reducible repeat (first | apply Kd.R_alloc | apply Kd.R_drewN | apply Kd.R_drew)); exact HO_4.out⟩, ⟨by repeat (first | (with_reducible first | exact HB.out | apply below_alloc | apply pw_below_drewN | apply below_drew1) | exact HB.out)⟩⟩
            case rest =>
              clear HC7
              try clear c1
              try clear c2
              try clear p2
              try clear p3
              try clear q3
              try clear hx3
              try clear c4
              try clear c4b0
              try clear c5
              try clear c5b0
              try clear c6
              try clear c6b0
              try clear c9
              try clear c11
              try clear c13
              try clear hx314_0
              try clear p2
              try clear p314
              try clear q314
              obtain ⟨kq, x35_6, rfl, HA, HJ6, HO_3, HO_4, HB⟩ := hcut
              cases kq with
              | zero => exact absurd HA.out (by simp [impl_title.j1])
              | succ kj6 =>
                have H := HA.out
                clear HA
                simp only [impl_title.j1] at H
                by_cases c14 : x35_6 = true
                · subst c14
                  have H1 : (if x4_1.length < 17592186044416 then (impl_title.l0 kj6 t311 (x4_1 ++ [(rd l0 x14_1)]) false l0 (l0.length : Int) (wrap64 (x14_1 + 1))) else (none)) = some r := by rw [if_pos rfl] at H; exact H
                  clear H
                  have H := H1
                  clear H1
                  by_cases c15 : x4_1.length < 17592186044416
                  · rw [if_pos c15] at H
                    have LMc15 := Aside0.mk c15
                    clear c15
                    obtain ⟨y318, hy318⟩ : ∃ y_ : List Int, y_ = (x4_1 ++ [(rd l0 x14_1)]) := ⟨_, rfl⟩
                    replace H : (impl_title.l0 kj6 t311 y318 false l0 (l0.length : Int) (wrap64 (x14_1 + 1))) = some r := by first | (rw [hy318]; with_reducible exact H) | (have H2_ := (Option.bind_some _ _).symm.trans H; rw [hy318]; with_reducible exact H2_) | (have H2_ := (Option.bind_some _ _).symm.trans H; with_reducible exact H2_) | with_reducible exact H | (rw [hy318]; exact H) | exact H
                    have Ny318 := Aside0.mk hy318
                    clear hy318
                    have H' := Aside0.mk H
                    clear H
                    go_wp2_with (first | ((with_reducible refine gate_builtin (b := .append) (xs := #[.tmp 36, .tmp 38]) rfl ?_); at_builtin; refine Kd.R_append (Kd.int .i64) (w0 := w) w.heap.size rfl (.tmp 36) (.tmp 38) 25 2 (.int .i64 0) 8 rfl Tryd.underlying25 info2 rfl (by decide) (by omega) u4 x4_1 (rd l0 x14_1) [.int .i64 (rd l0 x14_1)] (fun k_ => some k_ ≠ (v312 : Value).ownBlock) (fun _ => False) rfl rfl ?aP (fun _ hk => hk.elim) ?aF ?aO ?aB ?aS ?aL ?_; (case aP => exact rfl); (case aB => exact (by repeat (first | (with_reducible first | exact HB.out | apply below_alloc | apply pw_below_drewN | apply below_drew1) | exact HB.out))); (case aF => exact (fun k_ hk => Kd.fresh' (Kd.R_lt (by (with_reducible repeat (first | apply Kd.R_alloc | apply Kd.R_drewN | apply Kd.R_drew)); exact HO_3.out)) k_ hk)); (case aO => exact (by (with_reducible repeat (first | apply Kd.R_alloc | apply Kd.R_drewN | apply Kd.R_drew)); exact HO_4.out)); (case aS => exact (below_size (by repeat (first | (with_reducible first | exact HB.out | apply below_alloc | apply pw_below_drewN | apply below_drew1) | exact HB.out)))); (case aL => have := LMc15.out; omega); intro v319 w16 ho hb hg hat; rw [← Ny318.out] at ho; have n0_ := Aside0.mk (Kd.R_after (ok := (fun _ => True)) (by (with_reducible repeat (first | apply Kd.R_alloc | apply Kd.R_drewN | apply Kd.R_drew)); exact Kd.R_mono HO_3.out (fun _ hk => ⟨trivial, hk⟩)) hg hat); have n1_ := Aside0.mk (hb); have n2_ := Aside0.mk (ho); clear HO_3; clear HB; clear HO_4; have HO_3 := n0_; have HB := n1_; have HO320 := n2_; clear n0_ n1_ n2_; clear ho hb hg hat))
                    go_roundg kj6
                    case measure => have := HK1.out; have := HJ6.out; omega
                    case rel => exact ⟨(y318), (false), (wrap64 (x14_1 + 1)), (by first | rfl | (simp; done) | (simp [*]; done)), (by first | rfl | (simp; done) | (simp [*]; done)), H', ⟨by have := HK1.out; have := HJ6.out; omega⟩, ⟨by (with_reducible repeat (first | apply Kd.R_alloc | apply Kd.R_drewN | apply Kd.R_drew)); exact Kd.R_mono HO_3.out (fun _ hk => hk.2)⟩, ⟨by (with_reducible repeat (first | apply Kd.R_alloc | apply Kd.R_drewN | apply Kd.R_drew)); exact HO320.out⟩, ⟨by repeat (first | (with_reducible first | exact HB.out | apply below_alloc | apply pw_below_drewN | apply below_drew1) | exact HB.out)⟩⟩
                  · rw [if_neg c15] at H
                    exact absurd H (by simp)
                · replace c14 := Bool.eq_false_iff.mpr c14
                  subst c14
                  have H1 : (if x5_1 = true then (if 0 ≤ x14_1 then (if x14_1 < (t311.length : Int) then (if x4_1.length < 17592186044416 then (impl_title.l0 kj6 t311 (x4_1 ++ [rd t311 x14_1]) x5_1 l0 (l0.length : Int) (wrap64 (x14_1 + 1))) else (none)) else (none)) else (none)) else ((impl_isCased.f (rd l0 x14_1)).bind fun t325 => (if t325 = true then ((impl_within.f (rd l0 x14_1) 96).bind fun t326 => (if t326 = true then ((impl_block.f (rd l0 x14_1)).bind fun bt327 => ((some (([wrap64 (bt327.1 + 18), wrap64 (bt327.1 + 50)] : List Int) : List Int)).bind fun y329 => (if x4_1.length + y329.length < 17592186044416 then (impl_title.l0 kj6 t311 (x4_1 ++ y329) true l0 (l0.length : Int) (wrap64 (x14_1 + 1))) else (none)))) else ((impl_SimpleTitle.f (rd l0 x14_1)).bind fun t335 => (if x4_1.length < 17592186044416 then (impl_title.l0 kj6 t311 (x4_1 ++ [t335]) true l0 (l0.length : Int) (wrap64 (x14_1 + 1))) else (none))))) else (if x4_1.length < 17592186044416 then (impl_title.l0 kj6 t311 (x4_1 ++ [(rd l0 x14_1)]) x5_1 l0 (l0.length : Int) (wrap64 (x14_1 + 1))) else (none))))) = some r := by rw [if_neg (show ¬ (false = true) by decide)] at H; exact H
                  clear H
                  have H := H1
                  clear H1
                  by_cases c17 : x5_1 = true
                  · subst c17
                    have H1 : (if 0 ≤ x14_1 then (if x14_1 < (t311.length : Int) then (if x4_1.length < 17592186044416 then (impl_title.l0 kj6 t311 (x4_1 ++ [rd t311 x14_1]) true l0 (l0.length : Int) (wrap64 (x14_1 + 1))) else (none)) else (none)) else (none)) = some r := by rw [if_pos rfl] at H; exact H
                    clear H
                    have H := H1
                    clear H1
                    by_cases c18 : 0 ≤ x14_1
                    · rw [if_pos c18] at H
                      have c18b0 : decide (0 ≤ x14_1) = true := decide_eq_true c18
                      clear c18
                      by_cases c19 : x14_1 < (t311.length : Int)
                      · rw [if_pos c19] at H
                        have c19b0 : decide (x14_1 < (t311.length : Int)) = true := decide_eq_true c19
                        clear c19
                        by_cases c20 : x4_1.length < 17592186044416
                        · rw [if_pos c20] at H
                          have LMc20 := Aside0.mk c20
                          clear c20
                          obtain ⟨y322, hy322⟩ : ∃ y_ : List Int, y_ = (x4_1 ++ [rd t311 x14_1]) := ⟨_, rfl⟩
                          replace H : (impl_title.l0 kj6 t311 y322 true l0 (l0.length : Int) (wrap64 (x14_1 + 1))) = some r := by first | (rw [hy322]; with_reducible exact H) | (have H2_ := (Option.bind_some _ _).symm.trans H; rw [hy322]; with_reducible exact H2_) | (have H2_ := (Option.bind_some _ _).symm.trans H; with_reducible exact H2_) | with_reducible exact H | (rw [hy322]; exact H) | exact H
                          have Ny322 := Aside0.mk hy322
                          clear hy322
                          have H' := Aside0.mk H
                          clear H
                          obtain ⟨Ao21, co21, eo21⟩ := Kd.R_slice HO_3.out
                          subst eo21
                          have p321 : 0 ≤ (x14_1 : Int) := of_decide_eq_true (by first | (with_reducible assumption) | assumption)
                          have q321 : x14_1 < (t311.length : Int) := of_decide_eq_true (by first | (with_reducible assumption) | assumption)
                          obtain ⟨ad321, e321, hx321_0⟩ := Kd.at_int (Kd.R_reads' HO_3.out).2.2 x14_1 p321 q321
                          cases e321
                          replace p321 := eq_true p321
                          replace q321 := eq_true q321
                          go_wp2_with (first | ((with_reducible refine gate_builtin (b := .append) (xs := #[.tmp 47, .tmp 52]) rfl ?_); at_builtin; refine Kd.R_append (Kd.int .i64) (w0 := w) w.heap.size rfl (.tmp 47) (.tmp 52) 25 2 (.int .i64 0) 8 rfl Tryd.underlying25 info2 rfl (by decide) (by omega) u4 x4_1 (rd t311 x14_1) [.int .i64 (rd t311 x14_1)] (fun k_ => some k_ ≠ (.slice (some ad321) t311.length co21 : Value).ownBlock) (fun _ => False) rfl rfl ?aP (fun _ hk => hk.elim) ?aF ?aO ?aB ?aS ?aL ?_; (case aP => exact rfl); (case aB => exact (by repeat (first | (with_reducible first | exact HB.out | apply below_alloc | apply pw_below_drewN | apply below_drew1) | exact HB.out))); (case aF => exact (fun k_ hk => Kd.fresh' (Kd.R_lt (by (with_reducible repeat (first | apply Kd.R_alloc | apply Kd.R_drewN | apply Kd.R_drew)); exact HO_3.out)) k_ hk)); (case aO => exact (by (with_reducible repeat (first | apply Kd.R_alloc | apply Kd.R_drewN | apply Kd.R_drew)); exact HO_4.out)); (case aS => exact (below_size (by repeat (first | (with_reducible first | exact HB.out | apply below_alloc | apply pw_below_drewN | apply below_drew1) | exact HB.out)))); (case aL => have := LMc20.out; omega); intro v323 w22 ho hb hg hat; rw [← Ny322.out] at ho; have n0_ := Aside0.mk (Kd.R_after (ok := (fun _ => True)) (by (with_reducible repeat (first | apply Kd.R_alloc | apply Kd.R_drewN | apply Kd.R_drew)); exact Kd.R_mono HO_3.out (fun _ hk => ⟨trivial, hk⟩)) hg hat); have n1_ := Aside0.mk (hb); have n2_ := Aside0.mk (ho); clear HO_3; clear HB; clear HO_4; have HO_3 := n0_; have HB := n1_; have HO324 := n2_; clear n0_ n1_ n2_; clear ho hb hg hat))
                          go_roundg kj6
                          case measure => have := HK1.out; have := HJ6.out; omega
                          case rel => exact ⟨(y322), (true), (wrap64 (x14_1 + 1)), (by first | rfl | (simp; done) | (simp [*]; done)), (by first | rfl | (simp; done) | (simp [*]; done)), H', ⟨by have := HK1.out; have := HJ6.out; omega⟩, ⟨by (with_reducible repeat (first | apply Kd.R_alloc | apply Kd.R_drewN | apply Kd.R_drew)); exact Kd.R_mono HO_3.out (fun _ hk => hk.2)⟩, ⟨by (with_reducible repeat (first | apply Kd.R_alloc | apply Kd.R_drewN | apply Kd.R_drew)); exact HO324.out⟩, ⟨by repeat (first | (with_reducible first | exact HB.out | apply below_alloc | apply pw_below_drewN | apply below_drew1) | exact HB.out)⟩⟩
                        · rw [if_neg c20] at H
                          exact absurd H (by simp)
                      · rw [if_neg c19] at H
                        exact absurd H (by simp)
                    · rw [if_neg c18] at H
                      exact absurd H (by simp)
                  · replace c17 := Bool.eq_false_iff.mpr c17
                    subst c17
                    have H1 : ((impl_isCased.f (rd l0 x14_1)).bind fun t325 => (if t325 = true then ((impl_within.f (rd l0 x14_1) 96).bind fun t326 => (if t326 = true then ((impl_block.f (rd l0 x14_1)).bind fun bt327 => ((some (([wrap64 (bt327.1 + 18), wrap64 (bt327.1 + 50)] : List Int) : List Int)).bind fun y329 => (if x4_1.length + y329.length < 17592186044416 then (impl_title.l0 kj6 t311 (x4_1 ++ y329) true l0 (l0.length : Int) (wrap64 (x14_1 + 1))) else (none)))) else ((impl_SimpleTitle.f (rd l0 x14_1)).bind fun t335 => (if x4_1.length < 17592186044416 then (impl_title.l0 kj6 t311 (x4_1 ++ [t335]) true l0 (l0.length : Int) (wrap64 (x14_1 + 1))) else (none))))) else (if x4_1.length < 17592186044416 then (impl_title.l0 kj6 t311 (x4_1 ++ [(rd l0 x14_1)]) false l0 (l0.length : Int) (wrap64 (x14_1 + 1))) else (none)))) = some r := by rw [if_neg (show ¬ (false = true) by decide)] at H; exact H
                    clear H
                    have H := H1
                    clear H1
                    replace H := Option.bind_eq_some_iff.mp H
                    obtain ⟨t325, A230, H⟩ := H
                    replace H : (if t325 = true then ((impl_within.f (rd l0 x14_1) 96).bind fun t326 => (if t326 = true then ((impl_block.f (rd l0 x14_1)).bind fun bt327 => ((some (([wrap64 (bt327.1 + 18), wrap64 (bt327.1 + 50)] : List Int) : List Int)).bind fun y329 => (if x4_1.length + y329.length < 17592186044416 then (impl_title.l0 kj6 t311 (x4_1 ++ y329) true l0 (l0.length : Int) (wrap64 (x14_1 + 1))) else (none)))) else ((impl_SimpleTitle.f (rd l0 x14_1)).bind fun t335 => (if x4_1.length < 17592186044416 then (impl_title.l0 kj6 t311 (x4_1 ++ [t335]) true l0 (l0.length : Int) (wrap64 (x14_1 + 1))) else (none))))) else (if x4_1.length < 17592186044416 then (impl_title.l0 kj6 t311 (x4_1 ++ [(rd l0 x14_1)]) false l0 (l0.length : Int) (wrap64 (x14_1 + 1))) else (none))) = some r := H
                    have A23 := Aside0.mk A230
                    clear A230
                    by_cases c24 : t325 = true
                    · subst c24
                      have H1 : ((impl_within.f (rd l0 x14_1) 96).bind fun t326 => (if t326 = true then ((impl_block.f (rd l0 x14_1)).bind fun bt327 => ((some (([wrap64 (bt327.1 + 18), wrap64 (bt327.1 + 50)] : List Int) : List Int)).bind fun y329 => (if x4_1.length + y329.length < 17592186044416 then (impl_title.l0 kj6 t311 (x4_1 ++ y329) true l0 (l0.length : Int) (wrap64 (x14_1 + 1))) else (none)))) else ((impl_SimpleTitle.f (rd l0 x14_1)).bind fun t335 => (if x4_1.length < 17592186044416 then (impl_title.l0 kj6 t311 (x4_1 ++ [t335]) true l0 (l0.length : Int) (wrap64 (x14_1 + 1))) else (none))))) = some r := by rw [if_pos rfl] at H; exact H
                      clear H
                      have H := H1
                      clear H1
                      replace H := Option.bind_eq_some_iff.mp H
                      obtain ⟨t326, A250, H⟩ := H
                      replace H : (if t326 = true then ((impl_block.f (rd l0 x14_1)).bind fun bt327 => ((some (([wrap64 (bt327.1 + 18), wrap64 (bt327.1 + 50)] : List Int) : List Int)).bind fun y329 => (if x4_1.length + y329.length < 17592186044416 then (impl_title.l0 kj6 t311 (x4_1 ++ y329) true l0 (l0.length : Int) (wrap64 (x14_1 + 1))) else (none)))) else ((impl_SimpleTitle.f (rd l0 x14_1)).bind fun t335 => (if x4_1.length < 17592186044416 then (impl_title.l0 kj6 t311 (x4_1 ++ [t335]) true l0 (l0.length : Int) (wrap64 (x14_1 + 1))) else (none)))) = some r := H
                      have A25 := Aside0.mk A250
                      clear A250
                      by_cases c26 : t326 = true
                      · subst c26
                        have H1 : ((impl_block.f (rd l0 x14_1)).bind fun bt327 => ((some (([wrap64 (bt327.1 + 18), wrap64 (bt327.1 + 50)] : List Int) : List Int)).bind fun y329 => (if x4_1.length + y329.length < 17592186044416 then (impl_title.l0 kj6 t311 (x4_1 ++ y329) true l0 (l0.length : Int) (wrap64 (x14_1 + 1))) else (none)))) = some r := by rw [if_pos rfl] at H; exact H
                        clear H
                        have H := H1
                        clear H1
                        replace H := Option.bind_eq_some_iff.mp H
                        obtain ⟨⟨t327, t328⟩, A270, H⟩ := H
                        replace H : ((some (([wrap64 (t327 + 18), wrap64 (t327 + 50)] : List Int) : List Int)).bind fun y329 => (if x4_1.length + y329.length < 17592186044416 then (impl_title.l0 kj6 t311 (x4_1 ++ y329) true l0 (l0.length : Int) (wrap64 (x14_1 + 1))) else (none))) = some r := H
                        have A27 := Aside0.mk A270
                        clear A270
                        obtain ⟨y329, hy329⟩ : ∃ y_ : List Int, y_ = (([wrap64 (t327 + 18), wrap64 (t327 + 50)] : List Int)) := ⟨_, rfl⟩
                        replace H : (if x4_1.length + y329.length < 17592186044416 then (impl_title.l0 kj6 t311 (x4_1 ++ y329) true l0 (l0.length : Int) (wrap64 (x14_1 + 1))) else (none)) = some r := by first | (rw [hy329]; with_reducible exact H) | (have H2_ := (Option.bind_some _ _).symm.trans H; rw [hy329]; with_reducible exact H2_) | (have H2_ := (Option.bind_some _ _).symm.trans H; with_reducible exact H2_) | with_reducible exact H | (rw [hy329]; exact H) | exact H
                        have Ny329 := Aside0.mk hy329
                        clear hy329
                        by_cases c28 : x4_1.length + y329.length < 17592186044416
                        · rw [if_pos c28] at H
                          have LMc28 := Aside0.mk c28
                          clear c28
                          obtain ⟨y332, hy332⟩ : ∃ y_ : List Int, y_ = (x4_1 ++ y329) := ⟨_, rfl⟩
                          replace H : (impl_title.l0 kj6 t311 y332 true l0 (l0.length : Int) (wrap64 (x14_1 + 1))) = some r := by first | (rw [hy332]; with_reducible exact H) | (have H2_ := (Option.bind_some _ _).symm.trans H; rw [hy332]; with_reducible exact H2_) | (have H2_ := (Option.bind_some _ _).symm.trans H; with_reducible exact H2_) | with_reducible exact H | (rw [hy332]; exact H) | exact H
                          have Ny332 := Aside0.mk hy332
                          clear hy332
                          have H' := Aside0.mk H
                          clear H
                          go_wp2_with (first | ((with_reducible refine gate_callee (f := 206) rfl ?_); refine goesL_ (some 56) rfl rfl Tryd.func206 (by kernel_rfl) rfl #[.int .i64 (rd l0 x14_1)] rfl (by (try simp only [List.map_toArray, List.map_cons, List.map_nil]); first | done | rfl | (simp only [List.length_drop, List.length_take]; rfl)) ?_; (with_reducible refine (impl_isCased.calls (rd l0 x14_1) true _ A23.out).mono ?_); rintro e w' ⟨rfl, ⟨nd, rfl⟩⟩; refine ⟨_, rfl, ?_⟩) | ((with_reducible refine gate_callee (f := 207) rfl ?_); refine goesL_ (some 64) rfl rfl Tryd.func207 (by kernel_rfl) rfl #[.int .i64 (rd l0 x14_1), .int .i64 96] rfl (by (try simp only [List.map_toArray, List.map_cons, List.map_nil]); first | done | rfl | (simp only [List.length_drop, List.length_take]; rfl)) ?_; (with_reducible refine (impl_within.calls (rd l0 x14_1) 96 true _ A25.out).mono ?_); rintro e w' ⟨rfl, ⟨nd, rfl⟩⟩; refine ⟨_, rfl, ?_⟩) | ((with_reducible refine gate_callee (f := 155) rfl ?_); refine goesL_ (some 67) rfl rfl Tryd.func155 (by kernel_rfl) rfl #[.int .i64 (rd l0 x14_1)] rfl (by (try simp only [List.map_toArray, List.map_cons, List.map_nil]); first | done | rfl | (simp only [List.length_drop, List.length_take]; rfl)) ?_; (with_reducible refine (impl_block.calls (rd l0 x14_1) t327 t328 _ A27.out).mono ?_); rintro e w' ⟨rfl, ⟨nd, rfl⟩⟩; refine ⟨_, rfl, ?_⟩) | ((with_reducible refine gate_dst (N := 75) rfl ?_); refine Kd.R_lit (Kd.int .i64) _ 2 ?hg (N := 75) ?hd (xs := ([wrap64 (t327 + 18), wrap64 (t327 + 50)] : List Int)) (inner := [.int .i64 (wrap64 (t327 + 18)), .int .i64 (wrap64 (t327 + 50))]) (ok := fun _ => True) (okp := fun _ => True) ?hr ?hp (fun _ hk => hk) trivial (Below.refl _ _) (Nat.le_refl _) (by simp) ?_; (case hd => rfl); (case hg => rfl); (case hr => first | (go_simp; done) | (go_simp; rfl)); (case hp => exact (Reps.one (show Kd.M (Kd.int .i64) _ _ _ (wrap64 (t327 + 18)) [.int .i64 (wrap64 (t327 + 18))] from rfl) (Reps.one (show Kd.M (Kd.int .i64) _ _ _ (wrap64 (t327 + 50)) [.int .i64 (wrap64 (t327 + 50))] from rfl) (Reps.none _ _)))); intro v330 w29 ho30 hb hg_ hnew_; clear hg_ hnew_; (first | rw [← Ny329.out] at ho30 | (simp only [Int.reduceToNat] at ho30; rw [← Ny329.out] at ho30)); have n0_ := Aside0.mk (Kd.R_elder' (by (with_reducible repeat (first | apply Kd.R_alloc | apply Kd.R_drewN | apply Kd.R_drew)); exact HO_3.out) (Kd.R_base ho30) hb); have n1_ := Aside0.mk (Kd.R_elder' (by (with_reducible repeat (first | apply Kd.R_alloc | apply Kd.R_drewN | apply Kd.R_drew)); exact HO_4.out) (Kd.R_base ho30) hb); have n2_ := Aside0.mk (Kd.R_lower (Kd.R_new' (Kd.R_new' ho30 (Kd.R_lt (by (with_reducible repeat (first | apply Kd.R_alloc | apply Kd.R_drewN | apply Kd.R_drew)); exact HO_3.out))) (Kd.R_lt (by (with_reducible repeat (first | apply Kd.R_alloc | apply Kd.R_drewN | apply Kd.R_drew)); exact HO_4.out))) (below_size (by repeat (first | (with_reducible first | exact HB.out | apply below_alloc | apply pw_below_drewN | apply below_drew1) | exact HB.out)))); have n3_ := Aside0.mk (below_step (by repeat (first | (with_reducible first | exact HB.out | apply below_alloc | apply pw_below_drewN | apply below_drew1) | exact HB.out)) hb); clear HO_3; clear HO_4; clear HB; have HO_3 := n0_; have HO_4 := n1_; have HO331 := n2_; have HB := n3_; clear n0_ n1_ n2_ n3_; clear hb ho30; obtain ⟨Ao32, co32, eo32⟩ := Kd.R_slice HO331.out; subst eo32) | ((with_reducible refine gate_builtin (b := .append) (xs := #[.tmp 70, .tmp 75]) rfl ?_); at_builtin; refine Kd.R_append_rows (Kd.int .i64) (w0 := w) w.heap.size rfl (.tmp 70) (.tmp 75) 25 2 (.int .i64 0) 8 rfl Tryd.underlying25 info2 rfl (by decide) (by omega) u4 x4_1 y329 _ _ _ (fun k_ => some k_ ≠ (v312 : Value).ownBlock ∧ some k_ ≠ (.slice Ao32 y329.length co32 : Value).ownBlock) (fun _ => False) rfl rfl ?aO ?aR (fun _ _ h => h) (fun _ h => h.elim) ?aF ?aB ?aS ?aL ?_; (case aR => repeat (first | exact (Kd.R_reads' HO331.out).2.2 | (with_reducible refine Kd.C_alloc ?_ _) | (with_reducible refine Kd.C_drewN ?_ _) | (with_reducible refine Kd.C_drew ?_))); (case aB => exact (by repeat (first | (with_reducible first | exact HB.out | apply below_alloc | apply pw_below_drewN | apply below_drew1) | exact HB.out))); (case aF => exact (fun k_ hk => ⟨Kd.fresh' (Kd.R_lt (by (with_reducible repeat (first | apply Kd.R_alloc | apply Kd.R_drewN | apply Kd.R_drew)); exact HO_3.out)) k_ hk, Kd.fresh' (Kd.R_lt (by (with_reducible repeat (first | apply Kd.R_alloc | apply Kd.R_drewN | apply Kd.R_drew)); exact HO331.out)) k_ hk⟩)); (case aO => exact (by (with_reducible repeat (first | apply Kd.R_alloc | apply Kd.R_drewN | apply Kd.R_drew)); exact HO_4.out)); (case aS => exact (below_size (by repeat (first | (with_reducible first | exact HB.out | apply below_alloc | apply pw_below_drewN | apply below_drew1) | exact HB.out)))); (case aL => have := LMc28.out; omega); intro v333 w31 ho hb hg hat; rw [← Ny332.out] at ho; have n0_ := Aside0.mk (Kd.R_after (ok := (fun k_ => some k_ ≠ (.slice Ao32 y329.length co32 : Value).ownBlock)) (by (with_reducible repeat (first | apply Kd.R_alloc | apply Kd.R_drewN | apply Kd.R_drew)); exact Kd.R_mono HO_3.out (fun _ hk => ⟨hk.2, hk.1⟩)) hg hat); have n1_ := Aside0.mk (Kd.R_after (ok := (fun k_ => some k_ ≠ (v312 : Value).ownBlock)) (by (with_reducible repeat (first | apply Kd.R_alloc | apply Kd.R_drewN | apply Kd.R_drew)); exact Kd.R_mono HO331.out (fun _ hk => ⟨hk.1.2, hk.2⟩)) hg hat); have n2_ := Aside0.mk (hb); have n3_ := Aside0.mk (ho); clear HO_3; clear HO331; clear HB; clear HO_4; have HO_3 := n0_; have HO331 := n1_; have HB := n2_; have HO334 := n3_; clear n0_ n1_ n2_ n3_; clear ho hb hg hat))
                          go_roundg kj6
                          case measure => have := HK1.out; have := HJ6.out; omega
                          case rel => exact ⟨(y332), (true), (wrap64 (x14_1 + 1)), (by first | rfl | (simp; done) | (simp [*]; done)), (by first | rfl | (simp; done) | (simp [*]; done)), H', ⟨by have := HK1.out; have := HJ6.out; omega⟩, ⟨by (with_reducible repeat (first | apply Kd.R_alloc | apply Kd.R_drewN | apply Kd.R_drew)); exact Kd.R_mono HO_3.out (fun _ hk => hk.2)⟩, ⟨by (with_reducible repeat (first | apply Kd.R_alloc | apply Kd.R_drewN | apply Kd.R_drew)); exact Kd.R_mono HO334.out (fun _ hk => hk.1)⟩, ⟨by repeat (first | (with_reducible first | exact HB.out | apply below_alloc | apply pw_below_drewN | apply below_drew1) | exact HB.out)⟩⟩
                        · rw [if_neg c28] at H
                          exact absurd H (by simp)
                      · replace c26 := Bool.eq_false_iff.mpr c26
                        subst c26
                        have H1 : ((impl_SimpleTitle.f (rd l0 x14_1)).bind fun t335 => (if x4_1.length < 17592186044416 then (impl_title.l0 kj6 t311 (x4_1 ++ [t335]) true l0 (l0.length : Int) (wrap64 (x14_1 + 1))) else (none))) = some r := by rw [if_neg (show ¬ (false = true) by decide)] at H; exact H
                        clear H
                        have H := H1
                        clear H1
                        replace H := Option.bind_eq_some_iff.mp H
                        obtain ⟨t335, A330, H⟩ := H
                        replace H : (if x4_1.length < 17592186044416 then (impl_title.l0 kj6 t311 (x4_1 ++ [t335]) true l0 (l0.length : Int) (wrap64 (x14_1 + 1))) else (none)) = some r := H
                        have A33 := Aside0.mk A330
                        clear A330
                        by_cases c34 : x4_1.length < 17592186044416
                        · rw [if_pos c34] at H
                          have LMc34 := Aside0.mk c34
                          clear c34
                          obtain ⟨y336, hy336⟩ : ∃ y_ : List Int, y_ = (x4_1 ++ [t335]) := ⟨_, rfl⟩
                          replace H : (impl_title.l0 kj6 t311 y336 true l0 (l0.length : Int) (wrap64 (x14_1 + 1))) = some r := by first | (rw [hy336]; with_reducible exact H) | (have H2_ := (Option.bind_some _ _).symm.trans H; rw [hy336]; with_reducible exact H2_) | (have H2_ := (Option.bind_some _ _).symm.trans H; with_reducible exact H2_) | with_reducible exact H | (rw [hy336]; exact H) | exact H
                          have Ny336 := Aside0.mk hy336
                          clear hy336
                          have H' := Aside0.mk H
                          clear H
                          go_wp2_with (first | ((with_reducible refine gate_callee (f := 206) rfl ?_); refine goesL_ (some 56) rfl rfl Tryd.func206 (by kernel_rfl) rfl #[.int .i64 (rd l0 x14_1)] rfl (by (try simp only [List.map_toArray, List.map_cons, List.map_nil]); first | done | rfl | (simp only [List.length_drop, List.length_take]; rfl)) ?_; (with_reducible refine (impl_isCased.calls (rd l0 x14_1) true _ A23.out).mono ?_); rintro e w' ⟨rfl, ⟨nd, rfl⟩⟩; refine ⟨_, rfl, ?_⟩) | ((with_reducible refine gate_callee (f := 207) rfl ?_); refine goesL_ (some 64) rfl rfl Tryd.func207 (by kernel_rfl) rfl #[.int .i64 (rd l0 x14_1), .int .i64 96] rfl (by (try simp only [List.map_toArray, List.map_cons, List.map_nil]); first | done | rfl | (simp only [List.length_drop, List.length_take]; rfl)) ?_; (with_reducible refine (impl_within.calls (rd l0 x14_1) 96 false _ A25.out).mono ?_); rintro e w' ⟨rfl, ⟨nd, rfl⟩⟩; refine ⟨_, rfl, ?_⟩) | ((with_reducible refine gate_callee (f := 208) rfl ?_); refine goesL_ (some 42) rfl rfl Tryd.func208 (by kernel_rfl) rfl #[.int .i64 (rd l0 x14_1)] rfl (by (try simp only [List.map_toArray, List.map_cons, List.map_nil]); first | done | rfl | (simp only [List.length_drop, List.length_take]; rfl)) ?_; (with_reducible refine (impl_SimpleTitle.calls (rd l0 x14_1) t335 _ A33.out).mono ?_); rintro e w' ⟨rfl, ⟨nd, rfl⟩⟩; refine ⟨_, rfl, ?_⟩) | ((with_reducible refine gate_builtin (b := .append) (xs := #[.tmp 40, .tmp 43]) rfl ?_); at_builtin; refine Kd.R_append (Kd.int .i64) (w0 := w) w.heap.size rfl (.tmp 40) (.tmp 43) 25 2 (.int .i64 0) 8 rfl Tryd.underlying25 info2 rfl (by decide) (by omega) u4 x4_1 t335 [.int .i64 t335] (fun k_ => some k_ ≠ (v312 : Value).ownBlock) (fun _ => False) rfl rfl ?aP (fun _ hk => hk.elim) ?aF ?aO ?aB ?aS ?aL ?_; (case aP => exact rfl); (case aB => exact (by repeat (first | (with_reducible first | exact HB.out | apply below_alloc | apply pw_below_drewN | apply below_drew1) | exact HB.out))); (case aF => exact (fun k_ hk => Kd.fresh' (Kd.R_lt (by (with_reducible repeat (first | apply Kd.R_alloc | apply Kd.R_drewN | apply Kd.R_drew)); exact HO_3.out)) k_ hk)); (case aO => exact (by (with_reducible repeat (first | apply Kd.R_alloc | apply Kd.R_drewN | apply Kd.R_drew)); exact HO_4.out)); (case aS => exact (below_size (by repeat (first | (with_reducible first | exact HB.out | apply below_alloc | apply pw_below_drewN | apply below_drew1) | exact HB.out)))); (case aL => have := LMc34.out; omega); intro v337 w35 ho hb hg hat; rw [← Ny336.out] at ho; have n0_ := Aside0.mk (Kd.R_after (ok := (fun _ => True)) (by (with_reducible repeat (first | apply Kd.R_alloc | apply Kd.R_drewN | apply Kd.R_drew)); exact Kd.R_mono HO_3.out (fun _ hk => ⟨trivial, hk⟩)) hg hat); have n1_ := Aside0.mk (hb); have n2_ := Aside0.mk (ho); clear HO_3; clear HB; clear HO_4; have HO_3 := n0_; have HB := n1_; have HO338 := n2_; clear n0_ n1_ n2_; clear ho hb hg hat))
                          go_roundg kj6
                          case measure => have := HK1.out; have := HJ6.out; omega
                          case rel => exact ⟨(y336), (true), (wrap64 (x14_1 + 1)), (by first | rfl | (simp; done) | (simp [*]; done)), (by first | rfl | (simp; done) | (simp [*]; done)), H', ⟨by have := HK1.out; have := HJ6.out; omega⟩, ⟨by (with_reducible repeat (first | apply Kd.R_alloc | apply Kd.R_drewN | apply Kd.R_drew)); exact Kd.R_mono HO_3.out (fun _ hk => hk.2)⟩, ⟨by (with_reducible repeat (first | apply Kd.R_alloc | apply Kd.R_drewN | apply Kd.R_drew)); exact HO338.out⟩, ⟨by repeat (first | (with_reducible first | exact HB.out | apply below_alloc | apply pw_below_drewN | apply below_drew1) | exact HB.out)⟩⟩
                        · rw [if_neg c34] at H
                          exact absurd H (by simp)
                    · replace c24 := Bool.eq_false_iff.mpr c24
                      subst c24
                      have H1 : (if x4_1.length < 17592186044416 then (impl_title.l0 kj6 t311 (x4_1 ++ [(rd l0 x14_1)]) false l0 (l0.length : Int) (wrap64 (x14_1 + 1))) else (none)) = some r := by rw [if_neg (show ¬ (false = true) by decide)] at H; exact H
                      clear H
                      have H := H1
                      clear H1
                      by_cases c36 : x4_1.length < 17592186044416
                      · rw [if_pos c36] at H
                        have LMc36 := Aside0.mk c36
                        clear c36
                        obtain ⟨y339, hy339⟩ : ∃ y_ : List Int, y_ = (x4_1 ++ [(rd l0 x14_1)]) := ⟨_, rfl⟩
                        replace H : (impl_title.l0 kj6 t311 y339 false l0 (l0.length : Int) (wrap64 (x14_1 + 1))) = some r := by first | (rw [hy339]; with_reducible exact H) | (have H2_ := (Option.bind_some _ _).symm.trans H; rw [hy339]; with_reducible exact H2_) | (have H2_ := (Option.bind_some _ _).symm.trans H; with_reducible exact H2_) | with_reducible exact H | (rw [hy339]; exact H) | exact H
                        have Ny339 := Aside0.mk hy339
                        clear hy339
                        have H' := Aside0.mk H
                        clear H
                        go_wp2_with (first | ((with_reducible refine gate_callee (f := 206) rfl ?_); refine goesL_ (some 56) rfl rfl Tryd.func206 (by kernel_rfl) rfl #[.int .i64 (rd l0 x14_1)] rfl (by (try simp only [List.map_toArray, List.map_cons, List.map_nil]); first | done | rfl | (simp only [List.length_drop, List.length_take]; rfl)) ?_; (with_reducible refine (impl_isCased.calls (rd l0 x14_1) false _ A23.out).mono ?_); rintro e w' ⟨rfl, ⟨nd, rfl⟩⟩; refine ⟨_, rfl, ?_⟩) | ((with_reducible refine gate_builtin (b := .append) (xs := #[.tmp 58, .tmp 60]) rfl ?_); at_builtin; refine Kd.R_append (Kd.int .i64) (w0 := w) w.heap.size rfl (.tmp 58) (.tmp 60) 25 2 (.int .i64 0) 8 rfl Tryd.underlying25 info2 rfl (by decide) (by omega) u4 x4_1 (rd l0 x14_1) [.int .i64 (rd l0 x14_1)] (fun k_ => some k_ ≠ (v312 : Value).ownBlock) (fun _ => False) rfl rfl ?aP (fun _ hk => hk.elim) ?aF ?aO ?aB ?aS ?aL ?_; (case aP => exact rfl); (case aB => exact (by repeat (first | (with_reducible first | exact HB.out | apply below_alloc | apply pw_below_drewN | apply below_drew1) | exact HB.out))); (case aF => exact (fun k_ hk => Kd.fresh' (Kd.R_lt (by (with_reducible repeat (first | apply Kd.R_alloc | apply Kd.R_drewN | apply Kd.R_drew)); exact HO_3.out)) k_ hk)); (case aO => exact (by (with_reducible repeat (first | apply Kd.R_alloc | apply Kd.R_drewN | apply Kd.R_drew)); exact HO_4.out)); (case aS => exact (below_size (by repeat (first | (with_reducible first | exact HB.out | apply below_alloc | apply pw_below_drewN | apply below_drew1) | exact HB.out)))); (case aL => have := LMc36.out; omega); intro v340 w37 ho hb hg hat; rw [← Ny339.out] at ho; have n0_ := Aside0.mk (Kd.R_after (ok := (fun _ => True)) (by (with_reducible repeat (first | apply Kd.R_alloc | apply Kd.R_drewN | apply Kd.R_drew)); exact Kd.R_mono HO_3.out (fun _ hk => ⟨trivial, hk⟩)) hg hat); have n1_ := Aside0.mk (hb); have n2_ := Aside0.mk (ho); clear HO_3; clear HB; clear HO_4; have HO_3 := n0_; have HB := n1_; have HO341 := n2_; clear n0_ n1_ n2_; clear ho hb hg hat))
                        go_roundg kj6
                        case measure => have := HK1.out; have := HJ6.out; omega
                        case rel => exact ⟨(y339), (false), (wrap64 (x14_1 + 1)), (by first | rfl | (simp; done) | (simp [*]; done)), (by first | rfl | (simp; done) | (simp [*]; done)), H', ⟨by have := HK1.out; have := HJ6.out; omega⟩, ⟨by (with_reducible repeat (first | apply Kd.R_alloc | apply Kd.R_drewN | apply Kd.R_drew)); exact Kd.R_mono HO_3.out (fun _ hk => hk.2)⟩, ⟨by (with_reducible repeat (first | apply Kd.R_alloc | apply Kd.R_drewN | apply Kd.R_drew)); exact HO341.out⟩, ⟨by repeat (first | (with_reducible first | exact HB.out | apply below_alloc | apply pw_below_drewN | apply below_drew1) | exact HB.out)⟩⟩
                      · rw [if_neg c36] at H
                        exact absurd H (by simp)
          · rw [if_neg c6] at H
            exact absurd H (by simp)
        · rw [if_neg c5] at H
          exact absurd H (by simp)
      · rw [if_neg c4] at H
        have c4b0 : decide (x14_1 < (l0.length : Int)) = false := decide_eq_false c4
        clear c4
        obtain rfl := Option.some.inj H
        go_wp2
        go_ret
        exact ⟨_, by first | rfl | (simp [errW_none, errW_some] <;> rfl) | (simp [*, errW_none, errW_some] <;> rfl), by (with_reducible repeat (first | apply Kd.R_alloc | apply Kd.R_drewN | apply Kd.R_drew)); exact Kd.R_mono HO_4.out (fun _ hk => trivial), by repeat (first | (with_reducible first | exact HB.out | apply below_alloc | apply pw_below_drewN | apply below_drew1) | exact HB.out)⟩

def impl_title.ti (p : Int) : Int := (impl_cases.g p).2.1
def impl_title.all (l : List Int) : List Int := (YtnonijganceneaaDoorCas.trun l (impl_lower.one l) impl_title.ti l.length).1
def W_impl_title.f (l0 : List Int) : Option (List Int) := if l0.length ≤ 1099511627776 ∧ (∀ p ∈ l0, YtnonijganceneaaDoorPts.isP p) then some (impl_title.all l0) else none
theorem impl_title.letter (p : Int) : impl_isLetter.f p = some (decide (4 ≤ (YtnonijganceneaaDoorCas.kind p).1 ∧ (YtnonijganceneaaDoorCas.kind p).1 ≤ 7)) := by
  unfold impl_isLetter.f impl_Category.f impl_kind.f impl_in.f
  rw [impl_lower.kind]
  simp only [Option.bind_some]
  by_cases a : (YtnonijganceneaaDoorCas.kind p).1 ≥ 4
  · rw [if_pos a]
    simp only [Option.bind_some]
    congr 1
    apply decide_eq_decide.2
    omega
  · rw [if_neg a, decide_eq_false (fun z => a z.1)]; rfl
theorem impl_title.simple (p : Int) (hpi : YtnonijganceneaaDoorPts.isP p) : impl_SimpleTitle.f p = some (impl_title.ti p) := by
  unfold YtnonijganceneaaDoorPts.isP at hpi
  unfold impl_SimpleTitle.f impl_isPoint.f
  rw [if_pos hpi.1, if_pos hpi.2.1]
  have : (if p < 55296 then (some true) else (some (decide (p > 57343)))) = some true := by
    split
    · rfl
    · rw [decide_eq_true (by omega)]
  rw [this]
  simp only [Option.bind_some, if_true]
  unfold impl_cases.f
  rw [if_pos ⟨hpi.1, hpi.2.1⟩]
  rfl
theorem impl_title.run (l : List Int) (hl : l.length ≤ 1099511627776) (hp : ∀ p ∈ l, YtnonijganceneaaDoorPts.isP p) (d : Nat) : ∀ (k i : Nat), i ≤ l.length → l.length - i = d → 2 * d < k →
    impl_title.l0 k ((List.range l.length).map (impl_lower.one l)) (YtnonijganceneaaDoorCas.trun l (impl_lower.one l) impl_title.ti i).1 (YtnonijganceneaaDoorCas.trun l (impl_lower.one l) impl_title.ti i).2 l (l.length : Int) (i : Int) = some (impl_title.all l) := by
  induction d with
  | zero =>
    intro k i h1 h2 h3
    obtain ⟨k, rfl⟩ : ∃ m, k = m + 1 := ⟨k - 1, by omega⟩
    obtain rfl : i = l.length := by omega
    simp only [impl_title.l0]
    rw [if_neg (by omega)]
    rfl
  | succ d ih =>
    intro k i h1 h2 h3
    obtain ⟨k, rfl⟩ : ∃ m, k = m + 2 := ⟨k - 2, by omega⟩
    have hlt : i < l.length := by omega
    have hih := ih k (i + 1) (by omega) (by omega) (by omega)
    have hw : wrap64 ((i : Int) + 1) = ((i + 1 : Nat) : Int) := by unfold wrap64; omega
    have hr : rd l (i : Int) = l[i] := by simp [rd, List.getD, hlt]
    have hpi := hp l[i] (List.getElem_mem hlt)
    rw [← hr] at hpi
    have hlen := YtnonijganceneaaDoorCas.trun_length l (impl_lower.one l) impl_title.ti i
    have hlow : rd ((List.range l.length).map (impl_lower.one l)) (i : Int) = impl_lower.one l i := by simp [rd, List.getD, hlt]
    have hll : ((List.range l.length).map (impl_lower.one l)).length = l.length := by simp
    obtain ⟨LO, hLO⟩ : ∃ LO, (List.range l.length).map (impl_lower.one l) = LO := ⟨_, rfl⟩
    rw [hLO] at hlow hll hih ⊢
    simp only [YtnonijganceneaaDoorCas.trun] at hih
    obtain ⟨acc, hacc⟩ : ∃ acc, (YtnonijganceneaaDoorCas.trun l (impl_lower.one l) impl_title.ti i).1 = acc := ⟨_, rfl⟩
    obtain ⟨bg, hbg⟩ : ∃ bg, (YtnonijganceneaaDoorCas.trun l (impl_lower.one l) impl_title.ti i).2 = bg := ⟨_, rfl⟩
    rw [hacc] at hlen
    rw [hacc, hbg] at hih ⊢
    obtain ⟨o, ho⟩ : ∃ o, impl_lower.one l i = o := ⟨_, rfl⟩
    rw [ho] at hih hlow
    obtain ⟨p, hpe⟩ : ∃ p, rd l (i : Int) = p := ⟨_, rfl⟩
    rw [hpe] at hih hpi
    have hj : ∀ g : Bool, g = (!YtnonijganceneaaDoorCas.inWord p) → impl_title.j1 (k + 1) LO acc bg (i : Int) p l (l.length : Int) (i : Int) g = some (impl_title.all l) := by
      intro g hg
      rw [impl_title.j1, hlow, impl_lower.cased, impl_lower.within p 96 (by omega), impl_title.simple p hpi, hw]
      have hb : impl_block.f p = some (if 512 ≤ p ∧ p < 1280 then (p - p % 256, p % 256) else (0, 0)) := rfl
      rw [hb]
      simp only [Option.bind_some]
      unfold YtnonijganceneaaDoorCas.tstep at hih
      have more : ∀ x, impl_title.l0 k LO (acc ++ x) = impl_title.l0 k LO (acc ++ x) := fun _ => rfl
      have hk : ∀ (A : List Int) (B : Bool), impl_title.l0 k LO A B l (l.length : Int) ((i + 1 : Nat) : Int) = some (impl_title.all l) → impl_title.l0 (k + 1) LO A B l (l.length : Int) ((i + 1 : Nat) : Int) = some (impl_title.all l) := fun A B h => (impl_title.mono_l k).1 _ _ _ _ _ _ _ h
      by_cases w : YtnonijganceneaaDoorCas.inWord p = true
      · rw [if_neg (by rw [hg, w]; decide)]
        rw [if_neg (by rw [w]; decide)] at hih
        by_cases b : bg = true
        · subst b
          rw [if_pos rfl, if_pos (by omega), if_pos (by omega), if_pos (by omega)]
          rw [if_pos rfl] at hih
          exact hih
        · have b := Bool.eq_false_iff.mpr b
          subst b
          rw [if_neg (by decide)]
          rw [if_neg (by decide)] at hih
          by_cases c : YtnonijganceneaaDoorCas.isCased p = true
          · rw [if_pos c]
            rw [if_neg (by rw [c]; decide)] at hih
            by_cases s : 512 ≤ p ∧ p < 1280 ∧ p % 256 = 96
            · have e1 : wrap64 (p - p % 256 + 18) = p - p % 256 + 18 := by unfold YtnonijganceneaaDoorPts.isP at hpi; unfold wrap64; omega
              have e2 : wrap64 (p - p % 256 + 50) = p - p % 256 + 50 := by unfold YtnonijganceneaaDoorPts.isP at hpi; unfold wrap64; omega
              rw [if_pos (decide_eq_true s), if_pos (show 512 ≤ p ∧ p < 1280 from ⟨s.1, s.2.1⟩)]
              simp only [e1, e2]
              rw [if_pos (by simp only [List.length_cons, List.length_nil]; omega)]
              rw [if_pos s] at hih
              exact hih
            · rw [if_neg (by simpa using s), if_pos (by omega)]
              rw [if_neg s] at hih
              exact hih
          · have c' := Bool.eq_false_iff.mpr c
            rw [if_neg c, if_pos (by omega)]
            rw [if_pos c'] at hih
            exact hih
      · rw [if_pos (by rw [hg]; simpa using w), if_pos (by omega)]
        rw [if_pos (Bool.eq_false_iff.mpr w)] at hih
        exact hih
    rw [impl_title.l0, if_pos (show (i : Int) < (l.length : Int) by omega), if_pos (show (0 : Int) ≤ (i : Int) by omega), if_pos (show (i : Int) < (l.length : Int) by omega), hpe, impl_lower.mark, impl_title.letter]
    have hd : impl_isDigit.f p = some ((YtnonijganceneaaDoorCas.kind p).1 == 8) := rfl
    rw [hd]
    simp only [Option.bind_some]
    have hm : YtnonijganceneaaDoorCas.isMark p = ((YtnonijganceneaaDoorCas.kind p).1 == 3) := rfl
    rw [hm]
    unfold YtnonijganceneaaDoorCas.inWord at hj
    obtain ⟨c, hc⟩ : ∃ c, (YtnonijganceneaaDoorCas.kind p).1 = c := ⟨_, rfl⟩
    rw [hc] at hj ⊢
    by_cases c3 : c = 3
    · rw [if_pos (beq_iff_eq.2 c3)]; exact hj _ (by rw [decide_eq_true (by omega)]; rfl)
    · rw [if_neg (by simpa using c3)]
      by_cases c4 : 4 ≤ c ∧ c ≤ 7
      · rw [if_pos (decide_eq_true c4)]; exact hj _ (by rw [decide_eq_true (by omega)]; rfl)
      · rw [if_neg (by simpa using c4)]
        by_cases c8 : c = 8
        · rw [if_pos (beq_iff_eq.2 c8)]; exact hj _ (by rw [decide_eq_true (by omega)]; rfl)
        · rw [if_neg (by simpa using c8)]
          refine hj _ ?_
          by_cases e : p = 39
          · rw [decide_eq_true (.inr e), e]; rfl
          · rw [decide_eq_false (by omega)]
            simpa using e
theorem W_impl_title.to {l0 : List Int} {r : List Int} (h : W_impl_title.f l0 = some r) : ∃ k, impl_title.f k l0 = some r := by
  unfold W_impl_title.f at h
  split at h
  · rename_i hc
    refine ⟨2 * l0.length + 1, ?_⟩
    rw [← h]
    unfold impl_title.f W_impl_lower.f
    rw [if_pos hc]
    simp only [Option.bind_some]
    exact impl_title.run l0 hc.1 hc.2 l0.length _ 0 (Nat.zero_le _) rfl (by omega)
  · cases h
theorem W_impl_title.calls (A0 : Option Addr) (c0 : Nat) (l0 : List Int) (r : List Int) (w : World) (hr0 : Kd.C (Kd.int .i64) w A0 l0.length l0) (hc0 : l0.length ≤ c0) (h : W_impl_title.f l0 = some r) :
    Calls Tryd.prog 148 #[.slice A0 l0.length c0] w fun e w' => ∃ v0_ : Value, e = .returned (v0_) ∧ Kd.R (Kd.int .i64) 2 w' w.heap.size (fun _ => True) v0_ r ∧ Below w.heap.size w w' := by
  obtain ⟨k, hk⟩ := W_impl_title.to h
  exact impl_title.calls k A0 c0 l0 r w hr0 hc0 hk

/-! ### impl_Title: function 63 (by hand) -/
def impl_Title.f (a0 : ByteArray) : Option (ByteArray) := if (a0.size : Int) > 65536 then (some (⟨#[]⟩ : ByteArray)) else ((W_impl_points.f a0).bind fun l => ((W_impl_title.f l).bind fun m => ((W_impl_write.f m).bind fun s => (impl_short.f s))))
set_option maxHeartbeats 4000000 in
set_option maxRecDepth 100000 in
theorem impl_Title.calls (a0 : ByteArray) (r : ByteArray) (w : World) (h : impl_Title.f a0 = some r) (hG : GT w) :
    Calls Tryd.prog 63 #[.string a0] w fun e w' => e = .returned (.string r) ∧ Below w.heap.size w w' := by
  have HG := Aside0.mk hG
  clear hG
  unfold impl_Title.f at h
  by_cases c : (a0.size : Int) > 65536
  · rw [if_pos c] at h
    obtain rfl := Option.some.inj h
    have HL := fun W => impl_long.calls a0 true W (by unfold impl_long.f; rw [decide_eq_true c])
    clear h c
    go_enter Tryd.func63, Tryd.ntmps63
    go_wp2_with (first | (go_at_call 98; refine (HL _).mono ?_; rintro e w1 ⟨rfl, ⟨nd, rfl⟩⟩) | go_in)
    go_ret
    exact ⟨rfl, by repeat (first | exact Below.refl _ _ | apply pw_below_drewN | apply below_drew1)⟩
  · rw [if_neg c] at h
    obtain ⟨l, hl, h⟩ := Option.bind_eq_some_iff.mp h
    obtain ⟨m, hm, h⟩ := Option.bind_eq_some_iff.mp h
    obtain ⟨s, hs, h⟩ := Option.bind_eq_some_iff.mp h
    have HL := fun W => impl_long.calls a0 false W (by unfold impl_long.f; rw [decide_eq_false c])
    have H1 := Aside0.mk hl
    have H2 := Aside0.mk hm
    have H3 := Aside0.mk hs
    have H4 := Aside0.mk h
    clear hl hm hs h c
    go_enter Tryd.func63, Tryd.ntmps63
    go_wp2_with (first
      | (go_at_call 98; refine (HL _).mono ?_; rintro e w1 ⟨rfl, ⟨nd, rfl⟩⟩)
      | (go_at_call 103; refine (W_impl_points.calls a0 l _ H1.out (GT.below HG.out (by repeat (first | exact Below.refl _ _ | apply pw_below_drewN | apply below_drew1)))).mono ?_; rintro e w1 ⟨v1, rfl, ho1, hb1⟩; obtain ⟨A1, c1, rfl⟩ := Kd.R_slice ho1; have R1 := Aside0.mk (Kd.R_reads' ho1); have B1 : Aside0 (Below w.heap.size w w1) := Aside0.mk (below_step (by repeat (first | exact Below.refl _ _ | apply pw_below_drewN | apply below_drew1)) hb1); clear ho1 hb1)
      | (go_at_call 148; refine (W_impl_title.calls A1 c1 l m _ R1.out.2.2 R1.out.2.1 H2.out).mono ?_; rintro e w2 ⟨v2, rfl, ho2, hb2⟩; obtain ⟨A2, c2, rfl⟩ := Kd.R_slice ho2; have R2 := Aside0.mk (Kd.R_reads' ho2); have B2 := Aside0.mk (below_step B1.out hb2); clear ho2 hb2)
      | (go_at_call 105; refine (W_impl_write.calls A2 c2 m s _ R2.out.2.2 R2.out.2.1 H3.out).mono ?_; rintro e w3 ⟨rfl, hb3⟩; have B3 := Aside0.mk (below_step B2.out hb3); clear hb3)
      | (go_at_call 100; refine (impl_short.calls s r _ H4.out).mono ?_; rintro e w4 ⟨rfl, ⟨nd4, rfl⟩⟩)
      | go_in)
    go_ret
    exact ⟨rfl, by repeat (first | exact B3.out | apply below_alloc | apply pw_below_drewN | apply below_drew1)⟩

end Go.Proofs.YtnonijganceneaaDoor.QFnExactTitle
