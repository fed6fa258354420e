/- The law FnNormer: at every input the call answers true (this text: contracts on its way, by a program of this session's; no condition of ours). -/
import Derived.Test.YtiabgmddnddeiaaDoorQFnNormerx0
import Derived.Test.YtiabgmddnddeiaaDoorQFnNormerx1
import Derived.Test.YtiabgmddnddeiaaDoorQFnNormerx5
import Derived.Test.YtiabgmddnddeiaaDoorQFnNormerx6
namespace Go.Proofs.YtiabgmddnddeiaaDoor.QFnNormer
open Go.RowKit Go.Proofs.YtiabgmddnddeiaaDoorW.PrintWords Go.Proofs.YtiabgmddnddeiaaDoorW.PrintLast Go.Proofs.YtiabgmddnddeiaaDoorW.PrintMore
attribute [local go_sem] max2_int min2_int max_two min_two max_three min_three max_four min_four   -- for this text's walks alone
set_option linter.unusedVariables false
set_option linter.unusedSimpArgs false

/-! ### spec_l05Composed: function 177 -/
mutual
def spec_l05Composed.l0 : Nat → List Int → List Int → Int → Int → Option (List Int)
 | 0, _, _, _, _ => none
 | k + 1, x0, x3, x4, x5 => if x5 < (x0.length : Int) then (if 0 ≤ x5 then ((W_spec_l01Class.f (rd x0 x5)).bind fun t196 => (spec_l05Composed.l1 k x0 x3 x4 x5 (rd x0 x5) t196 (decide (x4 ≥ 0)) (wrap64 (x4 + 1)))) else (none)) else (some x3)
def spec_l05Composed.l1 : Nat → List Int → List Int → Int → Int → Int → Int → Bool → Int → Option (List Int)
 | 0, _, _, _, _, _, _, _, _ => none
 | k + 1, x0, x3, x4, x5, x6, x7, x8, x9 => if x8 = true then (spec_l05Composed.j2 k x0 x3 x4 x5 x6 x7 x8 x9 (decide (x9 < (x3.length : Int)))) else (spec_l05Composed.j2 k x0 x3 x4 x5 x6 x7 x8 x9 false)
def spec_l05Composed.j2 : Nat → List Int → List Int → Int → Int → Int → Int → Bool → Int → Bool → Option (List Int)
 | 0, _, _, _, _, _, _, _, _, _ => none
 | k + 1, x0, x3, x4, x5, x6, x7, x8, x9, x34 => if x34 = true then (if 0 ≤ x9 then (if x9 < (x3.length : Int) then ((W_spec_l01Class.f (rd x3 x9)).bind fun t198 => (if t198 = 0 then (spec_l05Composed.l1 k x0 x3 x4 x5 x6 x7 false (wrap64 (x9 + 1))) else ((W_spec_l01Class.f (rd x3 x9)).bind fun t200 => (spec_l05Composed.l1 k x0 x3 x4 x5 x6 x7 (decide (t200 < x7)) (wrap64 (x9 + 1)))))) else (none)) else (none)) else (if x8 = true then (if 0 ≤ x4 then (if x4 < (x3.length : Int) then ((W_spec_l05Pair.f (rd x3 x4) x6).bind fun t202 => (if t202 ≥ 0 then (spec_l05Composed.l0 k x0 (x3.set (x4 : Int).toNat t202) x4 (wrap64 (x5 + 1))) else (if x3.length < 17592186044416 then ((some (x3 ++ [x6] : List Int)).bind fun y204 => (if x7 = 0 then (spec_l05Composed.l0 k x0 y204 (wrap64 ((y204.length : Int) - 1)) (wrap64 (x5 + 1))) else (spec_l05Composed.l0 k x0 y204 x4 (wrap64 (x5 + 1))))) else (none)))) else (none)) else (none)) else (if x3.length < 17592186044416 then ((some (x3 ++ [x6] : List Int)).bind fun y207 => (if x7 = 0 then (spec_l05Composed.l0 k x0 y207 (wrap64 ((y207.length : Int) - 1)) (wrap64 (x5 + 1))) else (spec_l05Composed.l0 k x0 y207 x4 (wrap64 (x5 + 1))))) else (none)))
end
def spec_l05Composed.f (k : Nat) (l0 : List Int) : Option (List Int) := spec_l05Composed.l0 k l0 (([] : List Int)) (-1) 0
theorem spec_l05Composed.mono_l : ∀ k, (∀ y0 y1 y2 y3, LeO (spec_l05Composed.l0 k y0 y1 y2 y3) (spec_l05Composed.l0 (k + 1) y0 y1 y2 y3)) ∧ (∀ y0 y1 y2 y3 y4 y5 y6 y7, LeO (spec_l05Composed.l1 k y0 y1 y2 y3 y4 y5 y6 y7) (spec_l05Composed.l1 (k + 1) y0 y1 y2 y3 y4 y5 y6 y7)) ∧ (∀ y0 y1 y2 y3 y4 y5 y6 y7 y8, LeO (spec_l05Composed.j2 k y0 y1 y2 y3 y4 y5 y6 y7 y8) (spec_l05Composed.j2 (k + 1) y0 y1 y2 y3 y4 y5 y6 y7 y8))
 | 0 => ⟨fun _ _ _ _ r h => by simp [spec_l05Composed.l0] at h, fun _ _ _ _ _ _ _ _ r h => by simp [spec_l05Composed.l1] at h, fun _ _ _ _ _ _ _ _ _ r h => by simp [spec_l05Composed.j2] at h⟩
 | k + 1 => by
  obtain ⟨ih0, ih1, ih2⟩ := spec_l05Composed.mono_l k; refine ⟨?_, ?_, ?_⟩
  ·intro y0 y1 y2 y3
   unfold spec_l05Composed.l0
   repeat' first
   | (with_reducible exact ih0 _ _ _ _)
   | (with_reducible exact ih1 _ _ _ _ _ _ _ _)
   | (with_reducible exact ih2 _ _ _ _ _ _ _ _ _)
   | (with_reducible exact LeO.refl _)
   | (with_reducible exact LeO.none _)
   | (with_reducible refine LeO.ite ?_ ?_)
   | (with_reducible refine LeO.bind ?_ (fun _ => ?_))
   | exact ih0 _ _ _ _
   | exact ih1 _ _ _ _ _ _ _ _
   | exact ih2 _ _ _ _ _ _ _ _ _
   | exact LeO.none _
   | refine LeO.ite ?_ ?_
   | refine LeO.bind ?_ (fun _ => ?_)
  ·intro y0 y1 y2 y3 y4 y5 y6 y7
   unfold spec_l05Composed.l1
   repeat' first
   | (with_reducible exact ih0 _ _ _ _)
   | (with_reducible exact ih1 _ _ _ _ _ _ _ _)
   | (with_reducible exact ih2 _ _ _ _ _ _ _ _ _)
   | (with_reducible exact LeO.refl _)
   | (with_reducible exact LeO.none _)
   | (with_reducible refine LeO.ite ?_ ?_)
   | (with_reducible refine LeO.bind ?_ (fun _ => ?_))
   | exact ih0 _ _ _ _
   | exact ih1 _ _ _ _ _ _ _ _
   | exact ih2 _ _ _ _ _ _ _ _ _
   | exact LeO.none _
   | refine LeO.ite ?_ ?_
   | refine LeO.bind ?_ (fun _ => ?_)
  intro y0 y1 y2 y3 y4 y5 y6 y7 y8
  unfold spec_l05Composed.j2
  repeat' first
  | (with_reducible exact ih0 _ _ _ _)
  | (with_reducible exact ih1 _ _ _ _ _ _ _ _)
  | (with_reducible exact ih2 _ _ _ _ _ _ _ _ _)
  | (with_reducible exact LeO.refl _)
  | (with_reducible exact LeO.none _)
  | (with_reducible refine LeO.ite ?_ ?_)
  | (with_reducible refine LeO.bind ?_ (fun _ => ?_))
  | exact ih0 _ _ _ _
  | exact ih1 _ _ _ _ _ _ _ _
  | exact ih2 _ _ _ _ _ _ _ _ _
  | exact LeO.none _
  | refine LeO.ite ?_ ?_
  | refine LeO.bind ?_ (fun _ => ?_)
theorem spec_l05Composed.mono : ∀ a0 k, LeO (spec_l05Composed.f k a0) (spec_l05Composed.f (k + 1) a0) := by
 intro a0 k
 obtain ⟨ih0, ih1, ih2⟩ := spec_l05Composed.mono_l k
 unfold spec_l05Composed.f
 repeat' first
   | (with_reducible exact ih0 _ _ _ _)
   | (with_reducible exact ih1 _ _ _ _ _ _ _ _)
   | (with_reducible exact ih2 _ _ _ _ _ _ _ _ _)
   | (with_reducible exact LeO.refl _)
   | (with_reducible exact LeO.none _)
   | (with_reducible refine LeO.ite ?_ ?_)
   | (with_reducible refine LeO.bind ?_ (fun _ => ?_))
   | exact ih0 _ _ _ _
   | exact ih1 _ _ _ _ _ _ _ _
   | exact ih2 _ _ _ _ _ _ _ _ _
   | exact LeO.none _
   | refine LeO.ite ?_ ?_
   | refine LeO.bind ?_ (fun _ => ?_)
set_option maxHeartbeats 8000000 in
set_option maxRecDepth 100000 in
theorem spec_l05Composed.calls (k : Nat) (A0 : Option Addr) (c0 : Nat) (l0 : List Int) (r : List Int) (w : World) (hr0 : Kd.C (Kd.int .i64) w A0 l0.length l0) (hc0 : l0.length ≤ c0) (h : spec_l05Composed.f k l0 = some r) :
  Calls Tryd.prog 177 #[.slice A0 l0.length c0] w fun e w' => ∃ v0_ : Value, e = .returned (v0_) ∧ Kd.R (Kd.int .i64) 2 w' w.heap.size (fun _ => True) v0_ r ∧ Below w.heap.size w w' := by
 have HR0 := Aside0.mk hr0
 have HC0 := Aside0.mk hc0
 clear hr0 hc0
 have HB := Aside0.mk (Below.refl w.heap.size w)
 have H : (spec_l05Composed.l0 k l0 (([] : List Int)) (-1) 0) = some r := h
 clear h
 obtain ⟨y192, hy192⟩ : ∃ y_ : List Int, y_ = (([] : List Int)) := ⟨_, rfl⟩
 replace H : (spec_l05Composed.l0 k l0 y192 (-1) 0) = some r := by first | (rw [hy192]; with_reducible exact H) | (have H2_ := (Option.bind_some _ _).symm.trans H; rw [hy192]; with_reducible exact H2_) | (have H2_ := (Option.bind_some _ _).symm.trans H; with_reducible exact H2_) | with_reducible exact H | (rw [hy192]; exact H) | exact H
 have Ny192 := Aside0.mk hy192
 clear hy192
 have H' := Aside0.mk H
 clear H
 go_enter Tryd.func177, Tryd.ntmps177
 go_wp2_with (first | ((with_reducible refine gate_dst (N := 11) rfl ?_); (try (refine gate_guard (by rfl) ?_; dsimp only)); refine Kd.R_lit (Kd.int .i64) _ 2 ?hg (N := 11) ?hd (xs := ([] : List Int)) (inner := []) (ok := fun _ => True) (okp := fun _ => True) ?hr ?hp (fun _ hk => hk) trivial (Below.refl _ _) (Nat.le_refl _) (by simp) ?_; (case hd => rfl); (case hg => rfl); (case hr => first | (go_simp; done) | (go_simp; rfl)); (case hp => exact (Reps.none _ _)); intro v193 w2 ho3 hb hg_ hnew_; clear hg_ hnew_; (first | rw [← Ny192.out] at ho3 | (simp only [Int.reduceToNat] at ho3; rw [← Ny192.out] at ho3)); have n0_ := Aside0.mk (Kd.R_lower ho3 (below_size (belowA))); have n1_ := Aside0.mk (below_step (belowA) hb); clear HB; have HO194 := n0_; have HB := n1_; clear n0_ n1_; clear hb ho3))
 go_loopg [3, 4, 5] k (fun kq v3 v4 v5 w' => ∃ (x3_1 : List Int) (x4_1 : Int) (x5_1 : Int), v4 = .int .i64 x4_1 ∧ v5 = .int .i64 x5_1 ∧ Aside0 (spec_l05Composed.l0 kq l0 x3_1 x4_1 x5_1 = some r) ∧ Aside0 (kq ≤ k) ∧ Aside0 (Kd.R (Kd.int .i64) 2 w' w.heap.size (fun _ => True) v3 x3_1) ∧ Aside0 (Below w.heap.size w w'))
 case atStart => exact ⟨(y192), ((-1)), (0), (by first | rfl | (simp; done) | (simp [*]; done)), (by first | rfl | (simp; done) | (simp [*]; done)), H', ⟨Nat.le_refl _⟩, ⟨by (with_reducible repeat (first | apply Kd.R_alloc | apply Kd.R_drewN | apply Kd.R_drew)); exact HO194.out⟩, ⟨belowA⟩⟩
 case round =>
  clear H'
  try clear c1; try clear p2
  obtain ⟨x3_1, x4_1, x5_1, rfl, rfl, HA, HK1, HO_3, HB⟩ := hrel
  cases gk with
  | zero => exact absurd HA.out (by simp [spec_l05Composed.l0])
  | succ k1 =>
   have H := HA.out; clear HA; simp only [spec_l05Composed.l0] at H
   by_cases c4 : x5_1 < (l0.length : Int)
   ·rw [if_pos c4] at H
    have c4b0 : decide (x5_1 < (l0.length : Int)) = true := decide_eq_true c4; clear c4
    by_cases c5 : 0 ≤ x5_1
    ·rw [if_pos c5] at H
     have c5b0 : decide (0 ≤ x5_1) = true := decide_eq_true c5; clear c5; replace H := Option.bind_eq_some_iff.mp H; obtain ⟨t196, A60, H⟩ := H
     try dsimp only at H
     have A6 := Aside0.mk A60; clear A60; have H' := Aside0.mk H; clear H; have p195 : 0 ≤ (x5_1 : Int) := ode; have q195 : x5_1 < (l0.length : Int) := ode; obtain ⟨ad195, e195, hx195_0⟩ := Kd.at_int HR0.out x5_1 p195 q195; cases e195; replace hx195_0 := (HB.out.cell (World.block_lt_of_cell? w _ hx195_0)).trans hx195_0; replace p195 := eq_true p195; replace q195 := eq_true q195
     go_wp2_with (first | ((with_reducible refine gate_callee (f := 145) rfl ?_); refine goesL_ (some 23) rfl rfl Tryd.func145 (by kernel_rfl) rfl #[.int .i64 (rd l0 x5_1)] rfl (by (try simp only [List.map_toArray, List.map_cons, List.map_nil]); first | done | rfl) ?_; (with_reducible refine (W_spec_l01Class.calls (rd l0 x5_1) t196 _ A6.out).mono ?_); rintro e w' ⟨rfl, ⟨nd, rfl⟩⟩; refine ⟨_, rfl, ?_⟩))
     go_loopg [8, 9] k1 (fun kq v8 v9 w' => ∃ (x8_2 : Bool) (x9_2 : Int), v8 = .bool x8_2 ∧ v9 = .int .i64 x9_2 ∧ Aside0 (spec_l05Composed.l1 kq l0 x3_1 x4_1 x5_1 (rd l0 x5_1) t196 x8_2 x9_2 = some r) ∧ Aside0 (kq ≤ k1) ∧ Aside0 (Kd.R (Kd.int .i64) 2 w' w.heap.size (fun _ => True) u3 x3_1) ∧ Aside0 (Below w.heap.size w w'))
     case atStart => exact ⟨(decide (x4_1 ≥ 0)), (wrap64 (x4_1 + 1)), (by first | rfl | (simp; done) | (simp [*]; done)), (by first | rfl | (simp; done) | (simp [*]; done)), H', ⟨Nat.le_refl _⟩, ⟨by (with_reducible repeat (first | apply Kd.R_alloc | apply Kd.R_drewN | apply Kd.R_drew)); exact HO_3.out⟩, ⟨belowA⟩⟩
     case round =>
      clear H'
      try clear c1; try clear p1; try clear q1; try clear hx1; try clear p2; try clear c4; try clear c4b0; try clear c5; try clear c5b0; try clear p6; try clear hx195_0; try clear p195; try clear p2; try clear q195
      obtain ⟨x8_2, x9_2, rfl, rfl, HA, HK2, HO_3, HB⟩ := hrel
      cases gk with
      | zero => exact absurd HA.out (by simp [spec_l05Composed.l1])
      | succ k2 =>
       have H := HA.out; clear HA; simp only [spec_l05Composed.l1] at H; have HC7 := Aside0.mk H; clear H
       go_upto_region 10 with (fail)
       go_cut [34] (fun v34 wc => ∃ (kq : Nat) (x34_6 : Bool), v34 = .bool x34_6 ∧ Aside0 (spec_l05Composed.j2 kq l0 x3_1 x4_1 x5_1 (rd l0 x5_1) t196 x8_2 x9_2 x34_6 = some r) ∧ Aside0 (kq ≤ k2) ∧ Aside0 (Kd.R (Kd.int .i64) 2 wc w.heap.size (fun _ => True) u3 x3_1) ∧ Aside0 (Below w.heap.size w wc))
       case first =>
        have H := HC7.out; clear HC7
        by_cases c8 : x8_2 = true
        ·subst c8
         have H1 : (spec_l05Composed.j2 k2 l0 x3_1 x4_1 x5_1 (rd l0 x5_1) t196 true x9_2 (decide (x9_2 < (x3_1.length : Int)))) = some r := by rw [if_pos rfl] at H; exact H
         clear H; have H := H1; clear H1; have H' := Aside0.mk H; clear H; obtain ⟨Ao9, co9, eo9⟩ := Kd.R_slice HO_3.out; subst eo9
         go_wp2
         go_meet
         case rel => exact ⟨_, (decide (x9_2 < (x3_1.length : Int))), (by first | rfl | (simp; done) | (simp [*]; done)), H', ⟨by have := HK1.out; have := HK2.out; first | omega | exact Nat.le_refl _⟩, ⟨by (with_reducible repeat (first | apply Kd.R_alloc | apply Kd.R_drewN | apply Kd.R_drew)); exact HO_3.out⟩, ⟨belowA⟩⟩
        replace c8 := Bool.eq_false_iff.mpr c8; subst c8
        have H1 : (spec_l05Composed.j2 k2 l0 x3_1 x4_1 x5_1 (rd l0 x5_1) t196 false x9_2 false) = some r := by rw [if_neg (show ¬ (false = true) by decide)] at H; exact H
        clear H; have H := H1; clear H1; have H' := Aside0.mk H; clear H
        go_wp2
        go_meet
        case rel => exact ⟨_, (false), (by first | rfl | (simp; done) | (simp [*]; done)), H', ⟨by have := HK1.out; have := HK2.out; first | omega | exact Nat.le_refl _⟩, ⟨by (with_reducible repeat (first | apply Kd.R_alloc | apply Kd.R_drewN | apply Kd.R_drew)); exact HO_3.out⟩, ⟨belowA⟩⟩
       case rest =>
        clear HC7
        try clear c1; try clear p1; try clear q1; try clear hx1; try clear p2; try clear c4; try clear c4b0; try clear c5; try clear c5b0; try clear p6; try clear c8; try clear hx195_0; try clear p1; try clear p195; try clear p2; try clear p6; try clear q1; try clear q195
        obtain ⟨kq, x34_6, rfl, HA, HJ6, HO_3, HB⟩ := hcut
        cases kq with
        | zero => exact absurd HA.out (by simp [spec_l05Composed.j2])
        | succ kj6 =>
         have H := HA.out; clear HA; simp only [spec_l05Composed.j2] at H
         by_cases c10 : x34_6 = true
         ·subst c10
          have H1 : (if 0 ≤ x9_2 then (if x9_2 < (x3_1.length : Int) then ((W_spec_l01Class.f (rd x3_1 x9_2)).bind fun t198 => (if t198 = 0 then (spec_l05Composed.l1 kj6 l0 x3_1 x4_1 x5_1 (rd l0 x5_1) t196 false (wrap64 (x9_2 + 1))) else ((W_spec_l01Class.f (rd x3_1 x9_2)).bind fun t200 => (spec_l05Composed.l1 kj6 l0 x3_1 x4_1 x5_1 (rd l0 x5_1) t196 (decide (t200 < t196)) (wrap64 (x9_2 + 1)))))) else (none)) else (none)) = some r := by rw [if_pos rfl] at H; exact H
          clear H; have H := H1; clear H1
          by_cases c11 : 0 ≤ x9_2
          ·rw [if_pos c11] at H
           have c11b0 : decide (0 ≤ x9_2) = true := decide_eq_true c11; clear c11
           by_cases c12 : x9_2 < (x3_1.length : Int)
           ·rw [if_pos c12] at H
            have c12b0 : decide (x9_2 < (x3_1.length : Int)) = true := decide_eq_true c12; clear c12; replace H := Option.bind_eq_some_iff.mp H; obtain ⟨t198, A130, H⟩ := H
            try dsimp only at H
            have A13 := Aside0.mk A130; clear A130
            by_cases c14 : t198 = 0
            ·rw [if_pos c14] at H
             have c14b0 : (t198 == 0) = true := beq_iff_eq.mpr c14; have c14b1 : (t198 != 0) = false := bne_eq_false_iff_eq.mpr c14; clear c14; have H' := Aside0.mk H; clear H; obtain ⟨Ao15, co15, eo15⟩ := Kd.R_slice HO_3.out; subst eo15; have p197 : 0 ≤ (x9_2 : Int) := ode; have q197 : x9_2 < (x3_1.length : Int) := ode; obtain ⟨ad197, e197, hx197_0⟩ := Kd.at_int (Kd.R_reads' HO_3.out).2.2 x9_2 p197 q197; cases e197; replace p197 := eq_true p197; replace q197 := eq_true q197
             go_wp2_with (first | ((with_reducible refine gate_callee (f := 145) rfl ?_); refine goesL_ (some 41) rfl rfl Tryd.func145 (by kernel_rfl) rfl #[.int .i64 (rd x3_1 x9_2)] rfl (by (try simp only [List.map_toArray, List.map_cons, List.map_nil]); first | done | rfl) ?_; (with_reducible refine (W_spec_l01Class.calls (rd x3_1 x9_2) t198 _ A13.out).mono ?_); rintro e w' ⟨rfl, ⟨nd, rfl⟩⟩; refine ⟨_, rfl, ?_⟩))
             go_roundg kj6
             case measure => have := HK1.out; have := HK2.out; have := HJ6.out; omega
             case rel => exact ⟨(false), (wrap64 (x9_2 + 1)), (by first | rfl | (simp; done) | (simp [*]; done)), (by first | rfl | (simp; done) | (simp [*]; done)), H', ⟨by have := HK1.out; have := HK2.out; have := HJ6.out; omega⟩, ⟨by (with_reducible repeat (first | apply Kd.R_alloc | apply Kd.R_drewN | apply Kd.R_drew)); exact HO_3.out⟩, ⟨belowA⟩⟩
            rw [if_neg c14] at H; have c14b0 : (t198 == 0) = false := beq_eq_false_iff_ne.mpr c14; have c14b1 : (t198 != 0) = true := bne_iff_ne.mpr c14; replace H := Option.bind_eq_some_iff.mp H; obtain ⟨t200, A160, H⟩ := H
            try dsimp only at H
            have A16 := Aside0.mk A160; clear A160; have H' := Aside0.mk H; clear H; obtain ⟨Ao17, co17, eo17⟩ := Kd.R_slice HO_3.out; subst eo17; have p197 : 0 ≤ (x9_2 : Int) := ode; have q197 : x9_2 < (x3_1.length : Int) := ode; obtain ⟨ad197, e197, hx197_0⟩ := Kd.at_int (Kd.R_reads' HO_3.out).2.2 x9_2 p197 q197; cases e197; replace p197 := eq_true p197; replace q197 := eq_true q197
            go_wp2_with (first | ((with_reducible refine gate_callee (f := 145) rfl ?_); refine goesL_ (some 41) rfl rfl Tryd.func145 (by kernel_rfl) rfl #[.int .i64 (rd x3_1 x9_2)] rfl (by (try simp only [List.map_toArray, List.map_cons, List.map_nil]); first | done | rfl) ?_; (with_reducible refine (W_spec_l01Class.calls (rd x3_1 x9_2) t198 _ A13.out).mono ?_); rintro e w' ⟨rfl, ⟨nd, rfl⟩⟩; refine ⟨_, rfl, ?_⟩; have p199 : 0 ≤ (x9_2 : Int) := ode; have q199 : x9_2 < (x3_1.length : Int) := ode; obtain ⟨ad199, e199, hx199_0⟩ := Kd.at_int (Kd.R_reads' HO_3.out).2.2 x9_2 p199 q199; obtain rfl : ad197 = ad199 := (by injection e199); replace p199 := eq_true p199; replace q199 := eq_true q199) | (go_at_call 145; (with_reducible refine (W_spec_l01Class.calls (rd x3_1 x9_2) t200 _ A16.out).mono ?_); rintro e w' ⟨rfl, ⟨nd, rfl⟩⟩))
            go_roundg kj6
            case measure => have := HK1.out; have := HK2.out; have := HJ6.out; omega
            case rel => exact ⟨(decide (t200 < t196)), (wrap64 (x9_2 + 1)), (by first | rfl | (simp; done) | (simp [*]; done)), (by first | rfl | (simp; done) | (simp [*]; done)), H', ⟨by have := HK1.out; have := HK2.out; have := HJ6.out; omega⟩, ⟨by (with_reducible repeat (first | apply Kd.R_alloc | apply Kd.R_drewN | apply Kd.R_drew)); exact HO_3.out⟩, ⟨belowA⟩⟩
           rw [if_neg c12] at H
           exact absurd H (by simp)
          rw [if_neg c11] at H
          exact absurd H (by simp)
         replace c10 := Bool.eq_false_iff.mpr c10; subst c10
         have H1 : (if x8_2 = true then (if 0 ≤ x4_1 then (if x4_1 < (x3_1.length : Int) then ((W_spec_l05Pair.f (rd x3_1 x4_1) (rd l0 x5_1)).bind fun t202 => (if t202 ≥ 0 then (spec_l05Composed.l0 kj6 l0 (x3_1.set (x4_1 : Int).toNat t202) x4_1 (wrap64 (x5_1 + 1))) else (if x3_1.length < 17592186044416 then ((some (x3_1 ++ [(rd l0 x5_1)] : List Int)).bind fun y204 => (if t196 = 0 then (spec_l05Composed.l0 kj6 l0 y204 (wrap64 ((y204.length : Int) - 1)) (wrap64 (x5_1 + 1))) else (spec_l05Composed.l0 kj6 l0 y204 x4_1 (wrap64 (x5_1 + 1))))) else (none)))) else (none)) else (none)) else (if x3_1.length < 17592186044416 then ((some (x3_1 ++ [(rd l0 x5_1)] : List Int)).bind fun y207 => (if t196 = 0 then (spec_l05Composed.l0 kj6 l0 y207 (wrap64 ((y207.length : Int) - 1)) (wrap64 (x5_1 + 1))) else (spec_l05Composed.l0 kj6 l0 y207 x4_1 (wrap64 (x5_1 + 1))))) else (none))) = some r := by rw [if_neg (show ¬ (false = true) by decide)] at H; exact H
         clear H; have H := H1; clear H1
         by_cases c18 : x8_2 = true
         ·subst c18
          have H1 : (if 0 ≤ x4_1 then (if x4_1 < (x3_1.length : Int) then ((W_spec_l05Pair.f (rd x3_1 x4_1) (rd l0 x5_1)).bind fun t202 => (if t202 ≥ 0 then (spec_l05Composed.l0 kj6 l0 (x3_1.set (x4_1 : Int).toNat t202) x4_1 (wrap64 (x5_1 + 1))) else (if x3_1.length < 17592186044416 then ((some (x3_1 ++ [(rd l0 x5_1)] : List Int)).bind fun y204 => (if t196 = 0 then (spec_l05Composed.l0 kj6 l0 y204 (wrap64 ((y204.length : Int) - 1)) (wrap64 (x5_1 + 1))) else (spec_l05Composed.l0 kj6 l0 y204 x4_1 (wrap64 (x5_1 + 1))))) else (none)))) else (none)) else (none)) = some r := by rw [if_pos rfl] at H; exact H
          clear H; have H := H1; clear H1
          by_cases c19 : 0 ≤ x4_1
          ·rw [if_pos c19] at H
           have c19b0 : decide (0 ≤ x4_1) = true := decide_eq_true c19; clear c19
           by_cases c20 : x4_1 < (x3_1.length : Int)
           ·rw [if_pos c20] at H
            have c20b0 : decide (x4_1 < (x3_1.length : Int)) = true := decide_eq_true c20; clear c20; replace H := Option.bind_eq_some_iff.mp H; obtain ⟨t202, A210, H⟩ := H
            try dsimp only at H
            have A21 := Aside0.mk A210; clear A210
            by_cases c22 : t202 ≥ 0
            ·rw [if_pos c22] at H
             have c22b0 : decide (0 ≤ t202) = true := decide_eq_true c22; clear c22; obtain ⟨y203, hy203⟩ : ∃ y_ : List Int, y_ = (x3_1.set (x4_1 : Int).toNat t202) := ⟨_, rfl⟩
             replace H : (spec_l05Composed.l0 kj6 l0 y203 x4_1 (wrap64 (x5_1 + 1))) = some r := by first | (rw [hy203]; with_reducible exact H) | (have H2_ := (Option.bind_some _ _).symm.trans H; rw [hy203]; with_reducible exact H2_) | (have H2_ := (Option.bind_some _ _).symm.trans H; with_reducible exact H2_) | with_reducible exact H | (rw [hy203]; exact H) | exact H
             have Ny203 := Aside0.mk hy203; clear hy203; have H' := Aside0.mk H; clear H; obtain ⟨Ao24, co24, eo24⟩ := Kd.R_slice HO_3.out; subst eo24; have p201 : 0 ≤ (x4_1 : Int) := ode; have q201 : x4_1 < (x3_1.length : Int) := ode; obtain ⟨ad201, e201, hx201_0⟩ := Kd.at_int (Kd.R_reads' HO_3.out).2.2 x4_1 p201 q201; cases e201; replace p201 := eq_true p201; replace q201 := eq_true q201
             go_wp2_with (first | ((with_reducible refine gate_callee (f := 224) rfl ?_); refine goesL_ (some 58) rfl rfl Tryd.func224 (by kernel_rfl) rfl #[.int .i64 (rd x3_1 x4_1), .int .i64 (rd l0 x5_1)] rfl (by (try simp only [List.map_toArray, List.map_cons, List.map_nil]); first | done | rfl) ?_; (with_reducible refine (W_spec_l05Pair.calls (rd x3_1 x4_1) (rd l0 x5_1) t202 _ A21.out).mono ?_); rintro e w' ⟨rfl, ⟨nd, rfl⟩⟩; refine ⟨_, rfl, ?_⟩; (try (rw [drewN_self wc]; generalize hq_ : World.drewN wc _ = wc; have n0_ : Aside0 (Kd.R (Kd.int .i64) 2 wc w.heap.size (fun _ => True) (.slice (some ad201) x3_1.length co24) x3_1) := ⟨by rw [← hq_]; exact (by (with_reducible repeat (first | apply Kd.R_alloc | apply Kd.R_drewN | apply Kd.R_drew)); exact HO_3.out)⟩; have n1_ : Aside0 (Below w.heap.size w wc) := ⟨by rw [← hq_]; exact (belowA)⟩; clear HO_3 HB hq_; have HO_3 := n0_; have HB := n1_; clear n0_ n1_)); have p23 : 0 ≤ (x4_1 : Int) := ode; have q23 : (x4_1 : Int) < ((x3_1.length : Int) : Int) := ode; obtain ⟨go23, co23, eo23, gb23, gl23, cl23, HG23⟩ := Kd.R_form HO_3.out (by omega); (first | cases eo23 | (injection eo23 with ea_ en_ ec_; (first | subst ea_ | (injection ea_ with ea_; subst ea_)); subst ec_; clear en_)); have GB23 := Aside0.mk gb23; have GG23 := Aside0.mk HG23; clear gb23 gl23 HG23; (first | simp only [add_plain] at hx201_0 | skip); obtain ⟨hx23_0, hf23_0⟩ := Kd.R_celln 0 HO_3.out (x4_1 : Int) p23 q23; replace p23 := eq_true p23; replace q23 := eq_true q23; obtain ⟨hy25_, hz25_⟩ := Kd.R_celln 0 HO_3.out (x4_1 : Int) (ode) (ode); have HP25 := Kd.R_putg HO_3.out (x4_1 : Int) t202) | ((with_reducible refine gate_store (t := 2) (p := 64) rfl ?_); refine store_event (t := 2) (p := 64) (v := ?vo_w26) (w1 := (wc.setCell ⟨go23, (x4_1 : Int).toNat, none⟩ (.int .i64 t202))) ?hg ?ho ?hn ?hr ?_; (case ho => rfl); (case hg => rfl); (case hn => rfl); (case hr => first | (go_simp; done) | (go_simp; rfl)); intro w26 hw; have hg : wc.grownBy w26 (some go23) := (by rw [hw]; exact HP25.2); have hp_ : Kd.R (Kd.int .i64) 2 w26 w.heap.size (fun _ => True) (.slice (some ⟨go23, 0, none⟩) x3_1.length co24) y203 := (by rw [hw, Ny203.out]; exact HP25.1); clear HP25; have n0_ := Aside0.mk (hp_); have n1_ := Aside0.mk ((by rw [hw]; exact below_set (HB.out) GB23.out : Below w.heap.size w w26)); clear HO_3; clear HB; have HO_3 := n0_; have HB := n1_; clear n0_ n1_; clear hg hw hp_))
             go_roundg kj6
             case measure => have := HK1.out; have := HK2.out; have := HJ6.out; omega
             case rel => exact ⟨(y203), (x4_1), (wrap64 (x5_1 + 1)), (by first | rfl | (simp; done) | (simp [*]; done)), (by first | rfl | (simp; done) | (simp [*]; done)), H', ⟨by have := HK1.out; have := HK2.out; have := HJ6.out; omega⟩, ⟨by (with_reducible repeat (first | apply Kd.R_alloc | apply Kd.R_drewN | apply Kd.R_drew)); exact HO_3.out⟩, ⟨belowA⟩⟩
            rw [if_neg c22] at H; have c22b0 : decide (0 ≤ t202) = false := decide_eq_false c22; clear c22
            by_cases c27 : x3_1.length < 17592186044416
            ·rw [if_pos c27] at H
             have LMc27 := Aside0.mk c27; clear c27; obtain ⟨y204, hy204⟩ : ∃ y_ : List Int, y_ = (x3_1 ++ [(rd l0 x5_1)]) := ⟨_, rfl⟩
             replace H : (if t196 = 0 then (spec_l05Composed.l0 kj6 l0 y204 (wrap64 ((y204.length : Int) - 1)) (wrap64 (x5_1 + 1))) else (spec_l05Composed.l0 kj6 l0 y204 x4_1 (wrap64 (x5_1 + 1)))) = some r := by first | (rw [hy204]; with_reducible exact H) | (have H2_ := (Option.bind_some _ _).symm.trans H; rw [hy204]; with_reducible exact H2_) | (have H2_ := (Option.bind_some _ _).symm.trans H; with_reducible exact H2_) | with_reducible exact H | (rw [hy204]; exact H) | exact H
             have Ny204 := Aside0.mk hy204; clear hy204
             by_cases c28 : t196 = 0
             ·rw [if_pos c28] at H
              have c28b0 : (t196 == 0) = true := beq_iff_eq.mpr c28; have c28b1 : (t196 != 0) = false := bne_eq_false_iff_eq.mpr c28; clear c28; have H' := Aside0.mk H; clear H; obtain ⟨Ao29, co29, eo29⟩ := Kd.R_slice HO_3.out; subst eo29; have p201 : 0 ≤ (x4_1 : Int) := ode; have q201 : x4_1 < (x3_1.length : Int) := ode; obtain ⟨ad201, e201, hx201_0⟩ := Kd.at_int (Kd.R_reads' HO_3.out).2.2 x4_1 p201 q201; cases e201; replace p201 := eq_true p201; replace q201 := eq_true q201
              go_wp2_with (first | ((with_reducible refine gate_callee (f := 224) rfl ?_); refine goesL_ (some 58) rfl rfl Tryd.func224 (by kernel_rfl) rfl #[.int .i64 (rd x3_1 x4_1), .int .i64 (rd l0 x5_1)] rfl (by (try simp only [List.map_toArray, List.map_cons, List.map_nil]); first | done | rfl) ?_; (with_reducible refine (W_spec_l05Pair.calls (rd x3_1 x4_1) (rd l0 x5_1) t202 _ A21.out).mono ?_); rintro e w' ⟨rfl, ⟨nd, rfl⟩⟩; refine ⟨_, rfl, ?_⟩) | ((with_reducible refine gate_builtin (b := .append) (xs := #[.tmp 65, .tmp 67]) rfl ?_); (try (refine gate_guard (by rfl) ?_; dsimp only)); at_builtin; refine Kd.R_append (Kd.int .i64) (w0 := w) w.heap.size rfl (.tmp 65) (.tmp 67) 28 2 (.int .i64 0) 8 rfl Tryd.underlying28 info2 rfl (by decide) (by omega) (.slice (some ad201) x3_1.length co29) x3_1 (rd l0 x5_1) [.int .i64 (rd l0 x5_1)] (fun _ => True) (fun _ => False) rfl rfl ?aP (fun _ hk => hk.elim) ?aF ?aO ?aB ?aS ?aL ?_; (case aP => exact rfl); (case aB => exact (belowA)); (case aF => exact (fun _ _ => trivial)); (case aO => exact (by (with_reducible repeat (first | apply Kd.R_alloc | apply Kd.R_drewN | apply Kd.R_drew)); exact HO_3.out)); (case aS => exact (below_size (belowA))); (case aL => have := LMc27.out; omega); intro v205 w30 ho hb hg hat; rw [← Ny204.out] at ho; have n0_ := Aside0.mk (hb); have n1_ := Aside0.mk (ho); clear HB; clear HO_3; have HB := n0_; have HO206 := n1_; clear n0_ n1_; clear ho hb hg hat; obtain ⟨Ao31, co31, eo31⟩ := Kd.R_slice HO206.out; subst eo31))
              go_roundg kj6
              case measure => have := HK1.out; have := HK2.out; have := HJ6.out; omega
              case rel => exact ⟨(y204), (wrap64 ((y204.length : Int) - 1)), (wrap64 (x5_1 + 1)), (by first | rfl | (simp; done) | (simp [*]; done)), (by first | rfl | (simp; done) | (simp [*]; done)), H', ⟨by have := HK1.out; have := HK2.out; have := HJ6.out; omega⟩, ⟨by (with_reducible repeat (first | apply Kd.R_alloc | apply Kd.R_drewN | apply Kd.R_drew)); exact HO206.out⟩, ⟨belowA⟩⟩
             rw [if_neg c28] at H; have c28b0 : (t196 == 0) = false := beq_eq_false_iff_ne.mpr c28; have c28b1 : (t196 != 0) = true := bne_iff_ne.mpr c28; have H' := Aside0.mk H; clear H; obtain ⟨Ao32, co32, eo32⟩ := Kd.R_slice HO_3.out; subst eo32; have p201 : 0 ≤ (x4_1 : Int) := ode; have q201 : x4_1 < (x3_1.length : Int) := ode; obtain ⟨ad201, e201, hx201_0⟩ := Kd.at_int (Kd.R_reads' HO_3.out).2.2 x4_1 p201 q201; cases e201; replace p201 := eq_true p201; replace q201 := eq_true q201
             go_wp2_with (first | ((with_reducible refine gate_callee (f := 224) rfl ?_); refine goesL_ (some 58) rfl rfl Tryd.func224 (by kernel_rfl) rfl #[.int .i64 (rd x3_1 x4_1), .int .i64 (rd l0 x5_1)] rfl (by (try simp only [List.map_toArray, List.map_cons, List.map_nil]); first | done | rfl) ?_; (with_reducible refine (W_spec_l05Pair.calls (rd x3_1 x4_1) (rd l0 x5_1) t202 _ A21.out).mono ?_); rintro e w' ⟨rfl, ⟨nd, rfl⟩⟩; refine ⟨_, rfl, ?_⟩) | ((with_reducible refine gate_builtin (b := .append) (xs := #[.tmp 65, .tmp 67]) rfl ?_); (try (refine gate_guard (by rfl) ?_; dsimp only)); at_builtin; refine Kd.R_append (Kd.int .i64) (w0 := w) w.heap.size rfl (.tmp 65) (.tmp 67) 28 2 (.int .i64 0) 8 rfl Tryd.underlying28 info2 rfl (by decide) (by omega) (.slice (some ad201) x3_1.length co32) x3_1 (rd l0 x5_1) [.int .i64 (rd l0 x5_1)] (fun _ => True) (fun _ => False) rfl rfl ?aP (fun _ hk => hk.elim) ?aF ?aO ?aB ?aS ?aL ?_; (case aP => exact rfl); (case aB => exact (belowA)); (case aF => exact (fun _ _ => trivial)); (case aO => exact (by (with_reducible repeat (first | apply Kd.R_alloc | apply Kd.R_drewN | apply Kd.R_drew)); exact HO_3.out)); (case aS => exact (below_size (belowA))); (case aL => have := LMc27.out; omega); intro v205 w33 ho hb hg hat; rw [← Ny204.out] at ho; have n0_ := Aside0.mk (hb); have n1_ := Aside0.mk (ho); clear HB; clear HO_3; have HB := n0_; have HO206 := n1_; clear n0_ n1_; clear ho hb hg hat))
             go_roundg kj6
             case measure => have := HK1.out; have := HK2.out; have := HJ6.out; omega
             case rel => exact ⟨(y204), (x4_1), (wrap64 (x5_1 + 1)), (by first | rfl | (simp; done) | (simp [*]; done)), (by first | rfl | (simp; done) | (simp [*]; done)), H', ⟨by have := HK1.out; have := HK2.out; have := HJ6.out; omega⟩, ⟨by (with_reducible repeat (first | apply Kd.R_alloc | apply Kd.R_drewN | apply Kd.R_drew)); exact HO206.out⟩, ⟨belowA⟩⟩
            rw [if_neg c27] at H
            exact absurd H (by simp)
           rw [if_neg c20] at H
           exact absurd H (by simp)
          rw [if_neg c19] at H
          exact absurd H (by simp)
         replace c18 := Bool.eq_false_iff.mpr c18; subst c18
         have H1 : (if x3_1.length < 17592186044416 then ((some (x3_1 ++ [(rd l0 x5_1)] : List Int)).bind fun y207 => (if t196 = 0 then (spec_l05Composed.l0 kj6 l0 y207 (wrap64 ((y207.length : Int) - 1)) (wrap64 (x5_1 + 1))) else (spec_l05Composed.l0 kj6 l0 y207 x4_1 (wrap64 (x5_1 + 1))))) else (none)) = some r := by rw [if_neg (show ¬ (false = true) by decide)] at H; exact H
         clear H; have H := H1; clear H1
         by_cases c34 : x3_1.length < 17592186044416
         ·rw [if_pos c34] at H
          have LMc34 := Aside0.mk c34; clear c34; obtain ⟨y207, hy207⟩ : ∃ y_ : List Int, y_ = (x3_1 ++ [(rd l0 x5_1)]) := ⟨_, rfl⟩
          replace H : (if t196 = 0 then (spec_l05Composed.l0 kj6 l0 y207 (wrap64 ((y207.length : Int) - 1)) (wrap64 (x5_1 + 1))) else (spec_l05Composed.l0 kj6 l0 y207 x4_1 (wrap64 (x5_1 + 1)))) = some r := by first | (rw [hy207]; with_reducible exact H) | (have H2_ := (Option.bind_some _ _).symm.trans H; rw [hy207]; with_reducible exact H2_) | (have H2_ := (Option.bind_some _ _).symm.trans H; with_reducible exact H2_) | with_reducible exact H | (rw [hy207]; exact H) | exact H
          have Ny207 := Aside0.mk hy207; clear hy207
          by_cases c35 : t196 = 0
          ·rw [if_pos c35] at H
           have c35b0 : (t196 == 0) = true := beq_iff_eq.mpr c35; have c35b1 : (t196 != 0) = false := bne_eq_false_iff_eq.mpr c35; clear c35; have H' := Aside0.mk H; clear H
           go_wp2_with (first | ((with_reducible refine gate_builtin (b := .append) (xs := #[.tmp 65, .tmp 67]) rfl ?_); (try (refine gate_guard (by rfl) ?_; dsimp only)); at_builtin; refine Kd.R_append (Kd.int .i64) (w0 := w) w.heap.size rfl (.tmp 65) (.tmp 67) 28 2 (.int .i64 0) 8 rfl Tryd.underlying28 info2 rfl (by decide) (by omega) u3 x3_1 (rd l0 x5_1) [.int .i64 (rd l0 x5_1)] (fun _ => True) (fun _ => False) rfl rfl ?aP (fun _ hk => hk.elim) ?aF ?aO ?aB ?aS ?aL ?_; (case aP => exact rfl); (case aB => exact (belowA)); (case aF => exact (fun _ _ => trivial)); (case aO => exact (by (with_reducible repeat (first | apply Kd.R_alloc | apply Kd.R_drewN | apply Kd.R_drew)); exact HO_3.out)); (case aS => exact (below_size (belowA))); (case aL => have := LMc34.out; omega); intro v208 w36 ho hb hg hat; rw [← Ny207.out] at ho; have n0_ := Aside0.mk (hb); have n1_ := Aside0.mk (ho); clear HB; clear HO_3; have HB := n0_; have HO209 := n1_; clear n0_ n1_; clear ho hb hg hat; obtain ⟨Ao37, co37, eo37⟩ := Kd.R_slice HO209.out; subst eo37))
           go_roundg kj6
           case measure => have := HK1.out; have := HK2.out; have := HJ6.out; omega
           case rel => exact ⟨(y207), (wrap64 ((y207.length : Int) - 1)), (wrap64 (x5_1 + 1)), (by first | rfl | (simp; done) | (simp [*]; done)), (by first | rfl | (simp; done) | (simp [*]; done)), H', ⟨by have := HK1.out; have := HK2.out; have := HJ6.out; omega⟩, ⟨by (with_reducible repeat (first | apply Kd.R_alloc | apply Kd.R_drewN | apply Kd.R_drew)); exact HO209.out⟩, ⟨belowA⟩⟩
          rw [if_neg c35] at H; have c35b0 : (t196 == 0) = false := beq_eq_false_iff_ne.mpr c35; have c35b1 : (t196 != 0) = true := bne_iff_ne.mpr c35; have H' := Aside0.mk H; clear H
          go_wp2_with (first | ((with_reducible refine gate_builtin (b := .append) (xs := #[.tmp 65, .tmp 67]) rfl ?_); (try (refine gate_guard (by rfl) ?_; dsimp only)); at_builtin; refine Kd.R_append (Kd.int .i64) (w0 := w) w.heap.size rfl (.tmp 65) (.tmp 67) 28 2 (.int .i64 0) 8 rfl Tryd.underlying28 info2 rfl (by decide) (by omega) u3 x3_1 (rd l0 x5_1) [.int .i64 (rd l0 x5_1)] (fun _ => True) (fun _ => False) rfl rfl ?aP (fun _ hk => hk.elim) ?aF ?aO ?aB ?aS ?aL ?_; (case aP => exact rfl); (case aB => exact (belowA)); (case aF => exact (fun _ _ => trivial)); (case aO => exact (by (with_reducible repeat (first | apply Kd.R_alloc | apply Kd.R_drewN | apply Kd.R_drew)); exact HO_3.out)); (case aS => exact (below_size (belowA))); (case aL => have := LMc34.out; omega); intro v208 w38 ho hb hg hat; rw [← Ny207.out] at ho; have n0_ := Aside0.mk (hb); have n1_ := Aside0.mk (ho); clear HB; clear HO_3; have HB := n0_; have HO209 := n1_; clear n0_ n1_; clear ho hb hg hat))
          go_roundg kj6
          case measure => have := HK1.out; have := HK2.out; have := HJ6.out; omega
          case rel => exact ⟨(y207), (x4_1), (wrap64 (x5_1 + 1)), (by first | rfl | (simp; done) | (simp [*]; done)), (by first | rfl | (simp; done) | (simp [*]; done)), H', ⟨by have := HK1.out; have := HK2.out; have := HJ6.out; omega⟩, ⟨by (with_reducible repeat (first | apply Kd.R_alloc | apply Kd.R_drewN | apply Kd.R_drew)); exact HO209.out⟩, ⟨belowA⟩⟩
         rw [if_neg c34] at H
         exact absurd H (by simp)
    rw [if_neg c5] at H
    exact absurd H (by simp)
   rw [if_neg c4] at H; have c4b0 : decide (x5_1 < (l0.length : Int)) = false := decide_eq_false c4; clear c4; obtain rfl := Option.some.inj H
   go_wp2
   go_ret
   exact ⟨_, by first | rfl | (simp [errW_none, errW_some] <;> rfl) | (simp [*, errW_none, errW_some] <;> rfl), by (with_reducible repeat (first | apply Kd.R_alloc | apply Kd.R_drewN | apply Kd.R_drew)); exact HO_3.out, belowA⟩

def W_spec_l05Composed.f (l0 : List Int) : Option (List Int) := if l0.length ≤ 1099511627776 ∧ (∀ p ∈ l0, 0 ≤ p ∧ p ≤ 1114111) then some (YtiabgmddnddeiaaDoorNrm.cmp0 l0) else none
theorem spec_l05Composed.get (A : List Int) (x : Int) (B : List Int) : rd (A ++ x :: B) (A.length : Int) = x := by simp [rd, List.getD]
theorem spec_l05Composed.cls_ {x : Int} (h : 0 ≤ x ∧ x ≤ 1114111) : W_spec_l01Class.f x = some (YtiabgmddnddeiaaDoorNrm.cls x) := if_pos (by omega)
/-- the test whether the starter is free -/
theorem spec_l05Composed.free_ (O : List Int) (C : List Int) (st i q kq : Int) (R : List Int) (hkq : kq = YtiabgmddnddeiaaDoorNrm.cls q) (hn : C.length ≤ 1099511627776) (hC : ∀ p ∈ C, 0 ≤ p ∧ p ≤ 1114111) :
    ∀ (d : Nat) (T2 T1 : List Int) (b : Bool), T2.length = d → C = T1 ++ T2 → (∃ K, ∀ x9, spec_l05Composed.j2 K O C st i q kq (b && decide (YtiabgmddnddeiaaDoorNrm.free T2 q)) x9 false = some R) → ∃ K, spec_l05Composed.l1 K O C st i q kq b (T1.length : Int) = some R := by
  intro d
  induction d with
  | zero =>
    intro T2 T1 b h1 h2 hK
    obtain rfl : T2 = [] := List.eq_nil_of_length_eq_zero h1
    obtain ⟨K, hK⟩ := hK
    have e : (b && decide (YtiabgmddnddeiaaDoorNrm.free [] q)) = b := by
      rw [decide_eq_true (show YtiabgmddnddeiaaDoorNrm.free [] q from fun z hz => by cases hz), Bool.and_true]
    rw [e] at hK
    rw [List.append_nil] at h2
    refine ⟨K + 1, ?_⟩
    simp only [spec_l05Composed.l1]
    cases b with
    | true => rw [if_pos rfl, decide_eq_false (by rw [h2]; omega)]; exact hK _
    | false => rw [if_neg (by decide)]; exact hK _
  | succ d ih =>
    intro T2 T1 b h1 h2 hK
    cases b with
    | false =>
      obtain ⟨K, hK⟩ := hK
      rw [Bool.false_and] at hK
      refine ⟨K + 1, ?_⟩
      simp only [spec_l05Composed.l1]
      rw [if_neg (by decide)]
      exact hK _
    | true =>
      cases T2 with
      | nil => cases h1
      | cons x T2 =>
        have hx := hC x (by rw [h2]; simp)
        have hl : C.length = T1.length + 1 + T2.length := by rw [h2]; simp only [List.length_append, List.length_cons]; omega
        have hw : wrap64 ((T1.length : Int) + 1) = ((T1 ++ [x]).length : Int) := by rw [List.length_append, List.length_singleton]; unfold wrap64; omega
        have hr : rd C (T1.length : Int) = x := by rw [h2]; exact spec_l05Composed.get _ _ _
        have ex : ∃ K, spec_l05Composed.l1 K O C st i q kq (decide (YtiabgmddnddeiaaDoorNrm.cls x ≠ 0 ∧ YtiabgmddnddeiaaDoorNrm.cls x < YtiabgmddnddeiaaDoorNrm.cls q)) ((T1 ++ [x]).length : Int) = some R := by
          refine ih T2 (T1 ++ [x]) _ (by simpa using h1) (by rw [h2]; simp) ?_
          obtain ⟨K, hK⟩ := hK
          refine ⟨K, fun x9 => ?_⟩
          rw [← hK x9]
          congr 1
          rw [Bool.true_and, ← Bool.decide_and]
          apply decide_eq_decide.mpr
          unfold YtiabgmddnddeiaaDoorNrm.free
          constructor
          · rintro ⟨h3, h4⟩ z hz
            rcases List.mem_cons.1 hz with rfl | hz
            · exact h3
            · exact h4 z hz
          · intro h3
            exact ⟨h3 x (by simp), fun z hz => h3 z (by simp [hz])⟩
        obtain ⟨K, hK2⟩ := ex
        refine ⟨K + 2, ?_⟩
        simp only [spec_l05Composed.l1]
        rw [if_pos trivial, decide_eq_true (by rw [hl]; omega)]
        simp only [spec_l05Composed.j2]
        rw [if_pos trivial, if_pos (by omega), if_pos (by rw [hl]; omega), hr, spec_l05Composed.cls_ hx]
        simp only [Option.bind_some]
        by_cases c : YtiabgmddnddeiaaDoorNrm.cls x = 0
        · rw [if_pos c, hw]
          rw [decide_eq_false (fun z => z.1 c)] at hK2
          exact hK2
        · rw [if_neg c, hw, hkq]
          have e : decide (YtiabgmddnddeiaaDoorNrm.cls x ≠ 0 ∧ YtiabgmddnddeiaaDoorNrm.cls x < YtiabgmddnddeiaaDoorNrm.cls q) = decide (YtiabgmddnddeiaaDoorNrm.cls x < YtiabgmddnddeiaaDoorNrm.cls q) := by
            apply decide_eq_decide.mpr
            exact ⟨fun z => z.2, fun z => ⟨c, z⟩⟩
          rw [e] at hK2
          rw [hkq] at hK2
          exact hK2
theorem spec_l05Composed.free2 (O C : List Int) (st i q kq : Int) (R : List Int) (hkq : kq = YtiabgmddnddeiaaDoorNrm.cls q) (hn : C.length ≤ 1099511627776) (hC : ∀ p ∈ C, 0 ≤ p ∧ p ≤ 1114111) (T2 T1 : List Int) (b : Bool) (h2 : C = T1 ++ T2) (hb : T2 = [] ∨ True) (hK : ∃ K, ∀ x9, spec_l05Composed.j2 K O C st i q kq (b && decide (YtiabgmddnddeiaaDoorNrm.free T2 q)) x9 false = some R) :
    ∃ K, spec_l05Composed.l1 K O C st i q kq b (T1.length : Int) = some R := spec_l05Composed.free_ O C st i q kq R hkq hn hC T2.length T2 T1 b rfl h2 hK
theorem spec_l05Composed.run (O : List Int) (hn : O.length ≤ 1099511627776) (hO : ∀ p ∈ O, 0 ≤ p ∧ p ≤ 1114111) (R : List Int) : ∀ (d i : Nat) (C : List Int) (st : Int), i + d = O.length → C.length ≤ i → (∀ p ∈ C, 0 ≤ p ∧ p ≤ 1114111) →
    ((st = -1 ∧ R = C ++ YtiabgmddnddeiaaDoorNrm.cmp0 (O.drop i)) ∨ ∃ pre s tail, st = (pre.length : Int) ∧ C = pre ++ s :: tail ∧ R = pre ++ YtiabgmddnddeiaaDoorNrm.cmp1 s tail (O.drop i)) →
    ∃ K, spec_l05Composed.l0 K O C st (i : Int) = some R := by
  intro d
  induction d with
  | zero =>
    intro i C st hi hc hC hS
    refine ⟨1, ?_⟩
    simp only [spec_l05Composed.l0]
    rw [if_neg (by omega)]
    have e : O.drop i = [] := List.drop_eq_nil_of_le (by omega)
    rw [e] at hS
    rcases hS with ⟨_, h⟩ | ⟨pre, s, tail, _, h1, h2⟩
    · rw [h]; show some C = some (C ++ []); rw [List.append_nil]
    · rw [h2, h1, YtiabgmddnddeiaaDoorNrm.cmp1]
  | succ d ih =>
    intro i C st hi hc hC hS
    have hlt : i < O.length := by omega
    have hdrop : O.drop i = O[i] :: O.drop (i + 1) := List.drop_eq_getElem_cons hlt
    have hr : rd O (i : Int) = O[i] := by simp [rd, List.getD, hlt]
    have hq := hO O[i] (List.getElem_mem hlt)
    obtain ⟨q, hqe⟩ : ∃ q, O[i] = q := ⟨_, rfl⟩
    rw [hqe] at hdrop hr hq
    have hw : wrap64 ((i : Int) + 1) = ((i + 1 : Nat) : Int) := by unfold wrap64; omega
    have hC1 : ∀ p ∈ C ++ [q], 0 ≤ p ∧ p ≤ 1114111 := fun p hp => by
      rcases List.mem_append.1 hp with hp | hp
      · exact hC p hp
      · rw [List.mem_singleton.1 hp]; exact hq
    have hl1 : wrap64 (((C ++ [q]).length : Int) - 1) = (C.length : Int) := by rw [List.length_append, List.length_singleton]; unfold wrap64; omega
    -- the point is put behind
    have app : ∀ (x9 : Int) (K : Nat), spec_l05Composed.j2 (K + 1) O C st (i : Int) q (YtiabgmddnddeiaaDoorNrm.cls q) false x9 false = if YtiabgmddnddeiaaDoorNrm.cls q = 0 then spec_l05Composed.l0 K O (C ++ [q]) (C.length : Int) ((i + 1 : Nat) : Int) else spec_l05Composed.l0 K O (C ++ [q]) st ((i + 1 : Nat) : Int) := by
      intro x9 K
      simp only [spec_l05Composed.j2]
      rw [if_neg (by decide), if_neg (by decide), if_pos (by omega)]
      try simp only [Option.bind_some]
      rw [hl1, hw]
    rw [hdrop] at hS
    rcases hS with ⟨rfl, hR⟩ | ⟨pre, s, tail, rfl, hCC, hR⟩
    · have ex : ∃ K, ∀ x9, spec_l05Composed.j2 K O C (-1) (i : Int) q (YtiabgmddnddeiaaDoorNrm.cls q) false x9 false = some R := by
        by_cases k0 : YtiabgmddnddeiaaDoorNrm.cls q = 0
        · obtain ⟨K, hK⟩ := ih (i + 1) (C ++ [q]) (C.length : Int) (by omega) (by rw [List.length_append, List.length_singleton]; omega) hC1 (.inr ⟨C, q, [], rfl, rfl, by rw [hR, YtiabgmddnddeiaaDoorNrm.cmp0, if_pos k0]⟩)
          exact ⟨K + 1, fun x9 => by rw [app, if_pos k0]; exact hK⟩
        · obtain ⟨K, hK⟩ := ih (i + 1) (C ++ [q]) (-1) (by omega) (by rw [List.length_append, List.length_singleton]; omega) hC1 (.inl ⟨rfl, by rw [hR, YtiabgmddnddeiaaDoorNrm.cmp0, if_neg k0, List.append_assoc]; rfl⟩)
          exact ⟨K + 1, fun x9 => by rw [app, if_neg k0]; exact hK⟩
      obtain ⟨K, hK⟩ := ex
      refine ⟨K + 2, ?_⟩
      simp only [spec_l05Composed.l0]
      rw [if_pos (by omega), if_pos (by omega), hr, spec_l05Composed.cls_ hq]
      simp only [Option.bind_some]
      rw [decide_eq_false (by omega)]
      simp only [spec_l05Composed.l1]
      rw [if_neg (by decide)]
      exact hK _
    · have hl : C.length = pre.length + 1 + tail.length := by rw [hCC]; simp only [List.length_append, List.length_cons]; omega
      have hrs : rd C (pre.length : Int) = s := by rw [hCC]; exact spec_l05Composed.get _ _ _
      have hs := hC s (by rw [hCC]; simp)
      have hp1 : wrap64 ((pre.length : Int) + 1) = ((pre ++ [s]).length : Int) := by rw [List.length_append, List.length_singleton]; unfold wrap64; omega
      have behind : ¬ (YtiabgmddnddeiaaDoorNrm.free tail q ∧ 0 ≤ YtiabgmddnddeiaaDoorNrm.pair s q) → ∃ K, (if YtiabgmddnddeiaaDoorNrm.cls q = 0 then spec_l05Composed.l0 K O (C ++ [q]) (C.length : Int) ((i + 1 : Nat) : Int) else spec_l05Composed.l0 K O (C ++ [q]) (pre.length : Int) ((i + 1 : Nat) : Int)) = some R := by
        intro hno
        by_cases k0 : YtiabgmddnddeiaaDoorNrm.cls q = 0
        · obtain ⟨K, hK⟩ := ih (i + 1) (C ++ [q]) (C.length : Int) (by omega) (by rw [List.length_append, List.length_singleton]; omega) hC1 (.inr ⟨C, q, [], rfl, rfl, by rw [hR, YtiabgmddnddeiaaDoorNrm.cmp1, if_neg hno, if_pos k0, hCC]; simp⟩)
          exact ⟨K, by rw [if_pos k0]; exact hK⟩
        · obtain ⟨K, hK⟩ := ih (i + 1) (C ++ [q]) (pre.length : Int) (by omega) (by rw [List.length_append, List.length_singleton]; omega) hC1 (.inr ⟨pre, s, tail ++ [q], rfl, by rw [hCC]; simp, by rw [hR, YtiabgmddnddeiaaDoorNrm.cmp1, if_neg hno, if_neg k0]⟩)
          exact ⟨K, by rw [if_neg k0]; exact hK⟩
      have ex : ∃ K, ∀ x9, spec_l05Composed.j2 K O C (pre.length : Int) (i : Int) q (YtiabgmddnddeiaaDoorNrm.cls q) (true && decide (YtiabgmddnddeiaaDoorNrm.free tail q)) x9 false = some R := by
        rw [Bool.true_and]
        by_cases hf : YtiabgmddnddeiaaDoorNrm.free tail q
        · rw [decide_eq_true hf]
          by_cases hx : 0 ≤ YtiabgmddnddeiaaDoorNrm.pair s q
          · have hrr := YtiabgmddnddeiaaDoorNrm.pair_range hx
            have hset : C.set pre.length (YtiabgmddnddeiaaDoorNrm.pair s q) = pre ++ YtiabgmddnddeiaaDoorNrm.pair s q :: tail := by rw [hCC, List.set_append_right _ _ (Nat.le_refl _), Nat.sub_self]; rfl
            obtain ⟨K, hK⟩ := ih (i + 1) (pre ++ YtiabgmddnddeiaaDoorNrm.pair s q :: tail) (pre.length : Int) (by omega) (by rw [← hset, List.length_set]; omega) (fun p hp => by
              rcases List.mem_append.1 hp with hp | hp
              · exact hC p (by rw [hCC]; simp [hp])
              · rcases List.mem_cons.1 hp with rfl | hp
                · omega
                · exact hC p (by rw [hCC]; simp [hp])) (.inr ⟨pre, _, tail, rfl, rfl, by rw [hR, YtiabgmddnddeiaaDoorNrm.cmp1, if_pos ⟨hf, hx⟩]⟩)
            refine ⟨K + 1, fun x9 => ?_⟩
            simp only [spec_l05Composed.j2]
            rw [if_neg (by decide), if_pos trivial, if_pos (by omega), if_pos (by omega), hrs]
            unfold W_spec_l05Pair.f
            rw [if_pos ⟨hs.1, hs.2, hq.1, hq.2⟩]
            simp only [Option.bind_some]
            rw [if_pos hx, Int.toNat_natCast, hset, hw]
            exact hK
          · obtain ⟨K, hK⟩ := behind (fun z => hx z.2)
            refine ⟨K + 1, fun x9 => ?_⟩
            simp only [spec_l05Composed.j2]
            rw [if_neg (by decide), if_pos trivial, if_pos (by omega), if_pos (by omega), hrs]
            unfold W_spec_l05Pair.f
            rw [if_pos ⟨hs.1, hs.2, hq.1, hq.2⟩]
            simp only [Option.bind_some]
            rw [if_neg hx, if_pos (by omega)]
            try simp only [Option.bind_some]
            rw [hl1, hw]
            exact hK
        · rw [decide_eq_false hf]
          obtain ⟨K, hK⟩ := behind (fun z => hf z.1)
          exact ⟨K + 1, fun x9 => by rw [app]; exact hK⟩
      obtain ⟨K, hK⟩ := spec_l05Composed.free2 O C (pre.length : Int) (i : Int) q (YtiabgmddnddeiaaDoorNrm.cls q) R rfl (by omega) hC tail (pre ++ [s]) true (by rw [hCC]; simp) (.inr trivial) ex
      refine ⟨K + 1, ?_⟩
      simp only [spec_l05Composed.l0]
      rw [if_pos (by omega), if_pos (by omega), hr, spec_l05Composed.cls_ hq]
      simp only [Option.bind_some]
      rw [decide_eq_true (by omega), hp1]
      exact hK
theorem W_spec_l05Composed.to {l0 : List Int} {r : List Int} (h : W_spec_l05Composed.f l0 = some r) : ∃ k, spec_l05Composed.f k l0 = some r := by
  unfold W_spec_l05Composed.f at h
  split at h
  · rename_i hp
    obtain ⟨K, hK⟩ := spec_l05Composed.run l0 hp.1 hp.2 r l0.length 0 [] (-1) (by omega) (by simp) (fun p hp => by cases hp) (.inl ⟨rfl, (Option.some.inj h).symm⟩)
    exact ⟨K, hK⟩
  · cases h
theorem W_spec_l05Composed.calls (A0 : Option Addr) (c0 : Nat) (l0 : List Int) (r : List Int) (w : World) (hr0 : Kd.C (Kd.int .i64) w A0 l0.length l0) (hc0 : l0.length ≤ c0) (h : W_spec_l05Composed.f l0 = some r) :
    Calls Tryd.prog 177 #[.slice A0 l0.length c0] w fun e w' => ∃ v0_ : Value, e = .returned (v0_) ∧ Kd.R (Kd.int .i64) 2 w' w.heap.size (fun _ => True) v0_ r ∧ Below w.heap.size w w' := by
  obtain ⟨k, hk⟩ := W_spec_l05Composed.to h
  exact spec_l05Composed.calls k A0 c0 l0 r w hr0 hc0 hk

end Go.Proofs.YtiabgmddnddeiaaDoor.QFnNormer
