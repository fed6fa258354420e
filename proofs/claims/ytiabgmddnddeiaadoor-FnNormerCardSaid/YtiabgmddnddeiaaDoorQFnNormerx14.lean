/- The law FnNormer: at every input the call answers true (this text: contracts on its way, by a program of this session's; no condition of ours). -/
import Derived.Test.YtiabgmddnddeiaaDoorQFnNormerx0
import Derived.Test.YtiabgmddnddeiaaDoorQFnNormerx1
import Derived.Test.YtiabgmddnddeiaaDoorQFnNormerx8
import Derived.Test.YtiabgmddnddeiaaDoorQFnNormerx9
import Derived.Test.YtiabgmddnddeiaaDoorQFnNormerx13
namespace Go.Proofs.YtiabgmddnddeiaaDoor.QFnNormer
open Go.RowKit Go.Proofs.YtiabgmddnddeiaaDoorW.PrintWords Go.Proofs.YtiabgmddnddeiaaDoorW.PrintLast Go.Proofs.YtiabgmddnddeiaaDoorW.PrintMore
attribute [local go_sem] max2_int min2_int max_two min_two max_three min_three max_four min_four   -- for this text's walks alone
set_option linter.unusedVariables false
set_option linter.unusedSimpArgs false

/-! ### impl_NormerFault: function 22 -/
mutual
def impl_NormerFault.j0 : Nat → Bool → Int → ByteArray → Option (Int)
 | 0, _, _, _ => none
 | k + 1, x20, x336000, x336001 => if x20 = true then (some 1) else ((W_impl_points.f x336001).bind fun t338 => (impl_NormerFault.l0 k t338 (t338.length : Int) 0 x336000 x336001))
def impl_NormerFault.l0 : Nat → List Int → Int → Int → Int → ByteArray → Option (Int)
 | 0, _, _, _, _, _ => none
 | k + 1, x23, x24, x25, x336000, x336001 => if x25 < x24 then (if 0 ≤ x25 then (if x25 < (x23.length : Int) then (if x25 > 0 then ((impl_safe.f (rd x23 x25) x336000).bind fun t342 => (if t342 = true then (some 1) else (impl_NormerFault.l0 k x23 x24 (wrap64 (x25 + 1)) x336000 x336001))) else (impl_NormerFault.l0 k x23 x24 (wrap64 (x25 + 1)) x336000 x336001)) else (none)) else (none)) else (some 0)
end
def impl_NormerFault.f (k : Nat) (a0_0 : Int) (a0_1 : ByteArray) : Option (Int) := (impl_isNorm.f a0_0).bind fun t336 => (if t336 = true then (if (a0_1.size : Int) > 1000 then (impl_NormerFault.j0 k true a0_0 a0_1) else ((impl_well.f a0_1).bind fun t337 => (impl_NormerFault.j0 k (!t337) a0_0 a0_1))) else (impl_NormerFault.j0 k true a0_0 a0_1))
theorem impl_NormerFault.mono_l : ∀ k, (∀ y0 y1 y2, LeO (impl_NormerFault.j0 k y0 y1 y2) (impl_NormerFault.j0 (k + 1) y0 y1 y2)) ∧ (∀ y0 y1 y2 y3 y4, LeO (impl_NormerFault.l0 k y0 y1 y2 y3 y4) (impl_NormerFault.l0 (k + 1) y0 y1 y2 y3 y4))
 | 0 => ⟨fun _ _ _ r h => by simp [impl_NormerFault.j0] at h, fun _ _ _ _ _ r h => by simp [impl_NormerFault.l0] at h⟩
 | k + 1 => by
  obtain ⟨ih0, ih1⟩ := impl_NormerFault.mono_l k; refine ⟨?_, ?_⟩
  ·intro y0 y1 y2
   unfold impl_NormerFault.j0
   repeat' first
   | (with_reducible exact ih0 _ _ _)
   | (with_reducible exact ih1 _ _ _ _ _)
   | (with_reducible exact LeO.refl _)
   | (with_reducible exact LeO.none _)
   | (with_reducible refine LeO.ite ?_ ?_)
   | (with_reducible refine LeO.bind ?_ (fun _ => ?_))
   | exact ih0 _ _ _
   | exact ih1 _ _ _ _ _
   | exact LeO.none _
   | refine LeO.ite ?_ ?_
   | refine LeO.bind ?_ (fun _ => ?_)
  intro y0 y1 y2 y3 y4
  unfold impl_NormerFault.l0
  repeat' first
  | (with_reducible exact ih0 _ _ _)
  | (with_reducible exact ih1 _ _ _ _ _)
  | (with_reducible exact LeO.refl _)
  | (with_reducible exact LeO.none _)
  | (with_reducible refine LeO.ite ?_ ?_)
  | (with_reducible refine LeO.bind ?_ (fun _ => ?_))
  | exact ih0 _ _ _
  | exact ih1 _ _ _ _ _
  | exact LeO.none _
  | refine LeO.ite ?_ ?_
  | refine LeO.bind ?_ (fun _ => ?_)
theorem impl_NormerFault.mono : ∀ a0 a1 k, LeO (impl_NormerFault.f k a0 a1) (impl_NormerFault.f (k + 1) a0 a1) := by
 intro a0 a1 k
 obtain ⟨ih0, ih1⟩ := impl_NormerFault.mono_l k
 unfold impl_NormerFault.f
 repeat' first
   | (with_reducible exact ih0 _ _ _)
   | (with_reducible exact ih1 _ _ _ _ _)
   | (with_reducible exact LeO.refl _)
   | (with_reducible exact LeO.none _)
   | (with_reducible refine LeO.ite ?_ ?_)
   | (with_reducible refine LeO.bind ?_ (fun _ => ?_))
   | exact ih0 _ _ _
   | exact ih1 _ _ _ _ _
   | exact LeO.none _
   | refine LeO.ite ?_ ?_
   | refine LeO.bind ?_ (fun _ => ?_)
set_option maxHeartbeats 8000000 in
set_option maxRecDepth 100000 in
theorem impl_NormerFault.calls (k : Nat) (a0_0 : Int) (a0_1 : ByteArray) (r : Int) (w : World) (h : impl_NormerFault.f k a0_0 a0_1 = some r) (hG : GT w) :
  Calls Tryd.prog 22 #[.agg #[.int .i64 a0_0, .string a0_1]] w fun e w' => e = .returned (.int .i64 r) ∧ Below w.heap.size w w' := by
 have HG := Aside0.mk hG
 clear hG
 have hu27 := Tryd.underlying27
 have HB := Aside0.mk (Below.refl w.heap.size w)
 have H : ((impl_isNorm.f a0_0).bind fun t336 => (if t336 = true then (if (a0_1.size : Int) > 1000 then (impl_NormerFault.j0 k true a0_0 a0_1) else ((impl_well.f a0_1).bind fun t337 => (impl_NormerFault.j0 k (!t337) a0_0 a0_1))) else (impl_NormerFault.j0 k true a0_0 a0_1))) = some r := h
 clear h
 have HC2 := Aside0.mk H
 clear H
 go_enter Tryd.func22, Tryd.ntmps22
 go_upto_region 1 with (first | ((with_reducible refine gate_dst (N := 1) rfl ?_); (try (refine gate_guard (by rfl) ?_; dsimp only)); refine box_event ?hg (N := 1) ?hd (cs := #[.int .i64 a0_0, .string a0_1]) (t := 27) ?hr ?_; (case hd => rfl); (case hg => rfl); (case hr => first | (go_simp; done) | (go_simp; rfl)); intro gb335 hg w3 hbox hb; have n0_ := Aside0.mk (below_step (belowA) hb); have n1_ := Aside0.mk (hbox); have n2_ := Aside0.mk ((by rw [hg]; exact (below_size (belowA)) : w.heap.size ≤ gb335)); have n3_ := Aside0.mk ((by rw [hg]; exact (below_size (belowA)) : w.heap.size ≤ gb335)); replace HB := n0_; have BK335 := n1_; have GW335 := n2_; have GE335 := n3_; clear n0_ n1_ n2_ n3_; clear hb hbox hg))
 (try simp only [Act.put, List.setIfInBounds_toArray, List.set_cons_zero, List.set_cons_succ])
 go_cut [20] (fun v20 wc => ∃ (kq : Nat) (x20_1 : Bool), v20 = .bool x20_1 ∧ Aside0 (impl_NormerFault.j0 kq x20_1 a0_0 a0_1 = some r) ∧ Aside0 (kq ≤ k) ∧ Aside0 (wc.heap[gb335]? = some (.cells #[.int .i64 a0_0, .string a0_1] 27 (0, 0))) ∧ Aside0 (Below w.heap.size w wc))
 case first =>
  have H := HC2.out; clear HC2; replace H := Option.bind_eq_some_iff.mp H; obtain ⟨t336, A40, H⟩ := H
  try dsimp only at H
  have A4 := Aside0.mk A40; clear A40
  by_cases c5 : t336 = true
  ·subst c5
   have H1 : (if (a0_1.size : Int) > 1000 then (impl_NormerFault.j0 k true a0_0 a0_1) else ((impl_well.f a0_1).bind fun t337 => (impl_NormerFault.j0 k (!t337) a0_0 a0_1))) = some r := by rw [if_pos rfl] at H; exact H
   clear H; have H := H1; clear H1
   by_cases c6 : (a0_1.size : Int) > 1000
   ·rw [if_pos c6] at H
    have c6b0 : decide (1000 < (a0_1.size : Int)) = true := decide_eq_true c6
    have c6b1 : decide (1000 < a0_1.size) = true := decide_eq_true (by omega)
    clear c6
    (first | rw [c6b0] | (simp only [i64_w, i32_w]; rw [c6b0]) | skip)
    have H' := Aside0.mk H; clear H; have hcz7_0 : w3.cell? ⟨gb335, 0, none⟩ = some (.int .i64 a0_0) := (blk_cell BK335.out 0).trans rfl; have hcz7_1 : w3.cell? ⟨gb335, 1, none⟩ = some (.string a0_1) := (blk_cell BK335.out 1).trans rfl; have hfz7_0 := blk_frozen BK335.out 0; have hfz7_1 := blk_frozen BK335.out 1
    go_wp2_with (first | (go_at_call 87; (with_reducible refine (impl_isNorm.calls a0_0 true _ A4.out).mono ?_); rintro e w' ⟨rfl, ⟨nd, rfl⟩⟩))
    go_meet
    case rel => exact ⟨_, (true), (by first | rfl | (simp; done) | (simp [*]; done)), H', ⟨by first | omega | exact Nat.le_refl _⟩, ⟨by (with_reducible repeat (first | refine blk_drewN ?_ _ | refine blk_drew ?_ | refine blk_alloc ?_ _)); exact BK335.out⟩, ⟨belowG⟩⟩
   rw [if_neg c6] at H; have c6b0 : decide (1000 < (a0_1.size : Int)) = false := decide_eq_false c6
   have c6b1 : decide (1000 < a0_1.size) = false := decide_eq_false (by omega)
   clear c6
   (first | rw [c6b0] | (simp only [i64_w, i32_w]; rw [c6b0]) | skip)
   replace H := Option.bind_eq_some_iff.mp H; obtain ⟨t337, A80, H⟩ := H
   try dsimp only at H
   have A8 := Aside0.mk A80; clear A80; have H' := Aside0.mk H; clear H; have hcz9_0 : w3.cell? ⟨gb335, 0, none⟩ = some (.int .i64 a0_0) := (blk_cell BK335.out 0).trans rfl; have hcz9_1 : w3.cell? ⟨gb335, 1, none⟩ = some (.string a0_1) := (blk_cell BK335.out 1).trans rfl; have hfz9_0 := blk_frozen BK335.out 0; have hfz9_1 := blk_frozen BK335.out 1
   go_wp2_with (first | (go_at_call 87; (with_reducible refine (impl_isNorm.calls a0_0 true _ A4.out).mono ?_); rintro e w' ⟨rfl, ⟨nd, rfl⟩⟩) | (go_at_call 99; (with_reducible refine (impl_well.calls a0_1 t337 _ A8.out gtA).mono ?_); rintro e w10 ⟨rfl, hb⟩; have n0_ := bkb BK335.out hb; have n1_ := Aside0.mk (below_step (belowG) hb); replace BK335 := n0_; replace HB := n1_; clear n0_ n1_; clear hb))
   go_meet
   case rel => exact ⟨_, (!t337), (by first | rfl | (simp; done) | (simp [*]; done)), H', ⟨by first | omega | exact Nat.le_refl _⟩, ⟨by (with_reducible repeat (first | refine blk_drewN ?_ _ | refine blk_drew ?_ | refine blk_alloc ?_ _)); exact BK335.out⟩, ⟨belowG⟩⟩
  replace c5 := Bool.eq_false_iff.mpr c5; subst c5
  have H1 : (impl_NormerFault.j0 k true a0_0 a0_1) = some r := by rw [if_neg (show ¬ (false = true) by decide)] at H; exact H
  clear H; have H := H1; clear H1; have H' := Aside0.mk H; clear H; have hcz11_0 : w3.cell? ⟨gb335, 0, none⟩ = some (.int .i64 a0_0) := (blk_cell BK335.out 0).trans rfl; have hcz11_1 : w3.cell? ⟨gb335, 1, none⟩ = some (.string a0_1) := (blk_cell BK335.out 1).trans rfl; have hfz11_0 := blk_frozen BK335.out 0; have hfz11_1 := blk_frozen BK335.out 1
  go_wp2_with (first | (go_at_call 87; (with_reducible refine (impl_isNorm.calls a0_0 false _ A4.out).mono ?_); rintro e w' ⟨rfl, ⟨nd, rfl⟩⟩))
  go_meet
  case rel => exact ⟨_, (true), (by first | rfl | (simp; done) | (simp [*]; done)), H', ⟨by first | omega | exact Nat.le_refl _⟩, ⟨by (with_reducible repeat (first | refine blk_drewN ?_ _ | refine blk_drew ?_ | refine blk_alloc ?_ _)); exact BK335.out⟩, ⟨belowG⟩⟩
 case rest =>
  clear HC2
  try clear c2; try clear p2; try clear c5; try clear c6; try clear c6b0; try clear c6b1; try clear c8; try clear hcz11_0; try clear hcz11_1; try clear hcz7_0; try clear hcz7_1; try clear hcz9_0; try clear hcz9_1; try clear hfz11_0; try clear hfz11_1; try clear hfz7_0; try clear hfz7_1; try clear hfz9_0; try clear hfz9_1
  obtain ⟨kq, x20_1, rfl, HA, HJ1, BK335, HB⟩ := hcut
  cases kq with
  | zero => exact absurd HA.out (by simp [impl_NormerFault.j0])
  | succ kj1 =>
   have H := HA.out; clear HA; simp only [impl_NormerFault.j0] at H
   by_cases c12 : x20_1 = true
   ·subst c12
    have H1 : (some 1) = some r := by rw [if_pos rfl] at H; exact H
    clear H; have H := H1; clear H1; obtain rfl := Option.some.inj H
    go_wp2
    go_ret
    exact ⟨by first | rfl | (simp [errW_none, errW_some] <;> rfl) | (simp [*, errW_none, errW_some] <;> rfl), belowG⟩
   replace c12 := Bool.eq_false_iff.mpr c12; subst c12
   have H1 : ((W_impl_points.f a0_1).bind fun t338 => (impl_NormerFault.l0 kj1 t338 (t338.length : Int) 0 a0_0 a0_1)) = some r := by rw [if_neg (show ¬ (false = true) by decide)] at H; exact H
   clear H; have H := H1; clear H1; replace H := Option.bind_eq_some_iff.mp H; obtain ⟨t338, A130, H⟩ := H
   try dsimp only at H
   have A13 := Aside0.mk A130; clear A130; have H' := Aside0.mk H; clear H; have hcz14_0 : wc.cell? ⟨gb335, 0, none⟩ = some (.int .i64 a0_0) := (blk_cell BK335.out 0).trans rfl; have hcz14_1 : wc.cell? ⟨gb335, 1, none⟩ = some (.string a0_1) := (blk_cell BK335.out 1).trans rfl; have hfz14_0 := blk_frozen BK335.out 0; have hfz14_1 := blk_frozen BK335.out 1
   go_wp2_with (first | (go_at_call 91; (with_reducible refine (W_impl_points.calls a0_1 t338 _ A13.out gtA).mono ?_); rintro e w15 ⟨v339, rfl, ho0, hb⟩; have n0_ := Aside0.mk (Kd.R_lower ho0 (below_size (belowG))); have n1_ := bkb BK335.out hb; have n2_ := Aside0.mk (below_step (belowG) hb); have HO340 := n0_; replace BK335 := n1_; replace HB := n2_; clear n0_ n1_ n2_; clear hb; (try clear ho0); obtain ⟨Ao16, co16, eo16⟩ := Kd.R_slice HO340.out; subst eo16))
   go_loopg [25] kj1 (fun kq v25 w' => ∃ (x25_2 : Int), v25 = .int .i64 x25_2 ∧ Aside0 (impl_NormerFault.l0 kq t338 (t338.length : Int) x25_2 a0_0 a0_1 = some r) ∧ Aside0 (kq ≤ kj1) ∧ Aside0 (Kd.R (Kd.int .i64) 2 w' w.heap.size (fun _ => True) (.slice Ao16 t338.length co16) t338) ∧ Aside0 (w'.heap[gb335]? = some (.cells #[.int .i64 a0_0, .string a0_1] 27 (0, 0))) ∧ Aside0 (Below w.heap.size w w'))
   case atStart => exact ⟨(0), (by first | rfl | (simp; done) | (simp [*]; done)), H', ⟨Nat.le_refl _⟩, ⟨by (with_reducible repeat (first | apply Kd.R_alloc | apply Kd.R_drewN | apply Kd.R_drew)); exact HO340.out⟩, ⟨by (with_reducible repeat (first | refine blk_drewN ?_ _ | refine blk_drew ?_ | refine blk_alloc ?_ _)); exact BK335.out⟩, ⟨belowG⟩⟩
   case round =>
    clear H'
    try clear c1; try clear c2; try clear p2; try clear c5; try clear c6; try clear c6b0; try clear c6b1; try clear c8; try clear c9; try clear c12; try clear hcz11_0; try clear hcz11_1; try clear hcz14_0; try clear hcz14_1; try clear hcz7_0; try clear hcz7_1; try clear hcz9_0; try clear hcz9_1; try clear hfz11_0; try clear hfz11_1; try clear hfz14_0; try clear hfz14_1; try clear hfz7_0; try clear hfz7_1; try clear hfz9_0; try clear hfz9_1; try clear p2
    obtain ⟨x25_2, rfl, HA, HK2, HO_23, BK335, HB⟩ := hrel
    cases gk with
    | zero => exact absurd HA.out (by simp [impl_NormerFault.l0])
    | succ k2 =>
     have H := HA.out; clear HA; simp only [impl_NormerFault.l0] at H
     by_cases c17 : x25_2 < (t338.length : Int)
     ·rw [if_pos c17] at H
      have c17b0 : decide (x25_2 < (t338.length : Int)) = true := decide_eq_true c17; clear c17
      by_cases c18 : 0 ≤ x25_2
      ·rw [if_pos c18] at H
       have c18b0 : decide (0 ≤ x25_2) = true := decide_eq_true c18; clear c18
       by_cases c19 : x25_2 < (t338.length : Int)
       ·rw [if_pos c19] at H
        have c19b0 : decide (x25_2 < (t338.length : Int)) = true := decide_eq_true c19; clear c19
        by_cases c20 : x25_2 > 0
        ·rw [if_pos c20] at H
         have c20b0 : decide (0 < x25_2) = true := decide_eq_true c20; clear c20; replace H := Option.bind_eq_some_iff.mp H; obtain ⟨t342, A210, H⟩ := H
         try dsimp only at H
         have A21 := Aside0.mk A210; clear A210
         by_cases c22 : t342 = true
         ·subst c22
          have H1 : (some 1) = some r := by rw [if_pos rfl] at H; exact H
          clear H; have H := H1; clear H1; obtain rfl := Option.some.inj H; have p341 : 0 ≤ (x25_2 : Int) := ode; have q341 : x25_2 < (t338.length : Int) := ode; obtain ⟨ad341, e341, hx341_0⟩ := Kd.at_int (Kd.R_reads' HO_23.out).2.2 x25_2 p341 q341; cases e341; replace p341 := eq_true p341; replace q341 := eq_true q341; have hcz23_0 : wr.cell? ⟨gb335, 0, none⟩ = some (.int .i64 a0_0) := (blk_cell BK335.out 0).trans rfl; have hcz23_1 : wr.cell? ⟨gb335, 1, none⟩ = some (.string a0_1) := (blk_cell BK335.out 1).trans rfl; have hfz23_0 := blk_frozen BK335.out 0; have hfz23_1 := blk_frozen BK335.out 1
          go_wp2_with (first | (go_at_call 92; (with_reducible refine (impl_safe.calls (rd t338 x25_2) a0_0 true _ A21.out).mono ?_); rintro e w24 ⟨rfl, hb⟩; have n0_ := rbb HO_23.out hb; have n1_ := bkb BK335.out hb; have n2_ := Aside0.mk (below_step (belowG) hb); replace HO_23 := n0_; replace BK335 := n1_; replace HB := n2_; clear n0_ n1_ n2_; clear hb))
          go_ret
          exact ⟨by first | rfl | (simp [errW_none, errW_some] <;> rfl) | (simp [*, errW_none, errW_some] <;> rfl), belowG⟩
         replace c22 := Bool.eq_false_iff.mpr c22; subst c22
         have H1 : (impl_NormerFault.l0 k2 t338 (t338.length : Int) (wrap64 (x25_2 + 1)) a0_0 a0_1) = some r := by rw [if_neg (show ¬ (false = true) by decide)] at H; exact H
         clear H; have H := H1; clear H1; have H' := Aside0.mk H; clear H; have p341 : 0 ≤ (x25_2 : Int) := ode; have q341 : x25_2 < (t338.length : Int) := ode; obtain ⟨ad341, e341, hx341_0⟩ := Kd.at_int (Kd.R_reads' HO_23.out).2.2 x25_2 p341 q341; cases e341; replace p341 := eq_true p341; replace q341 := eq_true q341; have hcz25_0 : wr.cell? ⟨gb335, 0, none⟩ = some (.int .i64 a0_0) := (blk_cell BK335.out 0).trans rfl; have hcz25_1 : wr.cell? ⟨gb335, 1, none⟩ = some (.string a0_1) := (blk_cell BK335.out 1).trans rfl; have hfz25_0 := blk_frozen BK335.out 0; have hfz25_1 := blk_frozen BK335.out 1
         go_wp2_with (first | (go_at_call 92; (with_reducible refine (impl_safe.calls (rd t338 x25_2) a0_0 false _ A21.out).mono ?_); rintro e w26 ⟨rfl, hb⟩; have n0_ := rbb HO_23.out hb; have n1_ := bkb BK335.out hb; have n2_ := Aside0.mk (below_step (belowG) hb); replace HO_23 := n0_; replace BK335 := n1_; replace HB := n2_; clear n0_ n1_ n2_; clear hb))
         go_roundg k2
         case measure => have := HJ1.out; have := HK2.out; omega
         case rel => exact ⟨(wrap64 (x25_2 + 1)), (by first | rfl | (simp; done) | (simp [*]; done)), H', ⟨by have := HJ1.out; have := HK2.out; omega⟩, ⟨by (with_reducible repeat (first | apply Kd.R_alloc | apply Kd.R_drewN | apply Kd.R_drew)); exact HO_23.out⟩, ⟨by (with_reducible repeat (first | refine blk_drewN ?_ _ | refine blk_drew ?_ | refine blk_alloc ?_ _)); exact BK335.out⟩, ⟨belowG⟩⟩
        rw [if_neg c20] at H; have c20b0 : decide (0 < x25_2) = false := decide_eq_false c20; clear c20; have H' := Aside0.mk H; clear H; have p341 : 0 ≤ (x25_2 : Int) := ode; have q341 : x25_2 < (t338.length : Int) := ode; obtain ⟨ad341, e341, hx341_0⟩ := Kd.at_int (Kd.R_reads' HO_23.out).2.2 x25_2 p341 q341; cases e341; replace p341 := eq_true p341; replace q341 := eq_true q341
        go_wp2
        go_roundg k2
        case measure => have := HJ1.out; have := HK2.out; omega
        case rel => exact ⟨(wrap64 (x25_2 + 1)), (by first | rfl | (simp; done) | (simp [*]; done)), H', ⟨by have := HJ1.out; have := HK2.out; omega⟩, ⟨by (with_reducible repeat (first | apply Kd.R_alloc | apply Kd.R_drewN | apply Kd.R_drew)); exact HO_23.out⟩, ⟨by (with_reducible repeat (first | refine blk_drewN ?_ _ | refine blk_drew ?_ | refine blk_alloc ?_ _)); exact BK335.out⟩, ⟨belowG⟩⟩
       rw [if_neg c19] at H
       exact absurd H (by simp)
      rw [if_neg c18] at H
      exact absurd H (by simp)
     rw [if_neg c17] at H; have c17b0 : decide (x25_2 < (t338.length : Int)) = false := decide_eq_false c17; clear c17; obtain rfl := Option.some.inj H
     go_wp2
     go_ret
     exact ⟨by first | rfl | (simp [errW_none, errW_some] <;> rfl) | (simp [*, errW_none, errW_some] <;> rfl), belowG⟩

def W_impl_NormerFault.f (f : Int) (t : ByteArray) : Option Int := if t.size ≤ 100000000 then some (YtiabgmddnddeiaaDoorNmr.NF f t) else none
theorem impl_NormerFault.run (f : Int) (t : ByteArray) (l : List Int) (hl : l.length ≤ 100000000) (hp : ∀ p ∈ l, 0 ≤ p ∧ p ≤ 1114111) (d : Nat) : ∀ (k i : Nat), 1 ≤ i → l.length - i = d → d < k →
    impl_NormerFault.l0 k l (l.length : Int) (i : Int) f t = some (if (l.drop i).all (fun p => !YtiabgmddnddeiaaDoorNmr.sf f p) = true then 0 else 1) := by
  induction d with
  | zero =>
    intro k i h1 h2 h3
    obtain ⟨k, rfl⟩ : ∃ m, k = m + 1 := ⟨k - 1, by omega⟩
    simp only [impl_NormerFault.l0]
    rw [if_neg (by omega), List.drop_eq_nil_of_le (by omega)]; rfl
  | succ d ih =>
    intro k i h1 h2 h3
    obtain ⟨k, rfl⟩ : ∃ m, k = m + 1 := ⟨k - 1, by omega⟩
    have hlt : i < l.length := by omega
    have hr : rd l (i : Int) = l[i] := by simp [rd, List.getD, hlt]
    have hw : wrap64 ((i : Int) + 1) = ((i + 1 : Nat) : Int) := by unfold wrap64; omega
    simp only [impl_NormerFault.l0]
    rw [if_pos (by omega), if_pos (by omega), if_pos (by omega), if_pos (by omega), hr]
    unfold impl_safe.f
    rw [if_pos (hp _ (List.getElem_mem hlt))]
    simp only [Option.bind_some]
    rw [List.drop_eq_getElem_cons hlt, List.all_cons, hw, ih k (i + 1) (by omega) (by omega) (by omega)]
    cases YtiabgmddnddeiaaDoorNmr.sf f l[i] <;> simp
theorem W_impl_NormerFault.to {f : Int} {t : ByteArray} {r : Int} (h : W_impl_NormerFault.f f t = some r) : ∃ k, impl_NormerFault.f k f t = some r := by
  unfold W_impl_NormerFault.f at h
  split at h
  · rename_i hs
    obtain ⟨m, hm⟩ : ∃ m, m = t.size + 2 := ⟨_, rfl⟩
    refine ⟨m + 2, ?_⟩
    rw [← h]
    unfold impl_NormerFault.f YtiabgmddnddeiaaDoorNmr.NF
    rw [impl_isNorm.eq]
    simp only [Option.bind_some]
    cases ho : YtiabgmddnddeiaaDoorNst.ok f with
    | false =>
      rw [if_neg (by decide), if_neg (by rintro ⟨z, _⟩; cases z)]
      simp only [impl_NormerFault.j0]
      rw [if_pos trivial]
    | true =>
      rw [if_pos rfl]
      by_cases c : (t.size : Int) > 1000
      · rw [if_pos c, if_neg (by rintro ⟨_, z, _⟩; omega)]
        simp only [impl_NormerFault.j0]
        rw [if_pos trivial]
      · rw [if_neg c]
        unfold impl_well.f utf8_ValidString.f
        rw [if_pos (by omega)]
        simp only [Option.bind_some, impl_NormerFault.j0]
        cases hv : Lib.validD t.data.toList with
        | false => rw [if_pos (by rfl), if_neg (by rintro ⟨_, _, z, _⟩; cases z)]
        | true =>
          rw [if_neg (by decide)]
          unfold W_impl_points.f
          rw [if_pos (by omega)]
          simp only [Option.bind_some]
          have hP : YtiabgmddnddeiaaDoorPts.pts (bytesOf t) = YtiabgmddnddeiaaDoorNst.P t := rfl
          have hl := YtiabgmddnddeiaaDoorNst.P_len t
          have hr := YtiabgmddnddeiaaDoorNst.range (YtiabgmddnddeiaaDoorNst.P_isP t)
          rw [hP]
          generalize YtiabgmddnddeiaaDoorNst.P t = l at hl hr
          simp only [impl_NormerFault.l0]
          cases l with
          | nil => rw [if_neg (by simp), if_pos ⟨trivial, by omega, trivial, rfl⟩]
          | cons x u =>
            rw [if_pos (by simp only [List.length_cons]; omega), if_pos (by omega), if_pos (by simp only [List.length_cons]; omega), if_neg (by omega)]
            have := impl_NormerFault.run f t (x :: u) (by omega) hr u.length m 1 (by omega) (by simp) (by simp only [List.length_cons] at hl; omega)
            rw [show wrap64 (0 + 1) = ((1 : Nat) : Int) by unfold wrap64; rfl, this]
            unfold YtiabgmddnddeiaaDoorNmr.tailBad
            simp only [List.drop_one]
            by_cases g : (x :: u).tail.all (fun p => !YtiabgmddnddeiaaDoorNmr.sf f p) = true
            · rw [if_pos g, if_pos ⟨trivial, by omega, trivial, g⟩]
            · rw [if_neg g, if_neg (fun z => g z.2.2.2)]
  · cases h
theorem W_impl_NormerFault.calls (a0_0 : Int) (a0_1 : ByteArray) (r : Int) (w : World) (h : W_impl_NormerFault.f a0_0 a0_1 = some r) (hG : GT w) :
    Calls Tryd.prog 22 #[.agg #[.int .i64 a0_0, .string a0_1]] w fun e w' => e = .returned (.int .i64 r) ∧ Below w.heap.size w w' := by
  obtain ⟨k, hk⟩ := W_impl_NormerFault.to h
  exact impl_NormerFault.calls k a0_0 a0_1 r w hk hG

end Go.Proofs.YtiabgmddnddeiaaDoor.QFnNormer
