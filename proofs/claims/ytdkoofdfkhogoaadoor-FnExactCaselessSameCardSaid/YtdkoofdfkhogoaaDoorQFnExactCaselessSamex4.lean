/- The law FnExactCaselessSame: at every input the call answers true (this text: contracts on its way, by a program of this session's; no condition of ours). -/
import Derived.Test.YtdkoofdfkhogoaaDoorQFnExactCaselessSamex0
import Derived.Test.YtdkoofdfkhogoaaDoorQFnExactCaselessSamex3
namespace Go.Proofs.YtdkoofdfkhogoaaDoor.QFnExactCaselessSame
open Go.RowKit Go.Proofs.YtdkoofdfkhogoaaDoorW.PrintWords Go.Proofs.YtdkoofdfkhogoaaDoorW.PrintLast Go.Proofs.YtdkoofdfkhogoaaDoorW.PrintMore
attribute [local go_sem] max2_int min2_int max_two min_two max_three min_three max_four min_four   -- for this text's walks alone
set_option linter.unusedVariables false
set_option linter.unusedSimpArgs false

/-! ### spec_l05Parts: function 231 -/
mutual
def spec_l05Parts.j0 : Nat → Int → Bool → Int → Bool → Option (List Int)
  | 0, _, _, _, _ => none
  | k + 1, x0, x1, x5, x9 => if x9 = true then (if (wrap64 (Int.tdiv x0 512)) = 16 then ((spec_l05Letter.f (wrap64 (Int.tdiv x5 8))).bind fun t127 => (some (([t127, wrap64 (4096 + (Int.tmod x5 8))] : List Int)))) else (if (wrap64 (Int.tdiv x0 512)) = 17 then ((spec_l05Letter.f (wrap64 (Int.tdiv x5 8))).bind fun t131 => (some (([t131, wrap64 (4112 + (Int.tmod x5 8))] : List Int)))) else (some (([wrap64 (8704 + x5), 4096] : List Int))))) else (if x0 ≥ 9728 then (spec_l05Parts.j1 k x0 x1 (decide (x0 ≤ 9753))) else (spec_l05Parts.j1 k x0 x1 false))
def spec_l05Parts.j1 : Nat → Int → Bool → Bool → Option (List Int)
  | 0, _, _, _ => none
  | k + 1, x0, x1, x43 => if x43 = true then (some (([wrap64 ((wrap64 (x0 - 9728)) + 65)] : List Int))) else (if x0 ≥ 12288 then (spec_l05Parts.j2 k x0 x1 (decide (x0 ≤ 23459))) else (spec_l05Parts.j2 k x0 x1 false))
def spec_l05Parts.j2 : Nat → Int → Bool → Bool → Option (List Int)
  | 0, _, _, _ => none
  | k + 1, x0, x1, x54 => if x54 = true then (if (Int.tmod (wrap64 (x0 - 12288)) 28) > 0 then (some (([wrap64 (x0 - (Int.tmod (wrap64 (x0 - 12288)) 28)), wrap64 (1856 + (Int.tmod (wrap64 (x0 - 12288)) 28))] : List Int))) else (some (([wrap64 (1792 + (wrap64 (Int.tdiv (wrap64 (x0 - 12288)) 588))), wrap64 (1824 + (Int.tmod (wrap64 (Int.tdiv (wrap64 (x0 - 12288)) 28)) 21))] : List Int)))) else (if x1 = true then ((spec_l05Wide.f x0).bind fun t147 => (some t147)) else (some (([] : List Int))))
end
def spec_l05Parts.f (k : Nat) (a0 : Int) (a1 : Bool) : Option (List Int) := if a0 ≥ 8192 then (if a0 < 9728 then (spec_l05Parts.j0 k a0 a1 (Int.tmod a0 512) (decide ((Int.tmod a0 512) < 416))) else (spec_l05Parts.j0 k a0 a1 (Int.tmod a0 512) false)) else (spec_l05Parts.j0 k a0 a1 (Int.tmod a0 512) false)
theorem spec_l05Parts.mono_l : ∀ k, (∀ y0 y1 y2 y3, LeO (spec_l05Parts.j0 k y0 y1 y2 y3) (spec_l05Parts.j0 (k + 1) y0 y1 y2 y3)) ∧ (∀ y0 y1 y2, LeO (spec_l05Parts.j1 k y0 y1 y2) (spec_l05Parts.j1 (k + 1) y0 y1 y2)) ∧ (∀ y0 y1 y2, LeO (spec_l05Parts.j2 k y0 y1 y2) (spec_l05Parts.j2 (k + 1) y0 y1 y2))
  | 0 => ⟨fun _ _ _ _ r h => by simp [spec_l05Parts.j0] at h, fun _ _ _ r h => by simp [spec_l05Parts.j1] at h, fun _ _ _ r h => by simp [spec_l05Parts.j2] at h⟩
  | k + 1 => by
    obtain ⟨ih0, ih1, ih2⟩ := spec_l05Parts.mono_l k
    refine ⟨?_, ?_, ?_⟩
    · intro y0 y1 y2 y3
      unfold spec_l05Parts.j0
      repeat' first
      | (with_reducible exact ih0 _ _ _ _)
      | (with_reducible exact ih1 _ _ _)
      | (with_reducible exact ih2 _ _ _)
      | (with_reducible exact LeO.refl _)
      | (with_reducible exact LeO.none _)
      | (with_reducible refine LeO.ite ?_ ?_)
      | (with_reducible refine LeO.bind ?_ (fun _ => ?_))
      | exact ih0 _ _ _ _
      | exact ih1 _ _ _
      | exact ih2 _ _ _
      | exact LeO.none _
      | refine LeO.ite ?_ ?_
      | refine LeO.bind ?_ (fun _ => ?_)
    · intro y0 y1 y2
      unfold spec_l05Parts.j1
      repeat' first
      | (with_reducible exact ih0 _ _ _ _)
      | (with_reducible exact ih1 _ _ _)
      | (with_reducible exact ih2 _ _ _)
      | (with_reducible exact LeO.refl _)
      | (with_reducible exact LeO.none _)
      | (with_reducible refine LeO.ite ?_ ?_)
      | (with_reducible refine LeO.bind ?_ (fun _ => ?_))
      | exact ih0 _ _ _ _
      | exact ih1 _ _ _
      | exact ih2 _ _ _
      | exact LeO.none _
      | refine LeO.ite ?_ ?_
      | refine LeO.bind ?_ (fun _ => ?_)
    · intro y0 y1 y2
      unfold spec_l05Parts.j2
      repeat' first
      | (with_reducible exact ih0 _ _ _ _)
      | (with_reducible exact ih1 _ _ _)
      | (with_reducible exact ih2 _ _ _)
      | (with_reducible exact LeO.refl _)
      | (with_reducible exact LeO.none _)
      | (with_reducible refine LeO.ite ?_ ?_)
      | (with_reducible refine LeO.bind ?_ (fun _ => ?_))
      | exact ih0 _ _ _ _
      | exact ih1 _ _ _
      | exact ih2 _ _ _
      | exact LeO.none _
      | refine LeO.ite ?_ ?_
      | refine LeO.bind ?_ (fun _ => ?_)
theorem spec_l05Parts.mono : ∀ a0 a1 k, LeO (spec_l05Parts.f k a0 a1) (spec_l05Parts.f (k + 1) a0 a1) := by
  intro a0 a1 k
  obtain ⟨ih0, ih1, ih2⟩ := spec_l05Parts.mono_l k
  unfold spec_l05Parts.f
  repeat' first
      | (with_reducible exact ih0 _ _ _ _)
      | (with_reducible exact ih1 _ _ _)
      | (with_reducible exact ih2 _ _ _)
      | (with_reducible exact LeO.refl _)
      | (with_reducible exact LeO.none _)
      | (with_reducible refine LeO.ite ?_ ?_)
      | (with_reducible refine LeO.bind ?_ (fun _ => ?_))
      | exact ih0 _ _ _ _
      | exact ih1 _ _ _
      | exact ih2 _ _ _
      | exact LeO.none _
      | refine LeO.ite ?_ ?_
      | refine LeO.bind ?_ (fun _ => ?_)
set_option maxHeartbeats 8000000 in
set_option maxRecDepth 100000 in
theorem spec_l05Parts.calls (k : Nat) (a0 : Int) (a1 : Bool) (r : List Int) (w : World) (h : spec_l05Parts.f k a0 a1 = some r) :
    Calls Tryd.prog 231 #[.int .i64 a0, .bool a1] w fun e w' => ∃ v0_ : Value, e = .returned (v0_) ∧ Kd.R (Kd.int .i64) 2 w' w.heap.size (fun _ => True) v0_ r ∧ Below w.heap.size w w' := by
  have HB := Aside0.mk (Below.refl w.heap.size w)
  have H : (if a0 ≥ 8192 then (if a0 < 9728 then (spec_l05Parts.j0 k a0 a1 (Int.tmod a0 512) (decide ((Int.tmod a0 512) < 416))) else (spec_l05Parts.j0 k a0 a1 (Int.tmod a0 512) false)) else (spec_l05Parts.j0 k a0 a1 (Int.tmod a0 512) false)) = some r := h
  clear h
  have HC3 := Aside0.mk H
  clear H
  go_enter Tryd.func231, Tryd.ntmps231
  go_upto_region 2 with (fail)
  go_cut [9] (fun v9 wc => ∃ (kq : Nat) (x9_2 : Bool), v9 = .bool x9_2 ∧ Aside0 (spec_l05Parts.j0 kq a0 a1 (Int.tmod a0 512) x9_2 = some r) ∧ Aside0 (kq ≤ k) ∧ Aside0 (Below w.heap.size w wc))
  case first =>
    have H := HC3.out
    clear HC3
    by_cases c4 : a0 ≥ 8192
    · rw [if_pos c4] at H
      have c4b0 : decide (8192 ≤ a0) = true := decide_eq_true c4
      clear c4
      (first | rw [c4b0] | (simp only [i64_w, i32_w]; rw [c4b0]) | skip)
      by_cases c5 : a0 < 9728
      · rw [if_pos c5] at H
        have c5b0 : decide (a0 < 9728) = true := decide_eq_true c5
        clear c5
        have H' := Aside0.mk H
        clear H
        go_wp2
        go_meet
        case rel => exact ⟨_, (decide ((Int.tmod a0 512) < 416)), (by first | rfl | (simp; done) | (simp [*]; done)), H', ⟨by first | omega | exact Nat.le_refl _⟩, ⟨by repeat (first | (with_reducible first | exact HB.out | apply below_alloc | apply pw_below_drewN | apply below_drew1) | exact HB.out)⟩⟩
      · rw [if_neg c5] at H
        have c5b0 : decide (a0 < 9728) = false := decide_eq_false c5
        clear c5
        have H' := Aside0.mk H
        clear H
        go_wp2
        go_meet
        case rel => exact ⟨_, (false), (by first | rfl | (simp; done) | (simp [*]; done)), H', ⟨by first | omega | exact Nat.le_refl _⟩, ⟨by repeat (first | (with_reducible first | exact HB.out | apply below_alloc | apply pw_below_drewN | apply below_drew1) | exact HB.out)⟩⟩
    · rw [if_neg c4] at H
      have c4b0 : decide (8192 ≤ a0) = false := decide_eq_false c4
      clear c4
      (first | rw [c4b0] | (simp only [i64_w, i32_w]; rw [c4b0]) | skip)
      have H' := Aside0.mk H
      clear H
      go_wp2
      go_meet
      case rel => exact ⟨_, (false), (by first | rfl | (simp; done) | (simp [*]; done)), H', ⟨by first | omega | exact Nat.le_refl _⟩, ⟨by repeat (first | (with_reducible first | exact HB.out | apply below_alloc | apply pw_below_drewN | apply below_drew1) | exact HB.out)⟩⟩
  case rest =>
    clear HC3
    try clear c2
    try clear p2
    try clear c4
    try clear c4b0
    try clear c5
    try clear c5b0
    obtain ⟨kq, x9_2, rfl, HA, HJ2, HB⟩ := hcut
    cases kq with
    | zero => exact absurd HA.out (by simp [spec_l05Parts.j0])
    | succ kj2 =>
      have H := HA.out
      clear HA
      simp only [spec_l05Parts.j0] at H
      by_cases c6 : x9_2 = true
      · subst c6
        have H1 : (if (wrap64 (Int.tdiv a0 512)) = 16 then ((spec_l05Letter.f (wrap64 (Int.tdiv (Int.tmod a0 512) 8))).bind fun t127 => (some (([t127, wrap64 (4096 + (Int.tmod (Int.tmod a0 512) 8))] : List Int)))) else (if (wrap64 (Int.tdiv a0 512)) = 17 then ((spec_l05Letter.f (wrap64 (Int.tdiv (Int.tmod a0 512) 8))).bind fun t131 => (some (([t131, wrap64 (4112 + (Int.tmod (Int.tmod a0 512) 8))] : List Int)))) else (some (([wrap64 (8704 + (Int.tmod a0 512)), 4096] : List Int))))) = some r := by rw [if_pos rfl] at H; exact H
        clear H
        have H := H1
        clear H1
        by_cases c7 : (wrap64 (Int.tdiv a0 512)) = 16
        · rw [if_pos c7] at H
          have c7b0 : ((wrap64 (Int.tdiv a0 512)) == 16) = true := beq_iff_eq.mpr c7
          have c7b1 : ((wrap64 (Int.tdiv a0 512)) != 16) = false := bne_eq_false_iff_eq.mpr c7
          clear c7
          replace H := Option.bind_eq_some_iff.mp H
          obtain ⟨t127, A80, H⟩ := H
          replace H : (some (([t127, wrap64 (4096 + (Int.tmod (Int.tmod a0 512) 8))] : List Int))) = some r := H
          have A8 := Aside0.mk A80
          clear A80
          obtain ⟨y128, hy128⟩ : ∃ y_ : List Int, y_ = (([t127, wrap64 (4096 + (Int.tmod (Int.tmod a0 512) 8))] : List Int)) := ⟨_, rfl⟩
          replace H : (some y128) = some r := by first | (rw [hy128]; with_reducible exact H) | (have H2_ := (Option.bind_some _ _).symm.trans H; rw [hy128]; with_reducible exact H2_) | (have H2_ := (Option.bind_some _ _).symm.trans H; with_reducible exact H2_) | with_reducible exact H | (rw [hy128]; exact H) | exact H
          have Ny128 := Aside0.mk hy128
          clear hy128
          obtain rfl := Option.some.inj H
          go_wp2_with (first | ((with_reducible refine gate_callee (f := 240) rfl ?_); refine goesL_ (some 26) rfl rfl Tryd.func240 (by kernel_rfl) rfl #[.int .i64 (wrap64 (Int.tdiv (Int.tmod a0 512) 8))] rfl (by (try simp only [List.map_toArray, List.map_cons, List.map_nil]); first | done | rfl | (simp only [List.length_drop, List.length_take]; rfl)) ?_; (with_reducible refine (spec_l05Letter.calls (wrap64 (Int.tdiv (Int.tmod a0 512) 8)) t127 _ A8.out).mono ?_); rintro e w' ⟨rfl, ⟨nd, rfl⟩⟩; refine ⟨_, rfl, ?_⟩) | ((with_reducible refine gate_dst (N := 30) rfl ?_); refine Kd.R_lit (Kd.int .i64) _ 2 ?hg (N := 30) ?hd (xs := ([t127, wrap64 (4096 + (Int.tmod (Int.tmod a0 512) 8))] : List Int)) (inner := [.int .i64 t127, .int .i64 (wrap64 (4096 + (Int.tmod (Int.tmod a0 512) 8)))]) (ok := fun _ => True) (okp := fun _ => True) ?hr ?hp (fun _ hk => hk) trivial (Below.refl _ _) (Nat.le_refl _) (by simp) ?_; (case hd => rfl); (case hg => rfl); (case hr => first | (go_simp; done) | (go_simp; rfl)); (case hp => exact (Reps.one (show Kd.M (Kd.int .i64) _ _ _ t127 [.int .i64 t127] from rfl) (Reps.one (show Kd.M (Kd.int .i64) _ _ _ (wrap64 (4096 + (Int.tmod (Int.tmod a0 512) 8))) [.int .i64 (wrap64 (4096 + (Int.tmod (Int.tmod a0 512) 8)))] from rfl) (Reps.none _ _)))); intro v129 w9 ho10 hb hg_ hnew_; clear hg_ hnew_; (first | rw [← Ny128.out] at ho10 | (simp only [Int.reduceToNat] at ho10; rw [← Ny128.out] at ho10)); have n0_ := Aside0.mk (Kd.R_lower ho10 (below_size (by repeat (first | (with_reducible first | exact HB.out | apply below_alloc | apply pw_below_drewN | apply below_drew1) | exact HB.out)))); have n1_ := Aside0.mk (below_step (by repeat (first | (with_reducible first | exact HB.out | apply below_alloc | apply pw_below_drewN | apply below_drew1) | exact HB.out)) hb); clear HB; have HO130 := n0_; have HB := n1_; clear n0_ n1_; clear hb ho10))
          go_ret
          exact ⟨_, by first | rfl | (simp [errW_none, errW_some] <;> rfl) | (simp [*, errW_none, errW_some] <;> rfl), by (with_reducible repeat (first | apply Kd.R_alloc | apply Kd.R_drewN | apply Kd.R_drew)); exact HO130.out, by repeat (first | (with_reducible first | exact HB.out | apply below_alloc | apply pw_below_drewN | apply below_drew1) | exact HB.out)⟩
        · rw [if_neg c7] at H
          have c7b0 : ((wrap64 (Int.tdiv a0 512)) == 16) = false := beq_eq_false_iff_ne.mpr c7
          have c7b1 : ((wrap64 (Int.tdiv a0 512)) != 16) = true := bne_iff_ne.mpr c7
          by_cases c11 : (wrap64 (Int.tdiv a0 512)) = 17
          · rw [if_pos c11] at H
            have c11b0 : ((wrap64 (Int.tdiv a0 512)) == 17) = true := beq_iff_eq.mpr c11
            have c11b1 : ((wrap64 (Int.tdiv a0 512)) != 17) = false := bne_eq_false_iff_eq.mpr c11
            clear c11
            replace H := Option.bind_eq_some_iff.mp H
            obtain ⟨t131, A120, H⟩ := H
            replace H : (some (([t131, wrap64 (4112 + (Int.tmod (Int.tmod a0 512) 8))] : List Int))) = some r := H
            have A12 := Aside0.mk A120
            clear A120
            obtain ⟨y132, hy132⟩ : ∃ y_ : List Int, y_ = (([t131, wrap64 (4112 + (Int.tmod (Int.tmod a0 512) 8))] : List Int)) := ⟨_, rfl⟩
            replace H : (some y132) = some r := by first | (rw [hy132]; with_reducible exact H) | (have H2_ := (Option.bind_some _ _).symm.trans H; rw [hy132]; with_reducible exact H2_) | (have H2_ := (Option.bind_some _ _).symm.trans H; with_reducible exact H2_) | with_reducible exact H | (rw [hy132]; exact H) | exact H
            have Ny132 := Aside0.mk hy132
            clear hy132
            obtain rfl := Option.some.inj H
            go_wp2_with (first | ((with_reducible refine gate_callee (f := 240) rfl ?_); refine goesL_ (some 35) rfl rfl Tryd.func240 (by kernel_rfl) rfl #[.int .i64 (wrap64 (Int.tdiv (Int.tmod a0 512) 8))] rfl (by (try simp only [List.map_toArray, List.map_cons, List.map_nil]); first | done | rfl | (simp only [List.length_drop, List.length_take]; rfl)) ?_; (with_reducible refine (spec_l05Letter.calls (wrap64 (Int.tdiv (Int.tmod a0 512) 8)) t131 _ A12.out).mono ?_); rintro e w' ⟨rfl, ⟨nd, rfl⟩⟩; refine ⟨_, rfl, ?_⟩) | ((with_reducible refine gate_dst (N := 39) rfl ?_); refine Kd.R_lit (Kd.int .i64) _ 2 ?hg (N := 39) ?hd (xs := ([t131, wrap64 (4112 + (Int.tmod (Int.tmod a0 512) 8))] : List Int)) (inner := [.int .i64 t131, .int .i64 (wrap64 (4112 + (Int.tmod (Int.tmod a0 512) 8)))]) (ok := fun _ => True) (okp := fun _ => True) ?hr ?hp (fun _ hk => hk) trivial (Below.refl _ _) (Nat.le_refl _) (by simp) ?_; (case hd => rfl); (case hg => rfl); (case hr => first | (go_simp; done) | (go_simp; rfl)); (case hp => exact (Reps.one (show Kd.M (Kd.int .i64) _ _ _ t131 [.int .i64 t131] from rfl) (Reps.one (show Kd.M (Kd.int .i64) _ _ _ (wrap64 (4112 + (Int.tmod (Int.tmod a0 512) 8))) [.int .i64 (wrap64 (4112 + (Int.tmod (Int.tmod a0 512) 8)))] from rfl) (Reps.none _ _)))); intro v133 w13 ho14 hb hg_ hnew_; clear hg_ hnew_; (first | rw [← Ny132.out] at ho14 | (simp only [Int.reduceToNat] at ho14; rw [← Ny132.out] at ho14)); have n0_ := Aside0.mk (Kd.R_lower ho14 (below_size (by repeat (first | (with_reducible first | exact HB.out | apply below_alloc | apply pw_below_drewN | apply below_drew1) | exact HB.out)))); have n1_ := Aside0.mk (below_step (by repeat (first | (with_reducible first | exact HB.out | apply below_alloc | apply pw_below_drewN | apply below_drew1) | exact HB.out)) hb); clear HB; have HO134 := n0_; have HB := n1_; clear n0_ n1_; clear hb ho14))
            go_ret
            exact ⟨_, by first | rfl | (simp [errW_none, errW_some] <;> rfl) | (simp [*, errW_none, errW_some] <;> rfl), by (with_reducible repeat (first | apply Kd.R_alloc | apply Kd.R_drewN | apply Kd.R_drew)); exact HO134.out, by repeat (first | (with_reducible first | exact HB.out | apply below_alloc | apply pw_below_drewN | apply below_drew1) | exact HB.out)⟩
          · rw [if_neg c11] at H
            have c11b0 : ((wrap64 (Int.tdiv a0 512)) == 17) = false := beq_eq_false_iff_ne.mpr c11
            have c11b1 : ((wrap64 (Int.tdiv a0 512)) != 17) = true := bne_iff_ne.mpr c11
            obtain ⟨y135, hy135⟩ : ∃ y_ : List Int, y_ = (([wrap64 (8704 + (Int.tmod a0 512)), 4096] : List Int)) := ⟨_, rfl⟩
            replace H : (some y135) = some r := by first | (rw [hy135]; with_reducible exact H) | (have H2_ := (Option.bind_some _ _).symm.trans H; rw [hy135]; with_reducible exact H2_) | (have H2_ := (Option.bind_some _ _).symm.trans H; with_reducible exact H2_) | with_reducible exact H | (rw [hy135]; exact H) | exact H
            have Ny135 := Aside0.mk hy135
            clear hy135
            obtain rfl := Option.some.inj H
            go_wp2_with (first | ((with_reducible refine gate_dst (N := 42) rfl ?_); refine Kd.R_lit (Kd.int .i64) _ 2 ?hg (N := 42) ?hd (xs := ([wrap64 (8704 + (Int.tmod a0 512)), 4096] : List Int)) (inner := [.int .i64 (wrap64 (8704 + (Int.tmod a0 512))), .int .i64 4096]) (ok := fun _ => True) (okp := fun _ => True) ?hr ?hp (fun _ hk => hk) trivial (Below.refl _ _) (Nat.le_refl _) (by simp) ?_; (case hd => rfl); (case hg => rfl); (case hr => first | (go_simp; done) | (go_simp; rfl)); (case hp => exact (Reps.one (show Kd.M (Kd.int .i64) _ _ _ (wrap64 (8704 + (Int.tmod a0 512))) [.int .i64 (wrap64 (8704 + (Int.tmod a0 512)))] from rfl) (Reps.one (show Kd.M (Kd.int .i64) _ _ _ 4096 [.int .i64 4096] from rfl) (Reps.none _ _)))); intro v136 w15 ho16 hb hg_ hnew_; clear hg_ hnew_; (first | rw [← Ny135.out] at ho16 | (simp only [Int.reduceToNat] at ho16; rw [← Ny135.out] at ho16)); have n0_ := Aside0.mk (Kd.R_lower ho16 (below_size (by repeat (first | (with_reducible first | exact HB.out | apply below_alloc | apply pw_below_drewN | apply below_drew1) | exact HB.out)))); have n1_ := Aside0.mk (below_step (by repeat (first | (with_reducible first | exact HB.out | apply below_alloc | apply pw_below_drewN | apply below_drew1) | exact HB.out)) hb); clear HB; have HO137 := n0_; have HB := n1_; clear n0_ n1_; clear hb ho16))
            go_ret
            exact ⟨_, by first | rfl | (simp [errW_none, errW_some] <;> rfl) | (simp [*, errW_none, errW_some] <;> rfl), by (with_reducible repeat (first | apply Kd.R_alloc | apply Kd.R_drewN | apply Kd.R_drew)); exact HO137.out, by repeat (first | (with_reducible first | exact HB.out | apply below_alloc | apply pw_below_drewN | apply below_drew1) | exact HB.out)⟩
      · replace c6 := Bool.eq_false_iff.mpr c6
        subst c6
        have H1 : (if a0 ≥ 9728 then (spec_l05Parts.j1 kj2 a0 a1 (decide (a0 ≤ 9753))) else (spec_l05Parts.j1 kj2 a0 a1 false)) = some r := by rw [if_neg (show ¬ (false = true) by decide)] at H; exact H
        clear H
        have H := H1
        clear H1
        have HC17 := Aside0.mk H
        clear H
        go_upto_region 9 with (fail)
        go_cut [43] (fun v43 wc => ∃ (kq : Nat) (x43_16 : Bool), v43 = .bool x43_16 ∧ Aside0 (spec_l05Parts.j1 kq a0 a1 x43_16 = some r) ∧ Aside0 (kq ≤ kj2) ∧ Aside0 (Below w.heap.size w wc))
        case first =>
          have H := HC17.out
          clear HC17
          by_cases c18 : a0 ≥ 9728
          · rw [if_pos c18] at H
            have c18b0 : decide (9728 ≤ a0) = true := decide_eq_true c18
            clear c18
            (first | rw [c18b0] | (simp only [i64_w, i32_w]; rw [c18b0]) | skip)
            have H' := Aside0.mk H
            clear H
            go_wp2
            go_meet
            case rel => exact ⟨_, (decide (a0 ≤ 9753)), (by first | rfl | (simp; done) | (simp [*]; done)), H', ⟨by have := HJ2.out; first | omega | exact Nat.le_refl _⟩, ⟨by repeat (first | (with_reducible first | exact HB.out | apply below_alloc | apply pw_below_drewN | apply below_drew1) | exact HB.out)⟩⟩
          · rw [if_neg c18] at H
            have c18b0 : decide (9728 ≤ a0) = false := decide_eq_false c18
            clear c18
            (first | rw [c18b0] | (simp only [i64_w, i32_w]; rw [c18b0]) | skip)
            have H' := Aside0.mk H
            clear H
            go_wp2
            go_meet
            case rel => exact ⟨_, (false), (by first | rfl | (simp; done) | (simp [*]; done)), H', ⟨by have := HJ2.out; first | omega | exact Nat.le_refl _⟩, ⟨by repeat (first | (with_reducible first | exact HB.out | apply below_alloc | apply pw_below_drewN | apply below_drew1) | exact HB.out)⟩⟩
        case rest =>
          clear HC17
          try clear c1
          try clear c2
          try clear p2
          try clear c4
          try clear c4b0
          try clear c5
          try clear c5b0
          try clear c6
          try clear p6
          try clear c7
          try clear c7b0
          try clear c7b1
          try clear c11
          try clear c11b0
          try clear c11b1
          try clear c18
          try clear c18b0
          try clear p2
          obtain ⟨kq, x43_16, rfl, HA, HJ16, HB⟩ := hcut
          cases kq with
          | zero => exact absurd HA.out (by simp [spec_l05Parts.j1])
          | succ kj16 =>
            have H := HA.out
            clear HA
            simp only [spec_l05Parts.j1] at H
            by_cases c19 : x43_16 = true
            · subst c19
              have H1 : (some (([wrap64 ((wrap64 (a0 - 9728)) + 65)] : List Int))) = some r := by rw [if_pos rfl] at H; exact H
              clear H
              have H := H1
              clear H1
              obtain ⟨y138, hy138⟩ : ∃ y_ : List Int, y_ = (([wrap64 ((wrap64 (a0 - 9728)) + 65)] : List Int)) := ⟨_, rfl⟩
              replace H : (some y138) = some r := by first | (rw [hy138]; with_reducible exact H) | (have H2_ := (Option.bind_some _ _).symm.trans H; rw [hy138]; with_reducible exact H2_) | (have H2_ := (Option.bind_some _ _).symm.trans H; with_reducible exact H2_) | with_reducible exact H | (rw [hy138]; exact H) | exact H
              have Ny138 := Aside0.mk hy138
              clear hy138
              obtain rfl := Option.some.inj H
              go_wp2_with (first | ((with_reducible refine gate_dst (N := 53) rfl ?_); refine Kd.R_lit (Kd.int .i64) _ 2 ?hg (N := 53) ?hd (xs := ([wrap64 ((wrap64 (a0 - 9728)) + 65)] : List Int)) (inner := [.int .i64 (wrap64 ((wrap64 (a0 - 9728)) + 65))]) (ok := fun _ => True) (okp := fun _ => True) ?hr ?hp (fun _ hk => hk) trivial (Below.refl _ _) (Nat.le_refl _) (by simp) ?_; (case hd => rfl); (case hg => rfl); (case hr => first | (go_simp; done) | (go_simp; rfl)); (case hp => exact (Reps.one (show Kd.M (Kd.int .i64) _ _ _ (wrap64 ((wrap64 (a0 - 9728)) + 65)) [.int .i64 (wrap64 ((wrap64 (a0 - 9728)) + 65))] from rfl) (Reps.none _ _))); intro v139 w20 ho21 hb hg_ hnew_; clear hg_ hnew_; (first | rw [← Ny138.out] at ho21 | (simp only [Int.reduceToNat] at ho21; rw [← Ny138.out] at ho21)); have n0_ := Aside0.mk (Kd.R_lower ho21 (below_size (by repeat (first | (with_reducible first | exact HB.out | apply below_alloc | apply pw_below_drewN | apply below_drew1) | exact HB.out)))); have n1_ := Aside0.mk (below_step (by repeat (first | (with_reducible first | exact HB.out | apply below_alloc | apply pw_below_drewN | apply below_drew1) | exact HB.out)) hb); clear HB; have HO140 := n0_; have HB := n1_; clear n0_ n1_; clear hb ho21))
              go_ret
              exact ⟨_, by first | rfl | (simp [errW_none, errW_some] <;> rfl) | (simp [*, errW_none, errW_some] <;> rfl), by (with_reducible repeat (first | apply Kd.R_alloc | apply Kd.R_drewN | apply Kd.R_drew)); exact HO140.out, by repeat (first | (with_reducible first | exact HB.out | apply below_alloc | apply pw_below_drewN | apply below_drew1) | exact HB.out)⟩
            · replace c19 := Bool.eq_false_iff.mpr c19
              subst c19
              have H1 : (if a0 ≥ 12288 then (spec_l05Parts.j2 kj16 a0 a1 (decide (a0 ≤ 23459))) else (spec_l05Parts.j2 kj16 a0 a1 false)) = some r := by rw [if_neg (show ¬ (false = true) by decide)] at H; exact H
              clear H
              have H := H1
              clear H1
              have HC22 := Aside0.mk H
              clear H
              go_upto_region 11 with (fail)
              go_cut [54] (fun v54 wc => ∃ (kq : Nat) (x54_21 : Bool), v54 = .bool x54_21 ∧ Aside0 (spec_l05Parts.j2 kq a0 a1 x54_21 = some r) ∧ Aside0 (kq ≤ kj16) ∧ Aside0 (Below w.heap.size w wc))
              case first =>
                have H := HC22.out
                clear HC22
                by_cases c23 : a0 ≥ 12288
                · rw [if_pos c23] at H
                  have c23b0 : decide (12288 ≤ a0) = true := decide_eq_true c23
                  clear c23
                  (first | rw [c23b0] | (simp only [i64_w, i32_w]; rw [c23b0]) | skip)
                  have H' := Aside0.mk H
                  clear H
                  go_wp2
                  go_meet
                  case rel => exact ⟨_, (decide (a0 ≤ 23459)), (by first | rfl | (simp; done) | (simp [*]; done)), H', ⟨by have := HJ2.out; have := HJ16.out; first | omega | exact Nat.le_refl _⟩, ⟨by repeat (first | (with_reducible first | exact HB.out | apply below_alloc | apply pw_below_drewN | apply below_drew1) | exact HB.out)⟩⟩
                · rw [if_neg c23] at H
                  have c23b0 : decide (12288 ≤ a0) = false := decide_eq_false c23
                  clear c23
                  (first | rw [c23b0] | (simp only [i64_w, i32_w]; rw [c23b0]) | skip)
                  have H' := Aside0.mk H
                  clear H
                  go_wp2
                  go_meet
                  case rel => exact ⟨_, (false), (by first | rfl | (simp; done) | (simp [*]; done)), H', ⟨by have := HJ2.out; have := HJ16.out; first | omega | exact Nat.le_refl _⟩, ⟨by repeat (first | (with_reducible first | exact HB.out | apply below_alloc | apply pw_below_drewN | apply below_drew1) | exact HB.out)⟩⟩
              case rest =>
                clear HC22
                try clear c1
                try clear c2
                try clear p2
                try clear c4
                try clear c4b0
                try clear c5
                try clear c5b0
                try clear c6
                try clear p6
                try clear c7
                try clear c7b0
                try clear c7b1
                try clear c11
                try clear c11b0
                try clear c11b1
                try clear c18
                try clear c18b0
                try clear c19
                try clear c23
                try clear c23b0
                try clear p2
                try clear p6
                obtain ⟨kq, x54_21, rfl, HA, HJ21, HB⟩ := hcut
                cases kq with
                | zero => exact absurd HA.out (by simp [spec_l05Parts.j2])
                | succ kj21 =>
                  have H := HA.out
                  clear HA
                  simp only [spec_l05Parts.j2] at H
                  by_cases c24 : x54_21 = true
                  · subst c24
                    have H1 : (if (Int.tmod (wrap64 (a0 - 12288)) 28) > 0 then (some (([wrap64 (a0 - (Int.tmod (wrap64 (a0 - 12288)) 28)), wrap64 (1856 + (Int.tmod (wrap64 (a0 - 12288)) 28))] : List Int))) else (some (([wrap64 (1792 + (wrap64 (Int.tdiv (wrap64 (a0 - 12288)) 588))), wrap64 (1824 + (Int.tmod (wrap64 (Int.tdiv (wrap64 (a0 - 12288)) 28)) 21))] : List Int)))) = some r := by rw [if_pos rfl] at H; exact H
                    clear H
                    have H := H1
                    clear H1
                    by_cases c25 : (Int.tmod (wrap64 (a0 - 12288)) 28) > 0
                    · rw [if_pos c25] at H
                      have c25b0 : decide (0 < (Int.tmod (wrap64 (a0 - 12288)) 28)) = true := decide_eq_true c25
                      clear c25
                      obtain ⟨y141, hy141⟩ : ∃ y_ : List Int, y_ = (([wrap64 (a0 - (Int.tmod (wrap64 (a0 - 12288)) 28)), wrap64 (1856 + (Int.tmod (wrap64 (a0 - 12288)) 28))] : List Int)) := ⟨_, rfl⟩
                      replace H : (some y141) = some r := by first | (rw [hy141]; with_reducible exact H) | (have H2_ := (Option.bind_some _ _).symm.trans H; rw [hy141]; with_reducible exact H2_) | (have H2_ := (Option.bind_some _ _).symm.trans H; with_reducible exact H2_) | with_reducible exact H | (rw [hy141]; exact H) | exact H
                      have Ny141 := Aside0.mk hy141
                      clear hy141
                      obtain rfl := Option.some.inj H
                      go_wp2_with (first | ((with_reducible refine gate_dst (N := 73) rfl ?_); refine Kd.R_lit (Kd.int .i64) _ 2 ?hg (N := 73) ?hd (xs := ([wrap64 (a0 - (Int.tmod (wrap64 (a0 - 12288)) 28)), wrap64 (1856 + (Int.tmod (wrap64 (a0 - 12288)) 28))] : List Int)) (inner := [.int .i64 (wrap64 (a0 - (Int.tmod (wrap64 (a0 - 12288)) 28))), .int .i64 (wrap64 (1856 + (Int.tmod (wrap64 (a0 - 12288)) 28)))]) (ok := fun _ => True) (okp := fun _ => True) ?hr ?hp (fun _ hk => hk) trivial (Below.refl _ _) (Nat.le_refl _) (by simp) ?_; (case hd => rfl); (case hg => rfl); (case hr => first | (go_simp; done) | (go_simp; rfl)); (case hp => exact (Reps.one (show Kd.M (Kd.int .i64) _ _ _ (wrap64 (a0 - (Int.tmod (wrap64 (a0 - 12288)) 28))) [.int .i64 (wrap64 (a0 - (Int.tmod (wrap64 (a0 - 12288)) 28)))] from rfl) (Reps.one (show Kd.M (Kd.int .i64) _ _ _ (wrap64 (1856 + (Int.tmod (wrap64 (a0 - 12288)) 28))) [.int .i64 (wrap64 (1856 + (Int.tmod (wrap64 (a0 - 12288)) 28)))] from rfl) (Reps.none _ _)))); intro v142 w26 ho27 hb hg_ hnew_; clear hg_ hnew_; (first | rw [← Ny141.out] at ho27 | (simp only [Int.reduceToNat] at ho27; rw [← Ny141.out] at ho27)); have n0_ := Aside0.mk (Kd.R_lower ho27 (below_size (by repeat (first | (with_reducible first | exact HB.out | apply below_alloc | apply pw_below_drewN | apply below_drew1) | exact HB.out)))); have n1_ := Aside0.mk (below_step (by repeat (first | (with_reducible first | exact HB.out | apply below_alloc | apply pw_below_drewN | apply below_drew1) | exact HB.out)) hb); clear HB; have HO143 := n0_; have HB := n1_; clear n0_ n1_; clear hb ho27))
                      go_ret
                      exact ⟨_, by first | rfl | (simp [errW_none, errW_some] <;> rfl) | (simp [*, errW_none, errW_some] <;> rfl), by (with_reducible repeat (first | apply Kd.R_alloc | apply Kd.R_drewN | apply Kd.R_drew)); exact HO143.out, by repeat (first | (with_reducible first | exact HB.out | apply below_alloc | apply pw_below_drewN | apply below_drew1) | exact HB.out)⟩
                    · rw [if_neg c25] at H
                      have c25b0 : decide (0 < (Int.tmod (wrap64 (a0 - 12288)) 28)) = false := decide_eq_false c25
                      clear c25
                      obtain ⟨y144, hy144⟩ : ∃ y_ : List Int, y_ = (([wrap64 (1792 + (wrap64 (Int.tdiv (wrap64 (a0 - 12288)) 588))), wrap64 (1824 + (Int.tmod (wrap64 (Int.tdiv (wrap64 (a0 - 12288)) 28)) 21))] : List Int)) := ⟨_, rfl⟩
                      replace H : (some y144) = some r := by first | (rw [hy144]; with_reducible exact H) | (have H2_ := (Option.bind_some _ _).symm.trans H; rw [hy144]; with_reducible exact H2_) | (have H2_ := (Option.bind_some _ _).symm.trans H; with_reducible exact H2_) | with_reducible exact H | (rw [hy144]; exact H) | exact H
                      have Ny144 := Aside0.mk hy144
                      clear hy144
                      obtain rfl := Option.some.inj H
                      go_wp2_with (first | ((with_reducible refine gate_dst (N := 81) rfl ?_); refine Kd.R_lit (Kd.int .i64) _ 2 ?hg (N := 81) ?hd (xs := ([wrap64 (1792 + (wrap64 (Int.tdiv (wrap64 (a0 - 12288)) 588))), wrap64 (1824 + (Int.tmod (wrap64 (Int.tdiv (wrap64 (a0 - 12288)) 28)) 21))] : List Int)) (inner := [.int .i64 (wrap64 (1792 + (wrap64 (Int.tdiv (wrap64 (a0 - 12288)) 588)))), .int .i64 (wrap64 (1824 + (Int.tmod (wrap64 (Int.tdiv (wrap64 (a0 - 12288)) 28)) 21)))]) (ok := fun _ => True) (okp := fun _ => True) ?hr ?hp (fun _ hk => hk) trivial (Below.refl _ _) (Nat.le_refl _) (by simp) ?_; (case hd => rfl); (case hg => rfl); (case hr => first | (go_simp; done) | (go_simp; rfl)); (case hp => exact (Reps.one (show Kd.M (Kd.int .i64) _ _ _ (wrap64 (1792 + (wrap64 (Int.tdiv (wrap64 (a0 - 12288)) 588)))) [.int .i64 (wrap64 (1792 + (wrap64 (Int.tdiv (wrap64 (a0 - 12288)) 588))))] from rfl) (Reps.one (show Kd.M (Kd.int .i64) _ _ _ (wrap64 (1824 + (Int.tmod (wrap64 (Int.tdiv (wrap64 (a0 - 12288)) 28)) 21))) [.int .i64 (wrap64 (1824 + (Int.tmod (wrap64 (Int.tdiv (wrap64 (a0 - 12288)) 28)) 21)))] from rfl) (Reps.none _ _)))); intro v145 w28 ho29 hb hg_ hnew_; clear hg_ hnew_; (first | rw [← Ny144.out] at ho29 | (simp only [Int.reduceToNat] at ho29; rw [← Ny144.out] at ho29)); have n0_ := Aside0.mk (Kd.R_lower ho29 (below_size (by repeat (first | (with_reducible first | exact HB.out | apply below_alloc | apply pw_below_drewN | apply below_drew1) | exact HB.out)))); have n1_ := Aside0.mk (below_step (by repeat (first | (with_reducible first | exact HB.out | apply below_alloc | apply pw_below_drewN | apply below_drew1) | exact HB.out)) hb); clear HB; have HO146 := n0_; have HB := n1_; clear n0_ n1_; clear hb ho29))
                      go_ret
                      exact ⟨_, by first | rfl | (simp [errW_none, errW_some] <;> rfl) | (simp [*, errW_none, errW_some] <;> rfl), by (with_reducible repeat (first | apply Kd.R_alloc | apply Kd.R_drewN | apply Kd.R_drew)); exact HO146.out, by repeat (first | (with_reducible first | exact HB.out | apply below_alloc | apply pw_below_drewN | apply below_drew1) | exact HB.out)⟩
                  · replace c24 := Bool.eq_false_iff.mpr c24
                    subst c24
                    have H1 : (if a1 = true then ((spec_l05Wide.f a0).bind fun t147 => (some t147)) else (some (([] : List Int)))) = some r := by rw [if_neg (show ¬ (false = true) by decide)] at H; exact H
                    clear H
                    have H := H1
                    clear H1
                    by_cases c30 : a1 = true
                    · subst c30
                      have H1 : ((spec_l05Wide.f a0).bind fun t147 => (some t147)) = some r := by rw [if_pos rfl] at H; exact H
                      clear H
                      have H := H1
                      clear H1
                      replace H := Option.bind_eq_some_iff.mp H
                      obtain ⟨t147, A310, H⟩ := H
                      replace H : (some t147) = some r := H
                      have A31 := Aside0.mk A310
                      clear A310
                      obtain rfl := Option.some.inj H
                      go_wp2_with (first | ((with_reducible refine gate_callee (f := 241) rfl ?_); refine goesL_ (some 85) rfl rfl Tryd.func241 (by kernel_rfl) rfl #[.int .i64 a0] rfl (by (try simp only [List.map_toArray, List.map_cons, List.map_nil]); first | done | rfl | (simp only [List.length_drop, List.length_take]; rfl)) ?_; (with_reducible refine (spec_l05Wide.calls a0 t147 _ A31.out).mono ?_); rintro e w32 ⟨v148, rfl, ho0, hb⟩; refine ⟨_, rfl, ?_⟩; have n0_ := Aside0.mk (Kd.R_lower ho0 (below_size (by repeat (first | (with_reducible first | exact HB.out | apply below_alloc | apply pw_below_drewN | apply below_drew1) | exact HB.out)))); have n1_ := Aside0.mk (below_step (by repeat (first | (with_reducible first | exact HB.out | apply below_alloc | apply pw_below_drewN | apply below_drew1) | exact HB.out)) hb); clear HB; have HO149 := n0_; have HB := n1_; clear n0_ n1_; (try clear hb); (try clear hb2); (try clear hk); (try clear hi); (try clear ho0)))
                      go_ret
                      exact ⟨_, by first | rfl | (simp [errW_none, errW_some] <;> rfl) | (simp [*, errW_none, errW_some] <;> rfl), by (with_reducible repeat (first | apply Kd.R_alloc | apply Kd.R_drewN | apply Kd.R_drew)); exact HO149.out, by repeat (first | (with_reducible first | exact HB.out | apply below_alloc | apply pw_below_drewN | apply below_drew1) | exact HB.out)⟩
                    · replace c30 := Bool.eq_false_iff.mpr c30
                      subst c30
                      have H1 : (some (([] : List Int))) = some r := by rw [if_neg (show ¬ (false = true) by decide)] at H; exact H
                      clear H
                      have H := H1
                      clear H1
                      obtain ⟨y150, hy150⟩ : ∃ y_ : List Int, y_ = (([] : List Int)) := ⟨_, rfl⟩
                      replace H : (some y150) = some r := by first | (rw [hy150]; with_reducible exact H) | (have H2_ := (Option.bind_some _ _).symm.trans H; rw [hy150]; with_reducible exact H2_) | (have H2_ := (Option.bind_some _ _).symm.trans H; with_reducible exact H2_) | with_reducible exact H | (rw [hy150]; exact H) | exact H
                      have Ny150 := Aside0.mk hy150
                      clear hy150
                      obtain rfl := Option.some.inj H
                      go_wp2_with (first | ((with_reducible refine gate_dst (N := 86) rfl ?_); refine Kd.R_lit (Kd.int .i64) _ 2 ?hg (N := 86) ?hd (xs := ([] : List Int)) (inner := []) (ok := fun _ => True) (okp := fun _ => True) ?hr ?hp (fun _ hk => hk) trivial (Below.refl _ _) (Nat.le_refl _) (by simp) ?_; (case hd => rfl); (case hg => rfl); (case hr => first | (go_simp; done) | (go_simp; rfl)); (case hp => exact (Reps.none _ _)); intro v151 w33 ho34 hb hg_ hnew_; clear hg_ hnew_; (first | rw [← Ny150.out] at ho34 | (simp only [Int.reduceToNat] at ho34; rw [← Ny150.out] at ho34)); have n0_ := Aside0.mk (Kd.R_lower ho34 (below_size (by repeat (first | (with_reducible first | exact HB.out | apply below_alloc | apply pw_below_drewN | apply below_drew1) | exact HB.out)))); have n1_ := Aside0.mk (below_step (by repeat (first | (with_reducible first | exact HB.out | apply below_alloc | apply pw_below_drewN | apply below_drew1) | exact HB.out)) hb); clear HB; have HO152 := n0_; have HB := n1_; clear n0_ n1_; clear hb ho34))
                      go_ret
                      exact ⟨_, by first | rfl | (simp [errW_none, errW_some] <;> rfl) | (simp [*, errW_none, errW_some] <;> rfl), by (with_reducible repeat (first | apply Kd.R_alloc | apply Kd.R_drewN | apply Kd.R_drew)); exact HO152.out, by repeat (first | (with_reducible first | exact HB.out | apply below_alloc | apply pw_below_drewN | apply below_drew1) | exact HB.out)⟩

def W_spec_l05Parts.f (a0 : Int) (a1 : Bool) : Option (List Int) := if 0 ≤ a0 ∧ a0 ≤ 1114111 then some (YtdkoofdfkhogoaaDoorNrm.prt a1 a0) else none
theorem spec_l05Parts.wide_ (p : Int) (h0 : 0 ≤ p) (h1 : p ≤ 1114111) (c1 : ¬ (8192 ≤ p ∧ p ≤ 9631 ∧ p % 512 < 416)) (c2 : ¬ (9728 ≤ p ∧ p ≤ 9753)) (c3 : ¬ (12288 ≤ p ∧ p ≤ 23459)) : spec_l05Wide.f p = some (YtdkoofdfkhogoaaDoorNrm.prt true p) := by
  unfold YtdkoofdfkhogoaaDoorNrm.prt spec_l05Wide.f spec_l05Wide.g
  rw [if_neg c1, if_neg c2, if_neg c3, if_pos ⟨h0, h1⟩]
  simp only [true_and]
theorem spec_l05Parts.eq_ (p : Int) (k : Bool) (h0 : 0 ≤ p) (h1 : p ≤ 1114111) : spec_l05Parts.f 6 p k = some (YtdkoofdfkhogoaaDoorNrm.prt k p) := by
  have t1 : Int.tmod p 512 = p % 512 := Int.tmod_eq_emod_of_nonneg h0
  have lt : ∀ i : Int, 0 ≤ i → i < 52 → spec_l05Letter.f i = some (YtdkoofdfkhogoaaDoorNrm.letter i) := by
    intro i i0 i1
    unfold spec_l05Letter.f YtdkoofdfkhogoaaDoorNrm.letter
    by_cases c : i < 26
    · rw [if_pos c, if_pos c]; unfold wrap64; congr 1; omega
    · rw [if_neg c, if_neg c]; unfold wrap64; congr 1; omega
  unfold spec_l05Parts.f
  rw [t1]
  by_cases c1 : 8192 ≤ p ∧ p ≤ 9631 ∧ p % 512 < 416
  · have t2 : wrap64 (Int.tdiv p 512) = p / 512 := by rw [Int.tdiv_eq_ediv_of_nonneg h0]; unfold wrap64; omega
    have t3 : wrap64 (Int.tdiv (p % 512) 8) = p % 512 / 8 := by rw [Int.tdiv_eq_ediv_of_nonneg (by omega)]; unfold wrap64; omega
    have t4 : Int.tmod (p % 512) 8 = p % 8 := by rw [Int.tmod_eq_emod_of_nonneg (by omega)]; omega
    rw [if_pos (show p ≥ 8192 from c1.1), if_pos (by omega), decide_eq_true c1.2.2]
    simp only [spec_l05Parts.j0]
    unfold YtdkoofdfkhogoaaDoorNrm.prt
    rw [if_pos trivial, t2, t3, t4, lt _ (by omega) (by omega), if_pos c1]
    simp only [Option.bind_some]
    by_cases d1 : p < 8704
    · rw [if_pos (by omega), if_pos d1, show wrap64 (4096 + p % 8) = 4096 + p % 8 by unfold wrap64; omega]
    · rw [if_neg (by omega), if_neg d1]
      by_cases d2 : p < 9216
      · rw [if_pos (by omega), if_pos d2, show wrap64 (4112 + p % 8) = 4112 + p % 8 by unfold wrap64; omega]
      · rw [if_neg (by omega), if_neg d2, show wrap64 (8704 + p % 512) = 8704 + p % 512 by unfold wrap64; omega]
  have e1 : (if p ≥ 8192 then if p < 9728 then spec_l05Parts.j0 6 p k (p % 512) (decide (p % 512 < 416)) else spec_l05Parts.j0 6 p k (p % 512) false else spec_l05Parts.j0 6 p k (p % 512) false) = spec_l05Parts.j0 6 p k (p % 512) false := by
    by_cases c : p ≥ 8192
    · rw [if_pos c]
      by_cases c2 : p < 9728
      · rw [if_pos c2, decide_eq_false (by omega)]
      · rw [if_neg c2]
    · rw [if_neg c]
  rw [e1]
  simp only [spec_l05Parts.j0]
  rw [if_neg (by decide)]
  by_cases c2 : 9728 ≤ p ∧ p ≤ 9753
  · rw [if_pos (show p ≥ 9728 from c2.1), decide_eq_true c2.2]
    simp only [spec_l05Parts.j1]
    unfold YtdkoofdfkhogoaaDoorNrm.prt
    rw [if_pos trivial, if_neg c1, if_pos c2, show wrap64 (wrap64 (p - 9728) + 65) = p - 9663 by unfold wrap64; omega]
  have e2 : (if p ≥ 9728 then spec_l05Parts.j1 5 p k (decide (p ≤ 9753)) else spec_l05Parts.j1 5 p k false) = spec_l05Parts.j1 5 p k false := by
    by_cases c : p ≥ 9728
    · rw [if_pos c, decide_eq_false (by omega)]
    · rw [if_neg c]
  rw [e2]
  simp only [spec_l05Parts.j1]
  rw [if_neg (by decide)]
  by_cases c3 : 12288 ≤ p ∧ p ≤ 23459
  · have w1 : wrap64 (p - 12288) = p - 12288 := by unfold wrap64; omega
    have t2 : Int.tmod (p - 12288) 28 = (p - 12288) % 28 := Int.tmod_eq_emod_of_nonneg (by omega)
    have t3 : wrap64 (Int.tdiv (p - 12288) 588) = (p - 12288) / 588 := by rw [Int.tdiv_eq_ediv_of_nonneg (by omega)]; unfold wrap64; omega
    have t4 : wrap64 (Int.tdiv (p - 12288) 28) = (p - 12288) / 28 := by rw [Int.tdiv_eq_ediv_of_nonneg (by omega)]; unfold wrap64; omega
    have t5 : Int.tmod ((p - 12288) / 28) 21 = (p - 12288) / 28 % 21 := Int.tmod_eq_emod_of_nonneg (by omega)
    rw [if_pos (show p ≥ 12288 from c3.1), decide_eq_true c3.2]
    simp only [spec_l05Parts.j2]
    unfold YtdkoofdfkhogoaaDoorNrm.prt
    rw [if_pos trivial, if_neg c1, if_neg c2, if_pos c3, w1, t2, t3, t4, t5]
    by_cases d : 0 < (p - 12288) % 28
    · rw [if_pos (show (p - 12288) % 28 > 0 from d), if_pos d, show wrap64 (p - (p - 12288) % 28) = p - (p - 12288) % 28 by unfold wrap64; omega, show wrap64 (1856 + (p - 12288) % 28) = 1856 + (p - 12288) % 28 by unfold wrap64; omega]
    · rw [if_neg (show ¬ (p - 12288) % 28 > 0 from d), if_neg d, show wrap64 (1792 + (p - 12288) / 588) = 1792 + (p - 12288) / 588 by unfold wrap64; omega, show wrap64 (1824 + (p - 12288) / 28 % 21) = 1824 + (p - 12288) / 28 % 21 by unfold wrap64; omega]
  have e3 : (if p ≥ 12288 then spec_l05Parts.j2 4 p k (decide (p ≤ 23459)) else spec_l05Parts.j2 4 p k false) = spec_l05Parts.j2 4 p k false := by
    by_cases c : p ≥ 12288
    · rw [if_pos c, decide_eq_false (by omega)]
    · rw [if_neg c]
  rw [e3]
  simp only [spec_l05Parts.j2]
  rw [if_neg (by decide)]
  cases k with
  | true =>
    rw [if_pos rfl, spec_l05Parts.wide_ p h0 h1 c1 c2 c3]
    rfl
  | false =>
    unfold YtdkoofdfkhogoaaDoorNrm.prt
    rw [if_neg (by decide), if_neg c1, if_neg c2, if_neg c3]
    simp
theorem W_spec_l05Parts.to {a0 : Int} {a1 : Bool} {r : List Int} (h : W_spec_l05Parts.f a0 a1 = some r) : ∃ k, spec_l05Parts.f k a0 a1 = some r := by
  unfold W_spec_l05Parts.f at h
  split at h
  · rename_i hp
    exact ⟨6, by rw [← h]; exact spec_l05Parts.eq_ a0 a1 hp.1 hp.2⟩
  · cases h
theorem W_spec_l05Parts.calls (a0 : Int) (a1 : Bool) (r : List Int) (w : World) (h : W_spec_l05Parts.f a0 a1 = some r) :
    Calls Tryd.prog 231 #[.int .i64 a0, .bool a1] w fun e w' => ∃ v0_ : Value, e = .returned (v0_) ∧ Kd.R (Kd.int .i64) 2 w' w.heap.size (fun _ => True) v0_ r ∧ Below w.heap.size w w' := by
  obtain ⟨k, hk⟩ := W_spec_l05Parts.to h
  exact spec_l05Parts.calls k a0 a1 r w hk

end Go.Proofs.YtdkoofdfkhogoaaDoor.QFnExactCaselessSame
