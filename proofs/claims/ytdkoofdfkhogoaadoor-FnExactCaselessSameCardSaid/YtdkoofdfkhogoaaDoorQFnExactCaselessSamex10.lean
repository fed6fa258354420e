/- The law FnExactCaselessSame: at every input the call answers true (this text: contracts on its way, by a program of this session's; no condition of ours). -/
import Derived.Test.YtdkoofdfkhogoaaDoorQFnExactCaselessSamex0
import Derived.Test.YtdkoofdfkhogoaaDoorQFnExactCaselessSamex1
import Derived.Test.YtdkoofdfkhogoaaDoorQFnExactCaselessSamex3
import Derived.Test.YtdkoofdfkhogoaaDoorQFnExactCaselessSamex9
namespace Go.Proofs.YtdkoofdfkhogoaaDoor.QFnExactCaselessSame
open Go.RowKit Go.Proofs.YtdkoofdfkhogoaaDoorW.PrintWords Go.Proofs.YtdkoofdfkhogoaaDoorW.PrintLast Go.Proofs.YtdkoofdfkhogoaaDoorW.PrintMore
attribute [local go_sem] max2_int min2_int max_two min_two max_three min_three max_four min_four   -- for this text's walks alone
set_option linter.unusedVariables false
set_option linter.unusedSimpArgs false

/-! ### spec_l06Fold: function 187 -/
mutual
def spec_l06Fold.l0 : Nat → List Int → List Int → Int → Option (List Int)
  | 0, _, _, _ => none
  | k + 1, x0, x3, x4 => if x4 < (x0.length : Int) then (if 0 ≤ x4 then ((spec_l06Sharp.f (rd x0 x4)).bind fun bt227 => (if bt227.2 = true then ((some (([wrap64 (bt227.1 + 50), wrap64 (bt227.1 + 50)] : List Int) : List Int)).bind fun y229 => (if x3.length + y229.length < 17592186044416 then (spec_l06Fold.l0 k x0 (x3 ++ y229) (wrap64 (x4 + 1))) else (none))) else ((spec_l06Block.f (rd x0 x4)).bind fun t236 => (if t236 > 0 then (spec_l06Fold.j1 k x0 x3 x4 ((Int.tmod (rd x0 x4) 256) == 97)) else (spec_l06Fold.j1 k x0 x3 x4 false))))) else (none)) else (some x3)
def spec_l06Fold.j1 : Nat → List Int → List Int → Int → Bool → Option (List Int)
  | 0, _, _, _, _ => none
  | k + 1, x0, x3, x4, x39 => if x39 = true then (if 0 ≤ x4 then (if x4 < (x0.length : Int) then ((spec_l06Block.f (rd x0 x4)).bind fun t239 => (if x3.length < 17592186044416 then (spec_l06Fold.l0 k x0 (x3 ++ [wrap64 (t239 + 50)]) (wrap64 (x4 + 1))) else (none))) else (none)) else (none)) else (if 0 ≤ x4 then (if x4 < (x0.length : Int) then ((spec_l06Lower.f (rd x0 x4)).bind fun t244 => (if x3.length < 17592186044416 then (spec_l06Fold.l0 k x0 (x3 ++ [t244]) (wrap64 (x4 + 1))) else (none))) else (none)) else (none))
end
def spec_l06Fold.f (k : Nat) (l0 : List Int) : Option (List Int) := spec_l06Fold.l0 k l0 (([] : List Int)) 0
theorem spec_l06Fold.mono_l : ∀ k, (∀ y0 y1 y2, LeO (spec_l06Fold.l0 k y0 y1 y2) (spec_l06Fold.l0 (k + 1) y0 y1 y2)) ∧ (∀ y0 y1 y2 y3, LeO (spec_l06Fold.j1 k y0 y1 y2 y3) (spec_l06Fold.j1 (k + 1) y0 y1 y2 y3))
  | 0 => ⟨fun _ _ _ r h => by simp [spec_l06Fold.l0] at h, fun _ _ _ _ r h => by simp [spec_l06Fold.j1] at h⟩
  | k + 1 => by
    obtain ⟨ih0, ih1⟩ := spec_l06Fold.mono_l k
    refine ⟨?_, ?_⟩
    · intro y0 y1 y2
      unfold spec_l06Fold.l0
      repeat' first
      | (with_reducible exact ih0 _ _ _)
      | (with_reducible exact ih1 _ _ _ _)
      | (with_reducible exact LeO.refl _)
      | (with_reducible exact LeO.none _)
      | (with_reducible refine LeO.ite ?_ ?_)
      | (with_reducible refine LeO.bind ?_ (fun _ => ?_))
      | exact ih0 _ _ _
      | exact ih1 _ _ _ _
      | exact LeO.none _
      | refine LeO.ite ?_ ?_
      | refine LeO.bind ?_ (fun _ => ?_)
    · intro y0 y1 y2 y3
      unfold spec_l06Fold.j1
      repeat' first
      | (with_reducible exact ih0 _ _ _)
      | (with_reducible exact ih1 _ _ _ _)
      | (with_reducible exact LeO.refl _)
      | (with_reducible exact LeO.none _)
      | (with_reducible refine LeO.ite ?_ ?_)
      | (with_reducible refine LeO.bind ?_ (fun _ => ?_))
      | exact ih0 _ _ _
      | exact ih1 _ _ _ _
      | exact LeO.none _
      | refine LeO.ite ?_ ?_
      | refine LeO.bind ?_ (fun _ => ?_)
theorem spec_l06Fold.mono : ∀ a0 k, LeO (spec_l06Fold.f k a0) (spec_l06Fold.f (k + 1) a0) := by
  intro a0 k
  obtain ⟨ih0, ih1⟩ := spec_l06Fold.mono_l k
  unfold spec_l06Fold.f
  repeat' first
      | (with_reducible exact ih0 _ _ _)
      | (with_reducible exact ih1 _ _ _ _)
      | (with_reducible exact LeO.refl _)
      | (with_reducible exact LeO.none _)
      | (with_reducible refine LeO.ite ?_ ?_)
      | (with_reducible refine LeO.bind ?_ (fun _ => ?_))
      | exact ih0 _ _ _
      | exact ih1 _ _ _ _
      | exact LeO.none _
      | refine LeO.ite ?_ ?_
      | refine LeO.bind ?_ (fun _ => ?_)
set_option maxHeartbeats 8000000 in
set_option maxRecDepth 100000 in
theorem spec_l06Fold.calls (k : Nat) (A0 : Option Addr) (c0 : Nat) (l0 : List Int) (r : List Int) (w : World) (hr0 : Kd.C (Kd.int .i64) w A0 l0.length l0) (hc0 : l0.length ≤ c0) (h : spec_l06Fold.f k l0 = some r) :
    Calls Tryd.prog 187 #[.slice A0 l0.length c0] w fun e w' => ∃ v0_ : Value, e = .returned (v0_) ∧ Kd.R (Kd.int .i64) 2 w' w.heap.size (fun _ => True) v0_ r ∧ Below w.heap.size w w' := by
  have HR0 := Aside0.mk hr0
  have HC0 := Aside0.mk hc0
  clear hr0 hc0
  have HB := Aside0.mk (Below.refl w.heap.size w)
  have H : (spec_l06Fold.l0 k l0 (([] : List Int)) 0) = some r := h
  clear h
  obtain ⟨y223, hy223⟩ : ∃ y_ : List Int, y_ = (([] : List Int)) := ⟨_, rfl⟩
  replace H : (spec_l06Fold.l0 k l0 y223 0) = some r := by first | (rw [hy223]; with_reducible exact H) | (have H2_ := (Option.bind_some _ _).symm.trans H; rw [hy223]; with_reducible exact H2_) | (have H2_ := (Option.bind_some _ _).symm.trans H; with_reducible exact H2_) | with_reducible exact H | (rw [hy223]; exact H) | exact H
  have Ny223 := Aside0.mk hy223
  clear hy223
  have H' := Aside0.mk H
  clear H
  go_enter Tryd.func187, Tryd.ntmps187
  go_wp2_with (first | ((with_reducible refine gate_dst (N := 7) rfl ?_); refine Kd.R_lit (Kd.int .i64) _ 2 ?hg (N := 7) ?hd (xs := ([] : List Int)) (inner := []) (ok := fun _ => True) (okp := fun _ => True) ?hr ?hp (fun _ hk => hk) trivial (Below.refl _ _) (Nat.le_refl _) (by simp) ?_; (case hd => rfl); (case hg => rfl); (case hr => first | (go_simp; done) | (go_simp; rfl)); (case hp => exact (Reps.none _ _)); intro v224 w2 ho3 hb hg_ hnew_; clear hg_ hnew_; (first | rw [← Ny223.out] at ho3 | (simp only [Int.reduceToNat] at ho3; rw [← Ny223.out] at ho3)); have n0_ := Aside0.mk (Kd.R_lower ho3 (below_size (by repeat (first | (with_reducible first | exact HB.out | apply below_alloc | apply pw_below_drewN | apply below_drew1) | exact HB.out)))); have n1_ := Aside0.mk (below_step (by repeat (first | (with_reducible first | exact HB.out | apply below_alloc | apply pw_below_drewN | apply below_drew1) | exact HB.out)) hb); clear HB; have HO225 := n0_; have HB := n1_; clear n0_ n1_; clear hb ho3))
  go_loopg [3, 4] k (fun kq v3 v4 w' => ∃ (x3_1 : List Int) (x4_1 : Int), v4 = .int .i64 x4_1 ∧ Aside0 (spec_l06Fold.l0 kq l0 x3_1 x4_1 = some r) ∧ Aside0 (kq ≤ k) ∧ Aside0 (Kd.R (Kd.int .i64) 2 w' w.heap.size (fun _ => True) v3 x3_1) ∧ Aside0 (Below w.heap.size w w'))
  case atStart => exact ⟨(y223), (0), (by first | rfl | (simp; done) | (simp [*]; done)), H', ⟨Nat.le_refl _⟩, ⟨by (with_reducible repeat (first | apply Kd.R_alloc | apply Kd.R_drewN | apply Kd.R_drew)); exact HO225.out⟩, ⟨by repeat (first | (with_reducible first | exact HB.out | apply below_alloc | apply pw_below_drewN | apply below_drew1) | exact HB.out)⟩⟩
  case round =>
    clear H'
    try clear c1
    try clear p2
    obtain ⟨x3_1, x4_1, rfl, HA, HK1, HO_3, HB⟩ := hrel
    cases gk with
    | zero => exact absurd HA.out (by simp [spec_l06Fold.l0])
    | succ k1 =>
      have H := HA.out
      clear HA
      simp only [spec_l06Fold.l0] at H
      by_cases c4 : x4_1 < (l0.length : Int)
      · rw [if_pos c4] at H
        have c4b0 : decide (x4_1 < (l0.length : Int)) = true := decide_eq_true c4
        clear c4
        by_cases c5 : 0 ≤ x4_1
        · rw [if_pos c5] at H
          have c5b0 : decide (0 ≤ x4_1) = true := decide_eq_true c5
          clear c5
          replace H := Option.bind_eq_some_iff.mp H
          obtain ⟨⟨t227, t228⟩, A60, H⟩ := H
          replace H : (if t228 = true then ((some (([wrap64 (t227 + 50), wrap64 (t227 + 50)] : List Int) : List Int)).bind fun y229 => (if x3_1.length + y229.length < 17592186044416 then (spec_l06Fold.l0 k1 l0 (x3_1 ++ y229) (wrap64 (x4_1 + 1))) else (none))) else ((spec_l06Block.f (rd l0 x4_1)).bind fun t236 => (if t236 > 0 then (spec_l06Fold.j1 k1 l0 x3_1 x4_1 ((Int.tmod (rd l0 x4_1) 256) == 97)) else (spec_l06Fold.j1 k1 l0 x3_1 x4_1 false)))) = some r := H
          have A6 := Aside0.mk A60
          clear A60
          by_cases c7 : t228 = true
          · subst c7
            have H1 : ((some (([wrap64 (t227 + 50), wrap64 (t227 + 50)] : List Int) : List Int)).bind fun y229 => (if x3_1.length + y229.length < 17592186044416 then (spec_l06Fold.l0 k1 l0 (x3_1 ++ y229) (wrap64 (x4_1 + 1))) else (none))) = some r := by rw [if_pos rfl] at H; exact H
            clear H
            have H := H1
            clear H1
            obtain ⟨y229, hy229⟩ : ∃ y_ : List Int, y_ = (([wrap64 (t227 + 50), wrap64 (t227 + 50)] : List Int)) := ⟨_, rfl⟩
            replace H : (if x3_1.length + y229.length < 17592186044416 then (spec_l06Fold.l0 k1 l0 (x3_1 ++ y229) (wrap64 (x4_1 + 1))) else (none)) = some r := by first | (rw [hy229]; with_reducible exact H) | (have H2_ := (Option.bind_some _ _).symm.trans H; rw [hy229]; with_reducible exact H2_) | (have H2_ := (Option.bind_some _ _).symm.trans H; with_reducible exact H2_) | with_reducible exact H | (rw [hy229]; exact H) | exact H
            have Ny229 := Aside0.mk hy229
            clear hy229
            by_cases c8 : x3_1.length + y229.length < 17592186044416
            · rw [if_pos c8] at H
              have LMc8 := Aside0.mk c8
              clear c8
              obtain ⟨y232, hy232⟩ : ∃ y_ : List Int, y_ = (x3_1 ++ y229) := ⟨_, rfl⟩
              replace H : (spec_l06Fold.l0 k1 l0 y232 (wrap64 (x4_1 + 1))) = some r := by first | (rw [hy232]; with_reducible exact H) | (have H2_ := (Option.bind_some _ _).symm.trans H; rw [hy232]; with_reducible exact H2_) | (have H2_ := (Option.bind_some _ _).symm.trans H; with_reducible exact H2_) | with_reducible exact H | (rw [hy232]; exact H) | exact H
              have Ny232 := Aside0.mk hy232
              clear hy232
              have H' := Aside0.mk H
              clear H
              have p226 : 0 ≤ (x4_1 : Int) := of_decide_eq_true (by first | (with_reducible assumption) | assumption)
              have q226 : x4_1 < (l0.length : Int) := of_decide_eq_true (by first | (with_reducible assumption) | assumption)
              obtain ⟨ad226, e226, hx226_0⟩ := Kd.at_int HR0.out x4_1 p226 q226
              cases e226
              replace hx226_0 := (HB.out.cell (World.block_lt_of_cell? w _ hx226_0)).trans hx226_0
              replace p226 := eq_true p226
              replace q226 := eq_true q226
              go_wp2_with (first | ((with_reducible refine gate_callee (f := 223) rfl ?_); refine goesL_ (some 19) rfl rfl Tryd.func223 (by kernel_rfl) rfl #[.int .i64 (rd l0 x4_1)] rfl (by (try simp only [List.map_toArray, List.map_cons, List.map_nil]); first | done | rfl | (simp only [List.length_drop, List.length_take]; rfl)) ?_; (with_reducible refine (spec_l06Sharp.calls (rd l0 x4_1) t227 true _ A6.out).mono ?_); rintro e w' ⟨rfl, ⟨nd, rfl⟩⟩; refine ⟨_, rfl, ?_⟩) | ((with_reducible refine gate_dst (N := 37) rfl ?_); refine Kd.R_lit (Kd.int .i64) _ 2 ?hg (N := 37) ?hd (xs := ([wrap64 (t227 + 50), wrap64 (t227 + 50)] : List Int)) (inner := [.int .i64 (wrap64 (t227 + 50)), .int .i64 (wrap64 (t227 + 50))]) (ok := fun _ => True) (okp := fun _ => True) ?hr ?hp (fun _ hk => hk) trivial (Below.refl _ _) (Nat.le_refl _) (by simp) ?_; (case hd => rfl); (case hg => rfl); (case hr => first | (go_simp; done) | (go_simp; rfl)); (case hp => exact (Reps.one (show Kd.M (Kd.int .i64) _ _ _ (wrap64 (t227 + 50)) [.int .i64 (wrap64 (t227 + 50))] from rfl) (Reps.one (show Kd.M (Kd.int .i64) _ _ _ (wrap64 (t227 + 50)) [.int .i64 (wrap64 (t227 + 50))] from rfl) (Reps.none _ _)))); intro v230 w9 ho10 hb hg_ hnew_; clear hg_ hnew_; (first | rw [← Ny229.out] at ho10 | (simp only [Int.reduceToNat] at ho10; rw [← Ny229.out] at ho10)); have n0_ := Aside0.mk (Kd.R_elder' (by (with_reducible repeat (first | apply Kd.R_alloc | apply Kd.R_drewN | apply Kd.R_drew)); exact HO_3.out) (Kd.R_base ho10) hb); have n1_ := Aside0.mk (Kd.R_lower (Kd.R_new' ho10 (Kd.R_lt (by (with_reducible repeat (first | apply Kd.R_alloc | apply Kd.R_drewN | apply Kd.R_drew)); exact HO_3.out))) (below_size (by repeat (first | (with_reducible first | exact HB.out | apply below_alloc | apply pw_below_drewN | apply below_drew1) | exact HB.out)))); have n2_ := Aside0.mk (below_step (by repeat (first | (with_reducible first | exact HB.out | apply below_alloc | apply pw_below_drewN | apply below_drew1) | exact HB.out)) hb); clear HO_3; clear HB; have HO_3 := n0_; have HO231 := n1_; have HB := n2_; clear n0_ n1_ n2_; clear hb ho10; obtain ⟨Ao12, co12, eo12⟩ := Kd.R_slice HO231.out; subst eo12) | ((with_reducible refine gate_builtin (b := .append) (xs := #[.tmp 32, .tmp 37]) rfl ?_); at_builtin; refine Kd.R_append_rows (Kd.int .i64) (w0 := w) w.heap.size rfl (.tmp 32) (.tmp 37) 29 2 (.int .i64 0) 8 rfl Tryd.underlying29 info2 rfl (by decide) (by omega) u3 x3_1 y229 _ _ _ (fun k_ => some k_ ≠ (.slice Ao12 y229.length co12 : Value).ownBlock) (fun _ => False) rfl rfl ?aO ?aR (fun _ _ h => h) (fun _ h => h.elim) ?aF ?aB ?aS ?aL ?_; (case aR => repeat (first | exact (Kd.R_reads' HO231.out).2.2 | (with_reducible refine Kd.C_alloc ?_ _) | (with_reducible refine Kd.C_drewN ?_ _) | (with_reducible refine Kd.C_drew ?_))); (case aB => exact (by repeat (first | (with_reducible first | exact HB.out | apply below_alloc | apply pw_below_drewN | apply below_drew1) | exact HB.out))); (case aF => exact (fun k_ hk => Kd.fresh' (Kd.R_lt (by (with_reducible repeat (first | apply Kd.R_alloc | apply Kd.R_drewN | apply Kd.R_drew)); exact HO231.out)) k_ hk)); (case aO => exact (by (with_reducible repeat (first | apply Kd.R_alloc | apply Kd.R_drewN | apply Kd.R_drew)); exact Kd.R_mono HO_3.out (fun _ hk => hk.2))); (case aS => exact (below_size (by repeat (first | (with_reducible first | exact HB.out | apply below_alloc | apply pw_below_drewN | apply below_drew1) | exact HB.out)))); (case aL => have := LMc8.out; omega); intro v233 w11 ho hb hg hat; rw [← Ny232.out] at ho; have n0_ := Aside0.mk (Kd.R_after (ok := (fun _ => True)) (by (with_reducible repeat (first | apply Kd.R_alloc | apply Kd.R_drewN | apply Kd.R_drew)); exact HO231.out) hg hat); have n1_ := Aside0.mk (hb); have n2_ := Aside0.mk (ho); clear HO231; clear HB; clear HO_3; have HO231 := n0_; have HB := n1_; have HO234 := n2_; clear n0_ n1_ n2_; clear ho hb hg hat))
              go_roundg k1
              case measure => have := HK1.out; omega
              case rel => exact ⟨(y232), (wrap64 (x4_1 + 1)), (by first | rfl | (simp; done) | (simp [*]; done)), H', ⟨by have := HK1.out; omega⟩, ⟨by (with_reducible repeat (first | apply Kd.R_alloc | apply Kd.R_drewN | apply Kd.R_drew)); exact Kd.R_mono HO234.out (fun _ hk => trivial)⟩, ⟨by repeat (first | (with_reducible first | exact HB.out | apply below_alloc | apply pw_below_drewN | apply below_drew1) | exact HB.out)⟩⟩
            · rw [if_neg c8] at H
              exact absurd H (by simp)
          · replace c7 := Bool.eq_false_iff.mpr c7
            subst c7
            have H1 : ((spec_l06Block.f (rd l0 x4_1)).bind fun t236 => (if t236 > 0 then (spec_l06Fold.j1 k1 l0 x3_1 x4_1 ((Int.tmod (rd l0 x4_1) 256) == 97)) else (spec_l06Fold.j1 k1 l0 x3_1 x4_1 false))) = some r := by rw [if_neg (show ¬ (false = true) by decide)] at H; exact H
            clear H
            have H := H1
            clear H1
            have HC13 := Aside0.mk H
            clear H
            have p226 : 0 ≤ (x4_1 : Int) := of_decide_eq_true (by first | (with_reducible assumption) | assumption)
            have q226 : x4_1 < (l0.length : Int) := of_decide_eq_true (by first | (with_reducible assumption) | assumption)
            obtain ⟨ad226, e226, hx226_0⟩ := Kd.at_int HR0.out x4_1 p226 q226
            cases e226
            replace hx226_0 := (HB.out.cell (World.block_lt_of_cell? w _ hx226_0)).trans hx226_0
            replace p226 := eq_true p226
            replace q226 := eq_true q226
            go_upto_region 9 with (first | ((with_reducible refine gate_callee (f := 223) rfl ?_); refine goesL_ (some 19) rfl rfl Tryd.func223 (by kernel_rfl) rfl #[.int .i64 (rd l0 x4_1)] rfl (by (try simp only [List.map_toArray, List.map_cons, List.map_nil]); first | done | rfl | (simp only [List.length_drop, List.length_take]; rfl)) ?_; (with_reducible refine (spec_l06Sharp.calls (rd l0 x4_1) t227 false _ A6.out).mono ?_); rintro e w' ⟨rfl, ⟨nd, rfl⟩⟩; refine ⟨_, rfl, ?_⟩))
            (try simp only [Act.put, List.setIfInBounds_toArray, List.set_cons_zero, List.set_cons_succ])
            go_cut [39] (fun v39 wc => ∃ (kq : Nat) (x39_12 : Bool), v39 = .bool x39_12 ∧ Aside0 (spec_l06Fold.j1 kq l0 x3_1 x4_1 x39_12 = some r) ∧ Aside0 (kq ≤ k1) ∧ Aside0 (Kd.R (Kd.int .i64) 2 wc w.heap.size (fun _ => True) u3 x3_1) ∧ Aside0 (Below w.heap.size w wc))
            case first =>
              have H := HC13.out
              clear HC13
              replace H := Option.bind_eq_some_iff.mp H
              obtain ⟨t236, A140, H⟩ := H
              replace H : (if t236 > 0 then (spec_l06Fold.j1 k1 l0 x3_1 x4_1 ((Int.tmod (rd l0 x4_1) 256) == 97)) else (spec_l06Fold.j1 k1 l0 x3_1 x4_1 false)) = some r := H
              have A14 := Aside0.mk A140
              clear A140
              by_cases c15 : t236 > 0
              · rw [if_pos c15] at H
                have c15b0 : decide (0 < t236) = true := decide_eq_true c15
                clear c15
                (first | rw [c15b0] | (simp only [i64_w, i32_w]; rw [c15b0]) | skip)
                have H' := Aside0.mk H
                clear H
                have p235 : 0 ≤ (x4_1 : Int) := of_decide_eq_true (by first | (with_reducible assumption) | assumption)
                have q235 : x4_1 < (l0.length : Int) := of_decide_eq_true (by first | (with_reducible assumption) | assumption)
                obtain ⟨ad235, e235, hx235_0⟩ := Kd.at_int HR0.out x4_1 p235 q235
                obtain rfl : ad226 = ad235 := (by injection e235)
                replace hx235_0 := (HB.out.cell (World.block_lt_of_cell? w _ hx235_0)).trans hx235_0
                replace p235 := eq_true p235
                replace q235 := eq_true q235
                go_wp2_with (first | ((with_reducible refine gate_callee (f := 224) rfl ?_); refine goesL_ (some 44) rfl rfl Tryd.func224 (by kernel_rfl) rfl #[.int .i64 (rd l0 x4_1)] rfl (by (try simp only [List.map_toArray, List.map_cons, List.map_nil]); first | done | rfl | (simp only [List.length_drop, List.length_take]; rfl)) ?_; (with_reducible refine (spec_l06Block.calls (rd l0 x4_1) t236 _ A14.out).mono ?_); rintro e w' ⟨rfl, ⟨nd, rfl⟩⟩; refine ⟨_, rfl, ?_⟩; have p237 : 0 ≤ (x4_1 : Int) := of_decide_eq_true (by first | (with_reducible assumption) | assumption); have q237 : x4_1 < (l0.length : Int) := of_decide_eq_true (by first | (with_reducible assumption) | assumption); obtain ⟨ad237, e237, hx237_0⟩ := Kd.at_int HR0.out x4_1 p237 q237; obtain rfl : ad226 = ad237 := (by injection e237); replace hx237_0 := (HB.out.cell (World.block_lt_of_cell? w _ hx237_0)).trans hx237_0; replace p237 := eq_true p237; replace q237 := eq_true q237))
                go_meet
                case rel => exact ⟨_, (((Int.tmod (rd l0 x4_1) 256) == 97)), (by first | rfl | (simp; done) | (simp [*]; done)), H', ⟨by have := HK1.out; first | omega | exact Nat.le_refl _⟩, ⟨by (with_reducible repeat (first | apply Kd.R_alloc | apply Kd.R_drewN | apply Kd.R_drew)); exact HO_3.out⟩, ⟨by repeat (first | (with_reducible first | exact HB.out | apply below_alloc | apply pw_below_drewN | apply below_drew1) | exact HB.out)⟩⟩
              · rw [if_neg c15] at H
                have c15b0 : decide (0 < t236) = false := decide_eq_false c15
                clear c15
                (first | rw [c15b0] | (simp only [i64_w, i32_w]; rw [c15b0]) | skip)
                have H' := Aside0.mk H
                clear H
                have p235 : 0 ≤ (x4_1 : Int) := of_decide_eq_true (by first | (with_reducible assumption) | assumption)
                have q235 : x4_1 < (l0.length : Int) := of_decide_eq_true (by first | (with_reducible assumption) | assumption)
                obtain ⟨ad235, e235, hx235_0⟩ := Kd.at_int HR0.out x4_1 p235 q235
                obtain rfl : ad226 = ad235 := (by injection e235)
                replace hx235_0 := (HB.out.cell (World.block_lt_of_cell? w _ hx235_0)).trans hx235_0
                replace p235 := eq_true p235
                replace q235 := eq_true q235
                go_wp2_with (first | ((with_reducible refine gate_callee (f := 224) rfl ?_); refine goesL_ (some 44) rfl rfl Tryd.func224 (by kernel_rfl) rfl #[.int .i64 (rd l0 x4_1)] rfl (by (try simp only [List.map_toArray, List.map_cons, List.map_nil]); first | done | rfl | (simp only [List.length_drop, List.length_take]; rfl)) ?_; (with_reducible refine (spec_l06Block.calls (rd l0 x4_1) t236 _ A14.out).mono ?_); rintro e w' ⟨rfl, ⟨nd, rfl⟩⟩; refine ⟨_, rfl, ?_⟩))
                go_meet
                case rel => exact ⟨_, (false), (by first | rfl | (simp; done) | (simp [*]; done)), H', ⟨by have := HK1.out; first | omega | exact Nat.le_refl _⟩, ⟨by (with_reducible repeat (first | apply Kd.R_alloc | apply Kd.R_drewN | apply Kd.R_drew)); exact HO_3.out⟩, ⟨by repeat (first | (with_reducible first | exact HB.out | apply below_alloc | apply pw_below_drewN | apply below_drew1) | exact HB.out)⟩⟩
            case rest =>
              clear HC13
              try clear c1
              try clear c2
              try clear p2
              try clear q2
              try clear hx2
              try clear c4
              try clear c4b0
              try clear c5
              try clear c5b0
              try clear p6
              try clear c7
              try clear c8
              try clear c15
              try clear c15b0
              try clear hx226_0
              try clear hx235_0
              try clear hx237_0
              try clear p2
              try clear p226
              try clear p235
              try clear p237
              try clear q226
              try clear q235
              try clear q237
              obtain ⟨kq, x39_12, rfl, HA, HJ12, HO_3, HB⟩ := hcut
              cases kq with
              | zero => exact absurd HA.out (by simp [spec_l06Fold.j1])
              | succ kj12 =>
                have H := HA.out
                clear HA
                simp only [spec_l06Fold.j1] at H
                by_cases c16 : x39_12 = true
                · subst c16
                  have H1 : (if 0 ≤ x4_1 then (if x4_1 < (l0.length : Int) then ((spec_l06Block.f (rd l0 x4_1)).bind fun t239 => (if x3_1.length < 17592186044416 then (spec_l06Fold.l0 kj12 l0 (x3_1 ++ [wrap64 (t239 + 50)]) (wrap64 (x4_1 + 1))) else (none))) else (none)) else (none)) = some r := by rw [if_pos rfl] at H; exact H
                  clear H
                  have H := H1
                  clear H1
                  by_cases c17 : 0 ≤ x4_1
                  · rw [if_pos c17] at H
                    have c17b0 : decide (0 ≤ x4_1) = true := decide_eq_true c17
                    clear c17
                    by_cases c18 : x4_1 < (l0.length : Int)
                    · rw [if_pos c18] at H
                      have c18b0 : decide (x4_1 < (l0.length : Int)) = true := decide_eq_true c18
                      clear c18
                      replace H := Option.bind_eq_some_iff.mp H
                      obtain ⟨t239, A190, H⟩ := H
                      replace H : (if x3_1.length < 17592186044416 then (spec_l06Fold.l0 kj12 l0 (x3_1 ++ [wrap64 (t239 + 50)]) (wrap64 (x4_1 + 1))) else (none)) = some r := H
                      have A19 := Aside0.mk A190
                      clear A190
                      by_cases c20 : x3_1.length < 17592186044416
                      · rw [if_pos c20] at H
                        have LMc20 := Aside0.mk c20
                        clear c20
                        obtain ⟨y240, hy240⟩ : ∃ y_ : List Int, y_ = (x3_1 ++ [wrap64 (t239 + 50)]) := ⟨_, rfl⟩
                        replace H : (spec_l06Fold.l0 kj12 l0 y240 (wrap64 (x4_1 + 1))) = some r := by first | (rw [hy240]; with_reducible exact H) | (have H2_ := (Option.bind_some _ _).symm.trans H; rw [hy240]; with_reducible exact H2_) | (have H2_ := (Option.bind_some _ _).symm.trans H; with_reducible exact H2_) | with_reducible exact H | (rw [hy240]; exact H) | exact H
                        have Ny240 := Aside0.mk hy240
                        clear hy240
                        have H' := Aside0.mk H
                        clear H
                        have p238 : 0 ≤ (x4_1 : Int) := of_decide_eq_true (by first | (with_reducible assumption) | assumption)
                        have q238 : x4_1 < (l0.length : Int) := of_decide_eq_true (by first | (with_reducible assumption) | assumption)
                        obtain ⟨ad238, e238, hx238_0⟩ := Kd.at_int HR0.out x4_1 p238 q238
                        obtain rfl : ad226 = ad238 := (by injection e238)
                        replace hx238_0 := (HB.out.cell (World.block_lt_of_cell? w _ hx238_0)).trans hx238_0
                        replace p238 := eq_true p238
                        replace q238 := eq_true q238
                        go_wp2_with (first | ((with_reducible refine gate_callee (f := 224) rfl ?_); refine goesL_ (some 59) rfl rfl Tryd.func224 (by kernel_rfl) rfl #[.int .i64 (rd l0 x4_1)] rfl (by (try simp only [List.map_toArray, List.map_cons, List.map_nil]); first | done | rfl | (simp only [List.length_drop, List.length_take]; rfl)) ?_; (with_reducible refine (spec_l06Block.calls (rd l0 x4_1) t239 _ A19.out).mono ?_); rintro e w' ⟨rfl, ⟨nd, rfl⟩⟩; refine ⟨_, rfl, ?_⟩) | ((with_reducible refine gate_builtin (b := .append) (xs := #[.tmp 54, .tmp 61]) rfl ?_); at_builtin; refine Kd.R_append (Kd.int .i64) (w0 := w) w.heap.size rfl (.tmp 54) (.tmp 61) 29 2 (.int .i64 0) 8 rfl Tryd.underlying29 info2 rfl (by decide) (by omega) u3 x3_1 (wrap64 (t239 + 50)) [.int .i64 (wrap64 (t239 + 50))] (fun _ => True) (fun _ => False) rfl rfl ?aP (fun _ hk => hk.elim) ?aF ?aO ?aB ?aS ?aL ?_; (case aP => exact rfl); (case aB => exact (by repeat (first | (with_reducible first | exact HB.out | apply below_alloc | apply pw_below_drewN | apply below_drew1) | exact HB.out))); (case aF => exact (fun _ _ => trivial)); (case aO => exact (by (with_reducible repeat (first | apply Kd.R_alloc | apply Kd.R_drewN | apply Kd.R_drew)); exact HO_3.out)); (case aS => exact (below_size (by repeat (first | (with_reducible first | exact HB.out | apply below_alloc | apply pw_below_drewN | apply below_drew1) | exact HB.out)))); (case aL => have := LMc20.out; omega); intro v241 w21 ho hb hg hat; rw [← Ny240.out] at ho; have n0_ := Aside0.mk (hb); have n1_ := Aside0.mk (ho); clear HB; clear HO_3; have HB := n0_; have HO242 := n1_; clear n0_ n1_; clear ho hb hg hat))
                        go_roundg kj12
                        case measure => have := HK1.out; have := HJ12.out; omega
                        case rel => exact ⟨(y240), (wrap64 (x4_1 + 1)), (by first | rfl | (simp; done) | (simp [*]; done)), H', ⟨by have := HK1.out; have := HJ12.out; omega⟩, ⟨by (with_reducible repeat (first | apply Kd.R_alloc | apply Kd.R_drewN | apply Kd.R_drew)); exact HO242.out⟩, ⟨by repeat (first | (with_reducible first | exact HB.out | apply below_alloc | apply pw_below_drewN | apply below_drew1) | exact HB.out)⟩⟩
                      · rw [if_neg c20] at H
                        exact absurd H (by simp)
                    · rw [if_neg c18] at H
                      exact absurd H (by simp)
                  · rw [if_neg c17] at H
                    exact absurd H (by simp)
                · replace c16 := Bool.eq_false_iff.mpr c16
                  subst c16
                  have H1 : (if 0 ≤ x4_1 then (if x4_1 < (l0.length : Int) then ((spec_l06Lower.f (rd l0 x4_1)).bind fun t244 => (if x3_1.length < 17592186044416 then (spec_l06Fold.l0 kj12 l0 (x3_1 ++ [t244]) (wrap64 (x4_1 + 1))) else (none))) else (none)) else (none)) = some r := by rw [if_neg (show ¬ (false = true) by decide)] at H; exact H
                  clear H
                  have H := H1
                  clear H1
                  by_cases c22 : 0 ≤ x4_1
                  · rw [if_pos c22] at H
                    have c22b0 : decide (0 ≤ x4_1) = true := decide_eq_true c22
                    clear c22
                    by_cases c23 : x4_1 < (l0.length : Int)
                    · rw [if_pos c23] at H
                      have c23b0 : decide (x4_1 < (l0.length : Int)) = true := decide_eq_true c23
                      clear c23
                      replace H := Option.bind_eq_some_iff.mp H
                      obtain ⟨t244, A240, H⟩ := H
                      replace H : (if x3_1.length < 17592186044416 then (spec_l06Fold.l0 kj12 l0 (x3_1 ++ [t244]) (wrap64 (x4_1 + 1))) else (none)) = some r := H
                      have A24 := Aside0.mk A240
                      clear A240
                      by_cases c25 : x3_1.length < 17592186044416
                      · rw [if_pos c25] at H
                        have LMc25 := Aside0.mk c25
                        clear c25
                        obtain ⟨y245, hy245⟩ : ∃ y_ : List Int, y_ = (x3_1 ++ [t244]) := ⟨_, rfl⟩
                        replace H : (spec_l06Fold.l0 kj12 l0 y245 (wrap64 (x4_1 + 1))) = some r := by first | (rw [hy245]; with_reducible exact H) | (have H2_ := (Option.bind_some _ _).symm.trans H; rw [hy245]; with_reducible exact H2_) | (have H2_ := (Option.bind_some _ _).symm.trans H; with_reducible exact H2_) | with_reducible exact H | (rw [hy245]; exact H) | exact H
                        have Ny245 := Aside0.mk hy245
                        clear hy245
                        have H' := Aside0.mk H
                        clear H
                        have p243 : 0 ≤ (x4_1 : Int) := of_decide_eq_true (by first | (with_reducible assumption) | assumption)
                        have q243 : x4_1 < (l0.length : Int) := of_decide_eq_true (by first | (with_reducible assumption) | assumption)
                        obtain ⟨ad243, e243, hx243_0⟩ := Kd.at_int HR0.out x4_1 p243 q243
                        obtain rfl : ad226 = ad243 := (by injection e243)
                        replace hx243_0 := (HB.out.cell (World.block_lt_of_cell? w _ hx243_0)).trans hx243_0
                        replace p243 := eq_true p243
                        replace q243 := eq_true q243
                        go_wp2_with (first | ((with_reducible refine gate_callee (f := 225) rfl ?_); refine goesL_ (some 27) rfl rfl Tryd.func225 (by kernel_rfl) rfl #[.int .i64 (rd l0 x4_1)] rfl (by (try simp only [List.map_toArray, List.map_cons, List.map_nil]); first | done | rfl | (simp only [List.length_drop, List.length_take]; rfl)) ?_; (with_reducible refine (spec_l06Lower.calls (rd l0 x4_1) t244 _ A24.out).mono ?_); rintro e w26 ⟨rfl, hb⟩; refine ⟨_, rfl, ?_⟩; have n0_ := Aside0.mk (Kd.R_below (by (with_reducible repeat (first | apply Kd.R_alloc | apply Kd.R_drewN | apply Kd.R_drew)); exact HO_3.out) hb); have n1_ := Aside0.mk (below_step (by repeat (first | (with_reducible first | exact HB.out | apply below_alloc | apply pw_below_drewN | apply below_drew1) | exact HB.out)) hb); clear HO_3; clear HB; have HO_3 := n0_; have HB := n1_; clear n0_ n1_; (try clear hb); (try clear hb2); (try clear hk); (try clear hi)) | ((with_reducible refine gate_builtin (b := .append) (xs := #[.tmp 22, .tmp 28]) rfl ?_); at_builtin; refine Kd.R_append (Kd.int .i64) (w0 := w) w.heap.size rfl (.tmp 22) (.tmp 28) 29 2 (.int .i64 0) 8 rfl Tryd.underlying29 info2 rfl (by decide) (by omega) u3 x3_1 t244 [.int .i64 t244] (fun _ => True) (fun _ => False) rfl rfl ?aP (fun _ hk => hk.elim) ?aF ?aO ?aB ?aS ?aL ?_; (case aP => exact rfl); (case aB => exact (by repeat (first | (with_reducible first | exact HB.out | apply below_alloc | apply pw_below_drewN | apply below_drew1) | exact HB.out))); (case aF => exact (fun _ _ => trivial)); (case aO => exact (by (with_reducible repeat (first | apply Kd.R_alloc | apply Kd.R_drewN | apply Kd.R_drew)); exact HO_3.out)); (case aS => exact (below_size (by repeat (first | (with_reducible first | exact HB.out | apply below_alloc | apply pw_below_drewN | apply below_drew1) | exact HB.out)))); (case aL => have := LMc25.out; omega); intro v246 w27 ho hb hg hat; rw [← Ny245.out] at ho; have n0_ := Aside0.mk (hb); have n1_ := Aside0.mk (ho); clear HB; clear HO_3; have HB := n0_; have HO247 := n1_; clear n0_ n1_; clear ho hb hg hat))
                        go_roundg kj12
                        case measure => have := HK1.out; have := HJ12.out; omega
                        case rel => exact ⟨(y245), (wrap64 (x4_1 + 1)), (by first | rfl | (simp; done) | (simp [*]; done)), H', ⟨by have := HK1.out; have := HJ12.out; omega⟩, ⟨by (with_reducible repeat (first | apply Kd.R_alloc | apply Kd.R_drewN | apply Kd.R_drew)); exact HO247.out⟩, ⟨by repeat (first | (with_reducible first | exact HB.out | apply below_alloc | apply pw_below_drewN | apply below_drew1) | exact HB.out)⟩⟩
                      · rw [if_neg c25] at H
                        exact absurd H (by simp)
                    · rw [if_neg c23] at H
                      exact absurd H (by simp)
                  · rw [if_neg c22] at H
                    exact absurd H (by simp)
        · rw [if_neg c5] at H
          exact absurd H (by simp)
      · rw [if_neg c4] at H
        have c4b0 : decide (x4_1 < (l0.length : Int)) = false := decide_eq_false c4
        clear c4
        obtain rfl := Option.some.inj H
        go_wp2
        go_ret
        exact ⟨_, by first | rfl | (simp [errW_none, errW_some] <;> rfl) | (simp [*, errW_none, errW_some] <;> rfl), by (with_reducible repeat (first | apply Kd.R_alloc | apply Kd.R_drewN | apply Kd.R_drew)); exact HO_3.out, by repeat (first | (with_reducible first | exact HB.out | apply below_alloc | apply pw_below_drewN | apply below_drew1) | exact HB.out)⟩

def spec_l06Fold.one (p : Int) : List Int := if 512 ≤ p ∧ p < 1280 ∧ p % 256 = 96 then [p - p % 256 + 50, p - p % 256 + 50] else if 512 ≤ p ∧ p < 1280 ∧ p % 256 = 97 then [p - p % 256 + 50] else [spec_l06Lower.g p]
def W_spec_l06Fold.f (l0 : List Int) : Option (List Int) := if l0.length ≤ 1099511627776 ∧ (∀ p ∈ l0, YtdkoofdfkhogoaaDoorPts.isP p) then some (l0.flatMap spec_l06Fold.one) else none
theorem spec_l06Fold.one_length (p : Int) : (spec_l06Fold.one p).length ≤ 2 := by unfold spec_l06Fold.one; split <;> first | (split <;> simp) | simp
theorem spec_l06Fold.len (l : List Int) : (l.flatMap spec_l06Fold.one).length ≤ 2 * l.length := by
  induction l with
  | nil => simp
  | cons p l ih => rw [List.flatMap_cons, List.length_append, List.length_cons]; have := spec_l06Fold.one_length p; omega
theorem spec_l06Fold.block (p : Int) (hp : 0 ≤ p) : spec_l06Block.f p = some (if 512 ≤ p ∧ p < 1280 then p - p % 256 else 0) := by
  unfold spec_l06Block.f
  by_cases c : 512 ≤ p ∧ p < 1280
  · have ht : Int.tdiv p 256 = p / 256 := Int.tdiv_eq_ediv_of_nonneg hp
    rw [if_neg (by omega), if_neg (by omega), ht]
    have h1 : wrap64 (p / 256) = p / 256 := by unfold wrap64; omega
    have h2 : wrap64 (p / 256 * 256) = p - p % 256 := by unfold wrap64; omega
    rw [h1, h2, if_pos c]
  · rw [if_neg c]
    by_cases c2 : p < 512
    · rw [if_pos c2]
    · rw [if_neg c2, if_pos (by omega)]
theorem spec_l06Fold.sharp (p : Int) (hp : 0 ≤ p) : spec_l06Sharp.f p = some (if 512 ≤ p ∧ p < 1280 then p - p % 256 else 0, decide (512 ≤ p ∧ p < 1280 ∧ p % 256 = 96)) := by
  unfold spec_l06Sharp.f
  rw [spec_l06Fold.block p hp]
  simp only [Option.bind_some]
  by_cases c : 512 ≤ p ∧ p < 1280
  · rw [if_pos c]
    have h3 : wrap64 (p - p % 256 + 96) = p - p % 256 + 96 := by unfold wrap64; omega
    rw [if_pos (by omega), h3]
    congr 2
    by_cases c2 : p % 256 = 96
    · rw [decide_eq_true ⟨c.1, c.2, c2⟩]; simp; omega
    · rw [decide_eq_false (fun z => c2 z.2.2)]; simp; omega
  · rw [if_neg c, decide_eq_false (fun z => c ⟨z.1, z.2.1⟩), if_neg (by omega)]
theorem spec_l06Fold.run (l : List Int) (hl : l.length ≤ 1099511627776) (hp : ∀ p ∈ l, YtdkoofdfkhogoaaDoorPts.isP p) (d : Nat) : ∀ (k i : Nat), i ≤ l.length → l.length - i = d → 2 * d < k →
    spec_l06Fold.l0 k l ((l.take i).flatMap spec_l06Fold.one) (i : Int) = some (l.flatMap spec_l06Fold.one) := by
  induction d with
  | zero =>
    intro k i h1 h2 h3
    obtain ⟨k, rfl⟩ : ∃ m, k = m + 1 := ⟨k - 1, by omega⟩
    simp only [spec_l06Fold.l0]
    rw [if_neg (by omega), List.take_of_length_le (by omega)]
  | succ d ih =>
    intro k i h1 h2 h3
    obtain ⟨k, rfl⟩ : ∃ m, k = m + 2 := ⟨k - 2, by omega⟩
    have hlt : i < l.length := by omega
    have hih0 := ih (k + 1) (i + 1) (by omega) (by omega) (by omega)
    have hih1 := ih k (i + 1) (by omega) (by omega) (by omega)
    have hw : wrap64 ((i : Int) + 1) = ((i + 1 : Nat) : Int) := by unfold wrap64; omega
    have hr : rd l (i : Int) = l[i] := by simp [rd, List.getD, hlt]
    have ht : (l.take (i + 1)).flatMap spec_l06Fold.one = (l.take i).flatMap spec_l06Fold.one ++ spec_l06Fold.one l[i] := by
      rw [List.take_succ_eq_append_getElem hlt, List.flatMap_append]
      simp only [List.flatMap_cons, List.flatMap_nil, List.append_nil]
    have hlen := spec_l06Fold.len (l.take i)
    rw [List.length_take] at hlen
    have hpi := hp l[i] (List.getElem_mem hlt)
    have hj : ∀ x1 x2 x3, spec_l06Fold.j1 (k + 1) l x1 x2 x3 = spec_l06Fold.j1 (k + 1) l x1 x2 x3 := fun _ _ _ => rfl
    rw [spec_l06Fold.l0]
    rw [if_pos (by omega), if_pos (by omega), hr, hw]
    rw [ht] at hih0 hih1
    obtain ⟨p, hpe⟩ : ∃ p, l[i] = p := ⟨_, rfl⟩
    rw [hpe] at hih0 hih1 hpi ⊢ hr
    clear ht ih
    obtain ⟨acc, hacc⟩ : ∃ acc, (l.take i).flatMap spec_l06Fold.one = acc := ⟨_, rfl⟩
    rw [hacc] at hih0 hih1 hlen ⊢
    unfold spec_l06Fold.one at hih0 hih1
    unfold YtdkoofdfkhogoaaDoorPts.isP at hpi
    rw [spec_l06Fold.sharp p hpi.1]
    simp only [Option.bind_some]
    by_cases c : 512 ≤ p ∧ p < 1280 ∧ p % 256 = 96
    · rw [if_pos (decide_eq_true c)]
      rw [if_pos c] at hih0
      rw [if_pos (show 512 ≤ p ∧ p < 1280 from ⟨c.1, c.2.1⟩)]
      have hv : wrap64 (p - p % 256 + 50) = p - p % 256 + 50 := by unfold wrap64; omega
      rw [hv, if_pos (by simp only [List.length_cons, List.length_nil]; omega)]
      exact hih0
    · rw [if_neg (by simpa using c)]
      rw [if_neg c] at hih0 hih1
      rw [spec_l06Fold.block p hpi.1]
      simp only [Option.bind_some]
      have htm : Int.tmod p 256 = p % 256 := Int.tmod_eq_emod_of_nonneg hpi.1
      have hj1 : ∀ b : Bool, (b = true ↔ (512 ≤ p ∧ p < 1280 ∧ p % 256 = 97)) → spec_l06Fold.j1 (k + 1) l acc (i : Int) b = some (l.flatMap spec_l06Fold.one) := by
        intro b hb
        rw [spec_l06Fold.j1]
        by_cases c3 : 512 ≤ p ∧ p < 1280 ∧ p % 256 = 97
        · rw [if_pos (hb.mpr c3)]
          rw [if_pos c3] at hih1
          rw [if_pos (by omega), if_pos (by omega), hr, hw, spec_l06Fold.block p hpi.1]
          simp only [Option.bind_some]
          rw [if_pos (show 512 ≤ p ∧ p < 1280 from ⟨c3.1, c3.2.1⟩)]
          have hv : wrap64 (p - p % 256 + 50) = p - p % 256 + 50 := by unfold wrap64; omega
          rw [hv, if_pos (by omega)]
          exact hih1
        · rw [if_neg (fun z => c3 (hb.mp z))]
          rw [if_neg c3] at hih1
          rw [if_pos (by omega), if_pos (by omega), hr, hw]
          unfold spec_l06Lower.f
          rw [if_pos ⟨hpi.1, hpi.2.1⟩]
          simp only [Option.bind_some]
          rw [if_pos (by omega)]
          exact hih1
      by_cases c2 : 512 ≤ p ∧ p < 1280
      · rw [if_pos c2, if_pos (by omega)]
        refine hj1 _ ?_
        rw [htm, beq_iff_eq]
        constructor
        · intro h; exact ⟨c2.1, c2.2, h⟩
        · intro h; exact h.2.2
      · rw [if_neg c2, if_neg (by omega)]
        refine hj1 _ ?_
        constructor
        · intro h; cases h
        · intro h; exact absurd ⟨h.1, h.2.1⟩ c2
theorem W_spec_l06Fold.to {l0 : List Int} {r : List Int} (h : W_spec_l06Fold.f l0 = some r) : ∃ k, spec_l06Fold.f k l0 = some r := by
  unfold W_spec_l06Fold.f at h
  split at h
  · rename_i hl
    refine ⟨2 * l0.length + 1, ?_⟩
    rw [← h]
    exact spec_l06Fold.run l0 hl.1 hl.2 l0.length (2 * l0.length + 1) 0 (by omega) (by omega) (by omega)
  · cases h
theorem W_spec_l06Fold.calls (A0 : Option Addr) (c0 : Nat) (l0 : List Int) (r : List Int) (w : World) (hr0 : Kd.C (Kd.int .i64) w A0 l0.length l0) (hc0 : l0.length ≤ c0) (h : W_spec_l06Fold.f l0 = some r) :
    Calls Tryd.prog 187 #[.slice A0 l0.length c0] w fun e w' => ∃ v0_ : Value, e = .returned (v0_) ∧ Kd.R (Kd.int .i64) 2 w' w.heap.size (fun _ => True) v0_ r ∧ Below w.heap.size w w' := by
  obtain ⟨k, hk⟩ := W_spec_l06Fold.to h
  exact spec_l06Fold.calls k A0 c0 l0 r w hr0 hc0 hk

/-! ### spec_l06Caseless: function 139 -/
def spec_l06Caseless.f (a0 : ByteArray) : Option (List Int) := (W_spec_l01Points.f a0).bind fun t248 => ((W_spec_l05Norm.f 1 t248).bind fun t251 => ((W_spec_l06Fold.f t251).bind fun t254 => ((W_spec_l05Norm.f 1 t254).bind fun t257 => (some t257))))
set_option maxHeartbeats 8000000 in
set_option maxRecDepth 100000 in
theorem spec_l06Caseless.calls (a0 : ByteArray) (r : List Int) (w : World) (h : spec_l06Caseless.f a0 = some r) :
    Calls Tryd.prog 139 #[.string a0] w fun e w' => ∃ v0_ : Value, e = .returned (v0_) ∧ Kd.R (Kd.int .i64) 2 w' w.heap.size (fun _ => True) v0_ r ∧ Below w.heap.size w w' := by
  have HB := Aside0.mk (Below.refl w.heap.size w)
  have H : ((W_spec_l01Points.f a0).bind fun t248 => ((W_spec_l05Norm.f 1 t248).bind fun t251 => ((W_spec_l06Fold.f t251).bind fun t254 => ((W_spec_l05Norm.f 1 t254).bind fun t257 => (some t257))))) = some r := h
  clear h
  replace H := Option.bind_eq_some_iff.mp H
  obtain ⟨t248, A20, H⟩ := H
  replace H : ((W_spec_l05Norm.f 1 t248).bind fun t251 => ((W_spec_l06Fold.f t251).bind fun t254 => ((W_spec_l05Norm.f 1 t254).bind fun t257 => (some t257)))) = some r := H
  have A2 := Aside0.mk A20
  clear A20
  replace H := Option.bind_eq_some_iff.mp H
  obtain ⟨t251, A30, H⟩ := H
  replace H : ((W_spec_l06Fold.f t251).bind fun t254 => ((W_spec_l05Norm.f 1 t254).bind fun t257 => (some t257))) = some r := H
  have A3 := Aside0.mk A30
  clear A30
  replace H := Option.bind_eq_some_iff.mp H
  obtain ⟨t254, A40, H⟩ := H
  replace H : ((W_spec_l05Norm.f 1 t254).bind fun t257 => (some t257)) = some r := H
  have A4 := Aside0.mk A40
  clear A40
  replace H := Option.bind_eq_some_iff.mp H
  obtain ⟨t257, A50, H⟩ := H
  replace H : (some t257) = some r := H
  have A5 := Aside0.mk A50
  clear A50
  obtain rfl := Option.some.inj H
  go_enter Tryd.func139, Tryd.ntmps139
  go_wp2_with (first | ((with_reducible refine gate_callee (f := 70) rfl ?_); refine goesL_ (some 4) rfl rfl Tryd.func70 (by kernel_rfl) rfl #[.string a0] rfl (by (try simp only [List.map_toArray, List.map_cons, List.map_nil]); first | done | rfl | (simp only [List.length_drop, List.length_take]; rfl)) ?_; (with_reducible refine (W_spec_l01Points.calls a0 t248 _ A2.out).mono ?_); rintro e w6 ⟨v249, rfl, ho0, hb⟩; refine ⟨_, rfl, ?_⟩; have n0_ := Aside0.mk (Kd.R_lower ho0 (below_size (by repeat (first | (with_reducible first | exact HB.out | apply below_alloc | apply pw_below_drewN | apply below_drew1) | exact HB.out)))); have n1_ := Aside0.mk (below_step (by repeat (first | (with_reducible first | exact HB.out | apply below_alloc | apply pw_below_drewN | apply below_drew1) | exact HB.out)) hb); clear HB; have HO250 := n0_; have HB := n1_; clear n0_ n1_; (try clear hb); (try clear hb2); (try clear hk); (try clear hi); (try clear ho0); obtain ⟨Ao7, co7, eo7⟩ := Kd.R_slice HO250.out; subst eo7) | ((with_reducible refine gate_callee (f := 179) rfl ?_); refine goesL_ (some 5) rfl rfl Tryd.func179 (by kernel_rfl) rfl #[.int .i64 1, .slice Ao7 t248.length co7] rfl (by (try simp only [List.map_toArray, List.map_cons, List.map_nil]); first | done | rfl | (simp only [List.length_drop, List.length_take]; rfl)) ?_; (with_reducible refine (W_spec_l05Norm.calls 1 _ _ t248 t251 _ ?side1 ?side2 A3.out).mono ?_); (case side1 => repeat (first | exact (Kd.R_reads' HO250.out).2.2 | (with_reducible refine Kd.C_alloc ?_ _) | (with_reducible refine Kd.C_drewN ?_ _) | (with_reducible refine Kd.C_drew ?_))); (case side2 => exact (Kd.R_reads' HO250.out).2.1); rintro e w8 ⟨v252, rfl, ho0, hb⟩; refine ⟨_, rfl, ?_⟩; have n0_ := Aside0.mk (Kd.R_elder' (by (with_reducible repeat (first | apply Kd.R_alloc | apply Kd.R_drewN | apply Kd.R_drew)); exact HO250.out) (Kd.R_base ho0) hb); have n1_ := Aside0.mk (Kd.R_lower (Kd.R_new' ho0 (Kd.R_lt (by (with_reducible repeat (first | apply Kd.R_alloc | apply Kd.R_drewN | apply Kd.R_drew)); exact HO250.out))) (below_size (by repeat (first | (with_reducible first | exact HB.out | apply below_alloc | apply pw_below_drewN | apply below_drew1) | exact HB.out)))); have n2_ := Aside0.mk (below_step (by repeat (first | (with_reducible first | exact HB.out | apply below_alloc | apply pw_below_drewN | apply below_drew1) | exact HB.out)) hb); clear HO250; clear HB; have HO250 := n0_; have HO253 := n1_; have HB := n2_; clear n0_ n1_ n2_; (try clear hb); (try clear hb2); (try clear hk); (try clear hi); (try clear ho0); obtain ⟨Ao9, co9, eo9⟩ := Kd.R_slice HO253.out; subst eo9) | ((with_reducible refine gate_callee (f := 187) rfl ?_); refine goesL_ (some 6) rfl rfl Tryd.func187 (by kernel_rfl) rfl #[.slice Ao9 t251.length co9] rfl (by (try simp only [List.map_toArray, List.map_cons, List.map_nil]); first | done | rfl | (simp only [List.length_drop, List.length_take]; rfl)) ?_; (with_reducible refine (W_spec_l06Fold.calls _ _ t251 t254 _ ?side1 ?side2 A4.out).mono ?_); (case side1 => repeat (first | exact (Kd.R_reads' HO253.out).2.2 | (with_reducible refine Kd.C_alloc ?_ _) | (with_reducible refine Kd.C_drewN ?_ _) | (with_reducible refine Kd.C_drew ?_))); (case side2 => exact (Kd.R_reads' HO253.out).2.1); rintro e w10 ⟨v255, rfl, ho0, hb⟩; refine ⟨_, rfl, ?_⟩; have n0_ := Aside0.mk (Kd.R_elder' (by (with_reducible repeat (first | apply Kd.R_alloc | apply Kd.R_drewN | apply Kd.R_drew)); exact HO250.out) (Kd.R_base ho0) hb); have n1_ := Aside0.mk (Kd.R_elder' (by (with_reducible repeat (first | apply Kd.R_alloc | apply Kd.R_drewN | apply Kd.R_drew)); exact HO253.out) (Kd.R_base ho0) hb); have n2_ := Aside0.mk (Kd.R_lower (Kd.R_new' (Kd.R_new' ho0 (Kd.R_lt (by (with_reducible repeat (first | apply Kd.R_alloc | apply Kd.R_drewN | apply Kd.R_drew)); exact HO250.out))) (Kd.R_lt (by (with_reducible repeat (first | apply Kd.R_alloc | apply Kd.R_drewN | apply Kd.R_drew)); exact HO253.out))) (below_size (by repeat (first | (with_reducible first | exact HB.out | apply below_alloc | apply pw_below_drewN | apply below_drew1) | exact HB.out)))); have n3_ := Aside0.mk (below_step (by repeat (first | (with_reducible first | exact HB.out | apply below_alloc | apply pw_below_drewN | apply below_drew1) | exact HB.out)) hb); clear HO250; clear HO253; clear HB; have HO250 := n0_; have HO253 := n1_; have HO256 := n2_; have HB := n3_; clear n0_ n1_ n2_ n3_; (try clear hb); (try clear hb2); (try clear hk); (try clear hi); (try clear ho0); obtain ⟨Ao11, co11, eo11⟩ := Kd.R_slice HO256.out; subst eo11) | ((with_reducible refine gate_callee (f := 179) rfl ?_); refine goesL_ (some 7) rfl rfl Tryd.func179 (by kernel_rfl) rfl #[.int .i64 1, .slice Ao11 t254.length co11] rfl (by (try simp only [List.map_toArray, List.map_cons, List.map_nil]); first | done | rfl | (simp only [List.length_drop, List.length_take]; rfl)) ?_; (with_reducible refine (W_spec_l05Norm.calls 1 _ _ t254 t257 _ ?side1 ?side2 A5.out).mono ?_); (case side1 => repeat (first | exact (Kd.R_reads' HO256.out).2.2 | (with_reducible refine Kd.C_alloc ?_ _) | (with_reducible refine Kd.C_drewN ?_ _) | (with_reducible refine Kd.C_drew ?_))); (case side2 => exact (Kd.R_reads' HO256.out).2.1); rintro e w12 ⟨v258, rfl, ho0, hb⟩; refine ⟨_, rfl, ?_⟩; have n0_ := Aside0.mk (Kd.R_elder' (by (with_reducible repeat (first | apply Kd.R_alloc | apply Kd.R_drewN | apply Kd.R_drew)); exact HO250.out) (Kd.R_base ho0) hb); have n1_ := Aside0.mk (Kd.R_elder' (by (with_reducible repeat (first | apply Kd.R_alloc | apply Kd.R_drewN | apply Kd.R_drew)); exact HO253.out) (Kd.R_base ho0) hb); have n2_ := Aside0.mk (Kd.R_elder' (by (with_reducible repeat (first | apply Kd.R_alloc | apply Kd.R_drewN | apply Kd.R_drew)); exact HO256.out) (Kd.R_base ho0) hb); have n3_ := Aside0.mk (Kd.R_lower (Kd.R_new' (Kd.R_new' (Kd.R_new' ho0 (Kd.R_lt (by (with_reducible repeat (first | apply Kd.R_alloc | apply Kd.R_drewN | apply Kd.R_drew)); exact HO250.out))) (Kd.R_lt (by (with_reducible repeat (first | apply Kd.R_alloc | apply Kd.R_drewN | apply Kd.R_drew)); exact HO253.out))) (Kd.R_lt (by (with_reducible repeat (first | apply Kd.R_alloc | apply Kd.R_drewN | apply Kd.R_drew)); exact HO256.out))) (below_size (by repeat (first | (with_reducible first | exact HB.out | apply below_alloc | apply pw_below_drewN | apply below_drew1) | exact HB.out)))); have n4_ := Aside0.mk (below_step (by repeat (first | (with_reducible first | exact HB.out | apply below_alloc | apply pw_below_drewN | apply below_drew1) | exact HB.out)) hb); clear HO250; clear HO253; clear HO256; clear HB; have HO250 := n0_; have HO253 := n1_; have HO256 := n2_; have HO259 := n3_; have HB := n4_; clear n0_ n1_ n2_ n3_ n4_; (try clear hb); (try clear hb2); (try clear hk); (try clear hi); (try clear ho0)))
  go_ret
  exact ⟨_, by first | rfl | (simp [errW_none, errW_some] <;> rfl) | (simp [*, errW_none, errW_some] <;> rfl), by (with_reducible repeat (first | apply Kd.R_alloc | apply Kd.R_drewN | apply Kd.R_drew)); exact Kd.R_mono HO259.out (fun _ hk => trivial), by repeat (first | (with_reducible first | exact HB.out | apply below_alloc | apply pw_below_drewN | apply below_drew1) | exact HB.out)⟩

/-! ### spec_CaselessSame: function 58 -/
def spec_CaselessSame.f (k : Nat) (a0 : ByteArray) (a1 : ByteArray) : Option (Bool) := if (a0.size : Int) ≤ 65536 then (if (a1.size : Int) ≤ 65536 then ((spec_l06Caseless.f a0).bind fun t260 => ((spec_l06Caseless.f a1).bind fun t263 => ((spec_l04Same.f k t260 t263).bind fun t266 => (some t266)))) else (some false)) else (some false)
theorem spec_CaselessSame.mono : ∀ a0 a1 k, LeO (spec_CaselessSame.f k a0 a1) (spec_CaselessSame.f (k + 1) a0 a1) := by
  intro a0 a1 k
  unfold spec_CaselessSame.f
  repeat' first
      | (with_reducible exact spec_l04Same.mono _ _ _)
      | (with_reducible exact LeO.refl _)
      | (with_reducible exact LeO.none _)
      | (with_reducible refine LeO.ite ?_ ?_)
      | (with_reducible refine LeO.bind ?_ (fun _ => ?_))
      | exact spec_l04Same.mono _ _ _
      | exact LeO.none _
      | refine LeO.ite ?_ ?_
      | refine LeO.bind ?_ (fun _ => ?_)
set_option maxHeartbeats 8000000 in
set_option maxRecDepth 100000 in
theorem spec_CaselessSame.calls (k : Nat) (a0 : ByteArray) (a1 : ByteArray) (r : Bool) (w : World) (h : spec_CaselessSame.f k a0 a1 = some r) :
    Calls Tryd.prog 58 #[.string a0, .string a1] w fun e w' => e = .returned (.bool r) ∧ Below w.heap.size w w' := by
  have HB := Aside0.mk (Below.refl w.heap.size w)
  have H : (if (a0.size : Int) ≤ 65536 then (if (a1.size : Int) ≤ 65536 then ((spec_l06Caseless.f a0).bind fun t260 => ((spec_l06Caseless.f a1).bind fun t263 => ((spec_l04Same.f k t260 t263).bind fun t266 => (some t266)))) else (some false)) else (some false)) = some r := h
  clear h
  by_cases c3 : (a0.size : Int) ≤ 65536
  · rw [if_pos c3] at H
    have c3b0 : decide ((a0.size : Int) ≤ 65536) = true := decide_eq_true c3
    have c3b1 : decide (a0.size ≤ 65536) = true := decide_eq_true (by omega)
    clear c3
    by_cases c4 : (a1.size : Int) ≤ 65536
    · rw [if_pos c4] at H
      have c4b0 : decide ((a1.size : Int) ≤ 65536) = true := decide_eq_true c4
      have c4b1 : decide (a1.size ≤ 65536) = true := decide_eq_true (by omega)
      clear c4
      replace H := Option.bind_eq_some_iff.mp H
      obtain ⟨t260, A50, H⟩ := H
      replace H : ((spec_l06Caseless.f a1).bind fun t263 => ((spec_l04Same.f k t260 t263).bind fun t266 => (some t266))) = some r := H
      have A5 := Aside0.mk A50
      clear A50
      replace H := Option.bind_eq_some_iff.mp H
      obtain ⟨t263, A60, H⟩ := H
      replace H : ((spec_l04Same.f k t260 t263).bind fun t266 => (some t266)) = some r := H
      have A6 := Aside0.mk A60
      clear A60
      replace H := Option.bind_eq_some_iff.mp H
      obtain ⟨t266, A70, H⟩ := H
      replace H : (some t266) = some r := H
      have A7 := Aside0.mk A70
      clear A70
      obtain rfl := Option.some.inj H
      go_enter Tryd.func58, Tryd.ntmps58
      go_wp2_with (first | (go_at_call 139; (with_reducible refine (spec_l06Caseless.calls a0 t260 _ A5.out).mono ?_); rintro e w8 ⟨v261, rfl, ho0, hb⟩; have n0_ := Aside0.mk (Kd.R_lower ho0 (below_size (by repeat (first | (with_reducible first | exact HB.out | apply below_alloc | apply pw_below_drewN | apply below_drew1) | exact HB.out)))); have n1_ := Aside0.mk (below_step (by repeat (first | (with_reducible first | exact HB.out | apply below_alloc | apply pw_below_drewN | apply below_drew1) | exact HB.out)) hb); clear HB; have HO262 := n0_; have HB := n1_; clear n0_ n1_; (try clear hb); (try clear hb2); (try clear hk); (try clear hi); (try clear ho0)) | (go_at_call 139; (with_reducible refine (spec_l06Caseless.calls a1 t263 _ A6.out).mono ?_); rintro e w9 ⟨v264, rfl, ho0, hb⟩; have n0_ := Aside0.mk (Kd.R_elder' (by (with_reducible repeat (first | apply Kd.R_alloc | apply Kd.R_drewN | apply Kd.R_drew)); exact HO262.out) (Kd.R_base ho0) hb); have n1_ := Aside0.mk (Kd.R_lower (Kd.R_new' ho0 (Kd.R_lt (by (with_reducible repeat (first | apply Kd.R_alloc | apply Kd.R_drewN | apply Kd.R_drew)); exact HO262.out))) (below_size (by repeat (first | (with_reducible first | exact HB.out | apply below_alloc | apply pw_below_drewN | apply below_drew1) | exact HB.out)))); have n2_ := Aside0.mk (below_step (by repeat (first | (with_reducible first | exact HB.out | apply below_alloc | apply pw_below_drewN | apply below_drew1) | exact HB.out)) hb); clear HO262; clear HB; have HO262 := n0_; have HO265 := n1_; have HB := n2_; clear n0_ n1_ n2_; (try clear hb); (try clear hb2); (try clear hk); (try clear hi); (try clear ho0); obtain ⟨Ao10, co10, eo10⟩ := Kd.R_slice HO262.out; subst eo10; obtain ⟨Ao11, co11, eo11⟩ := Kd.R_slice HO265.out; subst eo11) | (go_at_call 138; (with_reducible refine (spec_l04Same.calls k _ _ t260 _ _ t263 t266 _ ?side1 ?side2 ?side3 ?side4 A7.out).mono ?_); (case side1 => repeat (first | exact (Kd.R_reads' HO262.out).2.2 | (with_reducible refine Kd.C_alloc ?_ _) | (with_reducible refine Kd.C_drewN ?_ _) | (with_reducible refine Kd.C_drew ?_))); (case side2 => exact (Kd.R_reads' HO262.out).2.1); (case side3 => repeat (first | exact (Kd.R_reads' HO265.out).2.2 | (with_reducible refine Kd.C_alloc ?_ _) | (with_reducible refine Kd.C_drewN ?_ _) | (with_reducible refine Kd.C_drew ?_))); (case side4 => exact (Kd.R_reads' HO265.out).2.1); rintro e w' ⟨rfl, ⟨nd, rfl⟩⟩))
      go_ret
      exact ⟨by first | rfl | (simp [errW_none, errW_some] <;> rfl) | (simp [*, errW_none, errW_some] <;> rfl), by repeat (first | (with_reducible first | exact HB.out | apply below_alloc | apply pw_below_drewN | apply below_drew1) | exact HB.out)⟩
    · rw [if_neg c4] at H
      have c4b0 : decide ((a1.size : Int) ≤ 65536) = false := decide_eq_false c4
      have c4b1 : decide (a1.size ≤ 65536) = false := decide_eq_false (by omega)
      clear c4
      obtain rfl := Option.some.inj H
      go_enter Tryd.func58, Tryd.ntmps58
      go_wp2
      go_ret
      exact ⟨by first | rfl | (simp [errW_none, errW_some] <;> rfl) | (simp [*, errW_none, errW_some] <;> rfl), by repeat (first | (with_reducible first | exact HB.out | apply below_alloc | apply pw_below_drewN | apply below_drew1) | exact HB.out)⟩
  · rw [if_neg c3] at H
    have c3b0 : decide ((a0.size : Int) ≤ 65536) = false := decide_eq_false c3
    have c3b1 : decide (a0.size ≤ 65536) = false := decide_eq_false (by omega)
    clear c3
    obtain rfl := Option.some.inj H
    go_enter Tryd.func58, Tryd.ntmps58
    go_wp2
    go_ret
    exact ⟨by first | rfl | (simp [errW_none, errW_some] <;> rfl) | (simp [*, errW_none, errW_some] <;> rfl), by repeat (first | (with_reducible first | exact HB.out | apply below_alloc | apply pw_below_drewN | apply below_drew1) | exact HB.out)⟩

/-! ### impl_long: function 66 -/
def impl_long.f (a0 : ByteArray) : Option (Bool) := some (decide ((a0.size : Int) > 65536))
set_option maxHeartbeats 8000000 in
set_option maxRecDepth 100000 in
theorem impl_long.calls (a0 : ByteArray) (r : Bool) (w : World) (h : impl_long.f a0 = some r) :
    Calls Tryd.prog 66 #[.string a0] w fun e w' => e = .returned (.bool r) ∧ Drawn0 w w' := by
  have H : (some (decide ((a0.size : Int) > 65536))) = some r := h
  clear h
  obtain rfl := Option.some.inj H
  go_enter Tryd.func66, Tryd.ntmps66
  go_wp2
  go_ret
  exact ⟨by first | rfl | (simp; done) | (simp [*]; done), by repeat (first | exact Drawn0.refl _ | apply Drawn0.step)⟩

/-- The tables of unicode/utf8 lie in this world as start-up lays them. -/
def GT (w : World) : Prop := Lib.Utf8Tabs 1 2 w
theorem GT.below {w w' : World} (h : GT w) (hb : Below w.heap.size w w') : GT w' := by
  obtain ⟨h1, h2⟩ := h
  refine ⟨fun c hc => ?_, fun i hi => ⟨?_, ?_⟩⟩
  · exact (hb.cell (World.block_lt_of_cell? w _ (h1 c hc))).trans (h1 c hc)
  · exact (hb.cell (World.block_lt_of_cell? w _ (h2 i hi).1)).trans (h2 i hi).1
  · exact (hb.cell (World.block_lt_of_cell? w _ (h2 i hi).2)).trans (h2 i hi).2

/-! ### utf8_DecodeRuneInString: function 158 (by hand) -/
def utf8_DecodeRuneInString.f (a0 : ByteArray) : Option (Int × Int) := some (((Lib.decodeGo a0).1 : Int), ((Lib.decodeGo a0).2 : Int))
theorem utf8_DecodeRuneInString.calls (a0 : ByteArray) (r1 : Int) (r2 : Int) (w : World) (h : utf8_DecodeRuneInString.f a0 = some (r1, r2)) (hG : GT w) :
    Calls Tryd.prog 158 #[.string a0] w fun e w' => e = .returned (.tuple #[.int .i32 r1, .int .i64 r2]) ∧ Below w.heap.size w w' := by
  have h := Option.some.inj h
  obtain ⟨rfl, rfl⟩ := Prod.mk.inj h
  exact Tryd.utf8_DecodeRuneInString a0 w hG

end Go.Proofs.YtdkoofdfkhogoaaDoor.QFnExactCaselessSame
