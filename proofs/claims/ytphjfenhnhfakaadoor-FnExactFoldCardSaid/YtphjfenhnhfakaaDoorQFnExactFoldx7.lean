/- The law FnExactFold: at every input the call answers true (this text: contracts on its way, by a program of this session's; no condition of ours). -/
import Derived.Test.YtphjfenhnhfakaaDoorQFnExactFoldx0
import Derived.Test.YtphjfenhnhfakaaDoorQFnExactFoldx4
import Derived.Test.YtphjfenhnhfakaaDoorQFnExactFoldx5
import Derived.Test.YtphjfenhnhfakaaDoorQFnExactFoldx6
namespace Go.Proofs.YtphjfenhnhfakaaDoor.QFnExactFold
open Go.RowKit Go.Proofs.YtphjfenhnhfakaaDoorW.PrintWords Go.Proofs.YtphjfenhnhfakaaDoorW.PrintLast Go.Proofs.YtphjfenhnhfakaaDoorW.PrintMore
attribute [local go_sem] max2_int min2_int max_two min_two max_three min_three max_four min_four   -- for this text's walks alone
set_option linter.unusedVariables false
set_option linter.unusedSimpArgs false

/-! ### impl_fold: function 63 -/
def impl_fold.l0 : Nat → List Int → List Int → Int → Int → Option (List Int)
  | 0, _, _, _, _ => none
  | k + 1, x3, x8, x9, x10 => if x10 < x9 then (if 0 ≤ x10 then (if x10 < (x8.length : Int) then ((impl_block.f (rd x8 x10)).bind fun bt237 => ((impl_within.f (rd x8 x10) 96).bind fun t239 => (if t239 = true then ((some (([wrap64 (bt237.1 + 50), wrap64 (bt237.1 + 50)] : List Int) : List Int)).bind fun y240 => (if x3.length + y240.length < 17592186044416 then (impl_fold.l0 k (x3 ++ y240) x8 x9 (wrap64 (x10 + 1))) else (none))) else ((impl_within.f (rd x8 x10) 97).bind fun t246 => (if t246 = true then (if x3.length < 17592186044416 then (impl_fold.l0 k (x3 ++ [wrap64 (bt237.1 + 50)]) x8 x9 (wrap64 (x10 + 1))) else (none)) else ((impl_SimpleLower.f (rd x8 x10)).bind fun t250 => (if x3.length < 17592186044416 then (impl_fold.l0 k (x3 ++ [t250]) x8 x9 (wrap64 (x10 + 1))) else (none)))))))) else (none)) else (none)) else (some x3)
def impl_fold.f (k : Nat) (l0 : List Int) : Option (List Int) := impl_fold.l0 k ([] : List Int) l0 (l0.length : Int) 0
theorem impl_fold.mono_l : ∀ k, (∀ y0 y1 y2 y3, LeO (impl_fold.l0 k y0 y1 y2 y3) (impl_fold.l0 (k + 1) y0 y1 y2 y3))
  | 0 => fun _ _ _ _ r h => by simp [impl_fold.l0] at h
  | k + 1 => by
    have ih0 := impl_fold.mono_l k
    · intro y0 y1 y2 y3
      unfold impl_fold.l0
      repeat' first
      | (with_reducible exact ih0 _ _ _ _)
      | (with_reducible exact LeO.refl _)
      | (with_reducible exact LeO.none _)
      | (with_reducible refine LeO.ite ?_ ?_)
      | (with_reducible refine LeO.bind ?_ (fun _ => ?_))
      | exact ih0 _ _ _ _
      | exact LeO.none _
      | refine LeO.ite ?_ ?_
      | refine LeO.bind ?_ (fun _ => ?_)
theorem impl_fold.mono : ∀ a0 k, LeO (impl_fold.f k a0) (impl_fold.f (k + 1) a0) := by
  intro a0 k
  have ih0 := impl_fold.mono_l k
  unfold impl_fold.f
  repeat' first
      | (with_reducible exact ih0 _ _ _ _)
      | (with_reducible exact LeO.refl _)
      | (with_reducible exact LeO.none _)
      | (with_reducible refine LeO.ite ?_ ?_)
      | (with_reducible refine LeO.bind ?_ (fun _ => ?_))
      | exact ih0 _ _ _ _
      | exact LeO.none _
      | refine LeO.ite ?_ ?_
      | refine LeO.bind ?_ (fun _ => ?_)
set_option maxHeartbeats 8000000 in
set_option maxRecDepth 100000 in
theorem impl_fold.calls (k : Nat) (A0 : Option Addr) (c0 : Nat) (l0 : List Int) (r : List Int) (w : World) (hr0 : Kd.C (Kd.int .i64) w A0 l0.length l0) (hc0 : l0.length ≤ c0) (h : impl_fold.f k l0 = some r) :
    Calls Tryd.prog 63 #[.slice A0 l0.length c0] w fun e w' => ∃ v0_ : Value, e = .returned (v0_) ∧ Kd.R (Kd.int .i64) 2 w' w.heap.size (fun _ => True) v0_ r ∧ Below w.heap.size w w' := by
  have HR0 := Aside0.mk hr0
  have HC0 := Aside0.mk hc0
  clear hr0 hc0
  have HB := Aside0.mk (Below.refl w.heap.size w)
  have H : (impl_fold.l0 k ([] : List Int) l0 (l0.length : Int) 0) = some r := h
  clear h
  have H' := Aside0.mk H
  clear H
  go_enter Tryd.func63, Tryd.ntmps63
  go_wp2
  go_loopg [3, 10] k (fun kq v3 v10 w' => ∃ (x3_1 : List Int) (x10_1 : Int), v10 = .int .i64 x10_1 ∧ Aside0 (impl_fold.l0 kq x3_1 l0 (l0.length : Int) x10_1 = some r) ∧ Aside0 (kq ≤ k) ∧ Aside0 (Kd.R (Kd.int .i64) 2 w' w.heap.size (fun _ => True) v3 x3_1) ∧ Aside0 (Below w.heap.size w w'))
  case atStart => exact ⟨(([] : List Int)), (0), (by first | rfl | (simp; done) | (simp [*]; done)), H', ⟨Nat.le_refl _⟩, ⟨by first | exact Kd.R_nil _ _ _ _ _ | exact Kd.N_nil _ _ _ _ _ | exact Kd.V_nil _ _ _ _ _ | exact Kd.Q_nil _ _ _ _ _ | exact Kd.S_nil _ _ _ _ _⟩, ⟨by repeat (first | (with_reducible first | exact HB.out | apply below_alloc | apply pw_below_drewN | apply below_drew1) | exact HB.out)⟩⟩
  case round =>
    clear H'
    obtain ⟨x3_1, x10_1, rfl, HA, HK1, HO_3, HB⟩ := hrel
    cases gk with
    | zero => exact absurd HA.out (by simp [impl_fold.l0])
    | succ k1 =>
      have H := HA.out
      clear HA
      simp only [impl_fold.l0] at H
      by_cases c2 : x10_1 < (l0.length : Int)
      · rw [if_pos c2] at H
        have c2b0 : decide (x10_1 < (l0.length : Int)) = true := decide_eq_true c2
        clear c2
        by_cases c3 : 0 ≤ x10_1
        · rw [if_pos c3] at H
          have c3b0 : decide (0 ≤ x10_1) = true := decide_eq_true c3
          clear c3
          by_cases c4 : x10_1 < (l0.length : Int)
          · rw [if_pos c4] at H
            have c4b0 : decide (x10_1 < (l0.length : Int)) = true := decide_eq_true c4
            clear c4
            replace H := Option.bind_eq_some_iff.mp H
            obtain ⟨⟨t237, t238⟩, A50, H⟩ := H
            replace H : ((impl_within.f (rd l0 x10_1) 96).bind fun t239 => (if t239 = true then ((some (([wrap64 (t237 + 50), wrap64 (t237 + 50)] : List Int) : List Int)).bind fun y240 => (if x3_1.length + y240.length < 17592186044416 then (impl_fold.l0 k1 (x3_1 ++ y240) l0 (l0.length : Int) (wrap64 (x10_1 + 1))) else (none))) else ((impl_within.f (rd l0 x10_1) 97).bind fun t246 => (if t246 = true then (if x3_1.length < 17592186044416 then (impl_fold.l0 k1 (x3_1 ++ [wrap64 (t237 + 50)]) l0 (l0.length : Int) (wrap64 (x10_1 + 1))) else (none)) else ((impl_SimpleLower.f (rd l0 x10_1)).bind fun t250 => (if x3_1.length < 17592186044416 then (impl_fold.l0 k1 (x3_1 ++ [t250]) l0 (l0.length : Int) (wrap64 (x10_1 + 1))) else (none))))))) = some r := H
            have A5 := Aside0.mk A50
            clear A50
            replace H := Option.bind_eq_some_iff.mp H
            obtain ⟨t239, A60, H⟩ := H
            replace H : (if t239 = true then ((some (([wrap64 (t237 + 50), wrap64 (t237 + 50)] : List Int) : List Int)).bind fun y240 => (if x3_1.length + y240.length < 17592186044416 then (impl_fold.l0 k1 (x3_1 ++ y240) l0 (l0.length : Int) (wrap64 (x10_1 + 1))) else (none))) else ((impl_within.f (rd l0 x10_1) 97).bind fun t246 => (if t246 = true then (if x3_1.length < 17592186044416 then (impl_fold.l0 k1 (x3_1 ++ [wrap64 (t237 + 50)]) l0 (l0.length : Int) (wrap64 (x10_1 + 1))) else (none)) else ((impl_SimpleLower.f (rd l0 x10_1)).bind fun t250 => (if x3_1.length < 17592186044416 then (impl_fold.l0 k1 (x3_1 ++ [t250]) l0 (l0.length : Int) (wrap64 (x10_1 + 1))) else (none)))))) = some r := H
            have A6 := Aside0.mk A60
            clear A60
            by_cases c7 : t239 = true
            · subst c7
              have H1 : ((some (([wrap64 (t237 + 50), wrap64 (t237 + 50)] : List Int) : List Int)).bind fun y240 => (if x3_1.length + y240.length < 17592186044416 then (impl_fold.l0 k1 (x3_1 ++ y240) l0 (l0.length : Int) (wrap64 (x10_1 + 1))) else (none))) = some r := by rw [if_pos rfl] at H; exact H
              clear H
              have H := H1
              clear H1
              obtain ⟨y240, hy240⟩ : ∃ y_ : List Int, y_ = (([wrap64 (t237 + 50), wrap64 (t237 + 50)] : List Int)) := ⟨_, rfl⟩
              replace H : (if x3_1.length + y240.length < 17592186044416 then (impl_fold.l0 k1 (x3_1 ++ y240) l0 (l0.length : Int) (wrap64 (x10_1 + 1))) else (none)) = some r := by first | (rw [hy240]; with_reducible exact H) | (have H2_ := (Option.bind_some _ _).symm.trans H; rw [hy240]; with_reducible exact H2_) | (have H2_ := (Option.bind_some _ _).symm.trans H; with_reducible exact H2_) | with_reducible exact H | (rw [hy240]; exact H) | exact H
              have Ny240 := Aside0.mk hy240
              clear hy240
              by_cases c8 : x3_1.length + y240.length < 17592186044416
              · rw [if_pos c8] at H
                have LMc8 := Aside0.mk c8
                clear c8
                obtain ⟨y243, hy243⟩ : ∃ y_ : List Int, y_ = (x3_1 ++ y240) := ⟨_, rfl⟩
                replace H : (impl_fold.l0 k1 y243 l0 (l0.length : Int) (wrap64 (x10_1 + 1))) = some r := by first | (rw [hy243]; with_reducible exact H) | (have H2_ := (Option.bind_some _ _).symm.trans H; rw [hy243]; with_reducible exact H2_) | (have H2_ := (Option.bind_some _ _).symm.trans H; with_reducible exact H2_) | with_reducible exact H | (rw [hy243]; exact H) | exact H
                have Ny243 := Aside0.mk hy243
                clear hy243
                have H' := Aside0.mk H
                clear H
                have p236 : 0 ≤ (x10_1 : Int) := of_decide_eq_true (by first | (with_reducible assumption) | assumption)
                have q236 : x10_1 < (l0.length : Int) := of_decide_eq_true (by first | (with_reducible assumption) | assumption)
                obtain ⟨ad236, e236, hx236_0⟩ := Kd.at_int HR0.out x10_1 p236 q236
                cases e236
                replace hx236_0 := (HB.out.cell (World.block_lt_of_cell? w _ hx236_0)).trans hx236_0
                replace p236 := eq_true p236
                replace q236 := eq_true q236
                go_wp2_with (first | ((with_reducible refine gate_callee (f := 89) rfl ?_); refine goesL_ (some 16) rfl rfl Tryd.func89 (by kernel_rfl) rfl #[.int .i64 (rd l0 x10_1)] rfl (by (try simp only [List.map_toArray, List.map_cons, List.map_nil]); first | done | rfl | (simp only [List.length_drop, List.length_take]; rfl)) ?_; (with_reducible refine (impl_block.calls (rd l0 x10_1) t237 t238 _ A5.out).mono ?_); rintro e w' ⟨rfl, ⟨nd, rfl⟩⟩; refine ⟨_, rfl, ?_⟩) | ((with_reducible refine gate_callee (f := 88) rfl ?_); refine goesL_ (some 26) rfl rfl Tryd.func88 (by kernel_rfl) rfl #[.int .i64 (rd l0 x10_1), .int .i64 96] rfl (by (try simp only [List.map_toArray, List.map_cons, List.map_nil]); first | done | rfl | (simp only [List.length_drop, List.length_take]; rfl)) ?_; (with_reducible refine (impl_within.calls (rd l0 x10_1) 96 true _ A6.out).mono ?_); rintro e w' ⟨rfl, ⟨nd, rfl⟩⟩; refine ⟨_, rfl, ?_⟩) | ((with_reducible refine gate_dst (N := 32) rfl ?_); refine Kd.R_lit (Kd.int .i64) _ 2 ?hg (N := 32) ?hd (xs := ([wrap64 (t237 + 50), wrap64 (t237 + 50)] : List Int)) (inner := [.int .i64 (wrap64 (t237 + 50)), .int .i64 (wrap64 (t237 + 50))]) (ok := fun _ => True) (okp := fun _ => True) ?hr ?hp (fun _ hk => hk) trivial (Below.refl _ _) (Nat.le_refl _) (by simp) ?_; (case hd => rfl); (case hg => rfl); (case hr => first | (go_simp; done) | (go_simp; rfl)); (case hp => exact (Reps.one (show Kd.M (Kd.int .i64) _ _ _ (wrap64 (t237 + 50)) [.int .i64 (wrap64 (t237 + 50))] from rfl) (Reps.one (show Kd.M (Kd.int .i64) _ _ _ (wrap64 (t237 + 50)) [.int .i64 (wrap64 (t237 + 50))] from rfl) (Reps.none _ _)))); intro v241 w9 ho10 hb hg_ hnew_; clear hg_ hnew_; (first | rw [← Ny240.out] at ho10 | (simp only [Int.reduceToNat] at ho10; rw [← Ny240.out] at ho10)); have n0_ := Aside0.mk (Kd.R_elder' (by (with_reducible repeat (first | apply Kd.R_alloc | apply Kd.R_drewN | apply Kd.R_drew)); exact HO_3.out) (Kd.R_base ho10) hb); have n1_ := Aside0.mk (Kd.R_lower (Kd.R_new' ho10 (Kd.R_lt (by (with_reducible repeat (first | apply Kd.R_alloc | apply Kd.R_drewN | apply Kd.R_drew)); exact HO_3.out))) (below_size (by repeat (first | (with_reducible first | exact HB.out | apply below_alloc | apply pw_below_drewN | apply below_drew1) | exact HB.out)))); have n2_ := Aside0.mk (below_step (by repeat (first | (with_reducible first | exact HB.out | apply below_alloc | apply pw_below_drewN | apply below_drew1) | exact HB.out)) hb); clear HO_3; clear HB; have HO_3 := n0_; have HO242 := n1_; have HB := n2_; clear n0_ n1_ n2_; clear hb ho10; obtain ⟨Ao12, co12, eo12⟩ := Kd.R_slice HO242.out; subst eo12) | ((with_reducible refine gate_builtin (b := .append) (xs := #[.tmp 27, .tmp 32]) rfl ?_); at_builtin; refine Kd.R_append_rows (Kd.int .i64) (w0 := w) w.heap.size rfl (.tmp 27) (.tmp 32) 28 2 (.int .i64 0) 8 rfl Tryd.underlying28 info2 rfl (by decide) (by omega) u3 x3_1 y240 _ _ _ (fun k_ => some k_ ≠ (.slice Ao12 y240.length co12 : Value).ownBlock) (fun _ => False) rfl rfl ?aO ?aR (fun _ _ h => h) (fun _ h => h.elim) ?aF ?aB ?aS ?aL ?_; (case aR => repeat (first | exact (Kd.R_reads' HO242.out).2.2 | (with_reducible refine Kd.C_alloc ?_ _) | (with_reducible refine Kd.C_drewN ?_ _) | (with_reducible refine Kd.C_drew ?_))); (case aB => exact (by repeat (first | (with_reducible first | exact HB.out | apply below_alloc | apply pw_below_drewN | apply below_drew1) | exact HB.out))); (case aF => exact (fun k_ hk => Kd.fresh' (Kd.R_lt (by (with_reducible repeat (first | apply Kd.R_alloc | apply Kd.R_drewN | apply Kd.R_drew)); exact HO242.out)) k_ hk)); (case aO => exact (by (with_reducible repeat (first | apply Kd.R_alloc | apply Kd.R_drewN | apply Kd.R_drew)); exact Kd.R_mono HO_3.out (fun _ hk => hk.2))); (case aS => exact (below_size (by repeat (first | (with_reducible first | exact HB.out | apply below_alloc | apply pw_below_drewN | apply below_drew1) | exact HB.out)))); (case aL => have := LMc8.out; omega); intro v244 w11 ho hb hg hat; rw [← Ny243.out] at ho; have n0_ := Aside0.mk (Kd.R_after (ok := (fun _ => True)) (by (with_reducible repeat (first | apply Kd.R_alloc | apply Kd.R_drewN | apply Kd.R_drew)); exact HO242.out) hg hat); have n1_ := Aside0.mk (hb); have n2_ := Aside0.mk (ho); clear HO242; clear HB; clear HO_3; have HO242 := n0_; have HB := n1_; have HO245 := n2_; clear n0_ n1_ n2_; clear ho hb hg hat))
                go_roundg k1
                case measure => have := HK1.out; omega
                case rel => exact ⟨(y243), (wrap64 (x10_1 + 1)), (by first | rfl | (simp; done) | (simp [*]; done)), H', ⟨by have := HK1.out; omega⟩, ⟨by (with_reducible repeat (first | apply Kd.R_alloc | apply Kd.R_drewN | apply Kd.R_drew)); exact Kd.R_mono HO245.out (fun _ hk => trivial)⟩, ⟨by repeat (first | (with_reducible first | exact HB.out | apply below_alloc | apply pw_below_drewN | apply below_drew1) | exact HB.out)⟩⟩
              · rw [if_neg c8] at H
                exact absurd H (by simp)
            · replace c7 := Bool.eq_false_iff.mpr c7
              subst c7
              have H1 : ((impl_within.f (rd l0 x10_1) 97).bind fun t246 => (if t246 = true then (if x3_1.length < 17592186044416 then (impl_fold.l0 k1 (x3_1 ++ [wrap64 (t237 + 50)]) l0 (l0.length : Int) (wrap64 (x10_1 + 1))) else (none)) else ((impl_SimpleLower.f (rd l0 x10_1)).bind fun t250 => (if x3_1.length < 17592186044416 then (impl_fold.l0 k1 (x3_1 ++ [t250]) l0 (l0.length : Int) (wrap64 (x10_1 + 1))) else (none))))) = some r := by rw [if_neg (show ¬ (false = true) by decide)] at H; exact H
              clear H
              have H := H1
              clear H1
              replace H := Option.bind_eq_some_iff.mp H
              obtain ⟨t246, A130, H⟩ := H
              replace H : (if t246 = true then (if x3_1.length < 17592186044416 then (impl_fold.l0 k1 (x3_1 ++ [wrap64 (t237 + 50)]) l0 (l0.length : Int) (wrap64 (x10_1 + 1))) else (none)) else ((impl_SimpleLower.f (rd l0 x10_1)).bind fun t250 => (if x3_1.length < 17592186044416 then (impl_fold.l0 k1 (x3_1 ++ [t250]) l0 (l0.length : Int) (wrap64 (x10_1 + 1))) else (none)))) = some r := H
              have A13 := Aside0.mk A130
              clear A130
              by_cases c14 : t246 = true
              · subst c14
                have H1 : (if x3_1.length < 17592186044416 then (impl_fold.l0 k1 (x3_1 ++ [wrap64 (t237 + 50)]) l0 (l0.length : Int) (wrap64 (x10_1 + 1))) else (none)) = some r := by rw [if_pos rfl] at H; exact H
                clear H
                have H := H1
                clear H1
                by_cases c15 : x3_1.length < 17592186044416
                · rw [if_pos c15] at H
                  have LMc15 := Aside0.mk c15
                  clear c15
                  obtain ⟨y247, hy247⟩ : ∃ y_ : List Int, y_ = (x3_1 ++ [wrap64 (t237 + 50)]) := ⟨_, rfl⟩
                  replace H : (impl_fold.l0 k1 y247 l0 (l0.length : Int) (wrap64 (x10_1 + 1))) = some r := by first | (rw [hy247]; with_reducible exact H) | (have H2_ := (Option.bind_some _ _).symm.trans H; rw [hy247]; with_reducible exact H2_) | (have H2_ := (Option.bind_some _ _).symm.trans H; with_reducible exact H2_) | with_reducible exact H | (rw [hy247]; exact H) | exact H
                  have Ny247 := Aside0.mk hy247
                  clear hy247
                  have H' := Aside0.mk H
                  clear H
                  have p236 : 0 ≤ (x10_1 : Int) := of_decide_eq_true (by first | (with_reducible assumption) | assumption)
                  have q236 : x10_1 < (l0.length : Int) := of_decide_eq_true (by first | (with_reducible assumption) | assumption)
                  obtain ⟨ad236, e236, hx236_0⟩ := Kd.at_int HR0.out x10_1 p236 q236
                  cases e236
                  replace hx236_0 := (HB.out.cell (World.block_lt_of_cell? w _ hx236_0)).trans hx236_0
                  replace p236 := eq_true p236
                  replace q236 := eq_true q236
                  go_wp2_with (first | ((with_reducible refine gate_callee (f := 89) rfl ?_); refine goesL_ (some 16) rfl rfl Tryd.func89 (by kernel_rfl) rfl #[.int .i64 (rd l0 x10_1)] rfl (by (try simp only [List.map_toArray, List.map_cons, List.map_nil]); first | done | rfl | (simp only [List.length_drop, List.length_take]; rfl)) ?_; (with_reducible refine (impl_block.calls (rd l0 x10_1) t237 t238 _ A5.out).mono ?_); rintro e w' ⟨rfl, ⟨nd, rfl⟩⟩; refine ⟨_, rfl, ?_⟩) | ((with_reducible refine gate_callee (f := 88) rfl ?_); refine goesL_ (some 26) rfl rfl Tryd.func88 (by kernel_rfl) rfl #[.int .i64 (rd l0 x10_1), .int .i64 96] rfl (by (try simp only [List.map_toArray, List.map_cons, List.map_nil]); first | done | rfl | (simp only [List.length_drop, List.length_take]; rfl)) ?_; (with_reducible refine (impl_within.calls (rd l0 x10_1) 96 false _ A6.out).mono ?_); rintro e w' ⟨rfl, ⟨nd, rfl⟩⟩; refine ⟨_, rfl, ?_⟩) | ((with_reducible refine gate_callee (f := 88) rfl ?_); refine goesL_ (some 36) rfl rfl Tryd.func88 (by kernel_rfl) rfl #[.int .i64 (rd l0 x10_1), .int .i64 97] rfl (by (try simp only [List.map_toArray, List.map_cons, List.map_nil]); first | done | rfl | (simp only [List.length_drop, List.length_take]; rfl)) ?_; (with_reducible refine (impl_within.calls (rd l0 x10_1) 97 true _ A13.out).mono ?_); rintro e w' ⟨rfl, ⟨nd, rfl⟩⟩; refine ⟨_, rfl, ?_⟩) | ((with_reducible refine gate_builtin (b := .append) (xs := #[.tmp 37, .tmp 40]) rfl ?_); at_builtin; refine Kd.R_append (Kd.int .i64) (w0 := w) w.heap.size rfl (.tmp 37) (.tmp 40) 28 2 (.int .i64 0) 8 rfl Tryd.underlying28 info2 rfl (by decide) (by omega) u3 x3_1 (wrap64 (t237 + 50)) [.int .i64 (wrap64 (t237 + 50))] (fun _ => True) (fun _ => False) rfl rfl ?aP (fun _ hk => hk.elim) ?aF ?aO ?aB ?aS ?aL ?_; (case aP => exact rfl); (case aB => exact (by repeat (first | (with_reducible first | exact HB.out | apply below_alloc | apply pw_below_drewN | apply below_drew1) | exact HB.out))); (case aF => exact (fun _ _ => trivial)); (case aO => exact (by (with_reducible repeat (first | apply Kd.R_alloc | apply Kd.R_drewN | apply Kd.R_drew)); exact HO_3.out)); (case aS => exact (below_size (by repeat (first | (with_reducible first | exact HB.out | apply below_alloc | apply pw_below_drewN | apply below_drew1) | exact HB.out)))); (case aL => have := LMc15.out; omega); intro v248 w16 ho hb hg hat; rw [← Ny247.out] at ho; have n0_ := Aside0.mk (hb); have n1_ := Aside0.mk (ho); clear HB; clear HO_3; have HB := n0_; have HO249 := n1_; clear n0_ n1_; clear ho hb hg hat))
                  go_roundg k1
                  case measure => have := HK1.out; omega
                  case rel => exact ⟨(y247), (wrap64 (x10_1 + 1)), (by first | rfl | (simp; done) | (simp [*]; done)), H', ⟨by have := HK1.out; omega⟩, ⟨by (with_reducible repeat (first | apply Kd.R_alloc | apply Kd.R_drewN | apply Kd.R_drew)); exact HO249.out⟩, ⟨by repeat (first | (with_reducible first | exact HB.out | apply below_alloc | apply pw_below_drewN | apply below_drew1) | exact HB.out)⟩⟩
                · rw [if_neg c15] at H
                  exact absurd H (by simp)
              · replace c14 := Bool.eq_false_iff.mpr c14
                subst c14
                have H1 : ((impl_SimpleLower.f (rd l0 x10_1)).bind fun t250 => (if x3_1.length < 17592186044416 then (impl_fold.l0 k1 (x3_1 ++ [t250]) l0 (l0.length : Int) (wrap64 (x10_1 + 1))) else (none))) = some r := by rw [if_neg (show ¬ (false = true) by decide)] at H; exact H
                clear H
                have H := H1
                clear H1
                replace H := Option.bind_eq_some_iff.mp H
                obtain ⟨t250, A170, H⟩ := H
                replace H : (if x3_1.length < 17592186044416 then (impl_fold.l0 k1 (x3_1 ++ [t250]) l0 (l0.length : Int) (wrap64 (x10_1 + 1))) else (none)) = some r := H
                have A17 := Aside0.mk A170
                clear A170
                by_cases c18 : x3_1.length < 17592186044416
                · rw [if_pos c18] at H
                  have LMc18 := Aside0.mk c18
                  clear c18
                  obtain ⟨y251, hy251⟩ : ∃ y_ : List Int, y_ = (x3_1 ++ [t250]) := ⟨_, rfl⟩
                  replace H : (impl_fold.l0 k1 y251 l0 (l0.length : Int) (wrap64 (x10_1 + 1))) = some r := by first | (rw [hy251]; with_reducible exact H) | (have H2_ := (Option.bind_some _ _).symm.trans H; rw [hy251]; with_reducible exact H2_) | (have H2_ := (Option.bind_some _ _).symm.trans H; with_reducible exact H2_) | with_reducible exact H | (rw [hy251]; exact H) | exact H
                  have Ny251 := Aside0.mk hy251
                  clear hy251
                  have H' := Aside0.mk H
                  clear H
                  have p236 : 0 ≤ (x10_1 : Int) := of_decide_eq_true (by first | (with_reducible assumption) | assumption)
                  have q236 : x10_1 < (l0.length : Int) := of_decide_eq_true (by first | (with_reducible assumption) | assumption)
                  obtain ⟨ad236, e236, hx236_0⟩ := Kd.at_int HR0.out x10_1 p236 q236
                  cases e236
                  replace hx236_0 := (HB.out.cell (World.block_lt_of_cell? w _ hx236_0)).trans hx236_0
                  replace p236 := eq_true p236
                  replace q236 := eq_true q236
                  go_wp2_with (first | ((with_reducible refine gate_callee (f := 89) rfl ?_); refine goesL_ (some 16) rfl rfl Tryd.func89 (by kernel_rfl) rfl #[.int .i64 (rd l0 x10_1)] rfl (by (try simp only [List.map_toArray, List.map_cons, List.map_nil]); first | done | rfl | (simp only [List.length_drop, List.length_take]; rfl)) ?_; (with_reducible refine (impl_block.calls (rd l0 x10_1) t237 t238 _ A5.out).mono ?_); rintro e w' ⟨rfl, ⟨nd, rfl⟩⟩; refine ⟨_, rfl, ?_⟩) | ((with_reducible refine gate_callee (f := 88) rfl ?_); refine goesL_ (some 26) rfl rfl Tryd.func88 (by kernel_rfl) rfl #[.int .i64 (rd l0 x10_1), .int .i64 96] rfl (by (try simp only [List.map_toArray, List.map_cons, List.map_nil]); first | done | rfl | (simp only [List.length_drop, List.length_take]; rfl)) ?_; (with_reducible refine (impl_within.calls (rd l0 x10_1) 96 false _ A6.out).mono ?_); rintro e w' ⟨rfl, ⟨nd, rfl⟩⟩; refine ⟨_, rfl, ?_⟩) | ((with_reducible refine gate_callee (f := 88) rfl ?_); refine goesL_ (some 36) rfl rfl Tryd.func88 (by kernel_rfl) rfl #[.int .i64 (rd l0 x10_1), .int .i64 97] rfl (by (try simp only [List.map_toArray, List.map_cons, List.map_nil]); first | done | rfl | (simp only [List.length_drop, List.length_take]; rfl)) ?_; (with_reducible refine (impl_within.calls (rd l0 x10_1) 97 false _ A13.out).mono ?_); rintro e w' ⟨rfl, ⟨nd, rfl⟩⟩; refine ⟨_, rfl, ?_⟩) | ((with_reducible refine gate_callee (f := 95) rfl ?_); refine goesL_ (some 21) rfl rfl Tryd.func95 (by kernel_rfl) rfl #[.int .i64 (rd l0 x10_1)] rfl (by (try simp only [List.map_toArray, List.map_cons, List.map_nil]); first | done | rfl | (simp only [List.length_drop, List.length_take]; rfl)) ?_; (with_reducible refine (impl_SimpleLower.calls (rd l0 x10_1) t250 _ A17.out).mono ?_); rintro e w' ⟨rfl, ⟨nd, rfl⟩⟩; refine ⟨_, rfl, ?_⟩) | ((with_reducible refine gate_builtin (b := .append) (xs := #[.tmp 19, .tmp 22]) rfl ?_); at_builtin; refine Kd.R_append (Kd.int .i64) (w0 := w) w.heap.size rfl (.tmp 19) (.tmp 22) 28 2 (.int .i64 0) 8 rfl Tryd.underlying28 info2 rfl (by decide) (by omega) u3 x3_1 t250 [.int .i64 t250] (fun _ => True) (fun _ => False) rfl rfl ?aP (fun _ hk => hk.elim) ?aF ?aO ?aB ?aS ?aL ?_; (case aP => exact rfl); (case aB => exact (by repeat (first | (with_reducible first | exact HB.out | apply below_alloc | apply pw_below_drewN | apply below_drew1) | exact HB.out))); (case aF => exact (fun _ _ => trivial)); (case aO => exact (by (with_reducible repeat (first | apply Kd.R_alloc | apply Kd.R_drewN | apply Kd.R_drew)); exact HO_3.out)); (case aS => exact (below_size (by repeat (first | (with_reducible first | exact HB.out | apply below_alloc | apply pw_below_drewN | apply below_drew1) | exact HB.out)))); (case aL => have := LMc18.out; omega); intro v252 w19 ho hb hg hat; rw [← Ny251.out] at ho; have n0_ := Aside0.mk (hb); have n1_ := Aside0.mk (ho); clear HB; clear HO_3; have HB := n0_; have HO253 := n1_; clear n0_ n1_; clear ho hb hg hat))
                  go_roundg k1
                  case measure => have := HK1.out; omega
                  case rel => exact ⟨(y251), (wrap64 (x10_1 + 1)), (by first | rfl | (simp; done) | (simp [*]; done)), H', ⟨by have := HK1.out; omega⟩, ⟨by (with_reducible repeat (first | apply Kd.R_alloc | apply Kd.R_drewN | apply Kd.R_drew)); exact HO253.out⟩, ⟨by repeat (first | (with_reducible first | exact HB.out | apply below_alloc | apply pw_below_drewN | apply below_drew1) | exact HB.out)⟩⟩
                · rw [if_neg c18] at H
                  exact absurd H (by simp)
          · rw [if_neg c4] at H
            exact absurd H (by simp)
        · rw [if_neg c3] at H
          exact absurd H (by simp)
      · rw [if_neg c2] at H
        have c2b0 : decide (x10_1 < (l0.length : Int)) = false := decide_eq_false c2
        clear c2
        obtain rfl := Option.some.inj H
        go_wp2
        go_ret
        exact ⟨_, by first | rfl | (simp [errW_none, errW_some] <;> rfl) | (simp [*, errW_none, errW_some] <;> rfl), by (with_reducible repeat (first | apply Kd.R_alloc | apply Kd.R_drewN | apply Kd.R_drew)); exact HO_3.out, by repeat (first | (with_reducible first | exact HB.out | apply below_alloc | apply pw_below_drewN | apply below_drew1) | exact HB.out)⟩

def impl_fold.one (p : Int) : List Int := if 512 ≤ p ∧ p < 1280 ∧ p % 256 = 96 then [p - p % 256 + 50, p - p % 256 + 50] else if 512 ≤ p ∧ p < 1280 ∧ p % 256 = 97 then [p - p % 256 + 50] else [(impl_cases.g p).2.2]
def W_impl_fold.f (l0 : List Int) : Option (List Int) := if l0.length ≤ 1099511627776 ∧ (∀ p ∈ l0, YtphjfenhnhfakaaDoorPts.isP p) then some (l0.flatMap impl_fold.one) else none
theorem impl_fold.one_length (p : Int) : (impl_fold.one p).length ≤ 2 := by unfold impl_fold.one; split <;> first | (split <;> simp) | simp
theorem impl_fold.len (l : List Int) : (l.flatMap impl_fold.one).length ≤ 2 * l.length := by
  induction l with
  | nil => simp
  | cons p l ih => rw [List.flatMap_cons, List.length_append, List.length_cons]; have := impl_fold.one_length p; omega
theorem impl_fold.within (p q : Int) (hq : 0 < q) : impl_within.f p q = some (decide (512 ≤ p ∧ p < 1280 ∧ p % 256 = q)) := by
  unfold impl_within.f impl_block.f
  by_cases c : 512 ≤ p ∧ p < 1280
  · rw [if_pos c]
    simp only [Option.bind_some]
    rw [if_pos (by omega)]
    by_cases c2 : p % 256 = q
    · simp [c, c2]
    · simp [c2]
  · rw [if_neg c]
    simp only [Option.bind_some]
    rw [if_neg (by omega)]
    rw [decide_eq_false (fun z => c ⟨z.1, z.2.1⟩)]
theorem impl_fold.run (l : List Int) (hl : l.length ≤ 1099511627776) (hp : ∀ p ∈ l, YtphjfenhnhfakaaDoorPts.isP p) (d : Nat) : ∀ (k i : Nat), i ≤ l.length → l.length - i = d → d < k →
    impl_fold.l0 k ((l.take i).flatMap impl_fold.one) l (l.length : Int) (i : Int) = some (l.flatMap impl_fold.one) := by
  induction d with
  | zero =>
    intro k i h1 h2 h3
    obtain ⟨k, rfl⟩ : ∃ m, k = m + 1 := ⟨k - 1, by omega⟩
    simp only [impl_fold.l0]
    rw [if_neg (by omega), List.take_of_length_le (by omega)]
  | succ d ih =>
    intro k i h1 h2 h3
    obtain ⟨k, rfl⟩ : ∃ m, k = m + 1 := ⟨k - 1, by omega⟩
    have hlt : i < l.length := by omega
    have hih := ih k (i + 1) (by omega) (by omega) (by omega)
    have hw : wrap64 ((i : Int) + 1) = ((i + 1 : Nat) : Int) := by unfold wrap64; omega
    have hr : rd l (i : Int) = l[i] := by simp [rd, List.getD, hlt]
    have ht : (l.take (i + 1)).flatMap impl_fold.one = (l.take i).flatMap impl_fold.one ++ impl_fold.one l[i] := by
      rw [List.take_succ_eq_append_getElem hlt, List.flatMap_append]
      simp only [List.flatMap_cons, List.flatMap_nil, List.append_nil]
    have hlen := impl_fold.len (l.take i)
    rw [List.length_take] at hlen
    have hpi := hp l[i] (List.getElem_mem hlt)
    simp only [impl_fold.l0]
    rw [if_pos (by omega), if_pos (by omega), if_pos (by omega), hr, hw]
    rw [ht] at hih
    obtain ⟨p, hpe⟩ : ∃ p, l[i] = p := ⟨_, rfl⟩
    rw [hpe] at hih hpi ⊢
    clear ht hr hw ih
    obtain ⟨acc, hacc⟩ : ∃ acc, (l.take i).flatMap impl_fold.one = acc := ⟨_, rfl⟩
    rw [hacc] at hih hlen ⊢
    unfold impl_fold.one at hih
    unfold YtphjfenhnhfakaaDoorPts.isP at hpi
    rw [impl_fold.within p 96 (by omega), impl_fold.within p 97 (by omega)]
    have hb : impl_block.f p = some (if 512 ≤ p ∧ p < 1280 then (p - p % 256, p % 256) else (0, 0)) := rfl
    rw [hb]
    simp only [Option.bind_some]
    by_cases c : 512 ≤ p ∧ p < 1280 ∧ p % 256 = 96
    · rw [if_pos (decide_eq_true c)]
      rw [if_pos c] at hih
      rw [if_pos (show 512 ≤ p ∧ p < 1280 from ⟨c.1, c.2.1⟩)]
      have hv : wrap64 (p - p % 256 + 50) = p - p % 256 + 50 := by unfold wrap64; omega
      simp only [hv]
      rw [if_pos (by simp only [List.length_cons, List.length_nil]; omega)]
      exact hih
    · rw [if_neg (by simpa using c)]
      rw [if_neg c] at hih
      by_cases c3 : 512 ≤ p ∧ p < 1280 ∧ p % 256 = 97
      · rw [if_pos (decide_eq_true c3)]
        rw [if_pos c3] at hih
        rw [if_pos (show 512 ≤ p ∧ p < 1280 from ⟨c3.1, c3.2.1⟩)]
        have hv : wrap64 (p - p % 256 + 50) = p - p % 256 + 50 := by unfold wrap64; omega
        simp only [hv]
        rw [if_pos (by omega)]
        exact hih
      · rw [if_neg (by simpa using c3)]
        rw [if_neg c3] at hih
        have hs : impl_SimpleLower.f p = some (impl_cases.g p).2.2 := by
          unfold impl_SimpleLower.f impl_isPoint.f
          rw [if_pos hpi.1, if_pos hpi.2.1]
          have : (if p < 55296 then (some true) else (some (decide (p > 57343)))) = some true := by
            split
            · rfl
            · rw [decide_eq_true (by omega)]
          rw [this]
          simp only [Option.bind_some, if_true]
          unfold impl_cases.f
          rw [if_pos ⟨hpi.1, hpi.2.1⟩]
          rfl
        rw [hs]
        simp only [Option.bind_some]
        rw [if_pos (by omega)]
        exact hih
theorem W_impl_fold.to {l0 : List Int} {r : List Int} (h : W_impl_fold.f l0 = some r) : ∃ k, impl_fold.f k l0 = some r := by
  unfold W_impl_fold.f at h
  split at h
  · rename_i hl
    refine ⟨l0.length + 1, ?_⟩
    rw [← h]
    exact impl_fold.run l0 hl.1 hl.2 l0.length (l0.length + 1) 0 (by omega) (by omega) (by omega)
  · cases h
theorem W_impl_fold.calls (A0 : Option Addr) (c0 : Nat) (l0 : List Int) (r : List Int) (w : World) (hr0 : Kd.C (Kd.int .i64) w A0 l0.length l0) (hc0 : l0.length ≤ c0) (h : W_impl_fold.f l0 = some r) :
    Calls Tryd.prog 63 #[.slice A0 l0.length c0] w fun e w' => ∃ v0_ : Value, e = .returned (v0_) ∧ Kd.R (Kd.int .i64) 2 w' w.heap.size (fun _ => True) v0_ r ∧ Below w.heap.size w w' := by
  obtain ⟨k, hk⟩ := W_impl_fold.to h
  exact impl_fold.calls k A0 c0 l0 r w hr0 hc0 hk

/-! ### impl_Fold: function 32 (by hand) -/
def impl_Fold.f (a0 : ByteArray) : Option (ByteArray) := if (a0.size : Int) > 65536 then (some (⟨#[]⟩ : ByteArray)) else ((W_impl_points.f a0).bind fun l => ((W_impl_fold.f l).bind fun m => ((W_impl_write.f m).bind fun s => (impl_short.f s))))
set_option maxHeartbeats 4000000 in
set_option maxRecDepth 100000 in
theorem impl_Fold.calls (a0 : ByteArray) (r : ByteArray) (w : World) (h : impl_Fold.f a0 = some r) (hG : GT w) :
    Calls Tryd.prog 32 #[.string a0] w fun e w' => e = .returned (.string r) ∧ Below w.heap.size w w' := by
  have HG := Aside0.mk hG
  clear hG
  unfold impl_Fold.f at h
  by_cases c : (a0.size : Int) > 65536
  · rw [if_pos c] at h
    obtain rfl := Option.some.inj h
    have HL := fun W => impl_long.calls a0 true W (by unfold impl_long.f; rw [decide_eq_true c])
    clear h c
    go_enter Tryd.func32, Tryd.ntmps32
    go_wp2_with (first | (go_at_call 37; refine (HL _).mono ?_; rintro e w1 ⟨rfl, ⟨nd, rfl⟩⟩) | go_in)
    go_ret
    exact ⟨rfl, by repeat (first | exact Below.refl _ _ | apply pw_below_drewN | apply below_drew1)⟩
  · rw [if_neg c] at h
    obtain ⟨l, hl, h⟩ := Option.bind_eq_some_iff.mp h
    obtain ⟨m, hm, h⟩ := Option.bind_eq_some_iff.mp h
    obtain ⟨s, hs, h⟩ := Option.bind_eq_some_iff.mp h
    have HL := fun W => impl_long.calls a0 false W (by unfold impl_long.f; rw [decide_eq_false c])
    have H1 := Aside0.mk hl
    have H2 := Aside0.mk hm
    have H3 := Aside0.mk hs
    have H4 := Aside0.mk h
    clear hl hm hs h c
    go_enter Tryd.func32, Tryd.ntmps32
    go_wp2_with (first
      | (go_at_call 37; refine (HL _).mono ?_; rintro e w1 ⟨rfl, ⟨nd, rfl⟩⟩)
      | (go_at_call 47; refine (W_impl_points.calls a0 l _ H1.out (GT.below HG.out (by repeat (first | exact Below.refl _ _ | apply pw_below_drewN | apply below_drew1)))).mono ?_; rintro e w1 ⟨v1, rfl, ho1, hb1⟩; obtain ⟨A1, c1, rfl⟩ := Kd.R_slice ho1; have R1 := Aside0.mk (Kd.R_reads' ho1); have B1 : Aside0 (Below w.heap.size w w1) := Aside0.mk (below_step (by repeat (first | exact Below.refl _ _ | apply pw_below_drewN | apply below_drew1)) hb1); clear ho1 hb1)
      | (go_at_call 63; refine (W_impl_fold.calls A1 c1 l m _ R1.out.2.2 R1.out.2.1 H2.out).mono ?_; rintro e w2 ⟨v2, rfl, ho2, hb2⟩; obtain ⟨A2, c2, rfl⟩ := Kd.R_slice ho2; have R2 := Aside0.mk (Kd.R_reads' ho2); have B2 := Aside0.mk (below_step B1.out hb2); clear ho2 hb2)
      | (go_at_call 49; refine (W_impl_write.calls A2 c2 m s _ R2.out.2.2 R2.out.2.1 H3.out).mono ?_; rintro e w3 ⟨rfl, hb3⟩; have B3 := Aside0.mk (below_step B2.out hb3); clear hb3)
      | (go_at_call 48; refine (impl_short.calls s r _ H4.out).mono ?_; rintro e w4 ⟨rfl, ⟨nd4, rfl⟩⟩)
      | go_in)
    go_ret
    exact ⟨rfl, by repeat (first | exact B3.out | apply below_alloc | apply pw_below_drewN | apply below_drew1)⟩

/-! ### laws_FnExactFold: function 9 -/
def laws_FnExactFold.f (a0 : ByteArray) : Option (Bool) := if (a0.size : Int) > 1048576 then (some true) else ((spec_Fold.f a0).bind fun t254 => ((impl_Fold.f a0).bind fun t255 => (if t255.toList = t254.toList then (some true) else (some false))))
set_option maxHeartbeats 8000000 in
set_option maxRecDepth 100000 in
theorem laws_FnExactFold.calls (a0 : ByteArray) (r : Bool) (w : World) (h : laws_FnExactFold.f a0 = some r) (hG : GT w) :
    Calls Tryd.prog 9 #[.string a0] w fun e w' => e = .returned (.bool r) ∧ Below w.heap.size w w' := by
  have HG := Aside0.mk hG
  clear hG
  have HB := Aside0.mk (Below.refl w.heap.size w)
  have H : (if (a0.size : Int) > 1048576 then (some true) else ((spec_Fold.f a0).bind fun t254 => ((impl_Fold.f a0).bind fun t255 => (if t255.toList = t254.toList then (some true) else (some false))))) = some r := h
  clear h
  by_cases c2 : (a0.size : Int) > 1048576
  · rw [if_pos c2] at H
    have c2b0 : decide (1048576 < (a0.size : Int)) = true := decide_eq_true c2
    have c2b1 : decide (1048576 < a0.size) = true := decide_eq_true (by omega)
    clear c2
    obtain rfl := Option.some.inj H
    go_enter Tryd.func9, Tryd.ntmps9
    go_wp2
    go_ret
    exact ⟨by first | rfl | (simp [errW_none, errW_some] <;> rfl) | (simp [*, errW_none, errW_some] <;> rfl), by repeat (first | (with_reducible first | exact HB.out | apply below_alloc | apply pw_below_drewN | apply below_drew1) | exact HB.out)⟩
  · rw [if_neg c2] at H
    have c2b0 : decide (1048576 < (a0.size : Int)) = false := decide_eq_false c2
    have c2b1 : decide (1048576 < a0.size) = false := decide_eq_false (by omega)
    clear c2
    replace H := Option.bind_eq_some_iff.mp H
    obtain ⟨t254, A30, H⟩ := H
    replace H : ((impl_Fold.f a0).bind fun t255 => (if t255.toList = t254.toList then (some true) else (some false))) = some r := H
    have A3 := Aside0.mk A30
    clear A30
    replace H := Option.bind_eq_some_iff.mp H
    obtain ⟨t255, A40, H⟩ := H
    replace H : (if t255.toList = t254.toList then (some true) else (some false)) = some r := H
    have A4 := Aside0.mk A40
    clear A40
    by_cases c5 : t255.toList = t254.toList
    · rw [if_pos c5] at H
      have c5b0 : (t255.toList == t254.toList) = true := beq_iff_eq.mpr c5
      have c5b1 : (t255.toList != t254.toList) = false := bne_eq_false_iff_eq.mpr c5
      clear c5
      obtain rfl := Option.some.inj H
      go_enter Tryd.func9, Tryd.ntmps9
      go_wp2_with (first | ((with_reducible refine gate_callee (f := 31) rfl ?_); refine goesL_ (some 9) rfl rfl Tryd.func31 (by kernel_rfl) rfl #[.string a0] rfl (by (try simp only [List.map_toArray, List.map_cons, List.map_nil]); first | done | rfl | (simp only [List.length_drop, List.length_take]; rfl)) ?_; (with_reducible refine (spec_Fold.calls a0 t254 _ A3.out).mono ?_); rintro e w6 ⟨rfl, hb⟩; refine ⟨_, rfl, ?_⟩; have n0_ := Aside0.mk (below_step (by repeat (first | (with_reducible first | exact HB.out | apply below_alloc | apply pw_below_drewN | apply below_drew1) | exact HB.out)) hb); clear HB; have HB := n0_; clear n0_; (try clear hb); (try clear hb2); (try clear hk); (try clear hi)) | ((with_reducible refine gate_callee (f := 32) rfl ?_); refine goesL_ (some 11) rfl rfl Tryd.func32 (by kernel_rfl) rfl #[.string a0] rfl (by (try simp only [List.map_toArray, List.map_cons, List.map_nil]); first | done | rfl | (simp only [List.length_drop, List.length_take]; rfl)) ?_; (with_reducible refine (impl_Fold.calls a0 t255 _ A4.out (by first | exact HG.out | exact GT.below HG.out (by first | exact HB.out | (repeat (first | (with_reducible first | exact HB.out | apply below_alloc | apply pw_below_drewN | apply below_drew1) | exact HB.out))) | exact GT.below HG.out (HB.out))).mono ?_); rintro e w7 ⟨rfl, hb⟩; refine ⟨_, rfl, ?_⟩; have n0_ := Aside0.mk (below_step (by repeat (first | (with_reducible first | exact HB.out | apply below_alloc | apply pw_below_drewN | apply below_drew1) | exact HB.out)) hb); clear HB; have HB := n0_; clear n0_; (try clear hb); (try clear hb2); (try clear hk); (try clear hi)))
      go_ret
      exact ⟨by first | rfl | (simp [errW_none, errW_some] <;> rfl) | (simp [*, errW_none, errW_some] <;> rfl), by repeat (first | (with_reducible first | exact HB.out | apply below_alloc | apply pw_below_drewN | apply below_drew1) | exact HB.out)⟩
    · rw [if_neg c5] at H
      have c5b0 : (t255.toList == t254.toList) = false := beq_eq_false_iff_ne.mpr c5
      have c5b1 : (t255.toList != t254.toList) = true := bne_iff_ne.mpr c5
      obtain rfl := Option.some.inj H
      go_enter Tryd.func9, Tryd.ntmps9
      go_wp2_with (first | ((with_reducible refine gate_callee (f := 31) rfl ?_); refine goesL_ (some 9) rfl rfl Tryd.func31 (by kernel_rfl) rfl #[.string a0] rfl (by (try simp only [List.map_toArray, List.map_cons, List.map_nil]); first | done | rfl | (simp only [List.length_drop, List.length_take]; rfl)) ?_; (with_reducible refine (spec_Fold.calls a0 t254 _ A3.out).mono ?_); rintro e w8 ⟨rfl, hb⟩; refine ⟨_, rfl, ?_⟩; have n0_ := Aside0.mk (below_step (by repeat (first | (with_reducible first | exact HB.out | apply below_alloc | apply pw_below_drewN | apply below_drew1) | exact HB.out)) hb); clear HB; have HB := n0_; clear n0_; (try clear hb); (try clear hb2); (try clear hk); (try clear hi)) | ((with_reducible refine gate_callee (f := 32) rfl ?_); refine goesL_ (some 11) rfl rfl Tryd.func32 (by kernel_rfl) rfl #[.string a0] rfl (by (try simp only [List.map_toArray, List.map_cons, List.map_nil]); first | done | rfl | (simp only [List.length_drop, List.length_take]; rfl)) ?_; (with_reducible refine (impl_Fold.calls a0 t255 _ A4.out (by first | exact HG.out | exact GT.below HG.out (by first | exact HB.out | (repeat (first | (with_reducible first | exact HB.out | apply below_alloc | apply pw_below_drewN | apply below_drew1) | exact HB.out))) | exact GT.below HG.out (HB.out))).mono ?_); rintro e w9 ⟨rfl, hb⟩; refine ⟨_, rfl, ?_⟩; have n0_ := Aside0.mk (below_step (by repeat (first | (with_reducible first | exact HB.out | apply below_alloc | apply pw_below_drewN | apply below_drew1) | exact HB.out)) hb); clear HB; have HB := n0_; clear n0_; (try clear hb); (try clear hb2); (try clear hk); (try clear hi)))
      go_ret
      exact ⟨by first | rfl | (simp [errW_none, errW_some] <;> rfl) | (simp [*, errW_none, errW_some] <;> rfl), by repeat (first | (with_reducible first | exact HB.out | apply below_alloc | apply pw_below_drewN | apply below_drew1) | exact HB.out)⟩

/-- THE ONE PURE STATEMENT of laws_FnExactFold: yours. -/
def laws_FnExactFold.Pure : Prop := ∀ (a0 : ByteArray), a0.size ≤ 140737488351232 → laws_FnExactFold.f a0 = some true
theorem laws_FnExactFold.walk (P : laws_FnExactFold.Pure) (a0 : ByteArray) (w : World) (hG : GT w) (w0 : a0.size ≤ 140737488351232) :
    Calls Tryd.prog 9 #[.string a0] w fun e w' => e = .returned (.bool true) ∧ Below w.heap.size w w' := by
  have h := P a0 w0
  refine (laws_FnExactFold.calls a0 true w h hG).mono ?_
  rintro e w' ⟨rfl, hd⟩
  exact ⟨rfl, hd⟩

end Go.Proofs.YtphjfenhnhfakaaDoor.QFnExactFold
