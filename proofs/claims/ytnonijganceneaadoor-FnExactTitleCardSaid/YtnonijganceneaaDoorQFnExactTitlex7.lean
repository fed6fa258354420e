/- The law FnExactTitle: at every input the call answers true (this text: contracts on its way, by a program of this session's; no condition of ours). -/
import Derived.Test.YtnonijganceneaaDoorQFnExactTitlex0
import Derived.Test.YtnonijganceneaaDoorQFnExactTitlex1
import Derived.Test.YtnonijganceneaaDoorQFnExactTitlex3
import Derived.Test.YtnonijganceneaaDoorQFnExactTitlex5
import Derived.Test.YtnonijganceneaaDoorQFnExactTitlex6
namespace Go.Proofs.YtnonijganceneaaDoor.QFnExactTitle
open Go.RowKit Go.Proofs.YtnonijganceneaaDoorW.PrintWords Go.Proofs.YtnonijganceneaaDoorW.PrintLast Go.Proofs.YtnonijganceneaaDoorW.PrintMore
attribute [local go_sem] max2_int min2_int max_two min_two max_three min_three max_four min_four   -- for this text's walks alone
set_option linter.unusedVariables false
set_option linter.unusedSimpArgs false

/-! ### spec_Title: function 62 -/
def spec_Title.l0 : Nat → List Int → List Int → Bool → Int → Option (ByteArray)
  | 0, _, _, _, _ => none
  | k + 1, x3, x4, x5, x6 => if x6 < (x3.length : Int) then (if 0 ≤ x6 then ((spec_l06Sharp.f (rd x3 x6)).bind fun bt183 => ((spec_l06InWord.f (rd x3 x6)).bind fun t185 => (if t185 = true then (if x5 = true then ((spec_l06LowerAt.f x3 x6).bind fun t186 => (if x4.length < 17592186044416 then (spec_Title.l0 k x3 (x4 ++ [t186]) x5 (wrap64 (x6 + 1))) else (none))) else ((spec_l06Cased.f (rd x3 x6)).bind fun t190 => (if t190 = true then (if bt183.2 = true then ((some (([wrap64 (bt183.1 + 18), wrap64 (bt183.1 + 50)] : List Int) : List Int)).bind fun y191 => (if x4.length + y191.length < 17592186044416 then (spec_Title.l0 k x3 (x4 ++ y191) true (wrap64 (x6 + 1))) else (none))) else ((spec_l06Up.f (rd x3 x6) 1).bind fun t197 => (if x4.length < 17592186044416 then (spec_Title.l0 k x3 (x4 ++ [t197]) true (wrap64 (x6 + 1))) else (none)))) else (if x4.length < 17592186044416 then (spec_Title.l0 k x3 (x4 ++ [rd x3 x6]) x5 (wrap64 (x6 + 1))) else (none))))) else (if x4.length < 17592186044416 then (spec_Title.l0 k x3 (x4 ++ [rd x3 x6]) false (wrap64 (x6 + 1))) else (none))))) else (none)) else ((W_spec_l01Text.f x4).bind fun t180 => ((spec_l01Small.f t180).bind fun t181 => (some t181)))
def spec_Title.f (k : Nat) (a0 : ByteArray) : Option (ByteArray) := if (a0.size : Int) > 65536 then (some (⟨#[]⟩ : ByteArray)) else ((W_spec_l01Points.f a0).bind fun t174 => (spec_Title.l0 k t174 (([] : List Int)) false 0))
theorem spec_Title.mono_l : ∀ k, (∀ y0 y1 y2 y3, LeO (spec_Title.l0 k y0 y1 y2 y3) (spec_Title.l0 (k + 1) y0 y1 y2 y3))
  | 0 => fun _ _ _ _ r h => by simp [spec_Title.l0] at h
  | k + 1 => by
    have ih0 := spec_Title.mono_l k
    · intro y0 y1 y2 y3
      unfold spec_Title.l0
      repeat' first
      | (with_reducible exact ih0 _ _ _ _)
      | (with_reducible exact LeO.refl _)
      | (with_reducible exact LeO.none _)
      | (with_reducible refine LeO.ite ?_ ?_)
      | (with_reducible refine LeO.bind ?_ (fun _ => ?_))
      | exact ih0 _ _ _ _
      | exact LeO.none _
      | refine LeO.ite ?_ ?_
      | refine LeO.bind ?_ (fun _ => ?_)
theorem spec_Title.mono : ∀ a0 k, LeO (spec_Title.f k a0) (spec_Title.f (k + 1) a0) := by
  intro a0 k
  have ih0 := spec_Title.mono_l k
  unfold spec_Title.f
  repeat' first
      | (with_reducible exact ih0 _ _ _ _)
      | (with_reducible exact LeO.refl _)
      | (with_reducible exact LeO.none _)
      | (with_reducible refine LeO.ite ?_ ?_)
      | (with_reducible refine LeO.bind ?_ (fun _ => ?_))
      | exact ih0 _ _ _ _
      | exact LeO.none _
      | refine LeO.ite ?_ ?_
      | refine LeO.bind ?_ (fun _ => ?_)
set_option maxHeartbeats 8000000 in
set_option maxRecDepth 100000 in
theorem spec_Title.calls (k : Nat) (a0 : ByteArray) (r : ByteArray) (w : World) (h : spec_Title.f k a0 = some r) :
    Calls Tryd.prog 62 #[.string a0] w fun e w' => e = .returned (.string r) ∧ Below w.heap.size w w' := by
  have HB := Aside0.mk (Below.refl w.heap.size w)
  have H : (if (a0.size : Int) > 65536 then (some (⟨#[]⟩ : ByteArray)) else ((W_spec_l01Points.f a0).bind fun t174 => (spec_Title.l0 k t174 (([] : List Int)) false 0))) = some r := h
  clear h
  by_cases c2 : (a0.size : Int) > 65536
  · rw [if_pos c2] at H
    have c2b0 : decide (65536 < (a0.size : Int)) = true := decide_eq_true c2
    have c2b1 : decide (65536 < a0.size) = true := decide_eq_true (by omega)
    clear c2
    obtain rfl := Option.some.inj H
    go_enter Tryd.func62, Tryd.ntmps62
    go_wp2
    go_ret
    exact ⟨by first | rfl | (simp [errW_none, errW_some] <;> rfl) | (simp [*, errW_none, errW_some] <;> rfl), by repeat (first | (with_reducible first | exact HB.out | apply below_alloc | apply pw_below_drewN | apply below_drew1) | exact HB.out)⟩
  · rw [if_neg c2] at H
    have c2b0 : decide (65536 < (a0.size : Int)) = false := decide_eq_false c2
    have c2b1 : decide (65536 < a0.size) = false := decide_eq_false (by omega)
    clear c2
    replace H := Option.bind_eq_some_iff.mp H
    obtain ⟨t174, A30, H⟩ := H
    replace H : (spec_Title.l0 k t174 (([] : List Int)) false 0) = some r := H
    have A3 := Aside0.mk A30
    clear A30
    obtain ⟨y177, hy177⟩ : ∃ y_ : List Int, y_ = (([] : List Int)) := ⟨_, rfl⟩
    replace H : (spec_Title.l0 k t174 y177 false 0) = some r := by first | (rw [hy177]; with_reducible exact H) | (have H2_ := (Option.bind_some _ _).symm.trans H; rw [hy177]; with_reducible exact H2_) | (have H2_ := (Option.bind_some _ _).symm.trans H; with_reducible exact H2_) | with_reducible exact H | (rw [hy177]; exact H) | exact H
    have Ny177 := Aside0.mk hy177
    clear hy177
    have H' := Aside0.mk H
    clear H
    go_enter Tryd.func62, Tryd.ntmps62
    go_wp2_with (first | ((with_reducible refine gate_callee (f := 102) rfl ?_); refine goesL_ (some 14) rfl rfl Tryd.func102 (by kernel_rfl) rfl #[.string a0] rfl (by (try simp only [List.map_toArray, List.map_cons, List.map_nil]); first | done | rfl | (simp only [List.length_drop, List.length_take]; rfl)) ?_; (with_reducible refine (W_spec_l01Points.calls a0 t174 _ A3.out).mono ?_); rintro e w4 ⟨v175, rfl, ho0, hb⟩; refine ⟨_, rfl, ?_⟩; have n0_ := Aside0.mk (Kd.R_lower ho0 (below_size (by repeat (first | (with_reducible first | exact HB.out | apply below_alloc | apply pw_below_drewN | apply below_drew1) | exact HB.out)))); have n1_ := Aside0.mk (below_step (by repeat (first | (with_reducible first | exact HB.out | apply below_alloc | apply pw_below_drewN | apply below_drew1) | exact HB.out)) hb); clear HB; have HO176 := n0_; have HB := n1_; clear n0_ n1_; (try clear hb); (try clear hb2); (try clear hk); (try clear hi); (try clear ho0)) | ((with_reducible refine gate_dst (N := 15) rfl ?_); refine Kd.R_lit (Kd.int .i64) _ 2 ?hg (N := 15) ?hd (xs := ([] : List Int)) (inner := []) (ok := fun _ => True) (okp := fun _ => True) ?hr ?hp (fun _ hk => hk) trivial (Below.refl _ _) (Nat.le_refl _) (by simp) ?_; (case hd => rfl); (case hg => rfl); (case hr => first | (go_simp; done) | (go_simp; rfl)); (case hp => exact (Reps.none _ _)); intro v178 w5 ho6 hb hg_ hnew_; clear hg_ hnew_; (first | rw [← Ny177.out] at ho6 | (simp only [Int.reduceToNat] at ho6; rw [← Ny177.out] at ho6)); have n0_ := Aside0.mk (Kd.R_elder' (by (with_reducible repeat (first | apply Kd.R_alloc | apply Kd.R_drewN | apply Kd.R_drew)); exact HO176.out) (Kd.R_base ho6) hb); have n1_ := Aside0.mk (Kd.R_lower (Kd.R_new' ho6 (Kd.R_lt (by (with_reducible repeat (first | apply Kd.R_alloc | apply Kd.R_drewN | apply Kd.R_drew)); exact HO176.out))) (below_size (by repeat (first | (with_reducible first | exact HB.out | apply below_alloc | apply pw_below_drewN | apply below_drew1) | exact HB.out)))); have n2_ := Aside0.mk (below_step (by repeat (first | (with_reducible first | exact HB.out | apply below_alloc | apply pw_below_drewN | apply below_drew1) | exact HB.out)) hb); clear HO176; clear HB; have HO176 := n0_; have HO179 := n1_; have HB := n2_; clear n0_ n1_ n2_; clear hb ho6))
    go_loopg [4, 5, 6] k (fun kq v4 v5 v6 w' => ∃ (x4_1 : List Int) (x5_1 : Bool) (x6_1 : Int), v5 = .bool x5_1 ∧ v6 = .int .i64 x6_1 ∧ Aside0 (spec_Title.l0 kq t174 x4_1 x5_1 x6_1 = some r) ∧ Aside0 (kq ≤ k) ∧ Aside0 (Kd.R (Kd.int .i64) 2 w' w.heap.size (fun k_ => some k_ ≠ (v4 : Value).ownBlock) v175 t174) ∧ Aside0 (Kd.R (Kd.int .i64) 2 w' w.heap.size (fun k_ => some k_ ≠ (v175 : Value).ownBlock) v4 x4_1) ∧ Aside0 (Below w.heap.size w w'))
    case atStart => exact ⟨(y177), (false), (0), (by first | rfl | (simp; done) | (simp [*]; done)), (by first | rfl | (simp; done) | (simp [*]; done)), H', ⟨Nat.le_refl _⟩, ⟨by (with_reducible repeat (first | apply Kd.R_alloc | apply Kd.R_drewN | apply Kd.R_drew)); exact Kd.R_mono HO176.out (fun _ hk => hk.2)⟩, ⟨by (with_reducible repeat (first | apply Kd.R_alloc | apply Kd.R_drewN | apply Kd.R_drew)); exact Kd.R_mono HO179.out (fun _ hk => hk.2)⟩, ⟨by repeat (first | (with_reducible first | exact HB.out | apply below_alloc | apply pw_below_drewN | apply below_drew1) | exact HB.out)⟩⟩
    case round =>
      clear H'
      try clear c1
      try clear c2
      try clear c2b0
      try clear c2b1
      try clear p2
      try clear c6
      obtain ⟨x4_1, x5_1, x6_1, rfl, rfl, HA, HK1, HO_3, HO_4, HB⟩ := hrel
      cases gk with
      | zero => exact absurd HA.out (by simp [spec_Title.l0])
      | succ k1 =>
        have H := HA.out
        clear HA
        simp only [spec_Title.l0] at H
        by_cases c7 : x6_1 < (t174.length : Int)
        · rw [if_pos c7] at H
          have c7b0 : decide (x6_1 < (t174.length : Int)) = true := decide_eq_true c7
          clear c7
          by_cases c8 : 0 ≤ x6_1
          · rw [if_pos c8] at H
            have c8b0 : decide (0 ≤ x6_1) = true := decide_eq_true c8
            clear c8
            replace H := Option.bind_eq_some_iff.mp H
            obtain ⟨⟨t183, t184⟩, A90, H⟩ := H
            replace H : ((spec_l06InWord.f (rd t174 x6_1)).bind fun t185 => (if t185 = true then (if x5_1 = true then ((spec_l06LowerAt.f t174 x6_1).bind fun t186 => (if x4_1.length < 17592186044416 then (spec_Title.l0 k1 t174 (x4_1 ++ [t186]) x5_1 (wrap64 (x6_1 + 1))) else (none))) else ((spec_l06Cased.f (rd t174 x6_1)).bind fun t190 => (if t190 = true then (if t184 = true then ((some (([wrap64 (t183 + 18), wrap64 (t183 + 50)] : List Int) : List Int)).bind fun y191 => (if x4_1.length + y191.length < 17592186044416 then (spec_Title.l0 k1 t174 (x4_1 ++ y191) true (wrap64 (x6_1 + 1))) else (none))) else ((spec_l06Up.f (rd t174 x6_1) 1).bind fun t197 => (if x4_1.length < 17592186044416 then (spec_Title.l0 k1 t174 (x4_1 ++ [t197]) true (wrap64 (x6_1 + 1))) else (none)))) else (if x4_1.length < 17592186044416 then (spec_Title.l0 k1 t174 (x4_1 ++ [rd t174 x6_1]) x5_1 (wrap64 (x6_1 + 1))) else (none))))) else (if x4_1.length < 17592186044416 then (spec_Title.l0 k1 t174 (x4_1 ++ [rd t174 x6_1]) false (wrap64 (x6_1 + 1))) else (none)))) = some r := H
            have A9 := Aside0.mk A90
            clear A90
            replace H := Option.bind_eq_some_iff.mp H
            obtain ⟨t185, A100, H⟩ := H
            replace H : (if t185 = true then (if x5_1 = true then ((spec_l06LowerAt.f t174 x6_1).bind fun t186 => (if x4_1.length < 17592186044416 then (spec_Title.l0 k1 t174 (x4_1 ++ [t186]) x5_1 (wrap64 (x6_1 + 1))) else (none))) else ((spec_l06Cased.f (rd t174 x6_1)).bind fun t190 => (if t190 = true then (if t184 = true then ((some (([wrap64 (t183 + 18), wrap64 (t183 + 50)] : List Int) : List Int)).bind fun y191 => (if x4_1.length + y191.length < 17592186044416 then (spec_Title.l0 k1 t174 (x4_1 ++ y191) true (wrap64 (x6_1 + 1))) else (none))) else ((spec_l06Up.f (rd t174 x6_1) 1).bind fun t197 => (if x4_1.length < 17592186044416 then (spec_Title.l0 k1 t174 (x4_1 ++ [t197]) true (wrap64 (x6_1 + 1))) else (none)))) else (if x4_1.length < 17592186044416 then (spec_Title.l0 k1 t174 (x4_1 ++ [rd t174 x6_1]) x5_1 (wrap64 (x6_1 + 1))) else (none))))) else (if x4_1.length < 17592186044416 then (spec_Title.l0 k1 t174 (x4_1 ++ [rd t174 x6_1]) false (wrap64 (x6_1 + 1))) else (none))) = some r := H
            have A10 := Aside0.mk A100
            clear A100
            by_cases c11 : t185 = true
            · subst c11
              have H1 : (if x5_1 = true then ((spec_l06LowerAt.f t174 x6_1).bind fun t186 => (if x4_1.length < 17592186044416 then (spec_Title.l0 k1 t174 (x4_1 ++ [t186]) x5_1 (wrap64 (x6_1 + 1))) else (none))) else ((spec_l06Cased.f (rd t174 x6_1)).bind fun t190 => (if t190 = true then (if t184 = true then ((some (([wrap64 (t183 + 18), wrap64 (t183 + 50)] : List Int) : List Int)).bind fun y191 => (if x4_1.length + y191.length < 17592186044416 then (spec_Title.l0 k1 t174 (x4_1 ++ y191) true (wrap64 (x6_1 + 1))) else (none))) else ((spec_l06Up.f (rd t174 x6_1) 1).bind fun t197 => (if x4_1.length < 17592186044416 then (spec_Title.l0 k1 t174 (x4_1 ++ [t197]) true (wrap64 (x6_1 + 1))) else (none)))) else (if x4_1.length < 17592186044416 then (spec_Title.l0 k1 t174 (x4_1 ++ [rd t174 x6_1]) x5_1 (wrap64 (x6_1 + 1))) else (none))))) = some r := by rw [if_pos rfl] at H; exact H
              clear H
              have H := H1
              clear H1
              by_cases c12 : x5_1 = true
              · subst c12
                have H1 : ((spec_l06LowerAt.f t174 x6_1).bind fun t186 => (if x4_1.length < 17592186044416 then (spec_Title.l0 k1 t174 (x4_1 ++ [t186]) true (wrap64 (x6_1 + 1))) else (none))) = some r := by rw [if_pos rfl] at H; exact H
                clear H
                have H := H1
                clear H1
                replace H := Option.bind_eq_some_iff.mp H
                obtain ⟨t186, A130, H⟩ := H
                replace H : (if x4_1.length < 17592186044416 then (spec_Title.l0 k1 t174 (x4_1 ++ [t186]) true (wrap64 (x6_1 + 1))) else (none)) = some r := H
                have A13 := Aside0.mk A130
                clear A130
                by_cases c14 : x4_1.length < 17592186044416
                · rw [if_pos c14] at H
                  have LMc14 := Aside0.mk c14
                  clear c14
                  obtain ⟨y187, hy187⟩ : ∃ y_ : List Int, y_ = (x4_1 ++ [t186]) := ⟨_, rfl⟩
                  replace H : (spec_Title.l0 k1 t174 y187 true (wrap64 (x6_1 + 1))) = some r := by first | (rw [hy187]; with_reducible exact H) | (have H2_ := (Option.bind_some _ _).symm.trans H; rw [hy187]; with_reducible exact H2_) | (have H2_ := (Option.bind_some _ _).symm.trans H; with_reducible exact H2_) | with_reducible exact H | (rw [hy187]; exact H) | exact H
                  have Ny187 := Aside0.mk hy187
                  clear hy187
                  have H' := Aside0.mk H
                  clear H
                  obtain ⟨Ao15, co15, eo15⟩ := Kd.R_slice HO_3.out
                  subst eo15
                  have p182 : 0 ≤ (x6_1 : Int) := of_decide_eq_true (by first | (with_reducible assumption) | assumption)
                  have q182 : x6_1 < (t174.length : Int) := of_decide_eq_true (by first | (with_reducible assumption) | assumption)
                  obtain ⟨ad182, e182, hx182_0⟩ := Kd.at_int (Kd.R_reads' HO_3.out).2.2 x6_1 p182 q182
                  cases e182
                  replace p182 := eq_true p182
                  replace q182 := eq_true q182
                  go_wp2_with (first | ((with_reducible refine gate_callee (f := 142) rfl ?_); refine goesL_ (some 28) rfl rfl Tryd.func142 (by kernel_rfl) rfl #[.int .i64 (rd t174 x6_1)] rfl (by (try simp only [List.map_toArray, List.map_cons, List.map_nil]); first | done | rfl | (simp only [List.length_drop, List.length_take]; rfl)) ?_; (with_reducible refine (spec_l06Sharp.calls (rd t174 x6_1) t183 t184 _ A9.out).mono ?_); rintro e w' ⟨rfl, ⟨nd, rfl⟩⟩; refine ⟨_, rfl, ?_⟩) | ((with_reducible refine gate_callee (f := 143) rfl ?_); refine goesL_ (some 38) rfl rfl Tryd.func143 (by kernel_rfl) rfl #[.int .i64 (rd t174 x6_1)] rfl (by (try simp only [List.map_toArray, List.map_cons, List.map_nil]); first | done | rfl | (simp only [List.length_drop, List.length_take]; rfl)) ?_; (with_reducible refine (spec_l06InWord.calls (rd t174 x6_1) true _ A10.out).mono ?_); rintro e w16 ⟨rfl, hb⟩; refine ⟨_, rfl, ?_⟩; have n0_ := Aside0.mk (Kd.R_below (by (with_reducible repeat (first | apply Kd.R_alloc | apply Kd.R_drewN | apply Kd.R_drew)); exact HO_3.out) hb); have n1_ := Aside0.mk (Kd.R_below (by (with_reducible repeat (first | apply Kd.R_alloc | apply Kd.R_drewN | apply Kd.R_drew)); exact HO_4.out) hb); have n2_ := Aside0.mk (below_step (by repeat (first | (with_reducible first | exact HB.out | apply below_alloc | apply pw_below_drewN | apply below_drew1) | exact HB.out)) hb); clear HO_3; clear HO_4; clear HB; have HO_3 := n0_; have HO_4 := n1_; have HB := n2_; clear n0_ n1_ n2_; (try clear hb); (try clear hb2); (try clear hk); (try clear hi)) | ((with_reducible refine gate_callee (f := 144) rfl ?_); refine goesL_ (some 49) rfl rfl Tryd.func144 (by kernel_rfl) rfl #[.slice (some ad182) t174.length co15, .int .i64 x6_1] rfl (by (try simp only [List.map_toArray, List.map_cons, List.map_nil]); first | done | rfl | (simp only [List.length_drop, List.length_take]; rfl)) ?_; (with_reducible refine (spec_l06LowerAt.calls _ _ t174 x6_1 t186 _ ?side1 ?side2 A13.out).mono ?_); (case side1 => repeat (first | exact (Kd.R_reads' HO_3.out).2.2 | (with_reducible refine Kd.C_alloc ?_ _) | (with_reducible refine Kd.C_drewN ?_ _) | (with_reducible refine Kd.C_drew ?_))); (case side2 => exact (Kd.R_reads' HO_3.out).2.1); rintro e w17 ⟨rfl, hb⟩; refine ⟨_, rfl, ?_⟩; have n0_ := Aside0.mk (Kd.R_below (by (with_reducible repeat (first | apply Kd.R_alloc | apply Kd.R_drewN | apply Kd.R_drew)); exact HO_3.out) hb); have n1_ := Aside0.mk (Kd.R_below (by (with_reducible repeat (first | apply Kd.R_alloc | apply Kd.R_drewN | apply Kd.R_drew)); exact HO_4.out) hb); have n2_ := Aside0.mk (below_step (by repeat (first | (with_reducible first | exact HB.out | apply below_alloc | apply pw_below_drewN | apply below_drew1) | exact HB.out)) hb); clear HO_3; clear HO_4; clear HB; have HO_3 := n0_; have HO_4 := n1_; have HB := n2_; clear n0_ n1_ n2_; (try clear hb); (try clear hb2); (try clear hk); (try clear hi)) | ((with_reducible refine gate_builtin (b := .append) (xs := #[.tmp 46, .tmp 50]) rfl ?_); at_builtin; refine Kd.R_append (Kd.int .i64) (w0 := w) w.heap.size rfl (.tmp 46) (.tmp 50) 25 2 (.int .i64 0) 8 rfl Tryd.underlying25 info2 rfl (by decide) (by omega) u4 x4_1 t186 [.int .i64 t186] (fun k_ => some k_ ≠ (.slice (some ad182) t174.length co15 : Value).ownBlock) (fun _ => False) rfl rfl ?aP (fun _ hk => hk.elim) ?aF ?aO ?aB ?aS ?aL ?_; (case aP => exact rfl); (case aB => exact (by repeat (first | (with_reducible first | exact HB.out | apply below_alloc | apply pw_below_drewN | apply below_drew1) | exact HB.out))); (case aF => exact (fun k_ hk => Kd.fresh' (Kd.R_lt (by (with_reducible repeat (first | apply Kd.R_alloc | apply Kd.R_drewN | apply Kd.R_drew)); exact HO_3.out)) k_ hk)); (case aO => exact (by (with_reducible repeat (first | apply Kd.R_alloc | apply Kd.R_drewN | apply Kd.R_drew)); exact HO_4.out)); (case aS => exact (below_size (by repeat (first | (with_reducible first | exact HB.out | apply below_alloc | apply pw_below_drewN | apply below_drew1) | exact HB.out)))); (case aL => have := LMc14.out; omega); intro v188 w18 ho hb hg hat; rw [← Ny187.out] at ho; have n0_ := Aside0.mk (Kd.R_after (ok := (fun _ => True)) (by (with_reducible repeat (first | apply Kd.R_alloc | apply Kd.R_drewN | apply Kd.R_drew)); exact Kd.R_mono HO_3.out (fun _ hk => ⟨trivial, hk⟩)) hg hat); have n1_ := Aside0.mk (hb); have n2_ := Aside0.mk (ho); clear HO_3; clear HB; clear HO_4; have HO_3 := n0_; have HB := n1_; have HO189 := n2_; clear n0_ n1_ n2_; clear ho hb hg hat))
                  go_roundg k1
                  case measure => have := HK1.out; omega
                  case rel => exact ⟨(y187), (true), (wrap64 (x6_1 + 1)), (by first | rfl | (simp; done) | (simp [*]; done)), (by first | rfl | (simp; done) | (simp [*]; done)), H', ⟨by have := HK1.out; omega⟩, ⟨by (with_reducible repeat (first | apply Kd.R_alloc | apply Kd.R_drewN | apply Kd.R_drew)); exact Kd.R_mono HO_3.out (fun _ hk => hk.2)⟩, ⟨by (with_reducible repeat (first | apply Kd.R_alloc | apply Kd.R_drewN | apply Kd.R_drew)); exact HO189.out⟩, ⟨by repeat (first | (with_reducible first | exact HB.out | apply below_alloc | apply pw_below_drewN | apply below_drew1) | exact HB.out)⟩⟩
                · rw [if_neg c14] at H
                  exact absurd H (by simp)
              · replace c12 := Bool.eq_false_iff.mpr c12
                subst c12
                have H1 : ((spec_l06Cased.f (rd t174 x6_1)).bind fun t190 => (if t190 = true then (if t184 = true then ((some (([wrap64 (t183 + 18), wrap64 (t183 + 50)] : List Int) : List Int)).bind fun y191 => (if x4_1.length + y191.length < 17592186044416 then (spec_Title.l0 k1 t174 (x4_1 ++ y191) true (wrap64 (x6_1 + 1))) else (none))) else ((spec_l06Up.f (rd t174 x6_1) 1).bind fun t197 => (if x4_1.length < 17592186044416 then (spec_Title.l0 k1 t174 (x4_1 ++ [t197]) true (wrap64 (x6_1 + 1))) else (none)))) else (if x4_1.length < 17592186044416 then (spec_Title.l0 k1 t174 (x4_1 ++ [rd t174 x6_1]) false (wrap64 (x6_1 + 1))) else (none)))) = some r := by rw [if_neg (show ¬ (false = true) by decide)] at H; exact H
                clear H
                have H := H1
                clear H1
                replace H := Option.bind_eq_some_iff.mp H
                obtain ⟨t190, A190, H⟩ := H
                replace H : (if t190 = true then (if t184 = true then ((some (([wrap64 (t183 + 18), wrap64 (t183 + 50)] : List Int) : List Int)).bind fun y191 => (if x4_1.length + y191.length < 17592186044416 then (spec_Title.l0 k1 t174 (x4_1 ++ y191) true (wrap64 (x6_1 + 1))) else (none))) else ((spec_l06Up.f (rd t174 x6_1) 1).bind fun t197 => (if x4_1.length < 17592186044416 then (spec_Title.l0 k1 t174 (x4_1 ++ [t197]) true (wrap64 (x6_1 + 1))) else (none)))) else (if x4_1.length < 17592186044416 then (spec_Title.l0 k1 t174 (x4_1 ++ [rd t174 x6_1]) false (wrap64 (x6_1 + 1))) else (none))) = some r := H
                have A19 := Aside0.mk A190
                clear A190
                by_cases c20 : t190 = true
                · subst c20
                  have H1 : (if t184 = true then ((some (([wrap64 (t183 + 18), wrap64 (t183 + 50)] : List Int) : List Int)).bind fun y191 => (if x4_1.length + y191.length < 17592186044416 then (spec_Title.l0 k1 t174 (x4_1 ++ y191) true (wrap64 (x6_1 + 1))) else (none))) else ((spec_l06Up.f (rd t174 x6_1) 1).bind fun t197 => (if x4_1.length < 17592186044416 then (spec_Title.l0 k1 t174 (x4_1 ++ [t197]) true (wrap64 (x6_1 + 1))) else (none)))) = some r := by rw [if_pos rfl] at H; exact H
                  clear H
                  have H := H1
                  clear H1
                  by_cases c21 : t184 = true
                  · subst c21
                    have H1 : ((some (([wrap64 (t183 + 18), wrap64 (t183 + 50)] : List Int) : List Int)).bind fun y191 => (if x4_1.length + y191.length < 17592186044416 then (spec_Title.l0 k1 t174 (x4_1 ++ y191) true (wrap64 (x6_1 + 1))) else (none))) = some r := by rw [if_pos rfl] at H; exact H
                    clear H
                    have H := H1
                    clear H1
                    obtain ⟨y191, hy191⟩ : ∃ y_ : List Int, y_ = (([wrap64 (t183 + 18), wrap64 (t183 + 50)] : List Int)) := ⟨_, rfl⟩
                    replace H : (if x4_1.length + y191.length < 17592186044416 then (spec_Title.l0 k1 t174 (x4_1 ++ y191) true (wrap64 (x6_1 + 1))) else (none)) = some r := by first | (rw [hy191]; with_reducible exact H) | (have H2_ := (Option.bind_some _ _).symm.trans H; rw [hy191]; with_reducible exact H2_) | (have H2_ := (Option.bind_some _ _).symm.trans H; with_reducible exact H2_) | with_reducible exact H | (rw [hy191]; exact H) | exact H
                    have Ny191 := Aside0.mk hy191
                    clear hy191
                    by_cases c22 : x4_1.length + y191.length < 17592186044416
                    · rw [if_pos c22] at H
                      have LMc22 := Aside0.mk c22
                      clear c22
                      obtain ⟨y194, hy194⟩ : ∃ y_ : List Int, y_ = (x4_1 ++ y191) := ⟨_, rfl⟩
                      replace H : (spec_Title.l0 k1 t174 y194 true (wrap64 (x6_1 + 1))) = some r := by first | (rw [hy194]; with_reducible exact H) | (have H2_ := (Option.bind_some _ _).symm.trans H; rw [hy194]; with_reducible exact H2_) | (have H2_ := (Option.bind_some _ _).symm.trans H; with_reducible exact H2_) | with_reducible exact H | (rw [hy194]; exact H) | exact H
                      have Ny194 := Aside0.mk hy194
                      clear hy194
                      have H' := Aside0.mk H
                      clear H
                      obtain ⟨Ao23, co23, eo23⟩ := Kd.R_slice HO_3.out
                      subst eo23
                      have p182 : 0 ≤ (x6_1 : Int) := of_decide_eq_true (by first | (with_reducible assumption) | assumption)
                      have q182 : x6_1 < (t174.length : Int) := of_decide_eq_true (by first | (with_reducible assumption) | assumption)
                      obtain ⟨ad182, e182, hx182_0⟩ := Kd.at_int (Kd.R_reads' HO_3.out).2.2 x6_1 p182 q182
                      cases e182
                      replace p182 := eq_true p182
                      replace q182 := eq_true q182
                      go_wp2_with (first | ((with_reducible refine gate_callee (f := 142) rfl ?_); refine goesL_ (some 28) rfl rfl Tryd.func142 (by kernel_rfl) rfl #[.int .i64 (rd t174 x6_1)] rfl (by (try simp only [List.map_toArray, List.map_cons, List.map_nil]); first | done | rfl | (simp only [List.length_drop, List.length_take]; rfl)) ?_; (with_reducible refine (spec_l06Sharp.calls (rd t174 x6_1) t183 true _ A9.out).mono ?_); rintro e w' ⟨rfl, ⟨nd, rfl⟩⟩; refine ⟨_, rfl, ?_⟩) | ((with_reducible refine gate_callee (f := 143) rfl ?_); refine goesL_ (some 38) rfl rfl Tryd.func143 (by kernel_rfl) rfl #[.int .i64 (rd t174 x6_1)] rfl (by (try simp only [List.map_toArray, List.map_cons, List.map_nil]); first | done | rfl | (simp only [List.length_drop, List.length_take]; rfl)) ?_; (with_reducible refine (spec_l06InWord.calls (rd t174 x6_1) true _ A10.out).mono ?_); rintro e w24 ⟨rfl, hb⟩; refine ⟨_, rfl, ?_⟩; have n0_ := Aside0.mk (Kd.R_below (by (with_reducible repeat (first | apply Kd.R_alloc | apply Kd.R_drewN | apply Kd.R_drew)); exact HO_3.out) hb); have n1_ := Aside0.mk (Kd.R_below (by (with_reducible repeat (first | apply Kd.R_alloc | apply Kd.R_drewN | apply Kd.R_drew)); exact HO_4.out) hb); have n2_ := Aside0.mk (below_step (by repeat (first | (with_reducible first | exact HB.out | apply below_alloc | apply pw_below_drewN | apply below_drew1) | exact HB.out)) hb); clear HO_3; clear HO_4; clear HB; have HO_3 := n0_; have HO_4 := n1_; have HB := n2_; clear n0_ n1_ n2_; (try clear hb); (try clear hb2); (try clear hk); (try clear hi)) | ((with_reducible refine gate_callee (f := 145) rfl ?_); refine goesL_ (some 54) rfl rfl Tryd.func145 (by kernel_rfl) rfl #[.int .i64 (rd t174 x6_1)] rfl (by (try simp only [List.map_toArray, List.map_cons, List.map_nil]); first | done | rfl | (simp only [List.length_drop, List.length_take]; rfl)) ?_; (with_reducible refine (spec_l06Cased.calls (rd t174 x6_1) true _ A19.out).mono ?_); rintro e w25 ⟨rfl, hb⟩; refine ⟨_, rfl, ?_⟩; have n0_ := Aside0.mk (Kd.R_below (by (with_reducible repeat (first | apply Kd.R_alloc | apply Kd.R_drewN | apply Kd.R_drew)); exact HO_3.out) hb); have n1_ := Aside0.mk (Kd.R_below (by (with_reducible repeat (first | apply Kd.R_alloc | apply Kd.R_drewN | apply Kd.R_drew)); exact HO_4.out) hb); have n2_ := Aside0.mk (below_step (by repeat (first | (with_reducible first | exact HB.out | apply below_alloc | apply pw_below_drewN | apply below_drew1) | exact HB.out)) hb); clear HO_3; clear HO_4; clear HB; have HO_3 := n0_; have HO_4 := n1_; have HB := n2_; clear n0_ n1_ n2_; (try clear hb); (try clear hb2); (try clear hk); (try clear hi)) | ((with_reducible refine gate_dst (N := 67) rfl ?_); refine Kd.R_lit (Kd.int .i64) _ 2 ?hg (N := 67) ?hd (xs := ([wrap64 (t183 + 18), wrap64 (t183 + 50)] : List Int)) (inner := [.int .i64 (wrap64 (t183 + 18)), .int .i64 (wrap64 (t183 + 50))]) (ok := fun _ => True) (okp := fun _ => True) ?hr ?hp (fun _ hk => hk) trivial (Below.refl _ _) (Nat.le_refl _) (by simp) ?_; (case hd => rfl); (case hg => rfl); (case hr => first | (go_simp; done) | (go_simp; rfl)); (case hp => exact (Reps.one (show Kd.M (Kd.int .i64) _ _ _ (wrap64 (t183 + 18)) [.int .i64 (wrap64 (t183 + 18))] from rfl) (Reps.one (show Kd.M (Kd.int .i64) _ _ _ (wrap64 (t183 + 50)) [.int .i64 (wrap64 (t183 + 50))] from rfl) (Reps.none _ _)))); intro v192 w26 ho27 hb hg_ hnew_; clear hg_ hnew_; (first | rw [← Ny191.out] at ho27 | (simp only [Int.reduceToNat] at ho27; rw [← Ny191.out] at ho27)); have n0_ := Aside0.mk (Kd.R_elder' (by (with_reducible repeat (first | apply Kd.R_alloc | apply Kd.R_drewN | apply Kd.R_drew)); exact HO_3.out) (Kd.R_base ho27) hb); have n1_ := Aside0.mk (Kd.R_elder' (by (with_reducible repeat (first | apply Kd.R_alloc | apply Kd.R_drewN | apply Kd.R_drew)); exact HO_4.out) (Kd.R_base ho27) hb); have n2_ := Aside0.mk (Kd.R_lower (Kd.R_new' (Kd.R_new' ho27 (Kd.R_lt (by (with_reducible repeat (first | apply Kd.R_alloc | apply Kd.R_drewN | apply Kd.R_drew)); exact HO_3.out))) (Kd.R_lt (by (with_reducible repeat (first | apply Kd.R_alloc | apply Kd.R_drewN | apply Kd.R_drew)); exact HO_4.out))) (below_size (by repeat (first | (with_reducible first | exact HB.out | apply below_alloc | apply pw_below_drewN | apply below_drew1) | exact HB.out)))); have n3_ := Aside0.mk (below_step (by repeat (first | (with_reducible first | exact HB.out | apply below_alloc | apply pw_below_drewN | apply below_drew1) | exact HB.out)) hb); clear HO_3; clear HO_4; clear HB; have HO_3 := n0_; have HO_4 := n1_; have HO193 := n2_; have HB := n3_; clear n0_ n1_ n2_ n3_; clear hb ho27; obtain ⟨Ao29, co29, eo29⟩ := Kd.R_slice HO193.out; subst eo29) | ((with_reducible refine gate_builtin (b := .append) (xs := #[.tmp 62, .tmp 67]) rfl ?_); at_builtin; refine Kd.R_append_rows (Kd.int .i64) (w0 := w) w.heap.size rfl (.tmp 62) (.tmp 67) 25 2 (.int .i64 0) 8 rfl Tryd.underlying25 info2 rfl (by decide) (by omega) u4 x4_1 y191 _ _ _ (fun k_ => some k_ ≠ (.slice (some ad182) t174.length co23 : Value).ownBlock ∧ some k_ ≠ (.slice Ao29 y191.length co29 : Value).ownBlock) (fun _ => False) rfl rfl ?aO ?aR (fun _ _ h => h) (fun _ h => h.elim) ?aF ?aB ?aS ?aL ?_; (case aR => repeat (first | exact (Kd.R_reads' HO193.out).2.2 | (with_reducible refine Kd.C_alloc ?_ _) | (with_reducible refine Kd.C_drewN ?_ _) | (with_reducible refine Kd.C_drew ?_))); (case aB => exact (by repeat (first | (with_reducible first | exact HB.out | apply below_alloc | apply pw_below_drewN | apply below_drew1) | exact HB.out))); (case aF => exact (fun k_ hk => ⟨Kd.fresh' (Kd.R_lt (by (with_reducible repeat (first | apply Kd.R_alloc | apply Kd.R_drewN | apply Kd.R_drew)); exact HO_3.out)) k_ hk, Kd.fresh' (Kd.R_lt (by (with_reducible repeat (first | apply Kd.R_alloc | apply Kd.R_drewN | apply Kd.R_drew)); exact HO193.out)) k_ hk⟩)); (case aO => exact (by (with_reducible repeat (first | apply Kd.R_alloc | apply Kd.R_drewN | apply Kd.R_drew)); exact HO_4.out)); (case aS => exact (below_size (by repeat (first | (with_reducible first | exact HB.out | apply below_alloc | apply pw_below_drewN | apply below_drew1) | exact HB.out)))); (case aL => have := LMc22.out; omega); intro v195 w28 ho hb hg hat; rw [← Ny194.out] at ho; have n0_ := Aside0.mk (Kd.R_after (ok := (fun k_ => some k_ ≠ (.slice Ao29 y191.length co29 : Value).ownBlock)) (by (with_reducible repeat (first | apply Kd.R_alloc | apply Kd.R_drewN | apply Kd.R_drew)); exact Kd.R_mono HO_3.out (fun _ hk => ⟨hk.2, hk.1⟩)) hg hat); have n1_ := Aside0.mk (Kd.R_after (ok := (fun k_ => some k_ ≠ (.slice (some ad182) t174.length co23 : Value).ownBlock)) (by (with_reducible repeat (first | apply Kd.R_alloc | apply Kd.R_drewN | apply Kd.R_drew)); exact Kd.R_mono HO193.out (fun _ hk => ⟨hk.1.2, hk.2⟩)) hg hat); have n2_ := Aside0.mk (hb); have n3_ := Aside0.mk (ho); clear HO_3; clear HO193; clear HB; clear HO_4; have HO_3 := n0_; have HO193 := n1_; have HB := n2_; have HO196 := n3_; clear n0_ n1_ n2_ n3_; clear ho hb hg hat))
                      go_roundg k1
                      case measure => have := HK1.out; omega
                      case rel => exact ⟨(y194), (true), (wrap64 (x6_1 + 1)), (by first | rfl | (simp; done) | (simp [*]; done)), (by first | rfl | (simp; done) | (simp [*]; done)), H', ⟨by have := HK1.out; omega⟩, ⟨by (with_reducible repeat (first | apply Kd.R_alloc | apply Kd.R_drewN | apply Kd.R_drew)); exact Kd.R_mono HO_3.out (fun _ hk => hk.2)⟩, ⟨by (with_reducible repeat (first | apply Kd.R_alloc | apply Kd.R_drewN | apply Kd.R_drew)); exact Kd.R_mono HO196.out (fun _ hk => hk.1)⟩, ⟨by repeat (first | (with_reducible first | exact HB.out | apply below_alloc | apply pw_below_drewN | apply below_drew1) | exact HB.out)⟩⟩
                    · rw [if_neg c22] at H
                      exact absurd H (by simp)
                  · replace c21 := Bool.eq_false_iff.mpr c21
                    subst c21
                    have H1 : ((spec_l06Up.f (rd t174 x6_1) 1).bind fun t197 => (if x4_1.length < 17592186044416 then (spec_Title.l0 k1 t174 (x4_1 ++ [t197]) true (wrap64 (x6_1 + 1))) else (none))) = some r := by rw [if_neg (show ¬ (false = true) by decide)] at H; exact H
                    clear H
                    have H := H1
                    clear H1
                    replace H := Option.bind_eq_some_iff.mp H
                    obtain ⟨t197, A300, H⟩ := H
                    replace H : (if x4_1.length < 17592186044416 then (spec_Title.l0 k1 t174 (x4_1 ++ [t197]) true (wrap64 (x6_1 + 1))) else (none)) = some r := H
                    have A30 := Aside0.mk A300
                    clear A300
                    by_cases c31 : x4_1.length < 17592186044416
                    · rw [if_pos c31] at H
                      have LMc31 := Aside0.mk c31
                      clear c31
                      obtain ⟨y198, hy198⟩ : ∃ y_ : List Int, y_ = (x4_1 ++ [t197]) := ⟨_, rfl⟩
                      replace H : (spec_Title.l0 k1 t174 y198 true (wrap64 (x6_1 + 1))) = some r := by first | (rw [hy198]; with_reducible exact H) | (have H2_ := (Option.bind_some _ _).symm.trans H; rw [hy198]; with_reducible exact H2_) | (have H2_ := (Option.bind_some _ _).symm.trans H; with_reducible exact H2_) | with_reducible exact H | (rw [hy198]; exact H) | exact H
                      have Ny198 := Aside0.mk hy198
                      clear hy198
                      have H' := Aside0.mk H
                      clear H
                      obtain ⟨Ao32, co32, eo32⟩ := Kd.R_slice HO_3.out
                      subst eo32
                      have p182 : 0 ≤ (x6_1 : Int) := of_decide_eq_true (by first | (with_reducible assumption) | assumption)
                      have q182 : x6_1 < (t174.length : Int) := of_decide_eq_true (by first | (with_reducible assumption) | assumption)
                      obtain ⟨ad182, e182, hx182_0⟩ := Kd.at_int (Kd.R_reads' HO_3.out).2.2 x6_1 p182 q182
                      cases e182
                      replace p182 := eq_true p182
                      replace q182 := eq_true q182
                      go_wp2_with (first | ((with_reducible refine gate_callee (f := 142) rfl ?_); refine goesL_ (some 28) rfl rfl Tryd.func142 (by kernel_rfl) rfl #[.int .i64 (rd t174 x6_1)] rfl (by (try simp only [List.map_toArray, List.map_cons, List.map_nil]); first | done | rfl | (simp only [List.length_drop, List.length_take]; rfl)) ?_; (with_reducible refine (spec_l06Sharp.calls (rd t174 x6_1) t183 false _ A9.out).mono ?_); rintro e w' ⟨rfl, ⟨nd, rfl⟩⟩; refine ⟨_, rfl, ?_⟩) | ((with_reducible refine gate_callee (f := 143) rfl ?_); refine goesL_ (some 38) rfl rfl Tryd.func143 (by kernel_rfl) rfl #[.int .i64 (rd t174 x6_1)] rfl (by (try simp only [List.map_toArray, List.map_cons, List.map_nil]); first | done | rfl | (simp only [List.length_drop, List.length_take]; rfl)) ?_; (with_reducible refine (spec_l06InWord.calls (rd t174 x6_1) true _ A10.out).mono ?_); rintro e w33 ⟨rfl, hb⟩; refine ⟨_, rfl, ?_⟩; have n0_ := Aside0.mk (Kd.R_below (by (with_reducible repeat (first | apply Kd.R_alloc | apply Kd.R_drewN | apply Kd.R_drew)); exact HO_3.out) hb); have n1_ := Aside0.mk (Kd.R_below (by (with_reducible repeat (first | apply Kd.R_alloc | apply Kd.R_drewN | apply Kd.R_drew)); exact HO_4.out) hb); have n2_ := Aside0.mk (below_step (by repeat (first | (with_reducible first | exact HB.out | apply below_alloc | apply pw_below_drewN | apply below_drew1) | exact HB.out)) hb); clear HO_3; clear HO_4; clear HB; have HO_3 := n0_; have HO_4 := n1_; have HB := n2_; clear n0_ n1_ n2_; (try clear hb); (try clear hb2); (try clear hk); (try clear hi)) | ((with_reducible refine gate_callee (f := 145) rfl ?_); refine goesL_ (some 54) rfl rfl Tryd.func145 (by kernel_rfl) rfl #[.int .i64 (rd t174 x6_1)] rfl (by (try simp only [List.map_toArray, List.map_cons, List.map_nil]); first | done | rfl | (simp only [List.length_drop, List.length_take]; rfl)) ?_; (with_reducible refine (spec_l06Cased.calls (rd t174 x6_1) true _ A19.out).mono ?_); rintro e w34 ⟨rfl, hb⟩; refine ⟨_, rfl, ?_⟩; have n0_ := Aside0.mk (Kd.R_below (by (with_reducible repeat (first | apply Kd.R_alloc | apply Kd.R_drewN | apply Kd.R_drew)); exact HO_3.out) hb); have n1_ := Aside0.mk (Kd.R_below (by (with_reducible repeat (first | apply Kd.R_alloc | apply Kd.R_drewN | apply Kd.R_drew)); exact HO_4.out) hb); have n2_ := Aside0.mk (below_step (by repeat (first | (with_reducible first | exact HB.out | apply below_alloc | apply pw_below_drewN | apply below_drew1) | exact HB.out)) hb); clear HO_3; clear HO_4; clear HB; have HO_3 := n0_; have HO_4 := n1_; have HB := n2_; clear n0_ n1_ n2_; (try clear hb); (try clear hb2); (try clear hk); (try clear hi)) | ((with_reducible refine gate_callee (f := 146) rfl ?_); refine goesL_ (some 33) rfl rfl Tryd.func146 (by kernel_rfl) rfl #[.int .i64 (rd t174 x6_1), .int .i64 1] rfl (by (try simp only [List.map_toArray, List.map_cons, List.map_nil]); first | done | rfl | (simp only [List.length_drop, List.length_take]; rfl)) ?_; (with_reducible refine (spec_l06Up.calls (rd t174 x6_1) 1 t197 _ A30.out).mono ?_); rintro e w35 ⟨rfl, hb⟩; refine ⟨_, rfl, ?_⟩; have n0_ := Aside0.mk (Kd.R_below (by (with_reducible repeat (first | apply Kd.R_alloc | apply Kd.R_drewN | apply Kd.R_drew)); exact HO_3.out) hb); have n1_ := Aside0.mk (Kd.R_below (by (with_reducible repeat (first | apply Kd.R_alloc | apply Kd.R_drewN | apply Kd.R_drew)); exact HO_4.out) hb); have n2_ := Aside0.mk (below_step (by repeat (first | (with_reducible first | exact HB.out | apply below_alloc | apply pw_below_drewN | apply below_drew1) | exact HB.out)) hb); clear HO_3; clear HO_4; clear HB; have HO_3 := n0_; have HO_4 := n1_; have HB := n2_; clear n0_ n1_ n2_; (try clear hb); (try clear hb2); (try clear hk); (try clear hi)) | ((with_reducible refine gate_builtin (b := .append) (xs := #[.tmp 31, .tmp 34]) rfl ?_); at_builtin; refine Kd.R_append (Kd.int .i64) (w0 := w) w.heap.size rfl (.tmp 31) (.tmp 34) 25 2 (.int .i64 0) 8 rfl Tryd.underlying25 info2 rfl (by decide) (by omega) u4 x4_1 t197 [.int .i64 t197] (fun k_ => some k_ ≠ (.slice (some ad182) t174.length co32 : Value).ownBlock) (fun _ => False) rfl rfl ?aP (fun _ hk => hk.elim) ?aF ?aO ?aB ?aS ?aL ?_; (case aP => exact rfl); (case aB => exact (by repeat (first | (with_reducible first | exact HB.out | apply below_alloc | apply pw_below_drewN | apply below_drew1) | exact HB.out))); (case aF => exact (fun k_ hk => Kd.fresh' (Kd.R_lt (by (with_reducible repeat (first | apply Kd.R_alloc | apply Kd.R_drewN | apply Kd.R_drew)); exact HO_3.out)) k_ hk)); (case aO => exact (by (with_reducible repeat (first | apply Kd.R_alloc | apply Kd.R_drewN | apply Kd.R_drew)); exact HO_4.out)); (case aS => exact (below_size (by repeat (first | (with_reducible first | exact HB.out | apply below_alloc | apply pw_below_drewN | apply below_drew1) | exact HB.out)))); (case aL => have := LMc31.out; omega); intro v199 w36 ho hb hg hat; rw [← Ny198.out] at ho; have n0_ := Aside0.mk (Kd.R_after (ok := (fun _ => True)) (by (with_reducible repeat (first | apply Kd.R_alloc | apply Kd.R_drewN | apply Kd.R_drew)); exact Kd.R_mono HO_3.out (fun _ hk => ⟨trivial, hk⟩)) hg hat); have n1_ := Aside0.mk (hb); have n2_ := Aside0.mk (ho); clear HO_3; clear HB; clear HO_4; have HO_3 := n0_; have HB := n1_; have HO200 := n2_; clear n0_ n1_ n2_; clear ho hb hg hat))
                      go_roundg k1
                      case measure => have := HK1.out; omega
                      case rel => exact ⟨(y198), (true), (wrap64 (x6_1 + 1)), (by first | rfl | (simp; done) | (simp [*]; done)), (by first | rfl | (simp; done) | (simp [*]; done)), H', ⟨by have := HK1.out; omega⟩, ⟨by (with_reducible repeat (first | apply Kd.R_alloc | apply Kd.R_drewN | apply Kd.R_drew)); exact Kd.R_mono HO_3.out (fun _ hk => hk.2)⟩, ⟨by (with_reducible repeat (first | apply Kd.R_alloc | apply Kd.R_drewN | apply Kd.R_drew)); exact HO200.out⟩, ⟨by repeat (first | (with_reducible first | exact HB.out | apply below_alloc | apply pw_below_drewN | apply below_drew1) | exact HB.out)⟩⟩
                    · rw [if_neg c31] at H
                      exact absurd H (by simp)
                · replace c20 := Bool.eq_false_iff.mpr c20
                  subst c20
                  have H1 : (if x4_1.length < 17592186044416 then (spec_Title.l0 k1 t174 (x4_1 ++ [rd t174 x6_1]) false (wrap64 (x6_1 + 1))) else (none)) = some r := by rw [if_neg (show ¬ (false = true) by decide)] at H; exact H
                  clear H
                  have H := H1
                  clear H1
                  by_cases c37 : x4_1.length < 17592186044416
                  · rw [if_pos c37] at H
                    have LMc37 := Aside0.mk c37
                    clear c37
                    obtain ⟨y201, hy201⟩ : ∃ y_ : List Int, y_ = (x4_1 ++ [rd t174 x6_1]) := ⟨_, rfl⟩
                    replace H : (spec_Title.l0 k1 t174 y201 false (wrap64 (x6_1 + 1))) = some r := by first | (rw [hy201]; with_reducible exact H) | (have H2_ := (Option.bind_some _ _).symm.trans H; rw [hy201]; with_reducible exact H2_) | (have H2_ := (Option.bind_some _ _).symm.trans H; with_reducible exact H2_) | with_reducible exact H | (rw [hy201]; exact H) | exact H
                    have Ny201 := Aside0.mk hy201
                    clear hy201
                    have H' := Aside0.mk H
                    clear H
                    obtain ⟨Ao38, co38, eo38⟩ := Kd.R_slice HO_3.out
                    subst eo38
                    have p182 : 0 ≤ (x6_1 : Int) := of_decide_eq_true (by first | (with_reducible assumption) | assumption)
                    have q182 : x6_1 < (t174.length : Int) := of_decide_eq_true (by first | (with_reducible assumption) | assumption)
                    obtain ⟨ad182, e182, hx182_0⟩ := Kd.at_int (Kd.R_reads' HO_3.out).2.2 x6_1 p182 q182
                    cases e182
                    replace p182 := eq_true p182
                    replace q182 := eq_true q182
                    go_wp2_with (first | ((with_reducible refine gate_callee (f := 142) rfl ?_); refine goesL_ (some 28) rfl rfl Tryd.func142 (by kernel_rfl) rfl #[.int .i64 (rd t174 x6_1)] rfl (by (try simp only [List.map_toArray, List.map_cons, List.map_nil]); first | done | rfl | (simp only [List.length_drop, List.length_take]; rfl)) ?_; (with_reducible refine (spec_l06Sharp.calls (rd t174 x6_1) t183 t184 _ A9.out).mono ?_); rintro e w' ⟨rfl, ⟨nd, rfl⟩⟩; refine ⟨_, rfl, ?_⟩) | ((with_reducible refine gate_callee (f := 143) rfl ?_); refine goesL_ (some 38) rfl rfl Tryd.func143 (by kernel_rfl) rfl #[.int .i64 (rd t174 x6_1)] rfl (by (try simp only [List.map_toArray, List.map_cons, List.map_nil]); first | done | rfl | (simp only [List.length_drop, List.length_take]; rfl)) ?_; (with_reducible refine (spec_l06InWord.calls (rd t174 x6_1) true _ A10.out).mono ?_); rintro e w39 ⟨rfl, hb⟩; refine ⟨_, rfl, ?_⟩; have n0_ := Aside0.mk (Kd.R_below (by (with_reducible repeat (first | apply Kd.R_alloc | apply Kd.R_drewN | apply Kd.R_drew)); exact HO_3.out) hb); have n1_ := Aside0.mk (Kd.R_below (by (with_reducible repeat (first | apply Kd.R_alloc | apply Kd.R_drewN | apply Kd.R_drew)); exact HO_4.out) hb); have n2_ := Aside0.mk (below_step (by repeat (first | (with_reducible first | exact HB.out | apply below_alloc | apply pw_below_drewN | apply below_drew1) | exact HB.out)) hb); clear HO_3; clear HO_4; clear HB; have HO_3 := n0_; have HO_4 := n1_; have HB := n2_; clear n0_ n1_ n2_; (try clear hb); (try clear hb2); (try clear hk); (try clear hi)) | ((with_reducible refine gate_callee (f := 145) rfl ?_); refine goesL_ (some 54) rfl rfl Tryd.func145 (by kernel_rfl) rfl #[.int .i64 (rd t174 x6_1)] rfl (by (try simp only [List.map_toArray, List.map_cons, List.map_nil]); first | done | rfl | (simp only [List.length_drop, List.length_take]; rfl)) ?_; (with_reducible refine (spec_l06Cased.calls (rd t174 x6_1) false _ A19.out).mono ?_); rintro e w40 ⟨rfl, hb⟩; refine ⟨_, rfl, ?_⟩; have n0_ := Aside0.mk (Kd.R_below (by (with_reducible repeat (first | apply Kd.R_alloc | apply Kd.R_drewN | apply Kd.R_drew)); exact HO_3.out) hb); have n1_ := Aside0.mk (Kd.R_below (by (with_reducible repeat (first | apply Kd.R_alloc | apply Kd.R_drewN | apply Kd.R_drew)); exact HO_4.out) hb); have n2_ := Aside0.mk (below_step (by repeat (first | (with_reducible first | exact HB.out | apply below_alloc | apply pw_below_drewN | apply below_drew1) | exact HB.out)) hb); clear HO_3; clear HO_4; clear HB; have HO_3 := n0_; have HO_4 := n1_; have HB := n2_; clear n0_ n1_ n2_; (try clear hb); (try clear hb2); (try clear hk); (try clear hi)) | ((with_reducible refine gate_builtin (b := .append) (xs := #[.tmp 56, .tmp 58]) rfl ?_); at_builtin; refine Kd.R_append (Kd.int .i64) (w0 := w) w.heap.size rfl (.tmp 56) (.tmp 58) 25 2 (.int .i64 0) 8 rfl Tryd.underlying25 info2 rfl (by decide) (by omega) u4 x4_1 (rd t174 x6_1) [.int .i64 (rd t174 x6_1)] (fun k_ => some k_ ≠ (.slice (some ad182) t174.length co38 : Value).ownBlock) (fun _ => False) rfl rfl ?aP (fun _ hk => hk.elim) ?aF ?aO ?aB ?aS ?aL ?_; (case aP => exact rfl); (case aB => exact (by repeat (first | (with_reducible first | exact HB.out | apply below_alloc | apply pw_below_drewN | apply below_drew1) | exact HB.out))); (case aF => exact (fun k_ hk => Kd.fresh' (Kd.R_lt (by (with_reducible repeat (first | apply Kd.R_alloc | apply Kd.R_drewN | apply Kd.R_drew)); exact HO_3.out)) k_ hk)); (case aO => exact (by (with_reducible repeat (first | apply Kd.R_alloc | apply Kd.R_drewN | apply Kd.R_drew)); exact HO_4.out)); (case aS => exact (below_size (by repeat (first | (with_reducible first | exact HB.out | apply below_alloc | apply pw_below_drewN | apply below_drew1) | exact HB.out)))); (case aL => have := LMc37.out; omega); intro v202 w41 ho hb hg hat; rw [← Ny201.out] at ho; have n0_ := Aside0.mk (Kd.R_after (ok := (fun _ => True)) (by (with_reducible repeat (first | apply Kd.R_alloc | apply Kd.R_drewN | apply Kd.R_drew)); exact Kd.R_mono HO_3.out (fun _ hk => ⟨trivial, hk⟩)) hg hat); have n1_ := Aside0.mk (hb); have n2_ := Aside0.mk (ho); clear HO_3; clear HB; clear HO_4; have HO_3 := n0_; have HB := n1_; have HO203 := n2_; clear n0_ n1_ n2_; clear ho hb hg hat))
                    go_roundg k1
                    case measure => have := HK1.out; omega
                    case rel => exact ⟨(y201), (false), (wrap64 (x6_1 + 1)), (by first | rfl | (simp; done) | (simp [*]; done)), (by first | rfl | (simp; done) | (simp [*]; done)), H', ⟨by have := HK1.out; omega⟩, ⟨by (with_reducible repeat (first | apply Kd.R_alloc | apply Kd.R_drewN | apply Kd.R_drew)); exact Kd.R_mono HO_3.out (fun _ hk => hk.2)⟩, ⟨by (with_reducible repeat (first | apply Kd.R_alloc | apply Kd.R_drewN | apply Kd.R_drew)); exact HO203.out⟩, ⟨by repeat (first | (with_reducible first | exact HB.out | apply below_alloc | apply pw_below_drewN | apply below_drew1) | exact HB.out)⟩⟩
                  · rw [if_neg c37] at H
                    exact absurd H (by simp)
            · replace c11 := Bool.eq_false_iff.mpr c11
              subst c11
              have H1 : (if x4_1.length < 17592186044416 then (spec_Title.l0 k1 t174 (x4_1 ++ [rd t174 x6_1]) false (wrap64 (x6_1 + 1))) else (none)) = some r := by rw [if_neg (show ¬ (false = true) by decide)] at H; exact H
              clear H
              have H := H1
              clear H1
              by_cases c42 : x4_1.length < 17592186044416
              · rw [if_pos c42] at H
                have LMc42 := Aside0.mk c42
                clear c42
                obtain ⟨y204, hy204⟩ : ∃ y_ : List Int, y_ = (x4_1 ++ [rd t174 x6_1]) := ⟨_, rfl⟩
                replace H : (spec_Title.l0 k1 t174 y204 false (wrap64 (x6_1 + 1))) = some r := by first | (rw [hy204]; with_reducible exact H) | (have H2_ := (Option.bind_some _ _).symm.trans H; rw [hy204]; with_reducible exact H2_) | (have H2_ := (Option.bind_some _ _).symm.trans H; with_reducible exact H2_) | with_reducible exact H | (rw [hy204]; exact H) | exact H
                have Ny204 := Aside0.mk hy204
                clear hy204
                have H' := Aside0.mk H
                clear H
                obtain ⟨Ao43, co43, eo43⟩ := Kd.R_slice HO_3.out
                subst eo43
                have p182 : 0 ≤ (x6_1 : Int) := of_decide_eq_true (by first | (with_reducible assumption) | assumption)
                have q182 : x6_1 < (t174.length : Int) := of_decide_eq_true (by first | (with_reducible assumption) | assumption)
                obtain ⟨ad182, e182, hx182_0⟩ := Kd.at_int (Kd.R_reads' HO_3.out).2.2 x6_1 p182 q182
                cases e182
                replace p182 := eq_true p182
                replace q182 := eq_true q182
                go_wp2_with (first | ((with_reducible refine gate_callee (f := 142) rfl ?_); refine goesL_ (some 28) rfl rfl Tryd.func142 (by kernel_rfl) rfl #[.int .i64 (rd t174 x6_1)] rfl (by (try simp only [List.map_toArray, List.map_cons, List.map_nil]); first | done | rfl | (simp only [List.length_drop, List.length_take]; rfl)) ?_; (with_reducible refine (spec_l06Sharp.calls (rd t174 x6_1) t183 t184 _ A9.out).mono ?_); rintro e w' ⟨rfl, ⟨nd, rfl⟩⟩; refine ⟨_, rfl, ?_⟩) | ((with_reducible refine gate_callee (f := 143) rfl ?_); refine goesL_ (some 38) rfl rfl Tryd.func143 (by kernel_rfl) rfl #[.int .i64 (rd t174 x6_1)] rfl (by (try simp only [List.map_toArray, List.map_cons, List.map_nil]); first | done | rfl | (simp only [List.length_drop, List.length_take]; rfl)) ?_; (with_reducible refine (spec_l06InWord.calls (rd t174 x6_1) false _ A10.out).mono ?_); rintro e w44 ⟨rfl, hb⟩; refine ⟨_, rfl, ?_⟩; have n0_ := Aside0.mk (Kd.R_below (by (with_reducible repeat (first | apply Kd.R_alloc | apply Kd.R_drewN | apply Kd.R_drew)); exact HO_3.out) hb); have n1_ := Aside0.mk (Kd.R_below (by (with_reducible repeat (first | apply Kd.R_alloc | apply Kd.R_drewN | apply Kd.R_drew)); exact HO_4.out) hb); have n2_ := Aside0.mk (below_step (by repeat (first | (with_reducible first | exact HB.out | apply below_alloc | apply pw_below_drewN | apply below_drew1) | exact HB.out)) hb); clear HO_3; clear HO_4; clear HB; have HO_3 := n0_; have HO_4 := n1_; have HB := n2_; clear n0_ n1_ n2_; (try clear hb); (try clear hb2); (try clear hk); (try clear hi)) | ((with_reducible refine gate_builtin (b := .append) (xs := #[.tmp 40, .tmp 42]) rfl ?_); at_builtin; refine Kd.R_append (Kd.int .i64) (w0 := w) w.heap.size rfl (.tmp 40) (.tmp 42) 25 2 (.int .i64 0) 8 rfl Tryd.underlying25 info2 rfl (by decide) (by omega) u4 x4_1 (rd t174 x6_1) [.int .i64 (rd t174 x6_1)] (fun k_ => some k_ ≠ (.slice (some ad182) t174.length co43 : Value).ownBlock) (fun _ => False) rfl rfl ?aP (fun _ hk => hk.elim) ?aF ?aO ?aB ?aS ?aL ?_; (case aP => exact rfl); (case aB => exact (by repeat (first | (with_reducible first | exact HB.out | apply below_alloc | apply pw_below_drewN | apply below_drew1) | exact HB.out))); (case aF => exact (fun k_ hk => Kd.fresh' (Kd.R_lt (by (with_reducible repeat (first | apply Kd.R_alloc | apply Kd.R_drewN | apply Kd.R_drew)); exact HO_3.out)) k_ hk)); (case aO => exact (by (with_reducible repeat (first | apply Kd.R_alloc | apply Kd.R_drewN | apply Kd.R_drew)); exact HO_4.out)); (case aS => exact (below_size (by repeat (first | (with_reducible first | exact HB.out | apply below_alloc | apply pw_below_drewN | apply below_drew1) | exact HB.out)))); (case aL => have := LMc42.out; omega); intro v205 w45 ho hb hg hat; rw [← Ny204.out] at ho; have n0_ := Aside0.mk (Kd.R_after (ok := (fun _ => True)) (by (with_reducible repeat (first | apply Kd.R_alloc | apply Kd.R_drewN | apply Kd.R_drew)); exact Kd.R_mono HO_3.out (fun _ hk => ⟨trivial, hk⟩)) hg hat); have n1_ := Aside0.mk (hb); have n2_ := Aside0.mk (ho); clear HO_3; clear HB; clear HO_4; have HO_3 := n0_; have HB := n1_; have HO206 := n2_; clear n0_ n1_ n2_; clear ho hb hg hat))
                go_roundg k1
                case measure => have := HK1.out; omega
                case rel => exact ⟨(y204), (false), (wrap64 (x6_1 + 1)), (by first | rfl | (simp; done) | (simp [*]; done)), (by first | rfl | (simp; done) | (simp [*]; done)), H', ⟨by have := HK1.out; omega⟩, ⟨by (with_reducible repeat (first | apply Kd.R_alloc | apply Kd.R_drewN | apply Kd.R_drew)); exact Kd.R_mono HO_3.out (fun _ hk => hk.2)⟩, ⟨by (with_reducible repeat (first | apply Kd.R_alloc | apply Kd.R_drewN | apply Kd.R_drew)); exact HO206.out⟩, ⟨by repeat (first | (with_reducible first | exact HB.out | apply below_alloc | apply pw_below_drewN | apply below_drew1) | exact HB.out)⟩⟩
              · rw [if_neg c42] at H
                exact absurd H (by simp)
          · rw [if_neg c8] at H
            exact absurd H (by simp)
        · rw [if_neg c7] at H
          have c7b0 : decide (x6_1 < (t174.length : Int)) = false := decide_eq_false c7
          clear c7
          replace H := Option.bind_eq_some_iff.mp H
          obtain ⟨t180, A460, H⟩ := H
          replace H : ((spec_l01Small.f t180).bind fun t181 => (some t181)) = some r := H
          have A46 := Aside0.mk A460
          clear A460
          replace H := Option.bind_eq_some_iff.mp H
          obtain ⟨t181, A470, H⟩ := H
          replace H : (some t181) = some r := H
          have A47 := Aside0.mk A470
          clear A470
          obtain rfl := Option.some.inj H
          obtain ⟨Ao48, co48, eo48⟩ := Kd.R_slice HO_3.out
          subst eo48
          obtain ⟨Ao49, co49, eo49⟩ := Kd.R_slice HO_4.out
          subst eo49
          go_wp2_with (first | ((with_reducible refine gate_callee (f := 107) rfl ?_); refine goesL_ (some 70) rfl rfl Tryd.func107 (by kernel_rfl) rfl #[.slice Ao49 x4_1.length co49] rfl (by (try simp only [List.map_toArray, List.map_cons, List.map_nil]); first | done | rfl | (simp only [List.length_drop, List.length_take]; rfl)) ?_; (with_reducible refine (W_spec_l01Text.calls _ _ x4_1 t180 _ ?side1 ?side2 A46.out).mono ?_); (case side1 => repeat (first | exact (Kd.R_reads' HO_4.out).2.2 | (with_reducible refine Kd.C_alloc ?_ _) | (with_reducible refine Kd.C_drewN ?_ _) | (with_reducible refine Kd.C_drew ?_))); (case side2 => exact (Kd.R_reads' HO_4.out).2.1); rintro e w50 ⟨rfl, hb⟩; refine ⟨_, rfl, ?_⟩; have n0_ := Aside0.mk (Kd.R_below (by (with_reducible repeat (first | apply Kd.R_alloc | apply Kd.R_drewN | apply Kd.R_drew)); exact HO_3.out) hb); have n1_ := Aside0.mk (Kd.R_below (by (with_reducible repeat (first | apply Kd.R_alloc | apply Kd.R_drewN | apply Kd.R_drew)); exact HO_4.out) hb); have n2_ := Aside0.mk (below_step (by repeat (first | (with_reducible first | exact HB.out | apply below_alloc | apply pw_below_drewN | apply below_drew1) | exact HB.out)) hb); clear HO_3; clear HO_4; clear HB; have HO_3 := n0_; have HO_4 := n1_; have HB := n2_; clear n0_ n1_ n2_; (try clear hb); (try clear hb2); (try clear hk); (try clear hi)) | ((with_reducible refine gate_callee (f := 96) rfl ?_); refine goesL_ (some 71) rfl rfl Tryd.func96 (by kernel_rfl) rfl #[.string t180] rfl (by (try simp only [List.map_toArray, List.map_cons, List.map_nil]); first | done | rfl | (simp only [List.length_drop, List.length_take]; rfl)) ?_; (with_reducible refine (spec_l01Small.calls t180 t181 _ A47.out).mono ?_); rintro e w' ⟨rfl, ⟨nd, rfl⟩⟩; refine ⟨_, rfl, ?_⟩))
          go_ret
          exact ⟨by first | rfl | (simp [errW_none, errW_some] <;> rfl) | (simp [*, errW_none, errW_some] <;> rfl), by repeat (first | (with_reducible first | exact HB.out | apply below_alloc | apply pw_below_drewN | apply below_drew1) | exact HB.out)⟩

def spec_Title.one (l : List Int) (i : Nat) : Int := if 512 ≤ rd l (i : Int) ∧ rd l (i : Int) < 1280 ∧ rd l (i : Int) % 256 = 18 ∧ YtnonijganceneaaDoorCas.endsAt l i = true then rd l (i : Int) - 18 + 97 else spec_l06Lower.g (rd l (i : Int))
theorem spec_Title.at_ (l : List Int) (hl : l.length ≤ 65536) (hp : ∀ p ∈ l, YtnonijganceneaaDoorPts.isP p) (i : Nat) (hi : i < l.length) : spec_l06LowerAt.f l (i : Int) = some (spec_Title.one l i) := by
  have hr : rd l (i : Int) = l[i] := by simp [rd, List.getD, hi]
  have hpi := hp l[i] (List.getElem_mem hi)
  unfold spec_l06LowerAt.f spec_Title.one
  rw [if_pos (by omega), if_pos (by omega), hr]
  obtain ⟨p, hpe⟩ : ∃ p, l[i] = p := ⟨_, rfl⟩
  rw [hpe] at hpi ⊢
  clear hr hpe hp
  unfold YtnonijganceneaaDoorPts.isP at hpi
  have hlow : spec_l06Lower.f p = some (spec_l06Lower.g p) := by unfold spec_l06Lower.f; rw [if_pos ⟨hpi.1, hpi.2.1⟩]
  have hb : spec_l06Block.f p = some (if 512 ≤ p ∧ p < 1280 then p - p % 256 else 0) := by
    unfold spec_l06Block.f
    by_cases c : 512 ≤ p ∧ p < 1280
    · have ht : Int.tdiv p 256 = p / 256 := Int.tdiv_eq_ediv_of_nonneg hpi.1
      rw [if_neg (by omega), if_neg (by omega), ht]
      have h1 : wrap64 (p / 256) = p / 256 := by unfold wrap64; omega
      have h2 : wrap64 (p / 256 * 256) = p - p % 256 := by unfold wrap64; omega
      rw [h1, h2, if_pos c]
    · rw [if_neg c]
      by_cases c2 : p < 512
      · rw [if_pos c2]
      · rw [if_neg c2, if_pos (by omega)]
  rw [hb, hlow]
  simp only [Option.bind_some]
  by_cases c : 512 ≤ p ∧ p < 1280
  · have h3 : wrap64 (p - p % 256 + 18) = p - p % 256 + 18 := by unfold wrap64; omega
    have h4 : wrap64 (p - p % 256 + 97) = p - p % 256 + 97 := by unfold wrap64; omega
    rw [if_pos c, if_pos (by omega), h3, h4]
    by_cases c2 : p % 256 = 18
    · rw [if_pos (by omega)]
      unfold W_spec_l06Ends.f
      rw [if_pos ⟨by omega, by omega, by omega⟩]
      simp only [Option.bind_some, Int.toNat_natCast]
      by_cases e : YtnonijganceneaaDoorCas.endsAt l i = true
      · rw [if_pos e, if_pos ⟨c.1, c.2, c2, e⟩]; congr 1; omega
      · rw [if_neg e, if_neg (fun z => e z.2.2.2)]
    · rw [if_neg (by omega), if_neg (fun z => c2 z.2.2.1)]
  · rw [if_neg c, if_neg (by omega), if_neg (fun z => c ⟨z.1, z.2.1⟩)]
def spec_Title.small (l : List Int) : ByteArray := if (strOfNums (YtnonijganceneaaDoorPts.encs l)).size > 65536 then (⟨#[]⟩ : ByteArray) else strOfNums (YtnonijganceneaaDoorPts.encs l)
def spec_Title.ti (p : Int) : Int := spec_l06Up.g p 1
def spec_Title.all (l : List Int) : List Int := (YtnonijganceneaaDoorCas.trun l (spec_Title.one l) spec_Title.ti l.length).1
def W_spec_Title.f (a0 : ByteArray) : Option (ByteArray) := if (a0.size : Int) > 65536 then some (⟨#[]⟩ : ByteArray) else some (spec_Title.small (spec_Title.all (YtnonijganceneaaDoorPts.pts (bytesOf a0))))
theorem spec_Title.cat (p : Int) : spec_l01Cat.f p = some (YtnonijganceneaaDoorCas.kind p).1 := rfl
theorem spec_Title.cased (p : Int) : spec_l06Cased.f p = some (YtnonijganceneaaDoorCas.isCased p) := spec_l06Ends.cased p
theorem spec_Title.inw (p : Int) : spec_l06InWord.f p = some (YtnonijganceneaaDoorCas.inWord p) := by
  unfold spec_l06InWord.f YtnonijganceneaaDoorCas.inWord
  rw [spec_Title.cat, spec_Title.cased]
  simp only [Option.bind_some]
  unfold YtnonijganceneaaDoorCas.isCased
  obtain ⟨c, hc⟩ : ∃ c, (YtnonijganceneaaDoorCas.kind p).1 = c := ⟨_, rfl⟩
  rw [hc]
  by_cases a : c = 3
  · rw [if_pos a, decide_eq_true (by omega)]
  · rw [if_neg a]
    by_cases b : c = 7
    · rw [if_pos b, decide_eq_true (by omega)]
    · rw [if_neg b]
      by_cases d : c = 8
      · rw [if_pos d, decide_eq_true (by omega)]
      · rw [if_neg d]
        by_cases e : p = 39
        · rw [if_pos e, decide_eq_true (.inr e)]
        · rw [if_neg e]
          congr 1
          apply decide_eq_decide.2
          omega
theorem spec_Title.sharp (p : Int) (hp : 0 ≤ p) : spec_l06Sharp.f p = some (if 512 ≤ p ∧ p < 1280 then p - p % 256 else 0, decide (512 ≤ p ∧ p < 1280 ∧ p % 256 = 96)) := by
  unfold spec_l06Sharp.f spec_l06Block.f
  by_cases c : 512 ≤ p ∧ p < 1280
  · have ht : Int.tdiv p 256 = p / 256 := Int.tdiv_eq_ediv_of_nonneg hp
    rw [if_neg (by omega), if_neg (by omega), ht]
    have h1 : wrap64 (p / 256) = p / 256 := by unfold wrap64; omega
    have h2 : wrap64 (p / 256 * 256) = p - p % 256 := by unfold wrap64; omega
    rw [h1, h2]
    simp only [Option.bind_some]
    have h3 : wrap64 (p - p % 256 + 96) = p - p % 256 + 96 := by unfold wrap64; omega
    rw [if_pos (by omega), h3, if_pos c]
    congr 2
    by_cases c2 : p % 256 = 96
    · rw [decide_eq_true ⟨c.1, c.2, c2⟩]; simp; omega
    · rw [decide_eq_false (fun z => c2 z.2.2)]; simp; omega
  · rw [if_neg c, decide_eq_false (fun z => c ⟨z.1, z.2.1⟩)]
    by_cases c2 : p < 512
    · rw [if_pos c2]; rfl
    · rw [if_neg c2, if_pos (by omega)]; rfl
theorem spec_Title.run (l : List Int) (hl : l.length ≤ 65536) (hp : ∀ p ∈ l, YtnonijganceneaaDoorPts.isP p) (d : Nat) : ∀ (k i : Nat), i ≤ l.length → l.length - i = d → d < k →
    spec_Title.l0 k l (YtnonijganceneaaDoorCas.trun l (spec_Title.one l) spec_Title.ti i).1 (YtnonijganceneaaDoorCas.trun l (spec_Title.one l) spec_Title.ti i).2 (i : Int) = some (spec_Title.small (spec_Title.all l)) := by
  induction d with
  | zero =>
    intro k i h1 h2 h3
    obtain ⟨k, rfl⟩ : ∃ m, k = m + 1 := ⟨k - 1, by omega⟩
    obtain rfl : i = l.length := by omega
    have hlen := YtnonijganceneaaDoorCas.trun_length l (spec_Title.one l) spec_Title.ti l.length
    simp only [spec_Title.l0]
    rw [if_neg (by omega)]
    unfold W_spec_l01Text.f
    rw [if_pos (by omega)]
    simp only [Option.bind_some]
    unfold spec_l01Small.f spec_Title.small spec_Title.all
    obtain ⟨X, hX⟩ : ∃ X, strOfNums (YtnonijganceneaaDoorPts.encs (YtnonijganceneaaDoorCas.trun l (spec_Title.one l) spec_Title.ti l.length).1) = X := ⟨_, rfl⟩
    rw [hX]
    by_cases c : (X.size : Int) > 65536
    · rw [if_pos c, if_pos (by omega)]; rfl
    · rw [if_neg c, if_neg (by omega)]; rfl
  | succ d ih =>
    intro k i h1 h2 h3
    obtain ⟨k, rfl⟩ : ∃ m, k = m + 1 := ⟨k - 1, by omega⟩
    have hlt : i < l.length := by omega
    have hih := ih k (i + 1) (by omega) (by omega) (by omega)
    have hw : wrap64 ((i : Int) + 1) = ((i + 1 : Nat) : Int) := by unfold wrap64; omega
    have hr : rd l (i : Int) = l[i] := by simp [rd, List.getD, hlt]
    have hpi := hp l[i] (List.getElem_mem hlt)
    rw [← hr] at hpi
    have hlen := YtnonijganceneaaDoorCas.trun_length l (spec_Title.one l) spec_Title.ti i
    simp only [YtnonijganceneaaDoorCas.trun] at hih
    obtain ⟨acc, hacc⟩ : ∃ acc, (YtnonijganceneaaDoorCas.trun l (spec_Title.one l) spec_Title.ti i).1 = acc := ⟨_, rfl⟩
    obtain ⟨bg, hbg⟩ : ∃ bg, (YtnonijganceneaaDoorCas.trun l (spec_Title.one l) spec_Title.ti i).2 = bg := ⟨_, rfl⟩
    rw [hacc] at hlen
    rw [hacc, hbg] at hih ⊢
    have hat := spec_Title.at_ l hl hp i hlt
    obtain ⟨o, ho⟩ : ∃ o, spec_Title.one l i = o := ⟨_, rfl⟩
    rw [ho] at hih hat
    rw [spec_Title.l0]
    rw [if_pos (show (i : Int) < (l.length : Int) by omega), if_pos (show (0 : Int) ≤ (i : Int) by omega), hat, hw]
    clear hat ih hacc hbg ho hr
    obtain ⟨p, hpe⟩ : ∃ p, rd l (i : Int) = p := ⟨_, rfl⟩
    rw [hpe] at hih hpi ⊢
    unfold YtnonijganceneaaDoorPts.isP at hpi
    rw [spec_Title.sharp p hpi.1, spec_Title.inw, spec_Title.cased]
    simp only [Option.bind_some]
    unfold YtnonijganceneaaDoorCas.tstep at hih
    by_cases w : YtnonijganceneaaDoorCas.inWord p = true
    · rw [if_pos w]
      rw [if_neg (by rw [w]; decide)] at hih
      by_cases b : bg = true
      · subst b
        rw [if_pos rfl, if_pos (by omega)]
        rw [if_pos rfl] at hih
        exact hih
      · have b := Bool.eq_false_iff.mpr b
        subst b
        rw [if_neg (by decide)]
        rw [if_neg (by decide)] at hih
        by_cases c : YtnonijganceneaaDoorCas.isCased p = true
        · rw [if_pos c]
          rw [if_neg (by rw [c]; decide)] at hih
          by_cases s : 512 ≤ p ∧ p < 1280 ∧ p % 256 = 96
          · have e1 : wrap64 (p - p % 256 + 18) = p - p % 256 + 18 := by unfold wrap64; omega
            have e2 : wrap64 (p - p % 256 + 50) = p - p % 256 + 50 := by unfold wrap64; omega
            rw [if_pos (decide_eq_true s), if_pos (show 512 ≤ p ∧ p < 1280 from ⟨s.1, s.2.1⟩), e1, e2, if_pos (by simp only [List.length_cons, List.length_nil]; omega)]
            rw [if_pos s] at hih
            exact hih
          · rw [if_neg (by simpa using s)]
            rw [if_neg s] at hih
            unfold spec_l06Up.f
            rw [if_pos ⟨hpi.1, hpi.2.1, .inr rfl⟩]
            simp only [Option.bind_some]
            rw [if_pos (by omega)]
            exact hih
        · have c' := Bool.eq_false_iff.mpr c
          rw [if_neg c, if_pos (by omega)]
          rw [if_pos c'] at hih
          exact hih
    · rw [if_neg w, if_pos (by omega)]
      rw [if_pos (Bool.eq_false_iff.mpr w)] at hih
      exact hih
theorem W_spec_Title.to {a0 : ByteArray} {r : ByteArray} (h : W_spec_Title.f a0 = some r) : ∃ k, spec_Title.f k a0 = some r := by
  unfold W_spec_Title.f at h
  refine ⟨a0.size + 1, ?_⟩
  rw [← h]
  unfold spec_Title.f
  by_cases c : (a0.size : Int) > 65536
  · rw [if_pos c, if_pos c]
  · rw [if_neg c, if_neg c]
    have hl := YtnonijganceneaaDoorPts.pts_length _ (bytesOf a0) (Nat.le_refl _)
    rw [bytesOf_length] at hl
    unfold W_spec_l01Points.f
    rw [if_pos (by omega)]
    simp only [Option.bind_some]
    exact spec_Title.run (YtnonijganceneaaDoorPts.pts (bytesOf a0)) (by omega) (YtnonijganceneaaDoorPts.pts_isP _ _ (Nat.le_refl _)) _ (a0.size + 1) 0 (by omega) rfl (by omega)
theorem W_spec_Title.calls (a0 : ByteArray) (r : ByteArray) (w : World) (h : W_spec_Title.f a0 = some r) :
    Calls Tryd.prog 62 #[.string a0] w fun e w' => e = .returned (.string r) ∧ Below w.heap.size w w' := by
  obtain ⟨k, hk⟩ := W_spec_Title.to h
  exact spec_Title.calls k a0 r w hk

/-! ### impl_long: function 98 -/
def impl_long.f (a0 : ByteArray) : Option (Bool) := some (decide ((a0.size : Int) > 65536))
set_option maxHeartbeats 8000000 in
set_option maxRecDepth 100000 in
theorem impl_long.calls (a0 : ByteArray) (r : Bool) (w : World) (h : impl_long.f a0 = some r) :
    Calls Tryd.prog 98 #[.string a0] w fun e w' => e = .returned (.bool r) ∧ Drawn0 w w' := by
  have H : (some (decide ((a0.size : Int) > 65536))) = some r := h
  clear h
  obtain rfl := Option.some.inj H
  go_enter Tryd.func98, Tryd.ntmps98
  go_wp2
  go_ret
  exact ⟨by first | rfl | (simp; done) | (simp [*]; done), by repeat (first | exact Drawn0.refl _ | apply Drawn0.step)⟩

/-! ### impl_short: function 100 -/
def impl_short.f (a0 : ByteArray) : Option (ByteArray) := (impl_long.f a0).bind fun t207 => (if t207 = true then (some (⟨#[]⟩ : ByteArray)) else (some a0))
set_option maxHeartbeats 8000000 in
set_option maxRecDepth 100000 in
theorem impl_short.calls (a0 : ByteArray) (r : ByteArray) (w : World) (h : impl_short.f a0 = some r) :
    Calls Tryd.prog 100 #[.string a0] w fun e w' => e = .returned (.string r) ∧ Drawn0 w w' := by
  have H : ((impl_long.f a0).bind fun t207 => (if t207 = true then (some (⟨#[]⟩ : ByteArray)) else (some a0))) = some r := h
  clear h
  replace H := Option.bind_eq_some_iff.mp H
  obtain ⟨t207, A20, H⟩ := H
  replace H : (if t207 = true then (some (⟨#[]⟩ : ByteArray)) else (some a0)) = some r := H
  have A2 := Aside0.mk A20
  clear A20
  by_cases c3 : t207 = true
  · subst c3
    have H1 : (some (⟨#[]⟩ : ByteArray)) = some r := by rw [if_pos rfl] at H; exact H
    clear H
    have H := H1
    clear H1
    obtain rfl := Option.some.inj H
    go_enter Tryd.func100, Tryd.ntmps100
    go_wp2_with (first | ((with_reducible refine gate_callee (f := 98) rfl ?_); refine goesL_ (some 4) rfl rfl Tryd.func98 (by kernel_rfl) rfl #[.string a0] rfl (by (try simp only [List.map_toArray, List.map_cons, List.map_nil]); first | done | rfl | (simp only [List.length_drop, List.length_take]; rfl)) ?_; (with_reducible refine (impl_long.calls a0 true _ A2.out).mono ?_); rintro e w' ⟨rfl, ⟨nd, rfl⟩⟩; refine ⟨_, rfl, ?_⟩))
    go_ret
    exact ⟨by first | rfl | (simp; done) | (simp [*]; done), by repeat (first | exact Drawn0.refl _ | apply Drawn0.step)⟩
  · replace c3 := Bool.eq_false_iff.mpr c3
    subst c3
    have H1 : (some a0) = some r := by rw [if_neg (show ¬ (false = true) by decide)] at H; exact H
    clear H
    have H := H1
    clear H1
    obtain rfl := Option.some.inj H
    go_enter Tryd.func100, Tryd.ntmps100
    go_wp2_with (first | ((with_reducible refine gate_callee (f := 98) rfl ?_); refine goesL_ (some 4) rfl rfl Tryd.func98 (by kernel_rfl) rfl #[.string a0] rfl (by (try simp only [List.map_toArray, List.map_cons, List.map_nil]); first | done | rfl | (simp only [List.length_drop, List.length_take]; rfl)) ?_; (with_reducible refine (impl_long.calls a0 false _ A2.out).mono ?_); rintro e w' ⟨rfl, ⟨nd, rfl⟩⟩; refine ⟨_, rfl, ?_⟩))
    go_ret
    exact ⟨by first | rfl | (simp; done) | (simp [*]; done), by repeat (first | exact Drawn0.refl _ | apply Drawn0.step)⟩

/-- The tables of unicode/utf8 lie in this world as start-up lays them. -/
def GT (w : World) : Prop := Lib.Utf8Tabs 4 5 w
theorem GT.below {w w' : World} (h : GT w) (hb : Below w.heap.size w w') : GT w' := by
  obtain ⟨h1, h2⟩ := h
  refine ⟨fun c hc => ?_, fun i hi => ⟨?_, ?_⟩⟩
  · exact (hb.cell (World.block_lt_of_cell? w _ (h1 c hc))).trans (h1 c hc)
  · exact (hb.cell (World.block_lt_of_cell? w _ (h2 i hi).1)).trans (h2 i hi).1
  · exact (hb.cell (World.block_lt_of_cell? w _ (h2 i hi).2)).trans (h2 i hi).2

/-! ### utf8_DecodeRuneInString: function 209 (by hand) -/
def utf8_DecodeRuneInString.f (a0 : ByteArray) : Option (Int × Int) := some (((Lib.decodeGo a0).1 : Int), ((Lib.decodeGo a0).2 : Int))
theorem utf8_DecodeRuneInString.calls (a0 : ByteArray) (r1 : Int) (r2 : Int) (w : World) (h : utf8_DecodeRuneInString.f a0 = some (r1, r2)) (hG : GT w) :
    Calls Tryd.prog 209 #[.string a0] w fun e w' => e = .returned (.tuple #[.int .i32 r1, .int .i64 r2]) ∧ Below w.heap.size w w' := by
  have h := Option.some.inj h
  obtain ⟨rfl, rfl⟩ := Prod.mk.inj h
  exact Tryd.utf8_DecodeRuneInString a0 w hG

end Go.Proofs.YtnonijganceneaaDoor.QFnExactTitle
