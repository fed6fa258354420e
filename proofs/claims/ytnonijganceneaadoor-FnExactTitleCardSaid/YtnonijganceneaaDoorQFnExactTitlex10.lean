/- The law FnExactTitle: at every input the call answers true (this text: contracts on its way, by a program of this session's; no condition of ours). -/
import Derived.Test.YtnonijganceneaaDoorQFnExactTitlex0
import Derived.Test.YtnonijganceneaaDoorQFnExactTitlex8
import Derived.Test.YtnonijganceneaaDoorQFnExactTitlex9
namespace Go.Proofs.YtnonijganceneaaDoor.QFnExactTitle
open Go.RowKit Go.Proofs.YtnonijganceneaaDoorW.PrintWords Go.Proofs.YtnonijganceneaaDoorW.PrintLast Go.Proofs.YtnonijganceneaaDoorW.PrintMore
attribute [local go_sem] max2_int min2_int max_two min_two max_three min_three max_four min_four   -- for this text's walks alone
set_option linter.unusedVariables false
set_option linter.unusedSimpArgs false

/-! ### impl_lower: function 203 -/
mutual
def impl_lower.l0 : Nat → List Int → Int → List Bool → List Bool → Bool → List Int → Int → Int → Option (List Int)
  | 0, _, _, _, _, _, _, _, _ => none
  | k + 1, x0, x3, x4, x5, x6, x19, x20, x21 => if x21 < x20 then (if 0 ≤ x21 then (if x21 < (x19.length : Int) then (if x21 < (x4.length : Int) then ((some (x4.set (x21 : Int).toNat x6 : List Bool)).bind fun y286 => ((impl_isMark.f (rd x19 x21)).bind fun t287 => (if t287 = true then (impl_lower.l0 k x0 x3 y286 x5 x6 x19 x20 (wrap64 (x21 + 1))) else ((impl_isCased.f (rd x19 x21)).bind fun t288 => (impl_lower.l0 k x0 x3 y286 x5 t288 x19 x20 (wrap64 (x21 + 1))))))) else (none)) else (none)) else (none)) else (impl_lower.l1 k x0 x3 x4 x5 false (wrap64 (x3 - 1)))
def impl_lower.l1 : Nat → List Int → Int → List Bool → List Bool → Bool → Int → Option (List Int)
  | 0, _, _, _, _, _, _ => none
  | k + 1, x0, x3, x4, x5, x6, x9 => if x9 ≥ 0 then (if 0 ≤ x9 then (if x9 < (x5.length : Int) then ((some (x5.set (x9 : Int).toNat x6 : List Bool)).bind fun y289 => (if x9 < (x0.length : Int) then ((impl_isMark.f (rd x0 x9)).bind fun t291 => (if t291 = true then (impl_lower.l1 k x0 x3 x4 y289 x6 (wrap64 (x9 - 1))) else ((impl_isCased.f (rd x0 x9)).bind fun t293 => (impl_lower.l1 k x0 x3 x4 y289 t293 (wrap64 (x9 - 1)))))) else (none))) else (none)) else (none)) else (if 0 ≤ x3 then (if (x3 : Int).toNat ≤ 35184372088832 then (impl_lower.l2 k x4 x5 (List.replicate (x3 : Int).toNat 0) x0 (x0.length : Int) 0) else (none)) else (none))
def impl_lower.l2 : Nat → List Bool → List Bool → List Int → List Int → Int → Int → Option (List Int)
  | 0, _, _, _, _, _, _ => none
  | k + 1, x4, x5, x10, x59, x60, x61 => if x61 < x60 then (if 0 ≤ x61 then (if x61 < (x59.length : Int) then ((impl_SimpleLower.f (rd x59 x61)).bind fun t298 => (if x61 < (x10.length : Int) then ((some (x10.set (x61 : Int).toNat t298 : List Int)).bind fun y299 => ((impl_within.f (rd x59 x61) 18).bind fun t300 => (if t300 = true then (if x61 < (x4.length : Int) then (if rdOf false x4 x61 = true then (if x61 < (x5.length : Int) then (if rdOf false x5 x61 = true then (impl_lower.l2 k x4 x5 y299 x59 x60 (wrap64 (x61 + 1))) else (impl_lower.l2 k x4 x5 (y299.set (x61 : Int).toNat (wrap64 ((wrap64 ((rd x59 x61) - 18)) + 97))) x59 x60 (wrap64 (x61 + 1)))) else (none)) else (impl_lower.l2 k x4 x5 y299 x59 x60 (wrap64 (x61 + 1)))) else (none)) else (impl_lower.l2 k x4 x5 y299 x59 x60 (wrap64 (x61 + 1)))))) else (none))) else (none)) else (none)) else (some x10)
end
def impl_lower.f (k : Nat) (l0 : List Int) : Option (List Int) := if 0 ≤ (l0.length : Int) then (if ((l0.length : Int) : Int).toNat ≤ 281474976710656 then (impl_lower.l0 k l0 (l0.length : Int) (List.replicate ((l0.length : Int) : Int).toNat false) (List.replicate ((l0.length : Int) : Int).toNat false) false l0 (l0.length : Int) 0) else (none)) else (none)
theorem impl_lower.mono_l : ∀ k, (∀ y0 y1 y2 y3 y4 y5 y6 y7, LeO (impl_lower.l0 k y0 y1 y2 y3 y4 y5 y6 y7) (impl_lower.l0 (k + 1) y0 y1 y2 y3 y4 y5 y6 y7)) ∧ (∀ y0 y1 y2 y3 y4 y5, LeO (impl_lower.l1 k y0 y1 y2 y3 y4 y5) (impl_lower.l1 (k + 1) y0 y1 y2 y3 y4 y5)) ∧ (∀ y0 y1 y2 y3 y4 y5, LeO (impl_lower.l2 k y0 y1 y2 y3 y4 y5) (impl_lower.l2 (k + 1) y0 y1 y2 y3 y4 y5))
  | 0 => ⟨fun _ _ _ _ _ _ _ _ r h => by simp [impl_lower.l0] at h, fun _ _ _ _ _ _ r h => by simp [impl_lower.l1] at h, fun _ _ _ _ _ _ r h => by simp [impl_lower.l2] at h⟩
  | k + 1 => by
    obtain ⟨ih0, ih1, ih2⟩ := impl_lower.mono_l k
    refine ⟨?_, ?_, ?_⟩
    · intro y0 y1 y2 y3 y4 y5 y6 y7
      unfold impl_lower.l0
      repeat' first
      | (with_reducible exact ih0 _ _ _ _ _ _ _ _)
      | (with_reducible exact ih1 _ _ _ _ _ _)
      | (with_reducible exact ih2 _ _ _ _ _ _)
      | (with_reducible exact LeO.refl _)
      | (with_reducible exact LeO.none _)
      | (with_reducible refine LeO.ite ?_ ?_)
      | (with_reducible refine LeO.bind ?_ (fun _ => ?_))
      | exact ih0 _ _ _ _ _ _ _ _
      | exact ih1 _ _ _ _ _ _
      | exact ih2 _ _ _ _ _ _
      | exact LeO.none _
      | refine LeO.ite ?_ ?_
      | refine LeO.bind ?_ (fun _ => ?_)
    · intro y0 y1 y2 y3 y4 y5
      unfold impl_lower.l1
      repeat' first
      | (with_reducible exact ih0 _ _ _ _ _ _ _ _)
      | (with_reducible exact ih1 _ _ _ _ _ _)
      | (with_reducible exact ih2 _ _ _ _ _ _)
      | (with_reducible exact LeO.refl _)
      | (with_reducible exact LeO.none _)
      | (with_reducible refine LeO.ite ?_ ?_)
      | (with_reducible refine LeO.bind ?_ (fun _ => ?_))
      | exact ih0 _ _ _ _ _ _ _ _
      | exact ih1 _ _ _ _ _ _
      | exact ih2 _ _ _ _ _ _
      | exact LeO.none _
      | refine LeO.ite ?_ ?_
      | refine LeO.bind ?_ (fun _ => ?_)
    · intro y0 y1 y2 y3 y4 y5
      unfold impl_lower.l2
      repeat' first
      | (with_reducible exact ih0 _ _ _ _ _ _ _ _)
      | (with_reducible exact ih1 _ _ _ _ _ _)
      | (with_reducible exact ih2 _ _ _ _ _ _)
      | (with_reducible exact LeO.refl _)
      | (with_reducible exact LeO.none _)
      | (with_reducible refine LeO.ite ?_ ?_)
      | (with_reducible refine LeO.bind ?_ (fun _ => ?_))
      | exact ih0 _ _ _ _ _ _ _ _
      | exact ih1 _ _ _ _ _ _
      | exact ih2 _ _ _ _ _ _
      | exact LeO.none _
      | refine LeO.ite ?_ ?_
      | refine LeO.bind ?_ (fun _ => ?_)
theorem impl_lower.mono : ∀ a0 k, LeO (impl_lower.f k a0) (impl_lower.f (k + 1) a0) := by
  intro a0 k
  obtain ⟨ih0, ih1, ih2⟩ := impl_lower.mono_l k
  unfold impl_lower.f
  repeat' first
      | (with_reducible exact ih0 _ _ _ _ _ _ _ _)
      | (with_reducible exact ih1 _ _ _ _ _ _)
      | (with_reducible exact ih2 _ _ _ _ _ _)
      | (with_reducible exact LeO.refl _)
      | (with_reducible exact LeO.none _)
      | (with_reducible refine LeO.ite ?_ ?_)
      | (with_reducible refine LeO.bind ?_ (fun _ => ?_))
      | exact ih0 _ _ _ _ _ _ _ _
      | exact ih1 _ _ _ _ _ _
      | exact ih2 _ _ _ _ _ _
      | exact LeO.none _
      | refine LeO.ite ?_ ?_
      | refine LeO.bind ?_ (fun _ => ?_)
set_option maxHeartbeats 8000000 in
set_option maxRecDepth 100000 in
theorem impl_lower.calls (k : Nat) (A0 : Option Addr) (c0 : Nat) (l0 : List Int) (r : List Int) (w : World) (hr0 : Kd.C (Kd.int .i64) w A0 l0.length l0) (hc0 : l0.length ≤ c0) (h : impl_lower.f k l0 = some r) :
    Calls Tryd.prog 203 #[.slice A0 l0.length c0] w fun e w' => ∃ v0_ : Value, e = .returned (v0_) ∧ Kd.R (Kd.int .i64) 2 w' w.heap.size (fun _ => True) v0_ r ∧ Below w.heap.size w w' := by
  have HR0 := Aside0.mk hr0
  have HC0 := Aside0.mk hc0
  clear hr0 hc0
  have HB := Aside0.mk (Below.refl w.heap.size w)
  have H : (if 0 ≤ (l0.length : Int) then (if ((l0.length : Int) : Int).toNat ≤ 281474976710656 then (impl_lower.l0 k l0 (l0.length : Int) (List.replicate ((l0.length : Int) : Int).toNat false) (List.replicate ((l0.length : Int) : Int).toNat false) false l0 (l0.length : Int) 0) else (none)) else (none)) = some r := h
  clear h
  by_cases c2 : 0 ≤ (l0.length : Int)
  · rw [if_pos c2] at H
    have c2b0 := eq_true c2
    have c2b1 : decide (0 ≤ (l0.length : Int)) = true := decide_eq_true c2
    clear c2
    by_cases c3 : ((l0.length : Int) : Int).toNat ≤ 281474976710656
    · rw [if_pos c3] at H
      have c3b0 := eq_true c3
      have c3b1 : decide (((l0.length : Int) : Int).toNat ≤ 281474976710656) = true := decide_eq_true c3
      clear c3
      obtain ⟨y279, hy279⟩ : ∃ y_ : List Bool, y_ = (List.replicate ((l0.length : Int) : Int).toNat false) := ⟨_, rfl⟩
      replace H : (impl_lower.l0 k l0 (l0.length : Int) y279 (List.replicate ((l0.length : Int) : Int).toNat false) false l0 (l0.length : Int) 0) = some r := by first | (rw [hy279]; with_reducible exact H) | (have H2_ := (Option.bind_some _ _).symm.trans H; rw [hy279]; with_reducible exact H2_) | (have H2_ := (Option.bind_some _ _).symm.trans H; with_reducible exact H2_) | with_reducible exact H | (rw [hy279]; exact H) | exact H
      have Ny279 := Aside0.mk hy279
      clear hy279
      obtain ⟨y282, hy282⟩ : ∃ y_ : List Bool, y_ = (List.replicate ((l0.length : Int) : Int).toNat false) := ⟨_, rfl⟩
      replace H : (impl_lower.l0 k l0 (l0.length : Int) y279 y282 false l0 (l0.length : Int) 0) = some r := by first | (rw [hy282]; with_reducible exact H) | (have H2_ := (Option.bind_some _ _).symm.trans H; rw [hy282]; with_reducible exact H2_) | (have H2_ := (Option.bind_some _ _).symm.trans H; with_reducible exact H2_) | with_reducible exact H | (rw [hy282]; exact H) | exact H
      have Ny282 := Aside0.mk hy282
      clear hy282
      have H' := Aside0.mk H
      clear H
      go_enter Tryd.func203, Tryd.ntmps203
      try go_wp2
      have n0_ := Aside0.mk (below_drew1 HB.out)
      clear HB
      have HB := n0_
      clear n0_
      refine start_ (n := 6) (S := fun w' => True) (ds := []) #[false, false, false, false, false, false] (by kernel_rfl) rfl rfl trivial (fun hHeld => ?_)
      generalize w.drew = w4 at HB hHeld ⊢
      refine pure_ (i := 0) (N := some 15) (v := ?_) (a' := ?_) #[true, false, false, false, false, false] rfl rfl (by kernel_rfl) (fun _ _ _ h => h) (Or.inl ⟨by rfl, ?_⟩) ?_ ?_
      rotate_left
      · intro w'
        go_simp
        with_reducible rfl
      rotate_left
      · simp only [Act.put, List.setIfInBounds_toArray, List.set_cons_zero, List.set_cons_succ, i64_w, i32_w]
        rfl
      refine pure_ (i := 2) (N := some 17) (v := ?_) (a' := ?_) #[true, false, true, false, false, false] rfl rfl (by kernel_rfl) (fun _ _ _ h => h) (Or.inl ⟨by rfl, ?_⟩) ?_ ?_
      rotate_left
      · intro w'
        go_simp
        with_reducible rfl
      rotate_left
      · simp only [Act.put, List.setIfInBounds_toArray, List.set_cons_zero, List.set_cons_succ, i64_w, i32_w]
        rfl
      refine join_ (σ := Value × Value) 1 #[true, true, true, true, true, false] (fun s_ => [(16, s_.1), (18, s_.2), (4, s_.1)]) (fun s_ w' => (Kd.R Kd.bool 4 w' w.heap.size (fun k_ => some k_ ≠ (s_.2 : Value).ownBlock) s_.1 y279) ∧ (Kd.R Kd.bool 4 w' w.heap.size (fun k_ => some k_ ≠ (s_.1 : Value).ownBlock) s_.2 y282) ∧ (Below w.heap.size w w')) ?_ ?_
      rotate_left
      · intro hCont
        refine two_ (i := 1) (j := 3) (Ni := some 16) (Nj := some 18) #[true, true, true, false, false, false] #[true, false, true, true, false, false] rfl rfl rfl rfl (by kernel_rfl) (by decide) (by decide) (fun K hK => ?_) (fun K hK => ?_)
        · skip
          refine Kd.R_make_step Kd.bool _ 4 (by rfl) (N := 16) rfl 211 _ _ rfl (l0.length : Int) rfl rfl Tryd.underlying211 (.bool false) 1 info4 rfl (by decide) (by omega) false (ok := fun _ => True) (okp := fun _ => True) rfl (fun _ hk => hk) trivial (of_decide_eq_true (by first | (with_reducible assumption) | assumption)) (Nat.le_trans (Nat.mul_le_mul_right _ (of_decide_eq_true (by first | (with_reducible assumption) | assumption) : (l0.length : Int).toNat ≤ 281474976710656)) (by omega)) (Below.refl _ _) (Nat.le_refl _) ?_
          intro v280 w5 ho6 hb hg_ hnew_
          clear hg_ hnew_
          (first | rw [← Ny279.out] at ho6 | (simp only [Int.reduceToNat] at ho6; rw [← Ny279.out] at ho6))
          have n0_ := Aside0.mk (Kd.R_lower ho6 (below_size (by repeat (first | (with_reducible first | exact HB.out | apply below_alloc | apply pw_below_drewN | apply below_drew1) | exact HB.out))))
          have n1_ := Aside0.mk (below_step (by repeat (first | (with_reducible first | exact HB.out | apply below_alloc | apply pw_below_drewN | apply below_drew1) | exact HB.out)) hb)
          clear HB
          have HO281 := n0_
          have HB := n1_
          clear n0_ n1_
          clear hb ho6
          refine hK.out _ _ trivial (fun hHeld => ?_)
          clear hK K
          refine norm_ (a' := ?_) ?_ ?_
          rotate_left
          · show Act.put _ (some 16) _ = _
            simp only [Act.put, List.setIfInBounds_toArray, List.set_cons_zero, List.set_cons_succ, i64_w, i32_w]
            rfl
          refine pure_ (i := 4) (N := some 4) (v := ?_) (a' := ?_) #[true, true, true, false, true, false] rfl rfl (by kernel_rfl) (fun _ _ _ h => h) (Or.inl ⟨by rfl, ?_⟩) ?_ ?_
          rotate_left
          · intro w'
            go_simp
            with_reducible rfl
          rotate_left
          · simp only [Act.put, List.setIfInBounds_toArray, List.set_cons_zero, List.set_cons_succ, i64_w, i32_w]
            rfl
          refine one_ (i := 3) (N := some 18) #[true, true, true, true, true, false] rfl rfl (by kernel_rfl) (by decide) (fun K hK => ?_)
          refine Kd.R_make_step Kd.bool _ 4 (by rfl) (N := 18) rfl 211 _ _ rfl (l0.length : Int) rfl rfl Tryd.underlying211 (.bool false) 1 info4 rfl (by decide) (by omega) false (ok := fun _ => True) (okp := fun _ => True) rfl (fun _ hk => hk) trivial (of_decide_eq_true (by first | (with_reducible assumption) | assumption)) (Nat.le_trans (Nat.mul_le_mul_right _ (of_decide_eq_true (by first | (with_reducible assumption) | assumption) : (l0.length : Int).toNat ≤ 281474976710656)) (by omega)) (Below.refl _ _) (Nat.le_refl _) ?_
          intro v283 w7 ho8 hb hg_ hnew_
          clear hg_ hnew_
          (first | rw [← Ny282.out] at ho8 | (simp only [Int.reduceToNat] at ho8; rw [← Ny282.out] at ho8))
          have n0_ := Aside0.mk (Kd.R_elder' (by (with_reducible repeat (first | apply Kd.R_alloc | apply Kd.R_drewN | apply Kd.R_drew)); exact HO281.out) (Kd.R_base ho8) hb)
          have n1_ := Aside0.mk (Kd.R_lower (Kd.R_new' ho8 (Kd.R_lt (by (with_reducible repeat (first | apply Kd.R_alloc | apply Kd.R_drewN | apply Kd.R_drew)); exact HO281.out))) (below_size (by repeat (first | (with_reducible first | exact HB.out | apply below_alloc | apply pw_below_drewN | apply below_drew1) | exact HB.out))))
          have n2_ := Aside0.mk (below_step (by repeat (first | (with_reducible first | exact HB.out | apply below_alloc | apply pw_below_drewN | apply below_drew1) | exact HB.out)) hb)
          clear HO281
          clear HB
          have HO281 := n0_
          have HO284 := n1_
          have HB := n2_
          clear n0_ n1_ n2_
          clear hb ho8
          refine hK.out _ _ trivial (fun hHeld => ?_)
          clear hK K
          refine norm_ (a' := ?_) ?_ ?_
          rotate_left
          · show Act.put _ (some 18) _ = _
            simp only [Act.put, List.setIfInBounds_toArray, List.set_cons_zero, List.set_cons_succ, i64_w, i32_w]
            rfl
          exact norm_ (by simp only [putAll, Act.put, List.setIfInBounds_toArray, List.set_cons_zero, List.set_cons_succ]) (hCont (v280, v283) _ ⟨(by (with_reducible repeat (first | apply Kd.R_alloc | apply Kd.R_drewN | apply Kd.R_drew)); exact Kd.R_mono HO281.out (fun _ hk => hk.2)), (by (with_reducible repeat (first | apply Kd.R_alloc | apply Kd.R_drewN | apply Kd.R_drew)); exact Kd.R_mono HO284.out (fun _ hk => hk.2)), (by repeat (first | (with_reducible first | exact HB.out | apply below_alloc | apply pw_below_drewN | apply below_drew1) | exact HB.out))⟩)
        · skip
          refine Kd.R_make_step Kd.bool _ 4 (by rfl) (N := 18) rfl 211 _ _ rfl (l0.length : Int) rfl rfl Tryd.underlying211 (.bool false) 1 info4 rfl (by decide) (by omega) false (ok := fun _ => True) (okp := fun _ => True) rfl (fun _ hk => hk) trivial (of_decide_eq_true (by first | (with_reducible assumption) | assumption)) (Nat.le_trans (Nat.mul_le_mul_right _ (of_decide_eq_true (by first | (with_reducible assumption) | assumption) : (l0.length : Int).toNat ≤ 281474976710656)) (by omega)) (Below.refl _ _) (Nat.le_refl _) ?_
          intro v283 w5 ho6 hb hg_ hnew_
          clear hg_ hnew_
          (first | rw [← Ny282.out] at ho6 | (simp only [Int.reduceToNat] at ho6; rw [← Ny282.out] at ho6))
          have n0_ := Aside0.mk (Kd.R_lower ho6 (below_size (by repeat (first | (with_reducible first | exact HB.out | apply below_alloc | apply pw_below_drewN | apply below_drew1) | exact HB.out))))
          have n1_ := Aside0.mk (below_step (by repeat (first | (with_reducible first | exact HB.out | apply below_alloc | apply pw_below_drewN | apply below_drew1) | exact HB.out)) hb)
          clear HB
          have HO284 := n0_
          have HB := n1_
          clear n0_ n1_
          clear hb ho6
          refine hK.out _ _ trivial (fun hHeld => ?_)
          clear hK K
          refine norm_ (a' := ?_) ?_ ?_
          rotate_left
          · show Act.put _ (some 18) _ = _
            simp only [Act.put, List.setIfInBounds_toArray, List.set_cons_zero, List.set_cons_succ, i64_w, i32_w]
            rfl
          refine one_ (i := 1) (N := some 16) #[true, true, true, true, false, false] rfl rfl (by kernel_rfl) (by decide) (fun K hK => ?_)
          refine Kd.R_make_step Kd.bool _ 4 (by rfl) (N := 16) rfl 211 _ _ rfl (l0.length : Int) rfl rfl Tryd.underlying211 (.bool false) 1 info4 rfl (by decide) (by omega) false (ok := fun _ => True) (okp := fun _ => True) rfl (fun _ hk => hk) trivial (of_decide_eq_true (by first | (with_reducible assumption) | assumption)) (Nat.le_trans (Nat.mul_le_mul_right _ (of_decide_eq_true (by first | (with_reducible assumption) | assumption) : (l0.length : Int).toNat ≤ 281474976710656)) (by omega)) (Below.refl _ _) (Nat.le_refl _) ?_
          intro v280 w7 ho8 hb hg_ hnew_
          clear hg_ hnew_
          (first | rw [← Ny279.out] at ho8 | (simp only [Int.reduceToNat] at ho8; rw [← Ny279.out] at ho8))
          have n0_ := Aside0.mk (Kd.R_elder' (by (with_reducible repeat (first | apply Kd.R_alloc | apply Kd.R_drewN | apply Kd.R_drew)); exact HO284.out) (Kd.R_base ho8) hb)
          have n1_ := Aside0.mk (Kd.R_lower (Kd.R_new' ho8 (Kd.R_lt (by (with_reducible repeat (first | apply Kd.R_alloc | apply Kd.R_drewN | apply Kd.R_drew)); exact HO284.out))) (below_size (by repeat (first | (with_reducible first | exact HB.out | apply below_alloc | apply pw_below_drewN | apply below_drew1) | exact HB.out))))
          have n2_ := Aside0.mk (below_step (by repeat (first | (with_reducible first | exact HB.out | apply below_alloc | apply pw_below_drewN | apply below_drew1) | exact HB.out)) hb)
          clear HO284
          clear HB
          have HO284 := n0_
          have HO281 := n1_
          have HB := n2_
          clear n0_ n1_ n2_
          clear hb ho8
          refine hK.out _ _ trivial (fun hHeld => ?_)
          clear hK K
          refine norm_ (a' := ?_) ?_ ?_
          rotate_left
          · show Act.put _ (some 16) _ = _
            simp only [Act.put, List.setIfInBounds_toArray, List.set_cons_zero, List.set_cons_succ, i64_w, i32_w]
            rfl
          refine pure_ (i := 4) (N := some 4) (v := ?_) (a' := ?_) #[true, true, true, true, true, false] rfl rfl (by kernel_rfl) (fun _ _ _ h => h) (Or.inl ⟨by rfl, ?_⟩) ?_ ?_
          rotate_left
          · intro w'
            go_simp
            with_reducible rfl
          rotate_left
          · simp only [Act.put, List.setIfInBounds_toArray, List.set_cons_zero, List.set_cons_succ, i64_w, i32_w]
            rfl
          exact norm_ (by simp only [putAll, Act.put, List.setIfInBounds_toArray, List.set_cons_zero, List.set_cons_succ]) (hCont (v280, v283) _ ⟨(by (with_reducible repeat (first | apply Kd.R_alloc | apply Kd.R_drewN | apply Kd.R_drew)); exact Kd.R_mono HO281.out (fun _ hk => hk.2)), (by (with_reducible repeat (first | apply Kd.R_alloc | apply Kd.R_drewN | apply Kd.R_drew)); exact Kd.R_mono HO284.out (fun _ hk => hk.2)), (by repeat (first | (with_reducible first | exact HB.out | apply below_alloc | apply pw_below_drewN | apply below_drew1) | exact HB.out))⟩)
      rintro ⟨v280, v283⟩ w9 ⟨h0_, h1_, h2_⟩
      have n0_ : Aside0 (Kd.R Kd.bool 4 w9 w.heap.size (fun k_ => some k_ ≠ (v283 : Value).ownBlock) v280 y279) := ⟨h0_⟩
      have n1_ : Aside0 (Kd.R Kd.bool 4 w9 w.heap.size (fun k_ => some k_ ≠ (v280 : Value).ownBlock) v283 y282) := ⟨h1_⟩
      have n2_ : Aside0 (Below w.heap.size w w9) := ⟨h2_⟩
      clear HB
      clear h0_ h1_ h2_
      have HO281 := n0_
      have HO284 := n1_
      have HB := n2_
      clear n0_ n1_ n2_
      have hHeld := trivial
      refine norm_ (a' := ?_) ?_ ?_
      rotate_left
      · simp only [putAll, Act.put, List.setIfInBounds_toArray, List.set_cons_zero, List.set_cons_succ]
        rfl
      refine pure_ (i := 5) (N := some 5) (v := ?_) (a' := ?_) #[true, true, true, true, true, true] rfl rfl (by kernel_rfl) (fun _ _ _ h => h) (Or.inl ⟨by rfl, ?_⟩) ?_ ?_
      rotate_left
      · intro w'
        go_simp
        with_reducible rfl
      rotate_left
      · simp only [Act.put, List.setIfInBounds_toArray, List.set_cons_zero, List.set_cons_succ, i64_w, i32_w]
        rfl
      refine done_ (by kernel_rfl) ?_
      try go_wp2
      go_loopg [6, 21] k (fun kq v6 v21 w' => ∃ (x4_1 : List Bool) (x6_1 : Bool) (x21_1 : Int), v6 = .bool x6_1 ∧ v21 = .int .i64 x21_1 ∧ Aside0 (impl_lower.l0 kq l0 (l0.length : Int) x4_1 y282 x6_1 l0 (l0.length : Int) x21_1 = some r) ∧ Aside0 (kq ≤ k) ∧ Aside0 (Kd.R Kd.bool 4 w' w.heap.size (fun k_ => some k_ ≠ (v283 : Value).ownBlock) v280 x4_1) ∧ Aside0 (Kd.R Kd.bool 4 w' w.heap.size (fun k_ => some k_ ≠ (v280 : Value).ownBlock) v283 y282) ∧ Aside0 (Below w.heap.size w w'))
      case atStart => exact ⟨(y279), (false), (0), (by first | rfl | (simp; done) | (simp [*]; done)), (by first | rfl | (simp; done) | (simp [*]; done)), H', ⟨Nat.le_refl _⟩, ⟨by (with_reducible repeat (first | apply Kd.R_alloc | apply Kd.R_drewN | apply Kd.R_drew)); exact HO281.out⟩, ⟨by (with_reducible repeat (first | apply Kd.R_alloc | apply Kd.R_drewN | apply Kd.R_drew)); exact HO284.out⟩, ⟨by repeat (first | (with_reducible first | exact HB.out | apply below_alloc | apply pw_below_drewN | apply below_drew1) | exact HB.out)⟩⟩
      case round =>
        clear H'
        try clear c2
        try clear c2b0
        try clear c2b1
        try clear p2
        try clear c3
        try clear c3b0
        try clear c3b1
        obtain ⟨x4_1, x6_1, x21_1, rfl, rfl, HA, HK1, HO_4, HO_5, HB⟩ := hrel
        cases gk with
        | zero => exact absurd HA.out (by simp [impl_lower.l0])
        | succ k1 =>
          have H := HA.out
          clear HA
          simp only [impl_lower.l0] at H
          by_cases c10 : x21_1 < (l0.length : Int)
          · rw [if_pos c10] at H
            have c10b0 : decide (x21_1 < (l0.length : Int)) = true := decide_eq_true c10
            clear c10
            by_cases c11 : 0 ≤ x21_1
            · rw [if_pos c11] at H
              have c11b0 : decide (0 ≤ x21_1) = true := decide_eq_true c11
              clear c11
              by_cases c12 : x21_1 < (l0.length : Int)
              · rw [if_pos c12] at H
                have c12b0 : decide (x21_1 < (l0.length : Int)) = true := decide_eq_true c12
                clear c12
                by_cases c13 : x21_1 < (x4_1.length : Int)
                · rw [if_pos c13] at H
                  have c13b0 : decide (x21_1 < (x4_1.length : Int)) = true := decide_eq_true c13
                  clear c13
                  obtain ⟨y286, hy286⟩ : ∃ y_ : List Bool, y_ = (x4_1.set (x21_1 : Int).toNat x6_1) := ⟨_, rfl⟩
                  replace H : ((impl_isMark.f (rd l0 x21_1)).bind fun t287 => (if t287 = true then (impl_lower.l0 k1 l0 (l0.length : Int) y286 y282 x6_1 l0 (l0.length : Int) (wrap64 (x21_1 + 1))) else ((impl_isCased.f (rd l0 x21_1)).bind fun t288 => (impl_lower.l0 k1 l0 (l0.length : Int) y286 y282 t288 l0 (l0.length : Int) (wrap64 (x21_1 + 1)))))) = some r := by first | (rw [hy286]; with_reducible exact H) | (have H2_ := (Option.bind_some _ _).symm.trans H; rw [hy286]; with_reducible exact H2_) | (have H2_ := (Option.bind_some _ _).symm.trans H; with_reducible exact H2_) | with_reducible exact H | (rw [hy286]; exact H) | exact H
                  have Ny286 := Aside0.mk hy286
                  clear hy286
                  replace H := Option.bind_eq_some_iff.mp H
                  obtain ⟨t287, A150, H⟩ := H
                  replace H : (if t287 = true then (impl_lower.l0 k1 l0 (l0.length : Int) y286 y282 x6_1 l0 (l0.length : Int) (wrap64 (x21_1 + 1))) else ((impl_isCased.f (rd l0 x21_1)).bind fun t288 => (impl_lower.l0 k1 l0 (l0.length : Int) y286 y282 t288 l0 (l0.length : Int) (wrap64 (x21_1 + 1))))) = some r := H
                  have A15 := Aside0.mk A150
                  clear A150
                  by_cases c16 : t287 = true
                  · subst c16
                    have H1 : (impl_lower.l0 k1 l0 (l0.length : Int) y286 y282 x6_1 l0 (l0.length : Int) (wrap64 (x21_1 + 1))) = some r := by rw [if_pos rfl] at H; exact H
                    clear H
                    have H := H1
                    clear H1
                    have H' := Aside0.mk H
                    clear H
                    have p285 : 0 ≤ (x21_1 : Int) := of_decide_eq_true (by first | (with_reducible assumption) | assumption)
                    have q285 : x21_1 < (l0.length : Int) := of_decide_eq_true (by first | (with_reducible assumption) | assumption)
                    obtain ⟨ad285, e285, hx285_0⟩ := Kd.at_int HR0.out x21_1 p285 q285
                    cases e285
                    replace hx285_0 := (HB.out.cell (World.block_lt_of_cell? w _ hx285_0)).trans hx285_0
                    replace p285 := eq_true p285
                    replace q285 := eq_true q285
                    have p14 : 0 ≤ (x21_1 : Int) := of_decide_eq_true (by first | (with_reducible assumption) | assumption)
                    have q14 : (x21_1 : Int) < ((x4_1.length : Int) : Int) := of_decide_eq_true (by first | (with_reducible assumption) | assumption)
                    obtain ⟨go14, co14, eo14, gb14, gl14, cl14, HG14⟩ := Kd.R_form HO_4.out (by omega)
                    (first | cases eo14 | (injection eo14 with ea_ en_ ec_; (first | subst ea_ | (injection ea_ with ea_; subst ea_)); subst ec_; clear en_))
                    have GB14 := Aside0.mk gb14
                    have GG14 := Aside0.mk HG14
                    clear gb14 gl14 HG14
                    obtain ⟨hx14_0, hf14_0⟩ := Kd.R_celln false HO_4.out (x21_1 : Int) p14 q14
                    replace p14 := eq_true p14
                    replace q14 := eq_true q14
                    have HP17 := Kd.R_putg HO_4.out (x21_1 : Int) x6_1
                    go_wp2_with (first | ((with_reducible refine gate_store (t := 4) (p := 29) rfl ?_); refine store_event (t := 4) (p := 29) (v := ?vo_w18) (w1 := (wr.setCell ⟨go14, (x21_1 : Int).toNat, none⟩ (.bool x6_1))) ?hg ?ho ?hn ?hr ?_; (case ho => rfl); (case hg => rfl); (case hn => rfl); (case hr => first | (go_simp; done) | (go_simp; rfl)); intro w18 hw; have hg : wr.grownBy w18 (some go14) := (by rw [hw]; exact HP17.2); have hp_ : Kd.R Kd.bool 4 w18 w.heap.size (fun k_ => some k_ ≠ (v283 : Value).ownBlock) (.slice (some ⟨go14, 0, none⟩) x4_1.length co14) y286 := (by rw [hw, Ny286.out]; exact HP17.1); clear HP17; have n0_ := Aside0.mk (hp_); have n1_ := Aside0.mk (Kd.R_after (v := (.slice (some ⟨go14, 0, none⟩) x4_1.length co14)) (v1 := (.slice (some ⟨go14, 0, none⟩) x4_1.length co14)) (ok := (fun _ => True)) (by (with_reducible repeat (first | apply Kd.R_alloc | apply Kd.R_drewN | apply Kd.R_drew)); exact Kd.R_mono HO_5.out (fun _ hk => ⟨trivial, hk⟩)) hg (.inl rfl)); have n2_ := Aside0.mk ((by rw [hw]; exact below_set (HB.out) GB14.out : Below w.heap.size w w18)); clear HO_4; clear HO_5; clear HB; have HO_4 := n0_; have HO_5 := n1_; have HB := n2_; clear n0_ n1_ n2_; clear hg hw hp_) | ((with_reducible refine gate_callee (f := 115) rfl ?_); refine goesL_ (some 31) rfl rfl Tryd.func115 (by kernel_rfl) rfl #[.int .i64 (rd l0 x21_1)] rfl (by (try simp only [List.map_toArray, List.map_cons, List.map_nil]); first | done | rfl | (simp only [List.length_drop, List.length_take]; rfl)) ?_; (with_reducible refine (impl_isMark.calls (rd l0 x21_1) true _ A15.out).mono ?_); rintro e w' ⟨rfl, ⟨nd, rfl⟩⟩; refine ⟨_, rfl, ?_⟩))
                    go_roundg k1
                    case measure => have := HK1.out; omega
                    case rel => exact ⟨(y286), (x6_1), (wrap64 (x21_1 + 1)), (by first | rfl | (simp; done) | (simp [*]; done)), (by first | rfl | (simp; done) | (simp [*]; done)), H', ⟨by have := HK1.out; omega⟩, ⟨by (with_reducible repeat (first | apply Kd.R_alloc | apply Kd.R_drewN | apply Kd.R_drew)); exact HO_4.out⟩, ⟨by (with_reducible repeat (first | apply Kd.R_alloc | apply Kd.R_drewN | apply Kd.R_drew)); exact Kd.R_mono HO_5.out (fun _ hk => hk.2)⟩, ⟨by repeat (first | (with_reducible first | exact HB.out | apply below_alloc | apply pw_below_drewN | apply below_drew1) | exact HB.out)⟩⟩
                  · replace c16 := Bool.eq_false_iff.mpr c16
                    subst c16
                    have H1 : ((impl_isCased.f (rd l0 x21_1)).bind fun t288 => (impl_lower.l0 k1 l0 (l0.length : Int) y286 y282 t288 l0 (l0.length : Int) (wrap64 (x21_1 + 1)))) = some r := by rw [if_neg (show ¬ (false = true) by decide)] at H; exact H
                    clear H
                    have H := H1
                    clear H1
                    replace H := Option.bind_eq_some_iff.mp H
                    obtain ⟨t288, A190, H⟩ := H
                    replace H : (impl_lower.l0 k1 l0 (l0.length : Int) y286 y282 t288 l0 (l0.length : Int) (wrap64 (x21_1 + 1))) = some r := H
                    have A19 := Aside0.mk A190
                    clear A190
                    have H' := Aside0.mk H
                    clear H
                    have p285 : 0 ≤ (x21_1 : Int) := of_decide_eq_true (by first | (with_reducible assumption) | assumption)
                    have q285 : x21_1 < (l0.length : Int) := of_decide_eq_true (by first | (with_reducible assumption) | assumption)
                    obtain ⟨ad285, e285, hx285_0⟩ := Kd.at_int HR0.out x21_1 p285 q285
                    cases e285
                    replace hx285_0 := (HB.out.cell (World.block_lt_of_cell? w _ hx285_0)).trans hx285_0
                    replace p285 := eq_true p285
                    replace q285 := eq_true q285
                    have p14 : 0 ≤ (x21_1 : Int) := of_decide_eq_true (by first | (with_reducible assumption) | assumption)
                    have q14 : (x21_1 : Int) < ((x4_1.length : Int) : Int) := of_decide_eq_true (by first | (with_reducible assumption) | assumption)
                    obtain ⟨go14, co14, eo14, gb14, gl14, cl14, HG14⟩ := Kd.R_form HO_4.out (by omega)
                    (first | cases eo14 | (injection eo14 with ea_ en_ ec_; (first | subst ea_ | (injection ea_ with ea_; subst ea_)); subst ec_; clear en_))
                    have GB14 := Aside0.mk gb14
                    have GG14 := Aside0.mk HG14
                    clear gb14 gl14 HG14
                    obtain ⟨hx14_0, hf14_0⟩ := Kd.R_celln false HO_4.out (x21_1 : Int) p14 q14
                    replace p14 := eq_true p14
                    replace q14 := eq_true q14
                    have HP20 := Kd.R_putg HO_4.out (x21_1 : Int) x6_1
                    go_wp2_with (first | ((with_reducible refine gate_store (t := 4) (p := 29) rfl ?_); refine store_event (t := 4) (p := 29) (v := ?vo_w21) (w1 := (wr.setCell ⟨go14, (x21_1 : Int).toNat, none⟩ (.bool x6_1))) ?hg ?ho ?hn ?hr ?_; (case ho => rfl); (case hg => rfl); (case hn => rfl); (case hr => first | (go_simp; done) | (go_simp; rfl)); intro w21 hw; have hg : wr.grownBy w21 (some go14) := (by rw [hw]; exact HP20.2); have hp_ : Kd.R Kd.bool 4 w21 w.heap.size (fun k_ => some k_ ≠ (v283 : Value).ownBlock) (.slice (some ⟨go14, 0, none⟩) x4_1.length co14) y286 := (by rw [hw, Ny286.out]; exact HP20.1); clear HP20; have n0_ := Aside0.mk (hp_); have n1_ := Aside0.mk (Kd.R_after (v := (.slice (some ⟨go14, 0, none⟩) x4_1.length co14)) (v1 := (.slice (some ⟨go14, 0, none⟩) x4_1.length co14)) (ok := (fun _ => True)) (by (with_reducible repeat (first | apply Kd.R_alloc | apply Kd.R_drewN | apply Kd.R_drew)); exact Kd.R_mono HO_5.out (fun _ hk => ⟨trivial, hk⟩)) hg (.inl rfl)); have n2_ := Aside0.mk ((by rw [hw]; exact below_set (HB.out) GB14.out : Below w.heap.size w w21)); clear HO_4; clear HO_5; clear HB; have HO_4 := n0_; have HO_5 := n1_; have HB := n2_; clear n0_ n1_ n2_; clear hg hw hp_) | ((with_reducible refine gate_callee (f := 115) rfl ?_); refine goesL_ (some 31) rfl rfl Tryd.func115 (by kernel_rfl) rfl #[.int .i64 (rd l0 x21_1)] rfl (by (try simp only [List.map_toArray, List.map_cons, List.map_nil]); first | done | rfl | (simp only [List.length_drop, List.length_take]; rfl)) ?_; (with_reducible refine (impl_isMark.calls (rd l0 x21_1) false _ A15.out).mono ?_); rintro e w' ⟨rfl, ⟨nd, rfl⟩⟩; refine ⟨_, rfl, ?_⟩) | ((with_reducible refine gate_callee (f := 206) rfl ?_); refine goesL_ (some 34) rfl rfl Tryd.func206 (by kernel_rfl) rfl #[.int .i64 (rd l0 x21_1)] rfl (by (try simp only [List.map_toArray, List.map_cons, List.map_nil]); first | done | rfl | (simp only [List.length_drop, List.length_take]; rfl)) ?_; (with_reducible refine (impl_isCased.calls (rd l0 x21_1) t288 _ A19.out).mono ?_); rintro e w' ⟨rfl, ⟨nd, rfl⟩⟩; refine ⟨_, rfl, ?_⟩))
                    go_roundg k1
                    case measure => have := HK1.out; omega
                    case rel => exact ⟨(y286), (t288), (wrap64 (x21_1 + 1)), (by first | rfl | (simp; done) | (simp [*]; done)), (by first | rfl | (simp; done) | (simp [*]; done)), H', ⟨by have := HK1.out; omega⟩, ⟨by (with_reducible repeat (first | apply Kd.R_alloc | apply Kd.R_drewN | apply Kd.R_drew)); exact HO_4.out⟩, ⟨by (with_reducible repeat (first | apply Kd.R_alloc | apply Kd.R_drewN | apply Kd.R_drew)); exact Kd.R_mono HO_5.out (fun _ hk => hk.2)⟩, ⟨by repeat (first | (with_reducible first | exact HB.out | apply below_alloc | apply pw_below_drewN | apply below_drew1) | exact HB.out)⟩⟩
                · rw [if_neg c13] at H
                  exact absurd H (by simp)
              · rw [if_neg c12] at H
                exact absurd H (by simp)
            · rw [if_neg c11] at H
              exact absurd H (by simp)
          · rw [if_neg c10] at H
            have c10b0 : decide (x21_1 < (l0.length : Int)) = false := decide_eq_false c10
            clear c10
            have H' := Aside0.mk H
            clear H
            go_wp2
            go_loopg [6, 9] k1 (fun kq v6 v9 w' => ∃ (x5_2 : List Bool) (x6_2 : Bool) (x9_2 : Int), v6 = .bool x6_2 ∧ v9 = .int .i64 x9_2 ∧ Aside0 (impl_lower.l1 kq l0 (l0.length : Int) x4_1 x5_2 x6_2 x9_2 = some r) ∧ Aside0 (kq ≤ k1) ∧ Aside0 (Kd.R Kd.bool 4 w' w.heap.size (fun k_ => some k_ ≠ (v283 : Value).ownBlock) v280 x4_1) ∧ Aside0 (Kd.R Kd.bool 4 w' w.heap.size (fun k_ => some k_ ≠ (v280 : Value).ownBlock) v283 x5_2) ∧ Aside0 (Below w.heap.size w w'))
            case atStart => exact ⟨(y282), (false), (wrap64 ((l0.length : Int) - 1)), (by first | rfl | (simp; done) | (simp [*]; done)), (by first | rfl | (simp; done) | (simp [*]; done)), H', ⟨Nat.le_refl _⟩, ⟨by (with_reducible repeat (first | apply Kd.R_alloc | apply Kd.R_drewN | apply Kd.R_drew)); exact HO_4.out⟩, ⟨by (with_reducible repeat (first | apply Kd.R_alloc | apply Kd.R_drewN | apply Kd.R_drew)); exact HO_5.out⟩, ⟨by repeat (first | (with_reducible first | exact HB.out | apply below_alloc | apply pw_below_drewN | apply below_drew1) | exact HB.out)⟩⟩
            case round =>
              clear H'
              try clear c1
              try clear p1
              try clear q1
              try clear hx1
              try clear hf1
              try clear c2
              try clear c2b0
              try clear c2b1
              try clear p2
              try clear q2
              try clear hx2
              try clear c3
              try clear c3b0
              try clear c3b1
              try clear p6
              try clear c10
              try clear c10b0
              try clear c11
              try clear c11b0
              try clear c12
              try clear c12b0
              try clear c13
              try clear c13b0
              try clear p14
              try clear q14
              try clear hx14
              try clear hf14
              try clear c16
              try clear c20
              try clear hx14_0
              try clear hx285_0
              try clear p14
              try clear p2
              try clear p285
              try clear q14
              try clear q285
              obtain ⟨x5_2, x6_2, x9_2, rfl, rfl, HA, HK2, HO_4, HO_5, HB⟩ := hrel
              cases gk with
              | zero => exact absurd HA.out (by simp [impl_lower.l1])
              | succ k2 =>
                have H := HA.out
                clear HA
                simp only [impl_lower.l1] at H
                by_cases c22 : x9_2 ≥ 0
                · rw [if_pos c22] at H
                  have c22b0 : decide (0 ≤ x9_2) = true := decide_eq_true c22
                  clear c22
                  by_cases c23 : 0 ≤ x9_2
                  · rw [if_pos c23] at H
                    have c23b0 : decide (0 ≤ x9_2) = true := decide_eq_true c23
                    clear c23
                    by_cases c24 : x9_2 < (x5_2.length : Int)
                    · rw [if_pos c24] at H
                      have c24b0 : decide (x9_2 < (x5_2.length : Int)) = true := decide_eq_true c24
                      clear c24
                      obtain ⟨y289, hy289⟩ : ∃ y_ : List Bool, y_ = (x5_2.set (x9_2 : Int).toNat x6_2) := ⟨_, rfl⟩
                      replace H : (if x9_2 < (l0.length : Int) then ((impl_isMark.f (rd l0 x9_2)).bind fun t291 => (if t291 = true then (impl_lower.l1 k2 l0 (l0.length : Int) x4_1 y289 x6_2 (wrap64 (x9_2 - 1))) else ((impl_isCased.f (rd l0 x9_2)).bind fun t293 => (impl_lower.l1 k2 l0 (l0.length : Int) x4_1 y289 t293 (wrap64 (x9_2 - 1)))))) else (none)) = some r := by first | (rw [hy289]; with_reducible exact H) | (have H2_ := (Option.bind_some _ _).symm.trans H; rw [hy289]; with_reducible exact H2_) | (have H2_ := (Option.bind_some _ _).symm.trans H; with_reducible exact H2_) | with_reducible exact H | (rw [hy289]; exact H) | exact H
                      have Ny289 := Aside0.mk hy289
                      clear hy289
                      by_cases c26 : x9_2 < (l0.length : Int)
                      · rw [if_pos c26] at H
                        have c26b0 : decide (x9_2 < (l0.length : Int)) = true := decide_eq_true c26
                        clear c26
                        replace H := Option.bind_eq_some_iff.mp H
                        obtain ⟨t291, A270, H⟩ := H
                        replace H : (if t291 = true then (impl_lower.l1 k2 l0 (l0.length : Int) x4_1 y289 x6_2 (wrap64 (x9_2 - 1))) else ((impl_isCased.f (rd l0 x9_2)).bind fun t293 => (impl_lower.l1 k2 l0 (l0.length : Int) x4_1 y289 t293 (wrap64 (x9_2 - 1))))) = some r := H
                        have A27 := Aside0.mk A270
                        clear A270
                        by_cases c28 : t291 = true
                        · subst c28
                          have H1 : (impl_lower.l1 k2 l0 (l0.length : Int) x4_1 y289 x6_2 (wrap64 (x9_2 - 1))) = some r := by rw [if_pos rfl] at H; exact H
                          clear H
                          have H := H1
                          clear H1
                          have H' := Aside0.mk H
                          clear H
                          have p25 : 0 ≤ (x9_2 : Int) := of_decide_eq_true (by first | (with_reducible assumption) | assumption)
                          have q25 : (x9_2 : Int) < ((x5_2.length : Int) : Int) := of_decide_eq_true (by first | (with_reducible assumption) | assumption)
                          obtain ⟨go25, co25, eo25, gb25, gl25, cl25, HG25⟩ := Kd.R_form HO_5.out (by omega)
                          (first | cases eo25 | (injection eo25 with ea_ en_ ec_; (first | subst ea_ | (injection ea_ with ea_; subst ea_)); subst ec_; clear en_))
                          have GB25 := Aside0.mk gb25
                          have GG25 := Aside0.mk HG25
                          clear gb25 gl25 HG25
                          obtain ⟨hx25_0, hf25_0⟩ := Kd.R_celln false HO_5.out (x9_2 : Int) p25 q25
                          replace p25 := eq_true p25
                          replace q25 := eq_true q25
                          have HP29 := Kd.R_putg HO_5.out (x9_2 : Int) x6_2
                          go_wp2_with (first | ((with_reducible refine gate_store (t := 4) (p := 45) rfl ?_); refine store_event (t := 4) (p := 45) (v := ?vo_w30) (w1 := (wr.setCell ⟨go25, (x9_2 : Int).toNat, none⟩ (.bool x6_2))) ?hg ?ho ?hn ?hr ?_; (case ho => rfl); (case hg => rfl); (case hn => rfl); (case hr => first | (go_simp; done) | (go_simp; rfl)); intro w30 hw; have hg : wr.grownBy w30 (some go25) := (by rw [hw]; exact HP29.2); have hp_ : Kd.R Kd.bool 4 w30 w.heap.size (fun k_ => some k_ ≠ (v280 : Value).ownBlock) (.slice (some ⟨go25, 0, none⟩) x5_2.length co25) y289 := (by rw [hw, Ny289.out]; exact HP29.1); clear HP29; have n0_ := Aside0.mk (Kd.R_after (v := (.slice (some ⟨go25, 0, none⟩) x5_2.length co25)) (v1 := (.slice (some ⟨go25, 0, none⟩) x5_2.length co25)) (ok := (fun _ => True)) (by (with_reducible repeat (first | apply Kd.R_alloc | apply Kd.R_drewN | apply Kd.R_drew)); exact Kd.R_mono HO_4.out (fun _ hk => ⟨trivial, hk⟩)) hg (.inl rfl)); have n1_ := Aside0.mk (hp_); have n2_ := Aside0.mk ((by rw [hw]; exact below_set (HB.out) GB25.out : Below w.heap.size w w30)); clear HO_4; clear HO_5; clear HB; have HO_4 := n0_; have HO_5 := n1_; have HB := n2_; clear n0_ n1_ n2_; clear hg hw hp_; have p290 : 0 ≤ (x9_2 : Int) := of_decide_eq_true (by first | (with_reducible assumption) | assumption); have q290 : x9_2 < (l0.length : Int) := of_decide_eq_true (by first | (with_reducible assumption) | assumption); obtain ⟨ad290, e290, hx290_0⟩ := Kd.at_int HR0.out x9_2 p290 q290; cases e290; replace hx290_0 := (HB.out.cell (World.block_lt_of_cell? w _ hx290_0)).trans hx290_0; replace p290 := eq_true p290; replace q290 := eq_true q290) | ((with_reducible refine gate_callee (f := 115) rfl ?_); refine goesL_ (some 50) rfl rfl Tryd.func115 (by kernel_rfl) rfl #[.int .i64 (rd l0 x9_2)] rfl (by (try simp only [List.map_toArray, List.map_cons, List.map_nil]); first | done | rfl | (simp only [List.length_drop, List.length_take]; rfl)) ?_; (with_reducible refine (impl_isMark.calls (rd l0 x9_2) true _ A27.out).mono ?_); rintro e w' ⟨rfl, ⟨nd, rfl⟩⟩; refine ⟨_, rfl, ?_⟩))
                          go_roundg k2
                          case measure => have := HK1.out; have := HK2.out; omega
                          case rel => exact ⟨(y289), (x6_2), (wrap64 (x9_2 - 1)), (by first | rfl | (simp; done) | (simp [*]; done)), (by first | rfl | (simp; done) | (simp [*]; done)), H', ⟨by have := HK1.out; have := HK2.out; omega⟩, ⟨by (with_reducible repeat (first | apply Kd.R_alloc | apply Kd.R_drewN | apply Kd.R_drew)); exact Kd.R_mono HO_4.out (fun _ hk => hk.2)⟩, ⟨by (with_reducible repeat (first | apply Kd.R_alloc | apply Kd.R_drewN | apply Kd.R_drew)); exact HO_5.out⟩, ⟨by repeat (first | (with_reducible first | exact HB.out | apply below_alloc | apply pw_below_drewN | apply below_drew1) | exact HB.out)⟩⟩
                        · replace c28 := Bool.eq_false_iff.mpr c28
                          subst c28
                          have H1 : ((impl_isCased.f (rd l0 x9_2)).bind fun t293 => (impl_lower.l1 k2 l0 (l0.length : Int) x4_1 y289 t293 (wrap64 (x9_2 - 1)))) = some r := by rw [if_neg (show ¬ (false = true) by decide)] at H; exact H
                          clear H
                          have H := H1
                          clear H1
                          replace H := Option.bind_eq_some_iff.mp H
                          obtain ⟨t293, A310, H⟩ := H
                          replace H : (impl_lower.l1 k2 l0 (l0.length : Int) x4_1 y289 t293 (wrap64 (x9_2 - 1))) = some r := H
                          have A31 := Aside0.mk A310
                          clear A310
                          have H' := Aside0.mk H
                          clear H
                          have p25 : 0 ≤ (x9_2 : Int) := of_decide_eq_true (by first | (with_reducible assumption) | assumption)
                          have q25 : (x9_2 : Int) < ((x5_2.length : Int) : Int) := of_decide_eq_true (by first | (with_reducible assumption) | assumption)
                          obtain ⟨go25, co25, eo25, gb25, gl25, cl25, HG25⟩ := Kd.R_form HO_5.out (by omega)
                          (first | cases eo25 | (injection eo25 with ea_ en_ ec_; (first | subst ea_ | (injection ea_ with ea_; subst ea_)); subst ec_; clear en_))
                          have GB25 := Aside0.mk gb25
                          have GG25 := Aside0.mk HG25
                          clear gb25 gl25 HG25
                          obtain ⟨hx25_0, hf25_0⟩ := Kd.R_celln false HO_5.out (x9_2 : Int) p25 q25
                          replace p25 := eq_true p25
                          replace q25 := eq_true q25
                          have HP32 := Kd.R_putg HO_5.out (x9_2 : Int) x6_2
                          go_wp2_with (first | ((with_reducible refine gate_store (t := 4) (p := 45) rfl ?_); refine store_event (t := 4) (p := 45) (v := ?vo_w33) (w1 := (wr.setCell ⟨go25, (x9_2 : Int).toNat, none⟩ (.bool x6_2))) ?hg ?ho ?hn ?hr ?_; (case ho => rfl); (case hg => rfl); (case hn => rfl); (case hr => first | (go_simp; done) | (go_simp; rfl)); intro w33 hw; have hg : wr.grownBy w33 (some go25) := (by rw [hw]; exact HP32.2); have hp_ : Kd.R Kd.bool 4 w33 w.heap.size (fun k_ => some k_ ≠ (v280 : Value).ownBlock) (.slice (some ⟨go25, 0, none⟩) x5_2.length co25) y289 := (by rw [hw, Ny289.out]; exact HP32.1); clear HP32; have n0_ := Aside0.mk (Kd.R_after (v := (.slice (some ⟨go25, 0, none⟩) x5_2.length co25)) (v1 := (.slice (some ⟨go25, 0, none⟩) x5_2.length co25)) (ok := (fun _ => True)) (by (with_reducible repeat (first | apply Kd.R_alloc | apply Kd.R_drewN | apply Kd.R_drew)); exact Kd.R_mono HO_4.out (fun _ hk => ⟨trivial, hk⟩)) hg (.inl rfl)); have n1_ := Aside0.mk (hp_); have n2_ := Aside0.mk ((by rw [hw]; exact below_set (HB.out) GB25.out : Below w.heap.size w w33)); clear HO_4; clear HO_5; clear HB; have HO_4 := n0_; have HO_5 := n1_; have HB := n2_; clear n0_ n1_ n2_; clear hg hw hp_; have p290 : 0 ≤ (x9_2 : Int) := of_decide_eq_true (by first | (with_reducible assumption) | assumption); have q290 : x9_2 < (l0.length : Int) := of_decide_eq_true (by first | (with_reducible assumption) | assumption); obtain ⟨ad290, e290, hx290_0⟩ := Kd.at_int HR0.out x9_2 p290 q290; cases e290; replace hx290_0 := (HB.out.cell (World.block_lt_of_cell? w _ hx290_0)).trans hx290_0; replace p290 := eq_true p290; replace q290 := eq_true q290) | ((with_reducible refine gate_callee (f := 115) rfl ?_); refine goesL_ (some 50) rfl rfl Tryd.func115 (by kernel_rfl) rfl #[.int .i64 (rd l0 x9_2)] rfl (by (try simp only [List.map_toArray, List.map_cons, List.map_nil]); first | done | rfl | (simp only [List.length_drop, List.length_take]; rfl)) ?_; (with_reducible refine (impl_isMark.calls (rd l0 x9_2) false _ A27.out).mono ?_); rintro e w' ⟨rfl, ⟨nd, rfl⟩⟩; refine ⟨_, rfl, ?_⟩; have p292 : 0 ≤ (x9_2 : Int) := of_decide_eq_true (by first | (with_reducible assumption) | assumption); have q292 : x9_2 < (l0.length : Int) := of_decide_eq_true (by first | (with_reducible assumption) | assumption); obtain ⟨ad292, e292, hx292_0⟩ := Kd.at_int HR0.out x9_2 p292 q292; obtain rfl : ad290 = ad292 := (by injection e292); replace hx292_0 := (HB.out.cell (World.block_lt_of_cell? w _ hx292_0)).trans hx292_0; replace p292 := eq_true p292; replace q292 := eq_true q292) | ((with_reducible refine gate_callee (f := 206) rfl ?_); refine goesL_ (some 56) rfl rfl Tryd.func206 (by kernel_rfl) rfl #[.int .i64 (rd l0 x9_2)] rfl (by (try simp only [List.map_toArray, List.map_cons, List.map_nil]); first | done | rfl | (simp only [List.length_drop, List.length_take]; rfl)) ?_; (with_reducible refine (impl_isCased.calls (rd l0 x9_2) t293 _ A31.out).mono ?_); rintro e w' ⟨rfl, ⟨nd, rfl⟩⟩; refine ⟨_, rfl, ?_⟩))
                          go_roundg k2
                          case measure => have := HK1.out; have := HK2.out; omega
                          case rel => exact ⟨(y289), (t293), (wrap64 (x9_2 - 1)), (by first | rfl | (simp; done) | (simp [*]; done)), (by first | rfl | (simp; done) | (simp [*]; done)), H', ⟨by have := HK1.out; have := HK2.out; omega⟩, ⟨by (with_reducible repeat (first | apply Kd.R_alloc | apply Kd.R_drewN | apply Kd.R_drew)); exact Kd.R_mono HO_4.out (fun _ hk => hk.2)⟩, ⟨by (with_reducible repeat (first | apply Kd.R_alloc | apply Kd.R_drewN | apply Kd.R_drew)); exact HO_5.out⟩, ⟨by repeat (first | (with_reducible first | exact HB.out | apply below_alloc | apply pw_below_drewN | apply below_drew1) | exact HB.out)⟩⟩
                      · rw [if_neg c26] at H
                        exact absurd H (by simp)
                    · rw [if_neg c24] at H
                      exact absurd H (by simp)
                  · rw [if_neg c23] at H
                    exact absurd H (by simp)
                · rw [if_neg c22] at H
                  have c22b0 : decide (0 ≤ x9_2) = false := decide_eq_false c22
                  clear c22
                  by_cases c34 : 0 ≤ (l0.length : Int)
                  · rw [if_pos c34] at H
                    have c34b0 := eq_true c34
                    have c34b1 : decide (0 ≤ (l0.length : Int)) = true := decide_eq_true c34
                    clear c34
                    by_cases c35 : ((l0.length : Int) : Int).toNat ≤ 35184372088832
                    · rw [if_pos c35] at H
                      have c35b0 := eq_true c35
                      have c35b1 : decide (((l0.length : Int) : Int).toNat ≤ 35184372088832) = true := decide_eq_true c35
                      clear c35
                      obtain ⟨y294, hy294⟩ : ∃ y_ : List Int, y_ = (List.replicate ((l0.length : Int) : Int).toNat 0) := ⟨_, rfl⟩
                      replace H : (impl_lower.l2 k2 x4_1 x5_2 y294 l0 (l0.length : Int) 0) = some r := by first | (rw [hy294]; with_reducible exact H) | (have H2_ := (Option.bind_some _ _).symm.trans H; rw [hy294]; with_reducible exact H2_) | (have H2_ := (Option.bind_some _ _).symm.trans H; with_reducible exact H2_) | with_reducible exact H | (rw [hy294]; exact H) | exact H
                      have Ny294 := Aside0.mk hy294
                      clear hy294
                      have H' := Aside0.mk H
                      clear H
                      go_wp2_with (first | ((with_reducible refine gate_dst (N := 58) rfl ?_); refine Kd.R_make (Kd.int .i64) _ 2 rfl (N := 58) rfl 25 _ _ rfl (l0.length : Int) rfl rfl Tryd.underlying25 (.int .i64 0) 8 info2 rfl (by decide) (by omega) 0 (ok := fun _ => True) (okp := fun _ => True) rfl (fun _ hk => hk) trivial (of_decide_eq_true (by first | (with_reducible assumption) | assumption)) (Nat.le_trans (Nat.mul_le_mul_right _ (of_decide_eq_true (by first | (with_reducible assumption) | assumption) : (l0.length : Int).toNat ≤ 35184372088832)) (by omega)) (Below.refl _ _) (Nat.le_refl _) ?_; intro v295 w36 ho37 hb hg_ hnew_; clear hg_ hnew_; (first | rw [← Ny294.out] at ho37 | (simp only [Int.reduceToNat] at ho37; rw [← Ny294.out] at ho37)); have n0_ := Aside0.mk (Kd.R_below (by (with_reducible repeat (first | apply Kd.R_alloc | apply Kd.R_drewN | apply Kd.R_drew)); exact HO_4.out) hb); have n1_ := Aside0.mk (Kd.R_below (by (with_reducible repeat (first | apply Kd.R_alloc | apply Kd.R_drewN | apply Kd.R_drew)); exact HO_5.out) hb); have n2_ := Aside0.mk (Kd.R_lower ho37 (below_size (by repeat (first | (with_reducible first | exact HB.out | apply below_alloc | apply pw_below_drewN | apply below_drew1) | exact HB.out)))); have n3_ := Aside0.mk (below_step (by repeat (first | (with_reducible first | exact HB.out | apply below_alloc | apply pw_below_drewN | apply below_drew1) | exact HB.out)) hb); clear HO_4; clear HO_5; clear HB; have HO_4 := n0_; have HO_5 := n1_; have HO296 := n2_; have HB := n3_; clear n0_ n1_ n2_ n3_; clear hb ho37))
                      go_loopg [61] k2 (fun kq v61 w' => ∃ (x10_3 : List Int) (x61_3 : Int), v61 = .int .i64 x61_3 ∧ Aside0 (impl_lower.l2 kq x4_1 x5_2 x10_3 l0 (l0.length : Int) x61_3 = some r) ∧ Aside0 (kq ≤ k2) ∧ Aside0 (Kd.R Kd.bool 4 w' w.heap.size (fun k_ => some k_ ≠ (v283 : Value).ownBlock) v280 x4_1) ∧ Aside0 (Kd.R Kd.bool 4 w' w.heap.size (fun k_ => some k_ ≠ (v280 : Value).ownBlock) v283 x5_2) ∧ Aside0 (Kd.R (Kd.int .i64) 2 w' w.heap.size (fun _ => True) v295 x10_3) ∧ Aside0 (Below w.heap.size w w'))
                      case atStart => exact ⟨(y294), (0), (by first | rfl | (simp; done) | (simp [*]; done)), H', ⟨Nat.le_refl _⟩, ⟨by (with_reducible repeat (first | apply Kd.R_alloc | apply Kd.R_drewN | apply Kd.R_drew)); exact HO_4.out⟩, ⟨by (with_reducible repeat (first | apply Kd.R_alloc | apply Kd.R_drewN | apply Kd.R_drew)); exact HO_5.out⟩, ⟨by (with_reducible repeat (first | apply Kd.R_alloc | apply Kd.R_drewN | apply Kd.R_drew)); exact HO296.out⟩, ⟨by repeat (first | (with_reducible first | exact HB.out | apply below_alloc | apply pw_below_drewN | apply below_drew1) | exact HB.out)⟩⟩
                      case round =>
                        clear H'
                        try clear c1
                        try clear p1
                        try clear q1
                        try clear hx1
                        try clear hf1
                        try clear c2
                        try clear c2b0
                        try clear c2b1
                        try clear p2
                        try clear q2
                        try clear hx2
                        try clear hf2
                        try clear c3
                        try clear c3b0
                        try clear c3b1
                        try clear p6
                        try clear c10
                        try clear c10b0
                        try clear c11
                        try clear c11b0
                        try clear c12
                        try clear c12b0
                        try clear c13
                        try clear c13b0
                        try clear p14
                        try clear q14
                        try clear hx14
                        try clear hf14
                        try clear c16
                        try clear c20
                        try clear c22
                        try clear c22b0
                        try clear c23
                        try clear c23b0
                        try clear c24
                        try clear c24b0
                        try clear p25
                        try clear q25
                        try clear hx25
                        try clear hf25
                        try clear c26
                        try clear c26b0
                        try clear c28
                        try clear p28
                        try clear q28
                        try clear hx28
                        try clear p29
                        try clear q29
                        try clear hx29
                        try clear c34
                        try clear c34b0
                        try clear c34b1
                        try clear c35
                        try clear c35b0
                        try clear c35b1
                        try clear hx14_0
                        try clear hx25_0
                        try clear hx285_0
                        try clear hx290_0
                        try clear hx292_0
                        try clear p1
                        try clear p14
                        try clear p2
                        try clear p25
                        try clear p285
                        try clear p290
                        try clear p292
                        try clear p6
                        try clear q1
                        try clear q14
                        try clear q2
                        try clear q25
                        try clear q285
                        try clear q290
                        try clear q292
                        obtain ⟨x10_3, x61_3, rfl, HA, HK3, HO_4, HO_5, HO_10, HB⟩ := hrel
                        cases gk with
                        | zero => exact absurd HA.out (by simp [impl_lower.l2])
                        | succ k3 =>
                          have H := HA.out
                          clear HA
                          simp only [impl_lower.l2] at H
                          by_cases c38 : x61_3 < (l0.length : Int)
                          · rw [if_pos c38] at H
                            have c38b0 : decide (x61_3 < (l0.length : Int)) = true := decide_eq_true c38
                            clear c38
                            by_cases c39 : 0 ≤ x61_3
                            · rw [if_pos c39] at H
                              have c39b0 : decide (0 ≤ x61_3) = true := decide_eq_true c39
                              clear c39
                              by_cases c40 : x61_3 < (l0.length : Int)
                              · rw [if_pos c40] at H
                                have c40b0 : decide (x61_3 < (l0.length : Int)) = true := decide_eq_true c40
                                clear c40
                                replace H := Option.bind_eq_some_iff.mp H
                                obtain ⟨t298, A410, H⟩ := H
                                replace H : (if x61_3 < (x10_3.length : Int) then ((some (x10_3.set (x61_3 : Int).toNat t298 : List Int)).bind fun y299 => ((impl_within.f (rd l0 x61_3) 18).bind fun t300 => (if t300 = true then (if x61_3 < (x4_1.length : Int) then (if rdOf false x4_1 x61_3 = true then (if x61_3 < (x5_2.length : Int) then (if rdOf false x5_2 x61_3 = true then (impl_lower.l2 k3 x4_1 x5_2 y299 l0 (l0.length : Int) (wrap64 (x61_3 + 1))) else (impl_lower.l2 k3 x4_1 x5_2 (y299.set (x61_3 : Int).toNat (wrap64 ((wrap64 ((rd l0 x61_3) - 18)) + 97))) l0 (l0.length : Int) (wrap64 (x61_3 + 1)))) else (none)) else (impl_lower.l2 k3 x4_1 x5_2 y299 l0 (l0.length : Int) (wrap64 (x61_3 + 1)))) else (none)) else (impl_lower.l2 k3 x4_1 x5_2 y299 l0 (l0.length : Int) (wrap64 (x61_3 + 1)))))) else (none)) = some r := H
                                have A41 := Aside0.mk A410
                                clear A410
                                by_cases c42 : x61_3 < (x10_3.length : Int)
                                · rw [if_pos c42] at H
                                  have c42b0 : decide (x61_3 < (x10_3.length : Int)) = true := decide_eq_true c42
                                  clear c42
                                  obtain ⟨y299, hy299⟩ : ∃ y_ : List Int, y_ = (x10_3.set (x61_3 : Int).toNat t298) := ⟨_, rfl⟩
                                  replace H : ((impl_within.f (rd l0 x61_3) 18).bind fun t300 => (if t300 = true then (if x61_3 < (x4_1.length : Int) then (if rdOf false x4_1 x61_3 = true then (if x61_3 < (x5_2.length : Int) then (if rdOf false x5_2 x61_3 = true then (impl_lower.l2 k3 x4_1 x5_2 y299 l0 (l0.length : Int) (wrap64 (x61_3 + 1))) else (impl_lower.l2 k3 x4_1 x5_2 (y299.set (x61_3 : Int).toNat (wrap64 ((wrap64 ((rd l0 x61_3) - 18)) + 97))) l0 (l0.length : Int) (wrap64 (x61_3 + 1)))) else (none)) else (impl_lower.l2 k3 x4_1 x5_2 y299 l0 (l0.length : Int) (wrap64 (x61_3 + 1)))) else (none)) else (impl_lower.l2 k3 x4_1 x5_2 y299 l0 (l0.length : Int) (wrap64 (x61_3 + 1))))) = some r := by first | (rw [hy299]; with_reducible exact H) | (have H2_ := (Option.bind_some _ _).symm.trans H; rw [hy299]; with_reducible exact H2_) | (have H2_ := (Option.bind_some _ _).symm.trans H; with_reducible exact H2_) | with_reducible exact H | (rw [hy299]; exact H) | exact H
                                  have Ny299 := Aside0.mk hy299
                                  clear hy299
                                  replace H := Option.bind_eq_some_iff.mp H
                                  obtain ⟨t300, A440, H⟩ := H
                                  replace H : (if t300 = true then (if x61_3 < (x4_1.length : Int) then (if rdOf false x4_1 x61_3 = true then (if x61_3 < (x5_2.length : Int) then (if rdOf false x5_2 x61_3 = true then (impl_lower.l2 k3 x4_1 x5_2 y299 l0 (l0.length : Int) (wrap64 (x61_3 + 1))) else (impl_lower.l2 k3 x4_1 x5_2 (y299.set (x61_3 : Int).toNat (wrap64 ((wrap64 ((rd l0 x61_3) - 18)) + 97))) l0 (l0.length : Int) (wrap64 (x61_3 + 1)))) else (none)) else (impl_lower.l2 k3 x4_1 x5_2 y299 l0 (l0.length : Int) (wrap64 (x61_3 + 1)))) else (none)) else (impl_lower.l2 k3 x4_1 x5_2 y299 l0 (l0.length : Int) (wrap64 (x61_3 + 1)))) = some r := H
                                  have A44 := Aside0.mk A440
                                  clear A440
                                  by_cases c45 : t300 = true
                                  · subst c45
                                    have H1 : (if x61_3 < (x4_1.length : Int) then (if rdOf false x4_1 x61_3 = true then (if x61_3 < (x5_2.length : Int) then (if rdOf false x5_2 x61_3 = true then (impl_lower.l2 k3 x4_1 x5_2 y299 l0 (l0.length : Int) (wrap64 (x61_3 + 1))) else (impl_lower.l2 k3 x4_1 x5_2 (y299.set (x61_3 : Int).toNat (wrap64 ((wrap64 ((rd l0 x61_3) - 18)) + 97))) l0 (l0.length : Int) (wrap64 (x61_3 + 1)))) else (none)) else (impl_lower.l2 k3 x4_1 x5_2 y299 l0 (l0.length : Int) (wrap64 (x61_3 + 1)))) else (none)) = some r := by rw [if_pos rfl] at H; exact H
                                    clear H
                                    have H := H1
                                    clear H1
                                    by_cases c46 : x61_3 < (x4_1.length : Int)
                                    · rw [if_pos c46] at H
                                      have c46b0 : decide (x61_3 < (x4_1.length : Int)) = true := decide_eq_true c46
                                      clear c46
                                      obtain ⟨bq47, hbq47⟩ : ∃ b_ : Bool, b_ = (rdOf false x4_1 x61_3) := ⟨_, rfl⟩
                                      replace H : (if bq47 = true then (if x61_3 < (x5_2.length : Int) then (if rdOf false x5_2 x61_3 = true then (impl_lower.l2 k3 x4_1 x5_2 y299 l0 (l0.length : Int) (wrap64 (x61_3 + 1))) else (impl_lower.l2 k3 x4_1 x5_2 (y299.set (x61_3 : Int).toNat (wrap64 ((wrap64 ((rd l0 x61_3) - 18)) + 97))) l0 (l0.length : Int) (wrap64 (x61_3 + 1)))) else (none)) else (impl_lower.l2 k3 x4_1 x5_2 y299 l0 (l0.length : Int) (wrap64 (x61_3 + 1)))) = some r := by rw [← hbq47] at H; exact H
                                      have Nbq47 := Aside0.mk hbq47
                                      clear hbq47
                                      by_cases c48 : bq47 = true
                                      · subst c48
                                        have H1 : (if x61_3 < (x5_2.length : Int) then (if rdOf false x5_2 x61_3 = true then (impl_lower.l2 k3 x4_1 x5_2 y299 l0 (l0.length : Int) (wrap64 (x61_3 + 1))) else (impl_lower.l2 k3 x4_1 x5_2 (y299.set (x61_3 : Int).toNat (wrap64 ((wrap64 ((rd l0 x61_3) - 18)) + 97))) l0 (l0.length : Int) (wrap64 (x61_3 + 1)))) else (none)) = some r := by rw [if_pos rfl] at H; exact H
                                        clear H
                                        have H := H1
                                        clear H1
                                        by_cases c49 : x61_3 < (x5_2.length : Int)
                                        · rw [if_pos c49] at H
                                          have c49b0 : decide (x61_3 < (x5_2.length : Int)) = true := decide_eq_true c49
                                          clear c49
                                          obtain ⟨bq50, hbq50⟩ : ∃ b_ : Bool, b_ = (rdOf false x5_2 x61_3) := ⟨_, rfl⟩
                                          replace H : (if bq50 = true then (impl_lower.l2 k3 x4_1 x5_2 y299 l0 (l0.length : Int) (wrap64 (x61_3 + 1))) else (impl_lower.l2 k3 x4_1 x5_2 (y299.set (x61_3 : Int).toNat (wrap64 ((wrap64 ((rd l0 x61_3) - 18)) + 97))) l0 (l0.length : Int) (wrap64 (x61_3 + 1)))) = some r := by rw [← hbq50] at H; exact H
                                          have Nbq50 := Aside0.mk hbq50
                                          clear hbq50
                                          by_cases c51 : bq50 = true
                                          · subst c51
                                            have H1 : (impl_lower.l2 k3 x4_1 x5_2 y299 l0 (l0.length : Int) (wrap64 (x61_3 + 1))) = some r := by rw [if_pos rfl] at H; exact H
                                            clear H
                                            have H := H1
                                            clear H1
                                            have H' := Aside0.mk H
                                            clear H
                                            have p297 : 0 ≤ (x61_3 : Int) := of_decide_eq_true (by first | (with_reducible assumption) | assumption)
                                            have q297 : x61_3 < (l0.length : Int) := of_decide_eq_true (by first | (with_reducible assumption) | assumption)
                                            obtain ⟨ad297, e297, hx297_0⟩ := Kd.at_int HR0.out x61_3 p297 q297
                                            cases e297
                                            replace hx297_0 := (HB.out.cell (World.block_lt_of_cell? w _ hx297_0)).trans hx297_0
                                            replace p297 := eq_true p297
                                            replace q297 := eq_true q297
                                            go_wp2_with (first | ((with_reducible refine gate_callee (f := 229) rfl ?_); refine goesL_ (some 69) rfl rfl Tryd.func229 (by kernel_rfl) rfl #[.int .i64 (rd l0 x61_3)] rfl (by (try simp only [List.map_toArray, List.map_cons, List.map_nil]); first | done | rfl | (simp only [List.length_drop, List.length_take]; rfl)) ?_; (with_reducible refine (impl_SimpleLower.calls (rd l0 x61_3) t298 _ A41.out).mono ?_); rintro e w' ⟨rfl, ⟨nd, rfl⟩⟩; refine ⟨_, rfl, ?_⟩; (try (rw [drewN_self wr]; generalize hq_ : World.drewN wr _ = wr; have n0_ : Aside0 (Kd.R (Kd.int .i64) 2 wr w.heap.size (fun _ => True) v295 x10_3) := ⟨by rw [← hq_]; exact (by (with_reducible repeat (first | apply Kd.R_alloc | apply Kd.R_drewN | apply Kd.R_drew)); exact HO_10.out)⟩; have n1_ : Aside0 (Kd.R Kd.bool 4 wr w.heap.size (fun k_ => some k_ ≠ (v283 : Value).ownBlock) v280 x4_1) := ⟨by rw [← hq_]; exact (by (with_reducible repeat (first | apply Kd.R_alloc | apply Kd.R_drewN | apply Kd.R_drew)); exact HO_4.out)⟩; have n2_ : Aside0 (Kd.R Kd.bool 4 wr w.heap.size (fun k_ => some k_ ≠ (v280 : Value).ownBlock) v283 x5_2) := ⟨by rw [← hq_]; exact (by (with_reducible repeat (first | apply Kd.R_alloc | apply Kd.R_drewN | apply Kd.R_drew)); exact HO_5.out)⟩; have n3_ : Aside0 (Below w.heap.size w wr) := ⟨by rw [← hq_]; exact (by repeat (first | (with_reducible first | exact HB.out | apply below_alloc | apply pw_below_drewN | apply below_drew1) | exact HB.out))⟩; clear HO_10 HO_4 HO_5 HB hq_; have HO_10 := n0_; have HO_4 := n1_; have HO_5 := n2_; have HB := n3_; clear n0_ n1_ n2_ n3_)); have p43 : 0 ≤ (x61_3 : Int) := of_decide_eq_true (by first | (with_reducible assumption) | assumption); have q43 : (x61_3 : Int) < ((x10_3.length : Int) : Int) := of_decide_eq_true (by first | (with_reducible assumption) | assumption); obtain ⟨go43, co43, eo43, gb43, gl43, cl43, HG43⟩ := Kd.R_form HO_10.out (by omega); (first | cases eo43 | (injection eo43 with ea_ en_ ec_; (first | subst ea_ | (injection ea_ with ea_; subst ea_)); subst ec_; clear en_)); have GB43 := Aside0.mk gb43; have GG43 := Aside0.mk HG43; clear gb43 gl43 HG43; obtain ⟨hx43_0, hf43_0⟩ := Kd.R_celln 0 HO_10.out (x61_3 : Int) p43 q43; replace p43 := eq_true p43; replace q43 := eq_true q43; obtain ⟨hy52_, hz52_⟩ := Kd.R_celln 0 HO_10.out (x61_3 : Int) (of_decide_eq_true (by first | (with_reducible assumption) | assumption)) (of_decide_eq_true (by first | (with_reducible assumption) | assumption)); have HP52 := Kd.R_putg HO_10.out (x61_3 : Int) t298) | ((with_reducible refine gate_store (t := 2) (p := 70) rfl ?_); refine store_event (t := 2) (p := 70) (v := ?vo_w53) (w1 := (wr.setCell ⟨go43, (x61_3 : Int).toNat, none⟩ (.int .i64 t298))) ?hg ?ho ?hn ?hr ?_; (case ho => rfl); (case hg => rfl); (case hn => rfl); (case hr => first | (go_simp; done) | (go_simp; rfl)); intro w53 hw; have hg : wr.grownBy w53 (some go43) := (by rw [hw]; exact HP52.2); have hp_ : Kd.R (Kd.int .i64) 2 w53 w.heap.size (fun _ => True) (.slice (some ⟨go43, 0, none⟩) x10_3.length co43) y299 := (by rw [hw, Ny299.out]; exact HP52.1); clear HP52; have n0_ := Aside0.mk (Kd.R_over' (v := (.slice (some ⟨go43, 0, none⟩) x10_3.length co43)) (by (with_reducible repeat (first | apply Kd.R_alloc | apply Kd.R_drewN | apply Kd.R_drew)); exact HO_4.out) (Kd.R_typed HO_10.out) (by decide) hg); have n1_ := Aside0.mk (Kd.R_over' (v := (.slice (some ⟨go43, 0, none⟩) x10_3.length co43)) (by (with_reducible repeat (first | apply Kd.R_alloc | apply Kd.R_drewN | apply Kd.R_drew)); exact HO_5.out) (Kd.R_typed HO_10.out) (by decide) hg); have n2_ := Aside0.mk (hp_); have n3_ := Aside0.mk ((by rw [hw]; exact below_set (HB.out) GB43.out : Below w.heap.size w w53)); clear HO_4; clear HO_5; clear HO_10; clear HB; have HO_4 := n0_; have HO_5 := n1_; have HO_10 := n2_; have HB := n3_; clear n0_ n1_ n2_ n3_; clear hg hw hp_) | ((with_reducible refine gate_callee (f := 207) rfl ?_); refine goesL_ (some 72) rfl rfl Tryd.func207 (by kernel_rfl) rfl #[.int .i64 (rd l0 x61_3), .int .i64 18] rfl (by (try simp only [List.map_toArray, List.map_cons, List.map_nil]); first | done | rfl | (simp only [List.length_drop, List.length_take]; rfl)) ?_; (with_reducible refine (impl_within.calls (rd l0 x61_3) 18 true _ A44.out).mono ?_); rintro e w' ⟨rfl, ⟨nd, rfl⟩⟩; refine ⟨_, rfl, ?_⟩; obtain ⟨Ao54, co54, eo54⟩ := Kd.R_slice HO_4.out; subst eo54; have p301 : 0 ≤ (x61_3 : Int) := of_decide_eq_true (by first | (with_reducible assumption) | assumption); have q301 : x61_3 < (x4_1.length : Int) := of_decide_eq_true (by first | (with_reducible assumption) | assumption); obtain ⟨ad301, e301, hx301_0⟩ := Kd.at_bool (Kd.R_reads' HO_4.out).2.2 x61_3 p301 q301; (try rw [← Nbq47.out] at hx301_0); (try rw [← Nbq50.out] at hx301_0); cases e301; replace p301 := eq_true p301; replace q301 := eq_true q301; obtain ⟨Ao55, co55, eo55⟩ := Kd.R_slice HO_5.out; subst eo55; have p302 : 0 ≤ (x61_3 : Int) := of_decide_eq_true (by first | (with_reducible assumption) | assumption); have q302 : x61_3 < (x5_2.length : Int) := of_decide_eq_true (by first | (with_reducible assumption) | assumption); obtain ⟨ad302, e302, hx302_0⟩ := Kd.at_bool (Kd.R_reads' HO_5.out).2.2 x61_3 p302 q302; (try rw [← Nbq47.out] at hx302_0); (try rw [← Nbq50.out] at hx302_0); cases e302; replace p302 := eq_true p302; replace q302 := eq_true q302))
                                            go_roundg k3
                                            case measure => have := HK1.out; have := HK2.out; have := HK3.out; omega
                                            case rel => exact ⟨(y299), (wrap64 (x61_3 + 1)), (by first | rfl | (simp; done) | (simp [*]; done)), H', ⟨by have := HK1.out; have := HK2.out; have := HK3.out; omega⟩, ⟨by (with_reducible repeat (first | apply Kd.R_alloc | apply Kd.R_drewN | apply Kd.R_drew)); exact HO_4.out⟩, ⟨by (with_reducible repeat (first | apply Kd.R_alloc | apply Kd.R_drewN | apply Kd.R_drew)); exact HO_5.out⟩, ⟨by (with_reducible repeat (first | apply Kd.R_alloc | apply Kd.R_drewN | apply Kd.R_drew)); exact HO_10.out⟩, ⟨by repeat (first | (with_reducible first | exact HB.out | apply below_alloc | apply pw_below_drewN | apply below_drew1) | exact HB.out)⟩⟩
                                          · replace c51 := Bool.eq_false_iff.mpr c51
                                            subst c51
                                            have H1 : (impl_lower.l2 k3 x4_1 x5_2 (y299.set (x61_3 : Int).toNat (wrap64 ((wrap64 ((rd l0 x61_3) - 18)) + 97))) l0 (l0.length : Int) (wrap64 (x61_3 + 1))) = some r := by rw [if_neg (show ¬ (false = true) by decide)] at H; exact H
                                            clear H
                                            have H := H1
                                            clear H1
                                            obtain ⟨y303, hy303⟩ : ∃ y_ : List Int, y_ = (y299.set (x61_3 : Int).toNat (wrap64 ((wrap64 ((rd l0 x61_3) - 18)) + 97))) := ⟨_, rfl⟩
                                            replace H : (impl_lower.l2 k3 x4_1 x5_2 y303 l0 (l0.length : Int) (wrap64 (x61_3 + 1))) = some r := by first | (rw [hy303]; with_reducible exact H) | (have H2_ := (Option.bind_some _ _).symm.trans H; rw [hy303]; with_reducible exact H2_) | (have H2_ := (Option.bind_some _ _).symm.trans H; with_reducible exact H2_) | with_reducible exact H | (rw [hy303]; exact H) | exact H
                                            have Ny303 := Aside0.mk hy303
                                            clear hy303
                                            have H' := Aside0.mk H
                                            clear H
                                            have p297 : 0 ≤ (x61_3 : Int) := of_decide_eq_true (by first | (with_reducible assumption) | assumption)
                                            have q297 : x61_3 < (l0.length : Int) := of_decide_eq_true (by first | (with_reducible assumption) | assumption)
                                            obtain ⟨ad297, e297, hx297_0⟩ := Kd.at_int HR0.out x61_3 p297 q297
                                            cases e297
                                            replace hx297_0 := (HB.out.cell (World.block_lt_of_cell? w _ hx297_0)).trans hx297_0
                                            replace p297 := eq_true p297
                                            replace q297 := eq_true q297
                                            go_wp2_with (first | ((with_reducible refine gate_callee (f := 229) rfl ?_); refine goesL_ (some 69) rfl rfl Tryd.func229 (by kernel_rfl) rfl #[.int .i64 (rd l0 x61_3)] rfl (by (try simp only [List.map_toArray, List.map_cons, List.map_nil]); first | done | rfl | (simp only [List.length_drop, List.length_take]; rfl)) ?_; (with_reducible refine (impl_SimpleLower.calls (rd l0 x61_3) t298 _ A41.out).mono ?_); rintro e w' ⟨rfl, ⟨nd, rfl⟩⟩; refine ⟨_, rfl, ?_⟩; (try (rw [drewN_self wr]; generalize hq_ : World.drewN wr _ = wr; have n0_ : Aside0 (Kd.R (Kd.int .i64) 2 wr w.heap.size (fun _ => True) v295 x10_3) := ⟨by rw [← hq_]; exact (by (with_reducible repeat (first | apply Kd.R_alloc | apply Kd.R_drewN | apply Kd.R_drew)); exact HO_10.out)⟩; have n1_ : Aside0 (Kd.R Kd.bool 4 wr w.heap.size (fun k_ => some k_ ≠ (v283 : Value).ownBlock) v280 x4_1) := ⟨by rw [← hq_]; exact (by (with_reducible repeat (first | apply Kd.R_alloc | apply Kd.R_drewN | apply Kd.R_drew)); exact HO_4.out)⟩; have n2_ : Aside0 (Kd.R Kd.bool 4 wr w.heap.size (fun k_ => some k_ ≠ (v280 : Value).ownBlock) v283 x5_2) := ⟨by rw [← hq_]; exact (by (with_reducible repeat (first | apply Kd.R_alloc | apply Kd.R_drewN | apply Kd.R_drew)); exact HO_5.out)⟩; have n3_ : Aside0 (Below w.heap.size w wr) := ⟨by rw [← hq_]; exact (by repeat (first | (with_reducible first | exact HB.out | apply below_alloc | apply pw_below_drewN | apply below_drew1) | exact HB.out))⟩; clear HO_10 HO_4 HO_5 HB hq_; have HO_10 := n0_; have HO_4 := n1_; have HO_5 := n2_; have HB := n3_; clear n0_ n1_ n2_ n3_)); have p43 : 0 ≤ (x61_3 : Int) := of_decide_eq_true (by first | (with_reducible assumption) | assumption); have q43 : (x61_3 : Int) < ((x10_3.length : Int) : Int) := of_decide_eq_true (by first | (with_reducible assumption) | assumption); obtain ⟨go43, co43, eo43, gb43, gl43, cl43, HG43⟩ := Kd.R_form HO_10.out (by omega); (first | cases eo43 | (injection eo43 with ea_ en_ ec_; (first | subst ea_ | (injection ea_ with ea_; subst ea_)); subst ec_; clear en_)); have GB43 := Aside0.mk gb43; have GG43 := Aside0.mk HG43; clear gb43 gl43 HG43; obtain ⟨hx43_0, hf43_0⟩ := Kd.R_celln 0 HO_10.out (x61_3 : Int) p43 q43; replace p43 := eq_true p43; replace q43 := eq_true q43; obtain ⟨hy57_, hz57_⟩ := Kd.R_celln 0 HO_10.out (x61_3 : Int) (of_decide_eq_true (by first | (with_reducible assumption) | assumption)) (of_decide_eq_true (by first | (with_reducible assumption) | assumption)); have HP57 := Kd.R_putg HO_10.out (x61_3 : Int) t298) | ((with_reducible refine gate_store (t := 2) (p := 70) rfl ?_); refine store_event (t := 2) (p := 70) (v := ?vo_w58) (w1 := (wr.setCell ⟨go43, (x61_3 : Int).toNat, none⟩ (.int .i64 t298))) ?hg ?ho ?hn ?hr ?_; (case ho => rfl); (case hg => rfl); (case hn => rfl); (case hr => first | (go_simp; done) | (go_simp; rfl)); intro w58 hw; have hg : wr.grownBy w58 (some go43) := (by rw [hw]; exact HP57.2); have hp_ : Kd.R (Kd.int .i64) 2 w58 w.heap.size (fun _ => True) (.slice (some ⟨go43, 0, none⟩) x10_3.length co43) y299 := (by rw [hw, Ny299.out]; exact HP57.1); clear HP57; have n0_ := Aside0.mk (Kd.R_over' (v := (.slice (some ⟨go43, 0, none⟩) x10_3.length co43)) (by (with_reducible repeat (first | apply Kd.R_alloc | apply Kd.R_drewN | apply Kd.R_drew)); exact HO_4.out) (Kd.R_typed HO_10.out) (by decide) hg); have n1_ := Aside0.mk (Kd.R_over' (v := (.slice (some ⟨go43, 0, none⟩) x10_3.length co43)) (by (with_reducible repeat (first | apply Kd.R_alloc | apply Kd.R_drewN | apply Kd.R_drew)); exact HO_5.out) (Kd.R_typed HO_10.out) (by decide) hg); have n2_ := Aside0.mk (hp_); have n3_ := Aside0.mk ((by rw [hw]; exact below_set (HB.out) GB43.out : Below w.heap.size w w58)); clear HO_4; clear HO_5; clear HO_10; clear HB; have HO_4 := n0_; have HO_5 := n1_; have HO_10 := n2_; have HB := n3_; clear n0_ n1_ n2_ n3_; clear hg hw hp_) | ((with_reducible refine gate_callee (f := 207) rfl ?_); refine goesL_ (some 72) rfl rfl Tryd.func207 (by kernel_rfl) rfl #[.int .i64 (rd l0 x61_3), .int .i64 18] rfl (by (try simp only [List.map_toArray, List.map_cons, List.map_nil]); first | done | rfl | (simp only [List.length_drop, List.length_take]; rfl)) ?_; (with_reducible refine (impl_within.calls (rd l0 x61_3) 18 true _ A44.out).mono ?_); rintro e w' ⟨rfl, ⟨nd, rfl⟩⟩; refine ⟨_, rfl, ?_⟩; (try (rw [drewN_self w58]; generalize hq_ : World.drewN w58 _ = w58; have n0_ : Aside0 (Kd.R (Kd.int .i64) 2 w58 w.heap.size (fun _ => True) (.slice (some ⟨go43, 0, none⟩) x10_3.length co43) y299) := ⟨by rw [← hq_]; exact (by (with_reducible repeat (first | apply Kd.R_alloc | apply Kd.R_drewN | apply Kd.R_drew)); exact HO_10.out)⟩; have n1_ : Aside0 (Kd.R Kd.bool 4 w58 w.heap.size (fun k_ => some k_ ≠ (v283 : Value).ownBlock) v280 x4_1) := ⟨by rw [← hq_]; exact (by (with_reducible repeat (first | apply Kd.R_alloc | apply Kd.R_drewN | apply Kd.R_drew)); exact HO_4.out)⟩; have n2_ : Aside0 (Kd.R Kd.bool 4 w58 w.heap.size (fun k_ => some k_ ≠ (v280 : Value).ownBlock) v283 x5_2) := ⟨by rw [← hq_]; exact (by (with_reducible repeat (first | apply Kd.R_alloc | apply Kd.R_drewN | apply Kd.R_drew)); exact HO_5.out)⟩; have n3_ : Aside0 (Below w.heap.size w w58) := ⟨by rw [← hq_]; exact (by repeat (first | (with_reducible first | exact HB.out | apply below_alloc | apply pw_below_drewN | apply below_drew1) | exact HB.out))⟩; clear HO_10 HO_4 HO_5 HB hq_; have HO_10 := n0_; have HO_4 := n1_; have HO_5 := n2_; have HB := n3_; clear n0_ n1_ n2_ n3_)); obtain ⟨Ao59, co59, eo59⟩ := Kd.R_slice HO_4.out; subst eo59; have p301 : 0 ≤ (x61_3 : Int) := of_decide_eq_true (by first | (with_reducible assumption) | assumption); have q301 : x61_3 < (x4_1.length : Int) := of_decide_eq_true (by first | (with_reducible assumption) | assumption); obtain ⟨ad301, e301, hx301_0⟩ := Kd.at_bool (Kd.R_reads' HO_4.out).2.2 x61_3 p301 q301; (try rw [← Nbq47.out] at hx301_0); (try rw [← Nbq50.out] at hx301_0); cases e301; replace p301 := eq_true p301; replace q301 := eq_true q301; obtain ⟨Ao60, co60, eo60⟩ := Kd.R_slice HO_5.out; subst eo60; have p302 : 0 ≤ (x61_3 : Int) := of_decide_eq_true (by first | (with_reducible assumption) | assumption); have q302 : x61_3 < (x5_2.length : Int) := of_decide_eq_true (by first | (with_reducible assumption) | assumption); obtain ⟨ad302, e302, hx302_0⟩ := Kd.at_bool (Kd.R_reads' HO_5.out).2.2 x61_3 p302 q302; (try rw [← Nbq47.out] at hx302_0); (try rw [← Nbq50.out] at hx302_0); cases e302; replace p302 := eq_true p302; replace q302 := eq_true q302; have p56 : 0 ≤ (x61_3 : Int) := of_decide_eq_true (by first | (with_reducible assumption) | assumption); have q56 : (x61_3 : Int) < ((x10_3.length : Int) : Int) := of_decide_eq_true (by first | (with_reducible assumption) | assumption); obtain ⟨hx56_0, hf56_0⟩ := Kd.R_celln 0 HO_10.out (x61_3 : Int) p56 q56; replace p56 := eq_true p56; replace q56 := eq_true q56; obtain ⟨hy61_, hz61_⟩ := Kd.R_celln 0 HO_10.out (x61_3 : Int) (of_decide_eq_true (by first | (with_reducible assumption) | assumption)) (of_decide_eq_true (by first | (with_reducible assumption) | assumption)); have HP61 := Kd.R_putg HO_10.out (x61_3 : Int) (wrap64 ((wrap64 ((rd l0 x61_3) - 18)) + 97))) | ((with_reducible refine gate_store (t := 2) (p := 91) rfl ?_); refine store_event (t := 2) (p := 91) (v := ?vo_w62) (w1 := (w58.setCell ⟨go43, (x61_3 : Int).toNat, none⟩ (.int .i64 (wrap64 ((wrap64 ((rd l0 x61_3) - 18)) + 97))))) ?hg ?ho ?hn ?hr ?_; (case ho => rfl); (case hg => rfl); (case hn => rfl); (case hr => first | (go_simp; done) | (go_simp; rfl)); intro w62 hw; have hg : w58.grownBy w62 (some go43) := (by rw [hw]; exact HP61.2); have hp_ : Kd.R (Kd.int .i64) 2 w62 w.heap.size (fun _ => True) (.slice (some ⟨go43, 0, none⟩) x10_3.length co43) y303 := (by rw [hw, Ny303.out]; exact HP61.1); clear HP61; have n0_ := Aside0.mk (Kd.R_over' (v := (.slice (some ⟨go43, 0, none⟩) x10_3.length co43)) (by (with_reducible repeat (first | apply Kd.R_alloc | apply Kd.R_drewN | apply Kd.R_drew)); exact HO_4.out) (Kd.R_typed HO_10.out) (by decide) hg); have n1_ := Aside0.mk (Kd.R_over' (v := (.slice (some ⟨go43, 0, none⟩) x10_3.length co43)) (by (with_reducible repeat (first | apply Kd.R_alloc | apply Kd.R_drewN | apply Kd.R_drew)); exact HO_5.out) (Kd.R_typed HO_10.out) (by decide) hg); have n2_ := Aside0.mk (hp_); have n3_ := Aside0.mk ((by rw [hw]; exact below_set (HB.out) GB43.out : Below w.heap.size w w62)); clear HO_4; clear HO_5; clear HO_10; clear HB; have HO_4 := n0_; have HO_5 := n1_; have HO_10 := n2_; have HB := n3_; clear n0_ n1_ n2_ n3_; clear hg hw hp_))
                                            go_roundg k3
                                            case measure => have := HK1.out; have := HK2.out; have := HK3.out; omega
                                            case rel => exact ⟨(y303), (wrap64 (x61_3 + 1)), (by first | rfl | (simp; done) | (simp [*]; done)), H', ⟨by have := HK1.out; have := HK2.out; have := HK3.out; omega⟩, ⟨by (with_reducible repeat (first | apply Kd.R_alloc | apply Kd.R_drewN | apply Kd.R_drew)); exact HO_4.out⟩, ⟨by (with_reducible repeat (first | apply Kd.R_alloc | apply Kd.R_drewN | apply Kd.R_drew)); exact HO_5.out⟩, ⟨by (with_reducible repeat (first | apply Kd.R_alloc | apply Kd.R_drewN | apply Kd.R_drew)); exact HO_10.out⟩, ⟨by repeat (first | (with_reducible first | exact HB.out | apply below_alloc | apply pw_below_drewN | apply below_drew1) | exact HB.out)⟩⟩
                                        · rw [if_neg c49] at H
                                          exact absurd H (by simp)
                                      · replace c48 := Bool.eq_false_iff.mpr c48
                                        subst c48
                                        have H1 : (impl_lower.l2 k3 x4_1 x5_2 y299 l0 (l0.length : Int) (wrap64 (x61_3 + 1))) = some r := by rw [if_neg (show ¬ (false = true) by decide)] at H; exact H
                                        clear H
                                        have H := H1
                                        clear H1
                                        have H' := Aside0.mk H
                                        clear H
                                        have p297 : 0 ≤ (x61_3 : Int) := of_decide_eq_true (by first | (with_reducible assumption) | assumption)
                                        have q297 : x61_3 < (l0.length : Int) := of_decide_eq_true (by first | (with_reducible assumption) | assumption)
                                        obtain ⟨ad297, e297, hx297_0⟩ := Kd.at_int HR0.out x61_3 p297 q297
                                        cases e297
                                        replace hx297_0 := (HB.out.cell (World.block_lt_of_cell? w _ hx297_0)).trans hx297_0
                                        replace p297 := eq_true p297
                                        replace q297 := eq_true q297
                                        go_wp2_with (first | ((with_reducible refine gate_callee (f := 229) rfl ?_); refine goesL_ (some 69) rfl rfl Tryd.func229 (by kernel_rfl) rfl #[.int .i64 (rd l0 x61_3)] rfl (by (try simp only [List.map_toArray, List.map_cons, List.map_nil]); first | done | rfl | (simp only [List.length_drop, List.length_take]; rfl)) ?_; (with_reducible refine (impl_SimpleLower.calls (rd l0 x61_3) t298 _ A41.out).mono ?_); rintro e w' ⟨rfl, ⟨nd, rfl⟩⟩; refine ⟨_, rfl, ?_⟩; (try (rw [drewN_self wr]; generalize hq_ : World.drewN wr _ = wr; have n0_ : Aside0 (Kd.R (Kd.int .i64) 2 wr w.heap.size (fun _ => True) v295 x10_3) := ⟨by rw [← hq_]; exact (by (with_reducible repeat (first | apply Kd.R_alloc | apply Kd.R_drewN | apply Kd.R_drew)); exact HO_10.out)⟩; have n1_ : Aside0 (Kd.R Kd.bool 4 wr w.heap.size (fun k_ => some k_ ≠ (v283 : Value).ownBlock) v280 x4_1) := ⟨by rw [← hq_]; exact (by (with_reducible repeat (first | apply Kd.R_alloc | apply Kd.R_drewN | apply Kd.R_drew)); exact HO_4.out)⟩; have n2_ : Aside0 (Kd.R Kd.bool 4 wr w.heap.size (fun k_ => some k_ ≠ (v280 : Value).ownBlock) v283 x5_2) := ⟨by rw [← hq_]; exact (by (with_reducible repeat (first | apply Kd.R_alloc | apply Kd.R_drewN | apply Kd.R_drew)); exact HO_5.out)⟩; have n3_ : Aside0 (Below w.heap.size w wr) := ⟨by rw [← hq_]; exact (by repeat (first | (with_reducible first | exact HB.out | apply below_alloc | apply pw_below_drewN | apply below_drew1) | exact HB.out))⟩; clear HO_10 HO_4 HO_5 HB hq_; have HO_10 := n0_; have HO_4 := n1_; have HO_5 := n2_; have HB := n3_; clear n0_ n1_ n2_ n3_)); have p43 : 0 ≤ (x61_3 : Int) := of_decide_eq_true (by first | (with_reducible assumption) | assumption); have q43 : (x61_3 : Int) < ((x10_3.length : Int) : Int) := of_decide_eq_true (by first | (with_reducible assumption) | assumption); obtain ⟨go43, co43, eo43, gb43, gl43, cl43, HG43⟩ := Kd.R_form HO_10.out (by omega); (first | cases eo43 | (injection eo43 with ea_ en_ ec_; (first | subst ea_ | (injection ea_ with ea_; subst ea_)); subst ec_; clear en_)); have GB43 := Aside0.mk gb43; have GG43 := Aside0.mk HG43; clear gb43 gl43 HG43; obtain ⟨hx43_0, hf43_0⟩ := Kd.R_celln 0 HO_10.out (x61_3 : Int) p43 q43; replace p43 := eq_true p43; replace q43 := eq_true q43; obtain ⟨hy63_, hz63_⟩ := Kd.R_celln 0 HO_10.out (x61_3 : Int) (of_decide_eq_true (by first | (with_reducible assumption) | assumption)) (of_decide_eq_true (by first | (with_reducible assumption) | assumption)); have HP63 := Kd.R_putg HO_10.out (x61_3 : Int) t298) | ((with_reducible refine gate_store (t := 2) (p := 70) rfl ?_); refine store_event (t := 2) (p := 70) (v := ?vo_w64) (w1 := (wr.setCell ⟨go43, (x61_3 : Int).toNat, none⟩ (.int .i64 t298))) ?hg ?ho ?hn ?hr ?_; (case ho => rfl); (case hg => rfl); (case hn => rfl); (case hr => first | (go_simp; done) | (go_simp; rfl)); intro w64 hw; have hg : wr.grownBy w64 (some go43) := (by rw [hw]; exact HP63.2); have hp_ : Kd.R (Kd.int .i64) 2 w64 w.heap.size (fun _ => True) (.slice (some ⟨go43, 0, none⟩) x10_3.length co43) y299 := (by rw [hw, Ny299.out]; exact HP63.1); clear HP63; have n0_ := Aside0.mk (Kd.R_over' (v := (.slice (some ⟨go43, 0, none⟩) x10_3.length co43)) (by (with_reducible repeat (first | apply Kd.R_alloc | apply Kd.R_drewN | apply Kd.R_drew)); exact HO_4.out) (Kd.R_typed HO_10.out) (by decide) hg); have n1_ := Aside0.mk (Kd.R_over' (v := (.slice (some ⟨go43, 0, none⟩) x10_3.length co43)) (by (with_reducible repeat (first | apply Kd.R_alloc | apply Kd.R_drewN | apply Kd.R_drew)); exact HO_5.out) (Kd.R_typed HO_10.out) (by decide) hg); have n2_ := Aside0.mk (hp_); have n3_ := Aside0.mk ((by rw [hw]; exact below_set (HB.out) GB43.out : Below w.heap.size w w64)); clear HO_4; clear HO_5; clear HO_10; clear HB; have HO_4 := n0_; have HO_5 := n1_; have HO_10 := n2_; have HB := n3_; clear n0_ n1_ n2_ n3_; clear hg hw hp_) | ((with_reducible refine gate_callee (f := 207) rfl ?_); refine goesL_ (some 72) rfl rfl Tryd.func207 (by kernel_rfl) rfl #[.int .i64 (rd l0 x61_3), .int .i64 18] rfl (by (try simp only [List.map_toArray, List.map_cons, List.map_nil]); first | done | rfl | (simp only [List.length_drop, List.length_take]; rfl)) ?_; (with_reducible refine (impl_within.calls (rd l0 x61_3) 18 true _ A44.out).mono ?_); rintro e w' ⟨rfl, ⟨nd, rfl⟩⟩; refine ⟨_, rfl, ?_⟩; obtain ⟨Ao65, co65, eo65⟩ := Kd.R_slice HO_4.out; subst eo65; have p301 : 0 ≤ (x61_3 : Int) := of_decide_eq_true (by first | (with_reducible assumption) | assumption); have q301 : x61_3 < (x4_1.length : Int) := of_decide_eq_true (by first | (with_reducible assumption) | assumption); obtain ⟨ad301, e301, hx301_0⟩ := Kd.at_bool (Kd.R_reads' HO_4.out).2.2 x61_3 p301 q301; (try rw [← Nbq47.out] at hx301_0); cases e301; replace p301 := eq_true p301; replace q301 := eq_true q301))
                                        go_roundg k3
                                        case measure => have := HK1.out; have := HK2.out; have := HK3.out; omega
                                        case rel => exact ⟨(y299), (wrap64 (x61_3 + 1)), (by first | rfl | (simp; done) | (simp [*]; done)), H', ⟨by have := HK1.out; have := HK2.out; have := HK3.out; omega⟩, ⟨by (with_reducible repeat (first | apply Kd.R_alloc | apply Kd.R_drewN | apply Kd.R_drew)); exact HO_4.out⟩, ⟨by (with_reducible repeat (first | apply Kd.R_alloc | apply Kd.R_drewN | apply Kd.R_drew)); exact HO_5.out⟩, ⟨by (with_reducible repeat (first | apply Kd.R_alloc | apply Kd.R_drewN | apply Kd.R_drew)); exact HO_10.out⟩, ⟨by repeat (first | (with_reducible first | exact HB.out | apply below_alloc | apply pw_below_drewN | apply below_drew1) | exact HB.out)⟩⟩
                                    · rw [if_neg c46] at H
                                      exact absurd H (by simp)
                                  · replace c45 := Bool.eq_false_iff.mpr c45
                                    subst c45
                                    have H1 : (impl_lower.l2 k3 x4_1 x5_2 y299 l0 (l0.length : Int) (wrap64 (x61_3 + 1))) = some r := by rw [if_neg (show ¬ (false = true) by decide)] at H; exact H
                                    clear H
                                    have H := H1
                                    clear H1
                                    have H' := Aside0.mk H
                                    clear H
                                    have p297 : 0 ≤ (x61_3 : Int) := of_decide_eq_true (by first | (with_reducible assumption) | assumption)
                                    have q297 : x61_3 < (l0.length : Int) := of_decide_eq_true (by first | (with_reducible assumption) | assumption)
                                    obtain ⟨ad297, e297, hx297_0⟩ := Kd.at_int HR0.out x61_3 p297 q297
                                    cases e297
                                    replace hx297_0 := (HB.out.cell (World.block_lt_of_cell? w _ hx297_0)).trans hx297_0
                                    replace p297 := eq_true p297
                                    replace q297 := eq_true q297
                                    go_wp2_with (first | ((with_reducible refine gate_callee (f := 229) rfl ?_); refine goesL_ (some 69) rfl rfl Tryd.func229 (by kernel_rfl) rfl #[.int .i64 (rd l0 x61_3)] rfl (by (try simp only [List.map_toArray, List.map_cons, List.map_nil]); first | done | rfl | (simp only [List.length_drop, List.length_take]; rfl)) ?_; (with_reducible refine (impl_SimpleLower.calls (rd l0 x61_3) t298 _ A41.out).mono ?_); rintro e w' ⟨rfl, ⟨nd, rfl⟩⟩; refine ⟨_, rfl, ?_⟩; (try (rw [drewN_self wr]; generalize hq_ : World.drewN wr _ = wr; have n0_ : Aside0 (Kd.R (Kd.int .i64) 2 wr w.heap.size (fun _ => True) v295 x10_3) := ⟨by rw [← hq_]; exact (by (with_reducible repeat (first | apply Kd.R_alloc | apply Kd.R_drewN | apply Kd.R_drew)); exact HO_10.out)⟩; have n1_ : Aside0 (Kd.R Kd.bool 4 wr w.heap.size (fun k_ => some k_ ≠ (v283 : Value).ownBlock) v280 x4_1) := ⟨by rw [← hq_]; exact (by (with_reducible repeat (first | apply Kd.R_alloc | apply Kd.R_drewN | apply Kd.R_drew)); exact HO_4.out)⟩; have n2_ : Aside0 (Kd.R Kd.bool 4 wr w.heap.size (fun k_ => some k_ ≠ (v280 : Value).ownBlock) v283 x5_2) := ⟨by rw [← hq_]; exact (by (with_reducible repeat (first | apply Kd.R_alloc | apply Kd.R_drewN | apply Kd.R_drew)); exact HO_5.out)⟩; have n3_ : Aside0 (Below w.heap.size w wr) := ⟨by rw [← hq_]; exact (by repeat (first | (with_reducible first | exact HB.out | apply below_alloc | apply pw_below_drewN | apply below_drew1) | exact HB.out))⟩; clear HO_10 HO_4 HO_5 HB hq_; have HO_10 := n0_; have HO_4 := n1_; have HO_5 := n2_; have HB := n3_; clear n0_ n1_ n2_ n3_)); have p43 : 0 ≤ (x61_3 : Int) := of_decide_eq_true (by first | (with_reducible assumption) | assumption); have q43 : (x61_3 : Int) < ((x10_3.length : Int) : Int) := of_decide_eq_true (by first | (with_reducible assumption) | assumption); obtain ⟨go43, co43, eo43, gb43, gl43, cl43, HG43⟩ := Kd.R_form HO_10.out (by omega); (first | cases eo43 | (injection eo43 with ea_ en_ ec_; (first | subst ea_ | (injection ea_ with ea_; subst ea_)); subst ec_; clear en_)); have GB43 := Aside0.mk gb43; have GG43 := Aside0.mk HG43; clear gb43 gl43 HG43; obtain ⟨hx43_0, hf43_0⟩ := Kd.R_celln 0 HO_10.out (x61_3 : Int) p43 q43; replace p43 := eq_true p43; replace q43 := eq_true q43; obtain ⟨hy66_, hz66_⟩ := Kd.R_celln 0 HO_10.out (x61_3 : Int) (of_decide_eq_true (by first | (with_reducible assumption) | assumption)) (of_decide_eq_true (by first | (with_reducible assumption) | assumption)); have HP66 := Kd.R_putg HO_10.out (x61_3 : Int) t298) | ((with_reducible refine gate_store (t := 2) (p := 70) rfl ?_); refine store_event (t := 2) (p := 70) (v := ?vo_w67) (w1 := (wr.setCell ⟨go43, (x61_3 : Int).toNat, none⟩ (.int .i64 t298))) ?hg ?ho ?hn ?hr ?_; (case ho => rfl); (case hg => rfl); (case hn => rfl); (case hr => first | (go_simp; done) | (go_simp; rfl)); intro w67 hw; have hg : wr.grownBy w67 (some go43) := (by rw [hw]; exact HP66.2); have hp_ : Kd.R (Kd.int .i64) 2 w67 w.heap.size (fun _ => True) (.slice (some ⟨go43, 0, none⟩) x10_3.length co43) y299 := (by rw [hw, Ny299.out]; exact HP66.1); clear HP66; have n0_ := Aside0.mk (Kd.R_over' (v := (.slice (some ⟨go43, 0, none⟩) x10_3.length co43)) (by (with_reducible repeat (first | apply Kd.R_alloc | apply Kd.R_drewN | apply Kd.R_drew)); exact HO_4.out) (Kd.R_typed HO_10.out) (by decide) hg); have n1_ := Aside0.mk (Kd.R_over' (v := (.slice (some ⟨go43, 0, none⟩) x10_3.length co43)) (by (with_reducible repeat (first | apply Kd.R_alloc | apply Kd.R_drewN | apply Kd.R_drew)); exact HO_5.out) (Kd.R_typed HO_10.out) (by decide) hg); have n2_ := Aside0.mk (hp_); have n3_ := Aside0.mk ((by rw [hw]; exact below_set (HB.out) GB43.out : Below w.heap.size w w67)); clear HO_4; clear HO_5; clear HO_10; clear HB; have HO_4 := n0_; have HO_5 := n1_; have HO_10 := n2_; have HB := n3_; clear n0_ n1_ n2_ n3_; clear hg hw hp_) | ((with_reducible refine gate_callee (f := 207) rfl ?_); refine goesL_ (some 72) rfl rfl Tryd.func207 (by kernel_rfl) rfl #[.int .i64 (rd l0 x61_3), .int .i64 18] rfl (by (try simp only [List.map_toArray, List.map_cons, List.map_nil]); first | done | rfl | (simp only [List.length_drop, List.length_take]; rfl)) ?_; (with_reducible refine (impl_within.calls (rd l0 x61_3) 18 false _ A44.out).mono ?_); rintro e w' ⟨rfl, ⟨nd, rfl⟩⟩; refine ⟨_, rfl, ?_⟩))
                                    go_roundg k3
                                    case measure => have := HK1.out; have := HK2.out; have := HK3.out; omega
                                    case rel => exact ⟨(y299), (wrap64 (x61_3 + 1)), (by first | rfl | (simp; done) | (simp [*]; done)), H', ⟨by have := HK1.out; have := HK2.out; have := HK3.out; omega⟩, ⟨by (with_reducible repeat (first | apply Kd.R_alloc | apply Kd.R_drewN | apply Kd.R_drew)); exact HO_4.out⟩, ⟨by (with_reducible repeat (first | apply Kd.R_alloc | apply Kd.R_drewN | apply Kd.R_drew)); exact HO_5.out⟩, ⟨by (with_reducible repeat (first | apply Kd.R_alloc | apply Kd.R_drewN | apply Kd.R_drew)); exact HO_10.out⟩, ⟨by repeat (first | (with_reducible first | exact HB.out | apply below_alloc | apply pw_below_drewN | apply below_drew1) | exact HB.out)⟩⟩
                                · rw [if_neg c42] at H
                                  exact absurd H (by simp)
                              · rw [if_neg c40] at H
                                exact absurd H (by simp)
                            · rw [if_neg c39] at H
                              exact absurd H (by simp)
                          · rw [if_neg c38] at H
                            have c38b0 : decide (x61_3 < (l0.length : Int)) = false := decide_eq_false c38
                            clear c38
                            obtain rfl := Option.some.inj H
                            go_wp2
                            go_ret
                            exact ⟨_, by first | rfl | (simp [errW_none, errW_some] <;> rfl) | (simp [*, errW_none, errW_some] <;> rfl), by (with_reducible repeat (first | apply Kd.R_alloc | apply Kd.R_drewN | apply Kd.R_drew)); exact HO_10.out, by repeat (first | (with_reducible first | exact HB.out | apply below_alloc | apply pw_below_drewN | apply below_drew1) | exact HB.out)⟩
                    · rw [if_neg c35] at H
                      exact absurd H (by simp)
                  · rw [if_neg c34] at H
                    exact absurd H (by simp)
    · rw [if_neg c3] at H
      exact absurd H (by simp)
  · rw [if_neg c2] at H
    exact absurd H (by simp)

def impl_lower.one (l : List Int) (i : Nat) : Int := if 512 ≤ rd l (i : Int) ∧ rd l (i : Int) < 1280 ∧ rd l (i : Int) % 256 = 18 ∧ YtnonijganceneaaDoorCas.endsAt l i = true then rd l (i : Int) - 18 + 97 else (impl_cases.g (rd l (i : Int))).2.2
def W_impl_lower.f (l0 : List Int) : Option (List Int) := if l0.length ≤ 1099511627776 ∧ (∀ p ∈ l0, YtnonijganceneaaDoorPts.isP p) then some ((List.range l0.length).map (impl_lower.one l0)) else none
theorem impl_lower.kind (p : Int) : impl_kind.g p = YtnonijganceneaaDoorCas.kind p := rfl
theorem impl_lower.mark (p : Int) : impl_isMark.f p = some (YtnonijganceneaaDoorCas.isMark p) := rfl
theorem impl_lower.cased (p : Int) : impl_isCased.f p = some (YtnonijganceneaaDoorCas.isCased p) := by
  unfold impl_isCased.f impl_Category.f impl_kind.f impl_in.f YtnonijganceneaaDoorCas.isCased
  rw [impl_lower.kind]
  simp only [Option.bind_some]
  by_cases a : (YtnonijganceneaaDoorCas.kind p).1 ≥ 4
  · rw [if_pos a]
    simp only [Option.bind_some]
    congr 1
    by_cases b : (YtnonijganceneaaDoorCas.kind p).1 ≤ 6
    · rw [decide_eq_true b, decide_eq_true ⟨a, b⟩]
    · rw [decide_eq_false b, decide_eq_false (fun z => b z.2)]
  · rw [if_neg a, decide_eq_false (fun z => a z.1)]; rfl
theorem impl_lower.within (p q : Int) (hq : 0 < q) : impl_within.f p q = some (decide (512 ≤ p ∧ p < 1280 ∧ p % 256 = q)) := by
  unfold impl_within.f impl_block.f
  by_cases c : 512 ≤ p ∧ p < 1280
  · rw [if_pos c]
    simp only [Option.bind_some]
    rw [if_pos (by omega)]
    by_cases c2 : p % 256 = q
    · simp [c, c2]
    · simp [c2]
  · rw [if_neg c]
    simp only [Option.bind_some]
    rw [if_neg (by omega)]
    rw [decide_eq_false (fun z => c ⟨z.1, z.2.1⟩)]
theorem impl_lower.low (p : Int) (hpi : YtnonijganceneaaDoorPts.isP p) : impl_SimpleLower.f p = some (impl_cases.g p).2.2 := by
  unfold YtnonijganceneaaDoorPts.isP at hpi
  unfold impl_SimpleLower.f impl_isPoint.f
  rw [if_pos hpi.1, if_pos hpi.2.1]
  have : (if p < 55296 then (some true) else (some (decide (p > 57343)))) = some true := by
    split
    · rfl
    · rw [decide_eq_true (by omega)]
  rw [this]
  simp only [Option.bind_some, if_true]
  unfold impl_cases.f
  rw [if_pos ⟨hpi.1, hpi.2.1⟩]
  rfl
theorem impl_lower.rd_set {α : Type} (d : α) (x : List α) (i j : Nat) (v : α) (hi : i < x.length) : rdOf d (x.set i v) (j : Int) = if j = i then v else rdOf d x (j : Int) := by
  unfold rdOf
  simp only [Int.toNat_natCast, List.getD]
  by_cases c : j = i
  · subst c; simp [hi]
  · rw [List.getElem?_set_ne (fun z => c z.symm), if_neg c]
theorem impl_lower.run2 (l : List Int) (hl : l.length ≤ 1099511627776) (hp : ∀ p ∈ l, YtnonijganceneaaDoorPts.isP p) (x4 x5 : List Bool) (h4 : x4.length = l.length) (h5 : x5.length = l.length) (g4 : ∀ j < l.length, rdOf false x4 (j : Int) = YtnonijganceneaaDoorCas.nextC (l.take j).reverse) (g5 : ∀ j < l.length, rdOf false x5 (j : Int) = YtnonijganceneaaDoorCas.nextC (l.drop (j + 1))) (d : Nat) :
    ∀ (k i : Nat) (x : List Int), x.length = l.length → (∀ j < i, rd x (j : Int) = impl_lower.one l j) → i ≤ l.length → l.length - i = d → d < k → impl_lower.l2 k x4 x5 x l (l.length : Int) (i : Int) = some ((List.range l.length).map (impl_lower.one l)) := by
  induction d with
  | zero =>
    intro k i x hx hg h1 h2 h3
    obtain ⟨k, rfl⟩ : ∃ m, k = m + 1 := ⟨k - 1, by omega⟩
    simp only [impl_lower.l2]
    rw [if_neg (by omega)]
    obtain rfl : i = l.length := by omega
    rw [YtnonijganceneaaDoorCas.ext_rd hx hg]
  | succ d ih =>
    intro k i x hx hg h1 h2 h3
    obtain ⟨k, rfl⟩ : ∃ m, k = m + 1 := ⟨k - 1, by omega⟩
    have hlt : i < l.length := by omega
    have hw : wrap64 ((i : Int) + 1) = ((i + 1 : Nat) : Int) := by unfold wrap64; omega
    have hr : rd l (i : Int) = l[i] := by simp [rd, List.getD, hlt]
    have hpi := hp l[i] (List.getElem_mem hlt)
    have fin : ∀ v, v = impl_lower.one l i → ∀ y : List Int, y = x.set i v → impl_lower.l2 k x4 x5 y l (l.length : Int) ((i + 1 : Nat) : Int) = some ((List.range l.length).map (impl_lower.one l)) := by
      intro v hv y hy
      subst hy
      refine ih k (i + 1) _ (by rw [List.length_set]; exact hx) ?_ (by omega) (by omega) (by omega)
      intro j hj
      have e := impl_lower.rd_set 0 x i j v (by omega)
      have e2 : rd (x.set i v) (j : Int) = rdOf 0 (x.set i v) (j : Int) := rfl
      rw [e2, e]
      by_cases c : j = i
      · rw [if_pos c, c, hv]
      · rw [if_neg c]; exact hg j (by omega)
    simp only [impl_lower.l2]
    rw [if_pos (by omega), if_pos (by omega), if_pos (by omega), hr, impl_lower.low _ hpi]
    simp only [Option.bind_some]
    rw [if_pos (by omega), impl_lower.within _ 18 (by omega)]
    simp only [Option.bind_some, Int.toNat_natCast]
    have hone : impl_lower.one l i = if 512 ≤ l[i] ∧ l[i] < 1280 ∧ l[i] % 256 = 18 ∧ YtnonijganceneaaDoorCas.endsAt l i = true then l[i] - 18 + 97 else (impl_cases.g l[i]).2.2 := by unfold impl_lower.one; rw [hr]
    unfold YtnonijganceneaaDoorCas.endsAt at hone
    rw [← g4 i hlt, ← g5 i hlt] at hone
    obtain ⟨p, hpe⟩ : ∃ p, l[i] = p := ⟨_, rfl⟩
    rw [hpe] at hone hpi ⊢
    unfold YtnonijganceneaaDoorPts.isP at hpi
    rw [hw]
    by_cases c : 512 ≤ p ∧ p < 1280 ∧ p % 256 = 18
    · have v1 : wrap64 (p - 18) = p - 18 := by unfold wrap64; omega
      have v2 : wrap64 (p - 18 + 97) = p - 18 + 97 := by unfold wrap64; omega
      rw [if_pos (decide_eq_true c), if_pos (by omega), v1, v2]
      by_cases e4 : rdOf false x4 (i : Int) = true
      · rw [if_pos e4, if_pos (by omega)]
        by_cases e5 : rdOf false x5 (i : Int) = true
        · rw [if_pos e5]
          rw [if_neg (by rw [e4, e5]; simp)] at hone
          exact fin _ hone.symm _ rfl
        · rw [if_neg e5]
          have e5 := Bool.eq_false_iff.mpr e5
          rw [if_pos ⟨c.1, c.2.1, c.2.2, by rw [e4, e5]; rfl⟩] at hone
          exact fin _ hone.symm _ (by rw [List.set_set])
      · rw [if_neg e4]
        have e4 := Bool.eq_false_iff.mpr e4
        rw [if_neg (by rw [e4]; simp)] at hone
        exact fin _ hone.symm _ rfl
    · rw [if_neg (by simpa using c)]
      rw [if_neg (fun z => c ⟨z.1, z.2.1, z.2.2.1⟩)] at hone
      exact fin _ hone.symm _ rfl
theorem impl_lower.run1 (l : List Int) (hl : l.length ≤ 1099511627776) (hp : ∀ p ∈ l, YtnonijganceneaaDoorPts.isP p) (x4 : List Bool) (h4 : x4.length = l.length) (g4 : ∀ j < l.length, rdOf false x4 (j : Int) = YtnonijganceneaaDoorCas.nextC (l.take j).reverse) :
    ∀ (i k : Nat) (x5 : List Bool), x5.length = l.length → (∀ j < l.length, i ≤ j → rdOf false x5 (j : Int) = YtnonijganceneaaDoorCas.nextC (l.drop (j + 1))) → i ≤ l.length → i + l.length + 2 < k → impl_lower.l1 k l (l.length : Int) x4 x5 (YtnonijganceneaaDoorCas.nextC (l.drop i)) ((i : Int) - 1) = some ((List.range l.length).map (impl_lower.one l)) := by
  intro i
  induction i with
  | zero =>
    intro k x5 h5 g5 h1 h2
    obtain ⟨k, rfl⟩ : ∃ m, k = m + 1 := ⟨k - 1, by omega⟩
    rw [impl_lower.l1]
    rw [if_neg (by omega), if_pos (by omega), if_pos (by omega)]
    exact impl_lower.run2 l hl hp x4 x5 h4 h5 g4 (fun j hj => g5 j hj (Nat.zero_le _)) l.length k 0 _ (by simp) (fun j hj => absurd hj (Nat.not_lt_zero _)) (Nat.zero_le _) rfl (by omega)
  | succ i ih =>
    intro k x5 h5 g5 h1 h2
    obtain ⟨k, rfl⟩ : ∃ m, k = m + 1 := ⟨k - 1, by omega⟩
    have hlt : i < l.length := by omega
    have he : ((i + 1 : Nat) : Int) - 1 = (i : Int) := by omega
    have hv : wrap64 ((i : Int) - 1) = (i : Int) - 1 := by unfold wrap64; omega
    have hr : rd l (i : Int) = l[i] := by simp [rd, List.getD, hlt]
    have hih := ih k (x5.set i (YtnonijganceneaaDoorCas.nextC (l.drop (i + 1)))) (by rw [List.length_set]; exact h5) (by
      intro j hj hij
      rw [impl_lower.rd_set false x5 i j _ (by omega)]
      by_cases c : j = i
      · rw [if_pos c, c]
      · rw [if_neg c]; exact g5 j hj (by omega)) (by omega) (by omega)
    rw [YtnonijganceneaaDoorCas.nextC_drop l i hlt] at hih
    rw [impl_lower.l1, he]
    rw [if_pos (by omega), if_pos (by omega), if_pos (by omega)]
    simp only [Option.bind_some, Int.toNat_natCast]
    rw [if_pos (by omega), hr, impl_lower.mark, impl_lower.cased, hv]
    simp only [Option.bind_some]
    by_cases m : YtnonijganceneaaDoorCas.isMark l[i] = true
    · rw [if_pos m]; rw [if_pos m] at hih; exact hih
    · rw [if_neg m]; rw [if_neg m] at hih; exact hih
theorem impl_lower.run0 (l : List Int) (hl : l.length ≤ 1099511627776) (hp : ∀ p ∈ l, YtnonijganceneaaDoorPts.isP p) (d : Nat) :
    ∀ (k i : Nat) (x4 : List Bool), x4.length = l.length → (∀ j < i, rdOf false x4 (j : Int) = YtnonijganceneaaDoorCas.nextC (l.take j).reverse) → i ≤ l.length → l.length - i = d → d + 2 * l.length + 3 < k →
    impl_lower.l0 k l (l.length : Int) x4 (List.replicate l.length false) (YtnonijganceneaaDoorCas.nextC (l.take i).reverse) l (l.length : Int) (i : Int) = some ((List.range l.length).map (impl_lower.one l)) := by
  induction d with
  | zero =>
    intro k i x4 h4 g4 h1 h2 h3
    obtain ⟨k, rfl⟩ : ∃ m, k = m + 1 := ⟨k - 1, by omega⟩
    obtain rfl : i = l.length := by omega
    have hv : wrap64 ((l.length : Int) - 1) = (l.length : Int) - 1 := by unfold wrap64; omega
    rw [impl_lower.l0]
    rw [if_neg (by omega), hv]
    have h := impl_lower.run1 l hl hp x4 h4 g4 l.length k (List.replicate l.length false) (by simp) (fun j hj hij => absurd hij (by omega)) (Nat.le_refl _) (by omega)
    rw [List.drop_length] at h
    exact h
  | succ d ih =>
    intro k i x4 h4 g4 h1 h2 h3
    obtain ⟨k, rfl⟩ : ∃ m, k = m + 1 := ⟨k - 1, by omega⟩
    have hlt : i < l.length := by omega
    have hw : wrap64 ((i : Int) + 1) = ((i + 1 : Nat) : Int) := by unfold wrap64; omega
    have hr : rd l (i : Int) = l[i] := by simp [rd, List.getD, hlt]
    have hih := ih k (i + 1) (x4.set i (YtnonijganceneaaDoorCas.nextC (l.take i).reverse)) (by rw [List.length_set]; exact h4) (by
      intro j hj
      rw [impl_lower.rd_set false x4 i j _ (by omega)]
      by_cases c : j = i
      · rw [if_pos c, c]
      · rw [if_neg c]; exact g4 j (by omega)) (by omega) (by omega) (by omega)
    rw [YtnonijganceneaaDoorCas.nextC_take l i hlt] at hih
    rw [impl_lower.l0]
    rw [if_pos (by omega), if_pos (by omega), if_pos (by omega), if_pos (by omega)]
    simp only [Option.bind_some, Int.toNat_natCast]
    rw [hr, impl_lower.mark, impl_lower.cased, hw]
    simp only [Option.bind_some]
    by_cases m : YtnonijganceneaaDoorCas.isMark l[i] = true
    · rw [if_pos m]; rw [if_pos m] at hih; exact hih
    · rw [if_neg m]; rw [if_neg m] at hih; exact hih
theorem W_impl_lower.to {l0 : List Int} {r : List Int} (h : W_impl_lower.f l0 = some r) : ∃ k, impl_lower.f k l0 = some r := by
  unfold W_impl_lower.f at h
  split at h
  · rename_i hc
    refine ⟨3 * l0.length + 4, ?_⟩
    rw [← h]
    unfold impl_lower.f
    rw [if_pos (by omega), if_pos (by simp only [Int.toNat_natCast]; omega)]
    simp only [Int.toNat_natCast]
    exact impl_lower.run0 l0 hc.1 hc.2 l0.length _ 0 _ (by simp) (fun j hj => absurd hj (Nat.not_lt_zero _)) (Nat.zero_le _) rfl (by omega)
  · cases h
theorem W_impl_lower.calls (A0 : Option Addr) (c0 : Nat) (l0 : List Int) (r : List Int) (w : World) (hr0 : Kd.C (Kd.int .i64) w A0 l0.length l0) (hc0 : l0.length ≤ c0) (h : W_impl_lower.f l0 = some r) :
    Calls Tryd.prog 203 #[.slice A0 l0.length c0] w fun e w' => ∃ v0_ : Value, e = .returned (v0_) ∧ Kd.R (Kd.int .i64) 2 w' w.heap.size (fun _ => True) v0_ r ∧ Below w.heap.size w w' := by
  obtain ⟨k, hk⟩ := W_impl_lower.to h
  exact impl_lower.calls k A0 c0 l0 r w hr0 hc0 hk

end Go.Proofs.YtnonijganceneaaDoor.QFnExactTitle
