/- The law FnNormer: at every input the call answers true (this text: contracts on its way, by a program of this session's; no condition of ours). -/
import Derived.Test.YtiabgmddnddeiaaDoorQFnNormerx0
import Derived.Test.YtiabgmddnddeiaaDoorQFnNormerx1
import Derived.Test.YtiabgmddnddeiaaDoorQFnNormerx2
import Derived.Test.YtiabgmddnddeiaaDoorQFnNormerx3
import Derived.Test.YtiabgmddnddeiaaDoorQFnNormerx4
import Derived.Test.YtiabgmddnddeiaaDoorQFnNormerx5
import Derived.Test.YtiabgmddnddeiaaDoorQFnNormerx7
namespace Go.Proofs.YtiabgmddnddeiaaDoor.QFnNormer
open Go.RowKit Go.Proofs.YtiabgmddnddeiaaDoorW.PrintWords Go.Proofs.YtiabgmddnddeiaaDoorW.PrintLast Go.Proofs.YtiabgmddnddeiaaDoorW.PrintMore
attribute [local go_sem] max2_int min2_int max_two min_two max_three min_three max_four min_four   -- for this text's walks alone
set_option linter.unusedVariables false
set_option linter.unusedSimpArgs false

/-! ### spec_l05Norm: function 98 -/
def spec_l05Norm.l0 : Nat → Int → List Int → List Int → Int → Option (List Int)
 | 0, _, _, _, _ => none
 | k + 1, x0, x1, x5, x6 => if x6 < (x1.length : Int) then (if 0 ≤ x6 then ((spec_l05K.f x0).bind fun t214 => ((W_spec_l05All.f (rd x1 x6) t214).bind fun t215 => (if x5.length + t215.length < 17592186044416 then (spec_l05Norm.l0 k x0 x1 (x5 ++ t215) (wrap64 (x6 + 1))) else (none)))) else (none)) else ((W_spec_l05Ordered.f x5).bind fun t221 => ((spec_l05C.f x0).bind fun t224 => (if t224 = true then ((W_spec_l05Composed.f t221).bind fun t225 => (some t225)) else (some t221))))
def spec_l05Norm.f (k : Nat) (a0 : Int) (l1 : List Int) : Option (List Int) := spec_l05Norm.l0 k a0 l1 (([] : List Int)) 0
theorem spec_l05Norm.mono_l : ∀ k, (∀ y0 y1 y2 y3, LeO (spec_l05Norm.l0 k y0 y1 y2 y3) (spec_l05Norm.l0 (k + 1) y0 y1 y2 y3))
 | 0 => fun _ _ _ _ r h => by simp [spec_l05Norm.l0] at h
 | k + 1 => by
  have ih0 := spec_l05Norm.mono_l k; intro y0 y1 y2 y3
  unfold spec_l05Norm.l0
  repeat' first
  | (with_reducible exact ih0 _ _ _ _)
  | (with_reducible exact LeO.refl _)
  | (with_reducible exact LeO.none _)
  | (with_reducible refine LeO.ite ?_ ?_)
  | (with_reducible refine LeO.bind ?_ (fun _ => ?_))
  | exact ih0 _ _ _ _
  | exact LeO.none _
  | refine LeO.ite ?_ ?_
  | refine LeO.bind ?_ (fun _ => ?_)
theorem spec_l05Norm.mono : ∀ a0 a1 k, LeO (spec_l05Norm.f k a0 a1) (spec_l05Norm.f (k + 1) a0 a1) := by
 intro a0 a1 k
 have ih0 := spec_l05Norm.mono_l k
 unfold spec_l05Norm.f
 repeat' first
   | (with_reducible exact ih0 _ _ _ _)
   | (with_reducible exact LeO.refl _)
   | (with_reducible exact LeO.none _)
   | (with_reducible refine LeO.ite ?_ ?_)
   | (with_reducible refine LeO.bind ?_ (fun _ => ?_))
   | exact ih0 _ _ _ _
   | exact LeO.none _
   | refine LeO.ite ?_ ?_
   | refine LeO.bind ?_ (fun _ => ?_)
def spec_l05Norm.T5 : Bool × List (List Nat × List Nat) := (true, [([], []), ([], []), ([], []), ([1, 2], [1, 2]), ([3], [3]), ([], []), ([5], [5]), ([4, 6, 6], [4, 6]), ([0, 7, 7], [0, 7]), ([8, 8, 0, 1, 2, 3, 4, 5, 6, 7, 8], [0, 8])])
def spec_l05Norm.B5 : List Nat := [0, 0, 0, 6, 14, 0, 32, 126, 255, 511]
theorem spec_l05Norm.tab5 : rtab .any (opsOf Tryd.f98 5) = spec_l05Norm.T5 := by kernel_rfl
theorem spec_l05Norm.bits5 : waitsOk spec_l05Norm.T5.2 spec_l05Norm.B5 = true := by kernel_rfl
set_option maxHeartbeats 8000000 in
set_option maxRecDepth 100000 in
theorem spec_l05Norm.calls (k : Nat) (a0 : Int) (A1 : Option Addr) (c1 : Nat) (l1 : List Int) (r : List Int) (w : World) (hr1 : Kd.C (Kd.int .i64) w A1 l1.length l1) (hc1 : l1.length ≤ c1) (h : spec_l05Norm.f k a0 l1 = some r) :
  Calls Tryd.prog 98 #[.int .i64 a0, .slice A1 l1.length c1] w fun e w' => ∃ v0_ : Value, e = .returned (v0_) ∧ Kd.R (Kd.int .i64) 2 w' w.heap.size (fun _ => True) v0_ r ∧ Below w.heap.size w w' := by
 have HR1 := Aside0.mk hr1
 have HC1 := Aside0.mk hc1
 clear hr1 hc1
 have HB := Aside0.mk (Below.refl w.heap.size w)
 have H : (spec_l05Norm.l0 k a0 l1 (([] : List Int)) 0) = some r := h
 clear h
 obtain ⟨y210, hy210⟩ : ∃ y_ : List Int, y_ = (([] : List Int)) := ⟨_, rfl⟩
 replace H : (spec_l05Norm.l0 k a0 l1 y210 0) = some r := by first | (rw [hy210]; with_reducible exact H) | (have H2_ := (Option.bind_some _ _).symm.trans H; rw [hy210]; with_reducible exact H2_) | (have H2_ := (Option.bind_some _ _).symm.trans H; with_reducible exact H2_) | with_reducible exact H | (rw [hy210]; exact H) | exact H
 have Ny210 := Aside0.mk hy210
 clear hy210
 have H' := Aside0.mk H
 clear H
 go_enter Tryd.func98, Tryd.ntmps98
 go_wp2_with (first | ((with_reducible refine gate_dst (N := 7) rfl ?_); refine Kd.R_lit (Kd.int .i64) _ 2 ?hg (N := 7) ?hd (xs := ([] : List Int)) (inner := []) (ok := fun _ => True) (okp := fun _ => True) ?hr ?hp (fun _ hk => hk) trivial (Below.refl _ _) (Nat.le_refl _) (by simp) ?_; (case hd => rfl); (case hg => rfl); (case hr => first | (go_simp; done) | (go_simp; rfl)); (case hp => exact (Reps.none _ _)); intro v211 w3 ho4 hb hg_ hnew_; clear hg_ hnew_; (first | rw [← Ny210.out] at ho4 | (simp only [Int.reduceToNat] at ho4; rw [← Ny210.out] at ho4)); have n0_ := Aside0.mk (Kd.R_lower ho4 (below_size (belowA))); have n1_ := Aside0.mk (below_step (belowA) hb); have HO212 := n0_; replace HB := n1_; clear n0_ n1_; clear hb ho4))
 go_loopg [5, 6] k (fun kq v5 v6 w' => ∃ (x5_1 : List Int) (x6_1 : Int), v6 = .int .i64 x6_1 ∧ Aside0 (spec_l05Norm.l0 kq a0 l1 x5_1 x6_1 = some r) ∧ Aside0 (kq ≤ k) ∧ Aside0 (Kd.R (Kd.int .i64) 2 w' w.heap.size (fun _ => True) v5 x5_1) ∧ Aside0 (Below w.heap.size w w'))
 case atStart => exact ⟨(y210), (0), (by first | rfl | (simp; done) | (simp [*]; done)), H', ⟨Nat.le_refl _⟩, ⟨by (with_reducible repeat (first | apply Kd.R_alloc | apply Kd.R_drewN | apply Kd.R_drew)); exact HO212.out⟩, ⟨belowA⟩⟩
 case round =>
  clear H'
  try clear c1; try clear p2
  obtain ⟨x5_1, x6_1, rfl, HA, HK1, HO_5, HB⟩ := hrel
  cases gk with
  | zero => exact absurd HA.out (by simp [spec_l05Norm.l0])
  | succ k1 =>
   have H := HA.out; clear HA; simp only [spec_l05Norm.l0] at H
   by_cases c5 : x6_1 < (l1.length : Int)
   ·rw [if_pos c5] at H
    have c5b0 : decide (x6_1 < (l1.length : Int)) = true := decide_eq_true c5; clear c5
    by_cases c6 : 0 ≤ x6_1
    ·rw [if_pos c6] at H
     have c6b0 : decide (0 ≤ x6_1) = true := decide_eq_true c6; clear c6; replace H := Option.bind_eq_some_iff.mp H; obtain ⟨t214, A70, H⟩ := H
     try dsimp only at H
     have A7 := Aside0.mk A70; clear A70; replace H := Option.bind_eq_some_iff.mp H; obtain ⟨t215, A80, H⟩ := H
     try dsimp only at H
     have A8 := Aside0.mk A80; clear A80
     by_cases c9 : x5_1.length + t215.length < 17592186044416
     ·rw [if_pos c9] at H
      have LMc9 := Aside0.mk c9; clear c9; obtain ⟨y218, hy218⟩ : ∃ y_ : List Int, y_ = (x5_1 ++ t215) := ⟨_, rfl⟩
      replace H : (spec_l05Norm.l0 k1 a0 l1 y218 (wrap64 (x6_1 + 1))) = some r := by first | (rw [hy218]; with_reducible exact H) | (have H2_ := (Option.bind_some _ _).symm.trans H; rw [hy218]; with_reducible exact H2_) | (have H2_ := (Option.bind_some _ _).symm.trans H; with_reducible exact H2_) | with_reducible exact H | (rw [hy218]; exact H) | exact H
      have Ny218 := Aside0.mk hy218; clear hy218; have H' := Aside0.mk H; clear H
      try go_wp2
      have n0_ := Aside0.mk (Kd.R_drew HO_5.out); have n1_ := Aside0.mk (below_drew1 HB.out); clear HO_5; clear HB; have HO_5 := n0_; have HB := n1_; clear n0_ n1_; have p213 : 0 ≤ (x6_1 : Int) := ode; have q213 : x6_1 < (l1.length : Int) := ode; obtain ⟨ad213, e213, hx213_0⟩ := Kd.at_int HR1.out x6_1 p213 q213; have hw213_0 := hx213_0; cases e213; replace hx213_0 := (HB.out.cell (World.block_lt_of_cell? w _ hx213_0)).trans hx213_0; replace p213 := eq_true p213; replace q213 := eq_true q213
      refine start_ (n := 10) (S := fun w' => w'.cell? (ad213.add (x6_1).toNat) = some (.int .i64 (rd l1 x6_1))) (ds := []) #[false,false,false,false,false,false,false,false,false,false] (by kernel_rfl) rfl rfl (((HB.out.cell (World.block_lt_of_cell? w _ hw213_0)).trans hw213_0)) (fun hHeld => ?_); refine with_tabW spec_l05Norm.tab5 spec_l05Norm.bits5 (fun HT_ HW_ => ?_)
      generalize wr.drew = w10 at HO_5 HB hx213_0 hHeld ⊢
      refine pure_ (i := 0) (N := some 14) (v := ?_) (a' := ?_) #[true,false,false,false,false,false,false,false,false,false] rfl rfl (any_of HT_.out (by kernel_rfl)) (fun _ _ _ h => h) (Or.inl ⟨by rfl, ?_⟩) ?_ ?_
      rotate_left
      ·intro w'
       go_simp; with_reducible rfl
      rotate_left
      ·simp only [Act.put, List.setIfInBounds_toArray, List.set_cons_zero, List.set_cons_succ, i64_w, i32_w]
       rfl
      refine pure_ (i := 1) (N := some 15) (v := ?_) (a' := ?_) #[true,true,false,false,false,false,false,false,false,false] rfl rfl (any_of HT_.out (by kernel_rfl)) (fun _ _ _ h => h) (Or.inl ⟨by rfl, ?_⟩) ?_ ?_
      rotate_left
      ·intro w'
       go_simp; with_reducible rfl
      rotate_left
      ·simp only [Act.put, List.setIfInBounds_toArray, List.set_cons_zero, List.set_cons_succ, i64_w, i32_w]
       rfl
      refine pure_ (i := 2) (N := some 16) (v := ?_) (a' := ?_) #[true,true,true,false,false,false,false,false,false,false] rfl rfl (any_of HT_.out (by kernel_rfl)) (fun _ _ _ h => h) (Or.inl ⟨by rfl, ?_⟩) ?_ ?_
      rotate_left
      ·intro w'
       go_simp; with_reducible rfl
      rotate_left
      ·simp only [Act.put, List.setIfInBounds_toArray, List.set_cons_zero, List.set_cons_succ, i64_w, i32_w]
       rfl
      refine pure_ (i := 3) (N := some 17) (v := ?_) (a' := ?_) #[true,true,true,true,false,false,false,false,false,false] rfl rfl (any_of HT_.out (by kernel_rfl)) (fun _ _ _ h => h) (Or.inl ⟨by rfl, ?_⟩) ?_ ?_
      rotate_left
      ·intro w'
       go_simp; with_reducible rfl
      rotate_left
      ·simp only [Act.put, List.setIfInBounds_toArray, List.set_cons_zero, List.set_cons_succ, i64_w, i32_w]
       rfl
      refine pure_ (i := 5) (N := some 19) (v := ?_) (a' := ?_) #[true,true,true,true,false,true,false,false,false,false] rfl rfl (any_of HT_.out (by kernel_rfl)) (fun _ _ _ h => h) (Or.inl ⟨by rfl, ?_⟩) ?_ ?_
      rotate_left
      ·intro w'
       go_simp; with_reducible rfl
      rotate_left
      ·simp only [Act.put, List.setIfInBounds_toArray, List.set_cons_zero, List.set_cons_succ, i64_w, i32_w]
       rfl
      refine take_ (i := 4) (N := some 18) (v := ?_) (a' := ?_) #[true,true,true,true,true,true,false,false,false,false] rfl rfl (take_ofW HT_.out HW_.out (by kernel_rfl)) (fun _ _ _ h => h) (Or.inl ⟨by rfl, ?_⟩) hHeld ?_ ?_
      rotate_left
      ·intro w' s0
       go_simp; with_reducible rfl
      rotate_left
      ·simp only [Act.put, List.setIfInBounds_toArray, List.set_cons_zero, List.set_cons_succ, i64_w, i32_w]
       rfl
      refine one_ (i := 6) (N := some 20) #[true,true,true,true,true,true,true,false,false,false] rfl rfl (one_of HT_.out (by kernel_rfl)) (by decide) (fun K hK => ?_)
      refine goes_ Tryd.func175 (by kernel_rfl) rfl #[.int .i64 a0] (by rfl) rfl rfl (by (try simp only [List.map_toArray, List.map_cons, List.map_nil]); first | done | rfl) ?_
      with_reducible refine (spec_l05K.calls a0 t214 _ A7.out).mono ?_
      rintro e w' ⟨rfl, ⟨nd, rfl⟩⟩; refine ⟨_, rfl, ?_⟩
      refine hK.out _ _ (((HB.out.cell (World.block_lt_of_cell? w _ hw213_0)).trans hw213_0)) (fun hHeld => ?_)
      clear hK K
      refine norm_ (a' := ?_) ?_ ?_
      rotate_left
      ·show Act.put _ (some 20) _ = _
       simp only [Act.put, List.setIfInBounds_toArray, List.set_cons_zero, List.set_cons_succ, i64_w, i32_w]; rfl
      refine one_ (i := 7) (N := some 21) #[true,true,true,true,true,true,true,true,false,false] rfl rfl (one_of HT_.out (by kernel_rfl)) (by decide) (fun K hK => ?_)
      refine goes_ Tryd.func174 (by kernel_rfl) rfl #[.int .i64 (rd l1 x6_1), .bool t214] (by rfl) rfl rfl (by (try simp only [List.map_toArray, List.map_cons, List.map_nil]); first | done | rfl) ?_
      with_reducible refine (W_spec_l05All.calls (rd l1 x6_1) t214 t215 _ A8.out).mono ?_
      rintro e w11 ⟨v216, rfl, ho0, hb⟩; refine ⟨_, rfl, ?_⟩
      have n0_ := Aside0.mk (Kd.R_elder' (by (with_reducible repeat (first | apply Kd.R_alloc | apply Kd.R_drewN | apply Kd.R_drew)); exact HO_5.out) (Kd.R_base ho0) hb)
      have n1_ := Aside0.mk (Kd.R_lower (Kd.R_new' ho0 (Kd.R_lt (by (with_reducible repeat (first | apply Kd.R_alloc | apply Kd.R_drewN | apply Kd.R_drew)); exact HO_5.out))) (below_size (belowA)))
      have n2_ := Aside0.mk (below_step (belowA) hb); clear HO_5; clear HB; have HO_5 := n0_; have HO217 := n1_; have HB := n2_; clear n0_ n1_ n2_
      (try clear hb)
      (try clear hb2)
      (try clear hk)
      (try clear hi)
      (try clear ho0)
      obtain ⟨Ao13, co13, eo13⟩ := Kd.R_slice HO217.out
      (first | subst eo13 | (injection eo13 with f1_ f2_ f3_; have f4_ := f1_.symm; have f5_ := f3_.symm; clear f1_ f2_ f3_; subst f4_; subst f5_))
      refine hK.out _ _ (((HB.out.cell (World.block_lt_of_cell? w _ hw213_0)).trans hw213_0)) (fun hHeld => ?_)
      clear hK K
      refine norm_ (a' := ?_) ?_ ?_
      rotate_left
      ·show Act.put _ (some 21) _ = _
       simp only [Act.put, List.setIfInBounds_toArray, List.set_cons_zero, List.set_cons_succ, i64_w, i32_w]; rfl
      refine one_ (i := 8) (N := some 22) #[true,true,true,true,true,true,true,true,true,false] rfl rfl (one_of HT_.out (by kernel_rfl)) (by decide) (fun K hK => ?_)
      refine Kd.R_append_rows_step (Kd.int .i64) (w0 := w) w.heap.size (by rfl) (.tmp 14) (.tmp 21) 28 2 (.int .i64 0) 8 rfl Tryd.underlying28 info2 rfl (by decide) (by omega) u5 x5_1 t215 _ _ _ (fun k_ => some k_ ≠ (.slice Ao13 t215.length co13 : Value).ownBlock) (fun _ => False) rfl rfl ?aO ?aR (fun _ _ h => h) (fun _ h => h.elim) ?aF ?aB ?aS ?aL ?_
      (case aR => repeat (first | exact (Kd.R_reads' HO217.out).2.2 | (with_reducible refine Kd.C_alloc ?_ _) | (with_reducible refine Kd.C_drewN ?_ _) | (with_reducible refine Kd.C_drew ?_)))
      (case aB => exact (belowA))
      (case aF => exact (fun k_ hk => Kd.fresh' (Kd.R_lt (by (with_reducible repeat (first | apply Kd.R_alloc | apply Kd.R_drewN | apply Kd.R_drew)); exact HO217.out)) k_ hk))
      (case aO => exact (by (with_reducible repeat (first | apply Kd.R_alloc | apply Kd.R_drewN | apply Kd.R_drew)); exact Kd.R_mono HO_5.out (fun _ hk => hk.2)))
      (case aS => exact (below_size (belowA)))
      (case aL => have := LMc9.out; omega)
      intro v219 w12 ho hb hg hat; rw [← Ny218.out] at ho
      have n0_ := Aside0.mk (Kd.R_after (ok := (fun _ => True)) (by (with_reducible repeat (first | apply Kd.R_alloc | apply Kd.R_drewN | apply Kd.R_drew)); exact HO217.out) hg hat)
      have n1_ := Aside0.mk (hb); have n2_ := Aside0.mk (ho); clear HO217; clear HB; clear HO_5; have HO217 := n0_; have HB := n1_; have HO220 := n2_; clear n0_ n1_ n2_; clear ho hb hg hat
      refine hK.out _ _ (((HB.out.cell (World.block_lt_of_cell? w _ hw213_0)).trans hw213_0)) (fun hHeld => ?_)
      clear hK K
      refine norm_ (a' := ?_) ?_ ?_
      rotate_left
      ·show Act.put _ (some 22) _ = _
       simp only [Act.put, List.setIfInBounds_toArray, List.set_cons_zero, List.set_cons_succ, i64_w, i32_w]; rfl
      refine pure_ (i := 9) (N := some 5) (v := ?_) (a' := ?_) #[true,true,true,true,true,true,true,true,true,true] rfl rfl (any_of HT_.out (by kernel_rfl)) (fun _ _ _ h => h) (Or.inl ⟨by rfl, ?_⟩) ?_ ?_
      rotate_left
      ·intro w'
       go_simp; with_reducible rfl
      rotate_left
      ·simp only [Act.put, List.setIfInBounds_toArray, List.set_cons_zero, List.set_cons_succ, i64_w, i32_w]
       rfl
      refine done_ (done_of HT_.out (by kernel_rfl)) ?_
      try go_wp2
      go_roundg k1
      case measure => have := HK1.out; omega
      case rel => exact ⟨(y218), (wrap64 (x6_1 + 1)), (by first | rfl | (simp; done) | (simp [*]; done)), H', ⟨by have := HK1.out; omega⟩, ⟨by (with_reducible repeat (first | apply Kd.R_alloc | apply Kd.R_drewN | apply Kd.R_drew)); exact Kd.R_mono HO220.out (fun _ hk => trivial)⟩, ⟨belowA⟩⟩
     rw [if_neg c9] at H
     exact absurd H (by simp)
    rw [if_neg c6] at H
    exact absurd H (by simp)
   rw [if_neg c5] at H; have c5b0 : decide (x6_1 < (l1.length : Int)) = false := decide_eq_false c5; clear c5; replace H := Option.bind_eq_some_iff.mp H; obtain ⟨t221, A140, H⟩ := H
   try dsimp only at H
   have A14 := Aside0.mk A140; clear A140; replace H := Option.bind_eq_some_iff.mp H; obtain ⟨t224, A150, H⟩ := H
   try dsimp only at H
   have A15 := Aside0.mk A150; clear A150
   by_cases c16 : t224 = true
   ·subst c16
    have H1 : ((W_spec_l05Composed.f t221).bind fun t225 => (some t225)) = some r := by rw [if_pos rfl] at H; exact H
    clear H; have H := H1; clear H1; replace H := Option.bind_eq_some_iff.mp H; obtain ⟨t225, A170, H⟩ := H
    try dsimp only at H
    have A17 := Aside0.mk A170; clear A170; obtain rfl := Option.some.inj H; obtain ⟨Ao18, co18, eo18⟩ := Kd.R_slice HO_5.out; subst eo18
    go_wp2_with (first | (go_at_call 176; (with_reducible refine (W_spec_l05Ordered.calls _ _ x5_1 t221 _ ?side1 ?side2 A14.out).mono ?_); (case side1 => repeat (first | exact (Kd.R_reads' HO_5.out).2.2 | (with_reducible refine Kd.C_alloc ?_ _) | (with_reducible refine Kd.C_drewN ?_ _) | (with_reducible refine Kd.C_drew ?_))); (case side2 => exact (Kd.R_reads' HO_5.out).2.1); rintro e w19 ⟨v222, rfl, ho0, hb⟩; have n0_ := Aside0.mk (Kd.R_elder' (by (with_reducible repeat (first | apply Kd.R_alloc | apply Kd.R_drewN | apply Kd.R_drew)); exact HO_5.out) (Kd.R_base ho0) hb); have n1_ := Aside0.mk (Kd.R_lower (Kd.R_new' ho0 (Kd.R_lt (by (with_reducible repeat (first | apply Kd.R_alloc | apply Kd.R_drewN | apply Kd.R_drew)); exact HO_5.out))) (below_size (belowA))); have n2_ := Aside0.mk (below_step (belowA) hb); replace HO_5 := n0_; have HO223 := n1_; replace HB := n2_; clear n0_ n1_ n2_; clear hb; (try clear ho0)) | (go_at_call 146; (with_reducible refine (spec_l05C.calls a0 true _ A15.out).mono ?_); rintro e w' ⟨rfl, ⟨nd, rfl⟩⟩; obtain ⟨Ao20, co20, eo20⟩ := Kd.R_slice HO223.out; subst eo20) | (go_at_call 177; (with_reducible refine (W_spec_l05Composed.calls _ _ t221 t225 _ ?side1 ?side2 A17.out).mono ?_); (case side1 => repeat (first | exact (Kd.R_reads' HO223.out).2.2 | (with_reducible refine Kd.C_alloc ?_ _) | (with_reducible refine Kd.C_drewN ?_ _) | (with_reducible refine Kd.C_drew ?_))); (case side2 => exact (Kd.R_reads' HO223.out).2.1); rintro e w21 ⟨v226, rfl, ho0, hb⟩; have n0_ := Aside0.mk (Kd.R_elder' (by (with_reducible repeat (first | apply Kd.R_alloc | apply Kd.R_drewN | apply Kd.R_drew)); exact HO_5.out) (Kd.R_base ho0) hb); have n1_ := Aside0.mk (Kd.R_elder' (by (with_reducible repeat (first | apply Kd.R_alloc | apply Kd.R_drewN | apply Kd.R_drew)); exact HO223.out) (Kd.R_base ho0) hb); have n2_ := Aside0.mk (Kd.R_lower (Kd.R_new' (Kd.R_new' ho0 (Kd.R_lt (by (with_reducible repeat (first | apply Kd.R_alloc | apply Kd.R_drewN | apply Kd.R_drew)); exact HO_5.out))) (Kd.R_lt (by (with_reducible repeat (first | apply Kd.R_alloc | apply Kd.R_drewN | apply Kd.R_drew)); exact HO223.out))) (below_size (belowA))); have n3_ := Aside0.mk (below_step (belowA) hb); replace HO_5 := n0_; replace HO223 := n1_; have HO227 := n2_; replace HB := n3_; clear n0_ n1_ n2_ n3_; clear hb; (try clear ho0)))
    go_ret
    exact ⟨_, by first | rfl | (simp [errW_none, errW_some] <;> rfl) | (simp [*, errW_none, errW_some] <;> rfl), by (with_reducible repeat (first | apply Kd.R_alloc | apply Kd.R_drewN | apply Kd.R_drew)); exact Kd.R_mono HO227.out (fun _ hk => trivial), belowA⟩
   replace c16 := Bool.eq_false_iff.mpr c16; subst c16
   have H1 : (some t221) = some r := by rw [if_neg (show ¬ (false = true) by decide)] at H; exact H
   clear H; have H := H1; clear H1; obtain rfl := Option.some.inj H; obtain ⟨Ao22, co22, eo22⟩ := Kd.R_slice HO_5.out; subst eo22
   go_wp2_with (first | (go_at_call 176; (with_reducible refine (W_spec_l05Ordered.calls _ _ x5_1 t221 _ ?side1 ?side2 A14.out).mono ?_); (case side1 => repeat (first | exact (Kd.R_reads' HO_5.out).2.2 | (with_reducible refine Kd.C_alloc ?_ _) | (with_reducible refine Kd.C_drewN ?_ _) | (with_reducible refine Kd.C_drew ?_))); (case side2 => exact (Kd.R_reads' HO_5.out).2.1); rintro e w23 ⟨v222, rfl, ho0, hb⟩; have n0_ := Aside0.mk (Kd.R_elder' (by (with_reducible repeat (first | apply Kd.R_alloc | apply Kd.R_drewN | apply Kd.R_drew)); exact HO_5.out) (Kd.R_base ho0) hb); have n1_ := Aside0.mk (Kd.R_lower (Kd.R_new' ho0 (Kd.R_lt (by (with_reducible repeat (first | apply Kd.R_alloc | apply Kd.R_drewN | apply Kd.R_drew)); exact HO_5.out))) (below_size (belowA))); have n2_ := Aside0.mk (below_step (belowA) hb); replace HO_5 := n0_; have HO223 := n1_; replace HB := n2_; clear n0_ n1_ n2_; clear hb; (try clear ho0)) | (go_at_call 146; (with_reducible refine (spec_l05C.calls a0 false _ A15.out).mono ?_); rintro e w' ⟨rfl, ⟨nd, rfl⟩⟩))
   go_ret
   exact ⟨_, by first | rfl | (simp [errW_none, errW_some] <;> rfl) | (simp [*, errW_none, errW_some] <;> rfl), by (with_reducible repeat (first | apply Kd.R_alloc | apply Kd.R_drewN | apply Kd.R_drew)); exact Kd.R_mono HO223.out (fun _ hk => trivial), belowA⟩

def W_spec_l05Norm.f (form : Int) (l : List Int) : Option (List Int) := if 1 ≤ form ∧ form ≤ 4 ∧ l.length ≤ 1000000000 ∧ (∀ p ∈ l, 0 ≤ p ∧ p ≤ 1114111) then some (YtiabgmddnddeiaaDoorNrm.nf form l) else none
theorem spec_l05Norm.drange {k : Bool} {p : Int} (h0 : 0 ≤ p) (h1 : p ≤ 1114111) : ∀ q ∈ YtiabgmddnddeiaaDoorNrm.dec k p, 0 ≤ q ∧ q ≤ 1114111 := by
  have := @YtiabgmddnddeiaaDoorNrm.letter_range (p % 512 / 8)
  intro q hq
  unfold YtiabgmddnddeiaaDoorNrm.dec at hq
  repeat' split at hq
  all_goals simp only [List.mem_cons, List.mem_nil_iff, or_false] at hq
  all_goals omega
theorem spec_l05Norm.run (form : Int) (l : List Int) (hf : 1 ≤ form ∧ form ≤ 4) (hl : l.length ≤ 1000000000) (hp : ∀ p ∈ l, 0 ≤ p ∧ p ≤ 1114111) (d : Nat) : ∀ i : Nat, i + d = l.length → ∃ K, spec_l05Norm.l0 K form l ((l.take i).flatMap (YtiabgmddnddeiaaDoorNrm.dec (decide (3 ≤ form)))) (i : Int) = some (YtiabgmddnddeiaaDoorNrm.nf form l) := by
  induction d with
  | zero =>
    intro i hi
    have e : l.take i = l := List.take_of_length_le (by omega)
    have hfl := spec_l05All.flen (decide (3 ≤ form)) l
    have hin : ∀ q ∈ l.flatMap (YtiabgmddnddeiaaDoorNrm.dec (decide (3 ≤ form))), 0 ≤ q ∧ q ≤ 1114111 := fun q hq => by
      obtain ⟨p, hp2, hq⟩ := List.mem_flatMap.1 hq
      exact spec_l05Norm.drange (hp p hp2).1 (hp p hp2).2 q hq
    have hpl := YtiabgmddnddeiaaDoorNrm.ord_perm (l.flatMap (YtiabgmddnddeiaaDoorNrm.dec (decide (3 ≤ form))))
    refine ⟨1, ?_⟩
    simp only [spec_l05Norm.l0]
    rw [if_neg (by omega), e]
    unfold W_spec_l05Ordered.f
    rw [if_pos ⟨by omega, hin⟩]
    simp only [Option.bind_some]
    have hm : Int.tmod form 2 = form % 2 := Int.tmod_eq_emod_of_nonneg (by omega)
    unfold spec_l05C.f YtiabgmddnddeiaaDoorNrm.nf YtiabgmddnddeiaaDoorNrm.C YtiabgmddnddeiaaDoorNrm.D
    simp only [Option.bind_some]
    rw [hm]
    by_cases c : form = 1 ∨ form = 3
    · rw [if_pos c, show ((form % 2 : Int) == 0) = false from beq_eq_false_iff_ne.mpr (by omega), if_neg (by decide)]
    · rw [if_neg c, show ((form % 2 : Int) == 0) = true from beq_iff_eq.mpr (by omega), if_pos rfl]
      unfold W_spec_l05Composed.f
      rw [if_pos ⟨by rw [hpl.length_eq]; omega, fun q hq => hin q (hpl.mem_iff.1 hq)⟩]
      rfl
  | succ d ih =>
    intro i hi
    have hlt : i < l.length := by omega
    obtain ⟨K, hK⟩ := ih (i + 1) (by omega)
    have hw : wrap64 ((i : Int) + 1) = ((i + 1 : Nat) : Int) := by unfold wrap64; omega
    have hr : rd l (i : Int) = l[i] := by simp [rd, List.getD, hlt]
    have ht : (l.take (i + 1)).flatMap (YtiabgmddnddeiaaDoorNrm.dec (decide (3 ≤ form))) = (l.take i).flatMap (YtiabgmddnddeiaaDoorNrm.dec (decide (3 ≤ form))) ++ YtiabgmddnddeiaaDoorNrm.dec (decide (3 ≤ form)) l[i] := by
      rw [List.take_succ_eq_append_getElem hlt, List.flatMap_append]
      simp only [List.flatMap_cons, List.flatMap_nil, List.append_nil]
    have hlen := spec_l05All.flen (decide (3 ≤ form)) (l.take i)
    rw [List.length_take] at hlen
    have hl3 := spec_l05All.len (decide (3 ≤ form)) l[i]
    have hpi := hp l[i] (List.getElem_mem hlt)
    refine ⟨K + 1, ?_⟩
    simp only [spec_l05Norm.l0]
    unfold spec_l05K.f W_spec_l05All.f
    rw [if_pos (by omega), if_pos (by omega)]
    simp only [Option.bind_some]
    rw [hr, if_pos hpi]
    simp only [Option.bind_some]
    rw [show decide (form ≥ 3) = decide (3 ≤ form) from rfl, if_pos (by omega), ← ht, hw]
    exact hK
theorem W_spec_l05Norm.to {form : Int} {l : List Int} {r : List Int} (h : W_spec_l05Norm.f form l = some r) : ∃ k, spec_l05Norm.f k form l = some r := by
  unfold W_spec_l05Norm.f at h
  split at h
  · rename_i hp
    obtain ⟨K, hK⟩ := spec_l05Norm.run form l ⟨hp.1, hp.2.1⟩ hp.2.2.1 hp.2.2.2 l.length 0 (by omega)
    exact ⟨K, by rw [← h]; exact hK⟩
  · cases h
theorem W_spec_l05Norm.calls (a0 : Int) (A1 : Option Addr) (c1 : Nat) (l1 : List Int) (r : List Int) (w : World) (hr1 : Kd.C (Kd.int .i64) w A1 l1.length l1) (hc1 : l1.length ≤ c1) (h : W_spec_l05Norm.f a0 l1 = some r) :
    Calls Tryd.prog 98 #[.int .i64 a0, .slice A1 l1.length c1] w fun e w' => ∃ v0_ : Value, e = .returned (v0_) ∧ Kd.R (Kd.int .i64) 2 w' w.heap.size (fun _ => True) v0_ r ∧ Below w.heap.size w w' := by
  obtain ⟨k, hk⟩ := W_spec_l05Norm.to h
  exact spec_l05Norm.calls k a0 A1 c1 l1 r w hr1 hc1 hk

/-! ### spec_l05Text: function 85 -/
def spec_l05Text.f (a0 : Int) (a1 : ByteArray) : Option (ByteArray) := (W_spec_l01Points.f a1).bind fun t228 => ((W_spec_l05Norm.f a0 t228).bind fun t231 => ((W_spec_l01Text.f t231).bind fun t234 => (some t234)))
set_option maxHeartbeats 8000000 in
set_option maxRecDepth 100000 in
theorem spec_l05Text.calls (a0 : Int) (a1 : ByteArray) (r : ByteArray) (w : World) (h : spec_l05Text.f a0 a1 = some r) :
    Calls Tryd.prog 85 #[.int .i64 a0, .string a1] w fun e w' => e = .returned (.string r) ∧ Below w.heap.size w w' := by
  have HB := Aside0.mk (Below.refl w.heap.size w)
  have H : ((W_spec_l01Points.f a1).bind fun t228 => ((W_spec_l05Norm.f a0 t228).bind fun t231 => ((W_spec_l01Text.f t231).bind fun t234 => (some t234)))) = some r := h
  clear h
  replace H := Option.bind_eq_some_iff.mp H
  obtain ⟨t228, A30, H⟩ := H
  replace H : ((W_spec_l05Norm.f a0 t228).bind fun t231 => ((W_spec_l01Text.f t231).bind fun t234 => (some t234))) = some r := H
  have A3 := Aside0.mk A30
  clear A30
  replace H := Option.bind_eq_some_iff.mp H
  obtain ⟨t231, A40, H⟩ := H
  replace H : ((W_spec_l01Text.f t231).bind fun t234 => (some t234)) = some r := H
  have A4 := Aside0.mk A40
  clear A40
  replace H := Option.bind_eq_some_iff.mp H
  obtain ⟨t234, A50, H⟩ := H
  replace H : (some t234) = some r := H
  have A5 := Aside0.mk A50
  clear A50
  obtain rfl := Option.some.inj H
  go_enter Tryd.func85, Tryd.ntmps85
  go_wp2_with (first | (go_at_call 90; (with_reducible refine (W_spec_l01Points.calls a1 t228 _ A3.out).mono ?_); rintro e w6 ⟨v229, rfl, ho0, hb⟩; have n0_ := Aside0.mk (Kd.R_lower ho0 (below_size (by repeat (first | (with_reducible first | exact HB.out | apply below_alloc | apply pw_below_drewN | apply below_drew1) | exact HB.out)))); have n1_ := Aside0.mk (below_step (by repeat (first | (with_reducible first | exact HB.out | apply below_alloc | apply pw_below_drewN | apply below_drew1) | exact HB.out)) hb); have HO230 := n0_; replace HB := n1_; clear n0_ n1_; clear hb; (try clear ho0); obtain ⟨Ao7, co7, eo7⟩ := Kd.R_slice HO230.out; subst eo7) | (go_at_call 98; (with_reducible refine (W_spec_l05Norm.calls a0 _ _ t228 t231 _ ?side1 ?side2 A4.out).mono ?_); (case side1 => repeat (first | exact (Kd.R_reads' HO230.out).2.2 | (with_reducible refine Kd.C_alloc ?_ _) | (with_reducible refine Kd.C_drewN ?_ _) | (with_reducible refine Kd.C_drew ?_))); (case side2 => exact (Kd.R_reads' HO230.out).2.1); rintro e w8 ⟨v232, rfl, ho0, hb⟩; have n0_ := Aside0.mk (Kd.R_elder' (by (with_reducible repeat (first | apply Kd.R_alloc | apply Kd.R_drewN | apply Kd.R_drew)); exact HO230.out) (Kd.R_base ho0) hb); have n1_ := Aside0.mk (Kd.R_lower (Kd.R_new' ho0 (Kd.R_lt (by (with_reducible repeat (first | apply Kd.R_alloc | apply Kd.R_drewN | apply Kd.R_drew)); exact HO230.out))) (below_size (by repeat (first | (with_reducible first | exact HB.out | apply below_alloc | apply pw_below_drewN | apply below_drew1) | exact HB.out)))); have n2_ := Aside0.mk (below_step (by repeat (first | (with_reducible first | exact HB.out | apply below_alloc | apply pw_below_drewN | apply below_drew1) | exact HB.out)) hb); replace HO230 := n0_; have HO233 := n1_; replace HB := n2_; clear n0_ n1_ n2_; clear hb; (try clear ho0); obtain ⟨Ao9, co9, eo9⟩ := Kd.R_slice HO233.out; subst eo9) | (go_at_call 95; (with_reducible refine (W_spec_l01Text.calls _ _ t231 t234 _ ?side1 ?side2 A5.out).mono ?_); (case side1 => repeat (first | exact (Kd.R_reads' HO233.out).2.2 | (with_reducible refine Kd.C_alloc ?_ _) | (with_reducible refine Kd.C_drewN ?_ _) | (with_reducible refine Kd.C_drew ?_))); (case side2 => exact (Kd.R_reads' HO233.out).2.1); rintro e w10 ⟨rfl, hb⟩; have n0_ := Aside0.mk (Kd.R_below (by (with_reducible repeat (first | apply Kd.R_alloc | apply Kd.R_drewN | apply Kd.R_drew)); exact HO230.out) hb); have n1_ := Aside0.mk (Kd.R_below (by (with_reducible repeat (first | apply Kd.R_alloc | apply Kd.R_drewN | apply Kd.R_drew)); exact HO233.out) hb); have n2_ := Aside0.mk (below_step (by repeat (first | (with_reducible first | exact HB.out | apply below_alloc | apply pw_below_drewN | apply below_drew1) | exact HB.out)) hb); replace HO230 := n0_; replace HO233 := n1_; replace HB := n2_; clear n0_ n1_ n2_; clear hb))
  go_ret
  exact ⟨by first | rfl | (simp [errW_none, errW_some] <;> rfl) | (simp [*, errW_none, errW_some] <;> rfl), by repeat (first | (with_reducible first | exact HB.out | apply below_alloc | apply pw_below_drewN | apply below_drew1) | exact HB.out)⟩

theorem spec_l05Text.eq {f : Int} {t : ByteArray} (hf : 1 ≤ f ∧ f ≤ 4) (ht : t.size ≤ 100000000) : spec_l05Text.f f t = some (YtiabgmddnddeiaaDoorNst.N f t) := by
  unfold spec_l05Text.f W_spec_l01Points.f
  rw [if_pos (by omega)]
  simp only [Option.bind_some]
  have h1 := YtiabgmddnddeiaaDoorNst.P_len t
  have h2 := YtiabgmddnddeiaaDoorNst.P_isP t
  have h3 := YtiabgmddnddeiaaDoorNst.nf_len f (YtiabgmddnddeiaaDoorNst.P t)
  unfold W_spec_l05Norm.f
  rw [show YtiabgmddnddeiaaDoorPts.pts (bytesOf t) = YtiabgmddnddeiaaDoorNst.P t from rfl, if_pos ⟨hf.1, hf.2, by omega, YtiabgmddnddeiaaDoorNst.range h2⟩]
  simp only [Option.bind_some]
  unfold W_spec_l01Text.f
  rw [if_pos (by omega)]
  rfl

/-! ### spec_Normalize: function 15 -/
def spec_Normalize.j0 : Nat → Int → ByteArray → Bool → Option (ByteArray)
 | 0, _, _, _ => none
 | k + 1, x0, x1, x12 => if x12 = true then (some (⟨#[]⟩ : ByteArray)) else ((spec_l05Text.f x0 x1).bind fun t236 => ((spec_l01Small.f t236).bind fun t237 => (some t237)))
def spec_Normalize.f (k : Nat) (a0 : Int) (a1 : ByteArray) : Option (ByteArray) := if (a1.size : Int) > 65536 then (spec_Normalize.j0 k a0 a1 true) else ((spec_l05IsForm.f a0).bind fun t235 => (spec_Normalize.j0 k a0 a1 (!t235)))
theorem spec_Normalize.mono_l : ∀ k, (∀ y0 y1 y2, LeO (spec_Normalize.j0 k y0 y1 y2) (spec_Normalize.j0 (k + 1) y0 y1 y2))
 | 0 => fun _ _ _ r h => by simp [spec_Normalize.j0] at h
 | k + 1 => by
  have ih0 := spec_Normalize.mono_l k; intro y0 y1 y2
  unfold spec_Normalize.j0
  repeat' first
  | (with_reducible exact ih0 _ _ _)
  | (with_reducible exact LeO.refl _)
  | (with_reducible exact LeO.none _)
  | (with_reducible refine LeO.ite ?_ ?_)
  | (with_reducible refine LeO.bind ?_ (fun _ => ?_))
  | exact ih0 _ _ _
  | exact LeO.none _
  | refine LeO.ite ?_ ?_
  | refine LeO.bind ?_ (fun _ => ?_)
theorem spec_Normalize.mono : ∀ a0 a1 k, LeO (spec_Normalize.f k a0 a1) (spec_Normalize.f (k + 1) a0 a1) := by
 intro a0 a1 k
 have ih0 := spec_Normalize.mono_l k
 unfold spec_Normalize.f
 repeat' first
   | (with_reducible exact ih0 _ _ _)
   | (with_reducible exact LeO.refl _)
   | (with_reducible exact LeO.none _)
   | (with_reducible refine LeO.ite ?_ ?_)
   | (with_reducible refine LeO.bind ?_ (fun _ => ?_))
   | exact ih0 _ _ _
   | exact LeO.none _
   | refine LeO.ite ?_ ?_
   | refine LeO.bind ?_ (fun _ => ?_)
set_option maxHeartbeats 8000000 in
set_option maxRecDepth 100000 in
theorem spec_Normalize.calls (k : Nat) (a0 : Int) (a1 : ByteArray) (r : ByteArray) (w : World) (h : spec_Normalize.f k a0 a1 = some r) :
  Calls Tryd.prog 15 #[.int .i64 a0, .string a1] w fun e w' => e = .returned (.string r) ∧ Below w.heap.size w w' := by
 have HB := Aside0.mk (Below.refl w.heap.size w)
 have H : (if (a1.size : Int) > 65536 then (spec_Normalize.j0 k a0 a1 true) else ((spec_l05IsForm.f a0).bind fun t235 => (spec_Normalize.j0 k a0 a1 (!t235)))) = some r := h
 clear h
 have HC3 := Aside0.mk H
 clear H
 go_enter Tryd.func15, Tryd.ntmps15
 go_upto_region 1 with (fail)
 go_cut [12] (fun v12 wc => ∃ (kq : Nat) (x12_2 : Bool), v12 = .bool x12_2 ∧ Aside0 (spec_Normalize.j0 kq a0 a1 x12_2 = some r) ∧ Aside0 (kq ≤ k) ∧ Aside0 (Below w.heap.size w wc))
 case first =>
  have H := HC3.out; clear HC3
  by_cases c4 : (a1.size : Int) > 65536
  ·rw [if_pos c4] at H
   have c4b0 : decide (65536 < (a1.size : Int)) = true := decide_eq_true c4
   have c4b1 : decide (65536 < a1.size) = true := decide_eq_true (by omega)
   clear c4
   (first | rw [c4b0] | (simp only [i64_w, i32_w]; rw [c4b0]) | skip)
   have H' := Aside0.mk H; clear H
   go_wp2
   go_meet
   case rel => exact ⟨_, (true), (by first | rfl | (simp; done) | (simp [*]; done)), H', ⟨by first | omega | exact Nat.le_refl _⟩, ⟨belowA⟩⟩
  rw [if_neg c4] at H; have c4b0 : decide (65536 < (a1.size : Int)) = false := decide_eq_false c4
  have c4b1 : decide (65536 < a1.size) = false := decide_eq_false (by omega)
  clear c4
  (first | rw [c4b0] | (simp only [i64_w, i32_w]; rw [c4b0]) | skip)
  replace H := Option.bind_eq_some_iff.mp H; obtain ⟨t235, A50, H⟩ := H
  try dsimp only at H
  have A5 := Aside0.mk A50; clear A50; have H' := Aside0.mk H; clear H
  go_wp2_with (first | (go_at_call 83; (with_reducible refine (spec_l05IsForm.calls a0 t235 _ A5.out).mono ?_); rintro e w' ⟨rfl, ⟨nd, rfl⟩⟩))
  go_meet
  case rel => exact ⟨_, (!t235), (by first | rfl | (simp; done) | (simp [*]; done)), H', ⟨by first | omega | exact Nat.le_refl _⟩, ⟨belowA⟩⟩
 case rest =>
  clear HC3
  try clear c1; try clear p2; try clear c4; try clear c4b0; try clear c4b1
  obtain ⟨kq, x12_2, rfl, HA, HJ2, HB⟩ := hcut
  cases kq with
  | zero => exact absurd HA.out (by simp [spec_Normalize.j0])
  | succ kj2 =>
   have H := HA.out; clear HA; simp only [spec_Normalize.j0] at H
   by_cases c6 : x12_2 = true
   ·subst c6
    have H1 : (some (⟨#[]⟩ : ByteArray)) = some r := by rw [if_pos rfl] at H; exact H
    clear H; have H := H1; clear H1; obtain rfl := Option.some.inj H
    go_wp2
    go_ret
    exact ⟨by first | rfl | (simp [errW_none, errW_some] <;> rfl) | (simp [*, errW_none, errW_some] <;> rfl), belowA⟩
   replace c6 := Bool.eq_false_iff.mpr c6; subst c6
   have H1 : ((spec_l05Text.f a0 a1).bind fun t236 => ((spec_l01Small.f t236).bind fun t237 => (some t237))) = some r := by rw [if_neg (show ¬ (false = true) by decide)] at H; exact H
   clear H; have H := H1; clear H1; replace H := Option.bind_eq_some_iff.mp H; obtain ⟨t236, A70, H⟩ := H
   try dsimp only at H
   have A7 := Aside0.mk A70; clear A70; replace H := Option.bind_eq_some_iff.mp H; obtain ⟨t237, A80, H⟩ := H
   try dsimp only at H
   have A8 := Aside0.mk A80; clear A80; obtain rfl := Option.some.inj H
   go_wp2_with (first | (go_at_call 85; (with_reducible refine (spec_l05Text.calls a0 a1 t236 _ A7.out).mono ?_); rintro e w9 ⟨rfl, hb⟩; replace HB := Aside0.mk (below_step (belowA) hb);  clear hb) | (go_at_call 84; (with_reducible refine (spec_l01Small.calls t236 t237 _ A8.out).mono ?_); rintro e w' ⟨rfl, ⟨nd, rfl⟩⟩))
   go_ret
   exact ⟨by first | rfl | (simp [errW_none, errW_some] <;> rfl) | (simp [*, errW_none, errW_some] <;> rfl), belowA⟩

def W_spec_Normalize.f (f : Int) (t : ByteArray) : Option ByteArray := if t.size ≤ 100000000 then some (YtiabgmddnddeiaaDoorNst.NT f t) else none
theorem W_spec_Normalize.to {f : Int} {t : ByteArray} {r : ByteArray} (h : W_spec_Normalize.f f t = some r) : ∃ k, spec_Normalize.f k f t = some r := by
  unfold W_spec_Normalize.f at h
  split at h
  · rename_i ht
    refine ⟨1, ?_⟩
    rw [← h]
    unfold spec_Normalize.f YtiabgmddnddeiaaDoorNst.NT
    by_cases c : (t.size : Int) > 65536
    · rw [if_pos c, if_pos (.inl c)]
      simp only [spec_Normalize.j0]
      rw [if_pos trivial]
    · rw [if_neg c, spec_l05IsForm.eq]
      simp only [Option.bind_some]
      simp only [spec_Normalize.j0]
      cases ho : YtiabgmddnddeiaaDoorNst.ok f with
      | false => rw [if_pos (by rfl), if_pos (.inr rfl)]
      | true =>
        rw [if_neg (by decide), spec_l05Text.eq (of_decide_eq_true ho) ht]
        simp only [Option.bind_some]
        rw [if_neg (by rintro (z | z); exact c z; cases z)]
        unfold spec_l01Small.f YtiabgmddnddeiaaDoorNst.sh
        split <;> rfl
  · cases h
theorem W_spec_Normalize.calls (a0 : Int) (a1 : ByteArray) (r : ByteArray) (w : World) (h : W_spec_Normalize.f a0 a1 = some r) :
    Calls Tryd.prog 15 #[.int .i64 a0, .string a1] w fun e w' => e = .returned (.string r) ∧ Below w.heap.size w w' := by
  obtain ⟨k, hk⟩ := W_spec_Normalize.to h
  exact spec_Normalize.calls k a0 a1 r w hk

/-! ### impl_long: function 86 -/
def impl_long.f (a0 : ByteArray) : Option (Bool) := some (decide ((a0.size : Int) > 65536))
set_option maxHeartbeats 8000000 in
set_option maxRecDepth 100000 in
theorem impl_long.calls (a0 : ByteArray) (r : Bool) (w : World) (h : impl_long.f a0 = some r) :
    Calls Tryd.prog 86 #[.string a0] w fun e w' => e = .returned (.bool r) ∧ Drawn0 w w' := by
  have H : (some (decide ((a0.size : Int) > 65536))) = some r := h
  clear h
  obtain rfl := Option.some.inj H
  go_enter Tryd.func86, Tryd.ntmps86
  go_wp2
  go_ret
  exact ⟨by first | rfl | (simp; done) | (simp [*]; done), by repeat (first | exact Drawn0.refl _ | apply Drawn0.step)⟩

/-! ### impl_in: function 105 -/
def impl_in.f (a0 : Int) (a1 : Int) (a2 : Int) : Option (Bool) := if a0 ≥ a1 then (some (decide (a0 ≤ a2))) else (some false)
set_option maxHeartbeats 8000000 in
set_option maxRecDepth 100000 in
theorem impl_in.calls (a0 : Int) (a1 : Int) (a2 : Int) (r : Bool) (w : World) (h : impl_in.f a0 a1 a2 = some r) :
    Calls Tryd.prog 105 #[.int .i64 a0, .int .i64 a1, .int .i64 a2] w fun e w' => e = .returned (.bool r) ∧ Drawn0 w w' := by
  have H : (if a0 ≥ a1 then (some (decide (a0 ≤ a2))) else (some false)) = some r := h
  clear h
  by_cases c4 : a0 ≥ a1
  · rw [if_pos c4] at H
    have c4b0 : decide (a1 ≤ a0) = true := decide_eq_true c4
    clear c4
    obtain rfl := Option.some.inj H
    go_enter Tryd.func105, Tryd.ntmps105
    go_wp2
    go_ret
    exact ⟨by first | rfl | (simp; done) | (simp [*]; done), by repeat (first | exact Drawn0.refl _ | apply Drawn0.step)⟩
  · rw [if_neg c4] at H
    have c4b0 : decide (a1 ≤ a0) = false := decide_eq_false c4
    clear c4
    obtain rfl := Option.some.inj H
    go_enter Tryd.func105, Tryd.ntmps105
    go_wp2
    go_ret
    exact ⟨by first | rfl | (simp; done) | (simp [*]; done), by repeat (first | exact Drawn0.refl _ | apply Drawn0.step)⟩

/-! ### impl_isNorm: function 87 -/
def impl_isNorm.f (a0 : Int) : Option (Bool) := (impl_in.f a0 1 4).bind fun t238 => (some t238)
set_option maxHeartbeats 8000000 in
set_option maxRecDepth 100000 in
theorem impl_isNorm.calls (a0 : Int) (r : Bool) (w : World) (h : impl_isNorm.f a0 = some r) :
    Calls Tryd.prog 87 #[.int .i64 a0] w fun e w' => e = .returned (.bool r) ∧ Drawn0 w w' := by
  have H : ((impl_in.f a0 1 4).bind fun t238 => (some t238)) = some r := h
  clear h
  replace H := Option.bind_eq_some_iff.mp H
  obtain ⟨t238, A20, H⟩ := H
  replace H : (some t238) = some r := H
  have A2 := Aside0.mk A20
  clear A20
  obtain rfl := Option.some.inj H
  go_enter Tryd.func87, Tryd.ntmps87
  go_wp2_with (first | (go_at_call 105; (with_reducible refine (impl_in.calls a0 1 4 t238 _ A2.out).mono ?_); rintro e w' ⟨rfl, ⟨nd, rfl⟩⟩))
  go_ret
  exact ⟨by first | rfl | (simp; done) | (simp [*]; done), by repeat (first | exact Drawn0.refl _ | apply Drawn0.step)⟩

theorem impl_isNorm.eq (f : Int) : impl_isNorm.f f = some (YtiabgmddnddeiaaDoorNst.ok f) := by
  unfold impl_isNorm.f impl_in.f YtiabgmddnddeiaaDoorNst.ok
  by_cases c : 1 ≤ f
  · rw [if_pos (show f ≥ 1 from c)]
    by_cases d : f ≤ 4
    · rw [decide_eq_true d, decide_eq_true ⟨c, d⟩]; rfl
    · rw [decide_eq_false d, decide_eq_false (fun z => d z.2)]; rfl
  · rw [if_neg (show ¬ f ≥ 1 from c), decide_eq_false (fun z => c z.1)]; rfl

/-! ### impl_short: function 88 -/
def impl_short.f (a0 : ByteArray) : Option (ByteArray) := (impl_long.f a0).bind fun t239 => (if t239 = true then (some (⟨#[]⟩ : ByteArray)) else (some a0))
set_option maxHeartbeats 8000000 in
set_option maxRecDepth 100000 in
theorem impl_short.calls (a0 : ByteArray) (r : ByteArray) (w : World) (h : impl_short.f a0 = some r) :
    Calls Tryd.prog 88 #[.string a0] w fun e w' => e = .returned (.string r) ∧ Drawn0 w w' := by
  have H : ((impl_long.f a0).bind fun t239 => (if t239 = true then (some (⟨#[]⟩ : ByteArray)) else (some a0))) = some r := h
  clear h
  replace H := Option.bind_eq_some_iff.mp H
  obtain ⟨t239, A20, H⟩ := H
  replace H : (if t239 = true then (some (⟨#[]⟩ : ByteArray)) else (some a0)) = some r := H
  have A2 := Aside0.mk A20
  clear A20
  by_cases c3 : t239 = true
  · subst c3
    have H1 : (some (⟨#[]⟩ : ByteArray)) = some r := by rw [if_pos rfl] at H; exact H
    clear H
    have H := H1
    clear H1
    obtain rfl := Option.some.inj H
    go_enter Tryd.func88, Tryd.ntmps88
    go_wp2_with (first | (go_at_call 86; (with_reducible refine (impl_long.calls a0 true _ A2.out).mono ?_); rintro e w' ⟨rfl, ⟨nd, rfl⟩⟩))
    go_ret
    exact ⟨by first | rfl | (simp; done) | (simp [*]; done), by repeat (first | exact Drawn0.refl _ | apply Drawn0.step)⟩
  · replace c3 := Bool.eq_false_iff.mpr c3
    subst c3
    have H1 : (some a0) = some r := by rw [if_neg (show ¬ (false = true) by decide)] at H; exact H
    clear H
    have H := H1
    clear H1
    obtain rfl := Option.some.inj H
    go_enter Tryd.func88, Tryd.ntmps88
    go_wp2_with (first | (go_at_call 86; (with_reducible refine (impl_long.calls a0 false _ A2.out).mono ?_); rintro e w' ⟨rfl, ⟨nd, rfl⟩⟩))
    go_ret
    exact ⟨by first | rfl | (simp; done) | (simp [*]; done), by repeat (first | exact Drawn0.refl _ | apply Drawn0.step)⟩

/-- The tables of unicode/utf8 lie in this world as start-up lays them. -/
def GT (w : World) : Prop := Lib.Utf8Tabs 1 2 w
theorem GT.below {w w' : World} (h : GT w) (hb : Below w.heap.size w w') : GT w' := by
  obtain ⟨h1, h2⟩ := h
  refine ⟨fun c hc => ?_, fun i hi => ⟨?_, ?_⟩⟩
  · exact (hb.cell (World.block_lt_of_cell? w _ (h1 c hc))).trans (h1 c hc)
  · exact (hb.cell (World.block_lt_of_cell? w _ (h2 i hi).1)).trans (h2 i hi).1
  · exact (hb.cell (World.block_lt_of_cell? w _ (h2 i hi).2)).trans (h2 i hi).2
theorem gtA {W : World} (h : GT W := by first | exact HG.out | exact GT.below HG.out (by first | exact HB.out | (repeat (first | (with_reducible first | exact HB.out | apply below_alloc | apply pw_below_drewN | apply below_drew1 | refine below_set ?_ (Aside0.out (by assumption))) | exact HB.out))) | exact GT.below HG.out (HB.out)) : GT W := h

/-! ### utf8_DecodeRuneInString: function 189 (by hand) -/
def utf8_DecodeRuneInString.f (a0 : ByteArray) : Option (Int × Int) := some (((Lib.decodeGo a0).1 : Int), ((Lib.decodeGo a0).2 : Int))
theorem utf8_DecodeRuneInString.calls (a0 : ByteArray) (r1 : Int) (r2 : Int) (w : World) (h : utf8_DecodeRuneInString.f a0 = some (r1, r2)) (hG : GT w) :
    Calls Tryd.prog 189 #[.string a0] w fun e w' => e = .returned (.tuple #[.int .i32 r1, .int .i64 r2]) ∧ Below w.heap.size w w' := by
  have h := Option.some.inj h
  obtain ⟨rfl, rfl⟩ := Prod.mk.inj h
  exact Tryd.utf8_DecodeRuneInString a0 w hG

end Go.Proofs.YtiabgmddnddeiaaDoor.QFnNormer
