/- The law FnJoinNormal: at every input the call answers true (this text: contracts on its way, by a program of this session's; no condition of ours). -/
import Derived.Test.YtiabgmddnddeiaaDoorQFnJoinNormalx0
import Derived.Test.YtiabgmddnddeiaaDoorQFnJoinNormalx13
import Derived.Test.YtiabgmddnddeiaaDoorQFnJoinNormalx14
import Derived.Test.YtiabgmddnddeiaaDoorQFnJoinNormalx15
namespace Go.Proofs.YtiabgmddnddeiaaDoor.QFnJoinNormal
open Go.RowKit Go.Proofs.YtiabgmddnddeiaaDoorW.PrintWords Go.Proofs.YtiabgmddnddeiaaDoorW.PrintLast Go.Proofs.YtiabgmddnddeiaaDoorW.PrintMore
attribute [local go_sem] max2_int min2_int max_two min_two max_three min_three max_four min_four   -- for this text's walks alone
set_option linter.unusedVariables false
set_option linter.unusedSimpArgs false

/-! ### spec_l01Src_part: function 165 -/
def spec_l01Src_part.j0 : Nat → Int → Bool → List Int → Int → Int → Int → Option (Int × Int × Int × Int)
 | 0, _, _, _, _, _, _ => none
 | k + 1, x4, x18, x1000, x1001, x1002, x1003 => if x18 = true then ((spec_l01Src_n.f x1000 x1001 x1002 x1003 3).bind fun bt576 => ((spec_l01Src_n.f x1000 bt576.2.1 bt576.2.2.1 bt576.2.2.2 3).bind fun bt580 => ((spec_l01Src_n.f x1000 bt580.2.1 bt580.2.2.1 bt580.2.2.2 2).bind fun bt584 => ((some (([bt576.1, wrap64 (16 + bt580.1), wrap64 (32 + bt584.1), 40, 48, 56] : List Int) : List Int)).bind fun y588 => ((spec_l01Src_n.f x1000 bt584.2.1 bt584.2.2.1 bt584.2.2.2 6).bind fun bt591 => (if 0 ≤ bt591.1 then (if bt591.1 < (y588.length : Int) then (some (wrap64 (4096 + (rd y588 bt591.1)), bt591.2.1, bt591.2.2.1, bt591.2.2.2)) else (none)) else (none))))))) else (if x4 = 3 then ((spec_l01Src_n.f x1000 x1001 x1002 x1003 3).bind fun bt596 => ((spec_l01Src_n.f x1000 bt596.2.1 bt596.2.2.1 bt596.2.2.2 52).bind fun bt600 => ((spec_l01Src_n.f x1000 bt600.2.1 bt600.2.2.1 bt600.2.2.2 2).bind fun bt604 => (some (wrap64 ((wrap64 ((wrap64 (8192 + (wrap64 (512 * bt596.1)))) + (wrap64 (8 * bt600.1)))) + bt604.1), bt604.2.1, bt604.2.2.1, bt604.2.2.2))))) else (if x4 = 4 then ((spec_l01Src_n.f x1000 x1001 x1002 x1003 26).bind fun bt608 => ((spec_l01Src_n.f x1000 bt608.2.1 bt608.2.2.1 bt608.2.2.2 3).bind fun bt612 => ((spec_l01Src_n.f x1000 bt612.2.1 bt612.2.2.1 bt612.2.2.2 3).bind fun bt616 => ((spec_l01Src_n.f x1000 bt616.2.1 bt616.2.2.1 bt616.2.2.2 4).bind fun bt620 => ((some (([wrap64 (9728 + bt608.1), wrap64 (9984 + bt612.1), wrap64 (10016 + bt616.1), wrap64 (10032 + bt620.1), 8064, 160] : List Int) : List Int)).bind fun y624 => ((spec_l01Src_n.f x1000 bt620.2.1 bt620.2.2.1 bt620.2.2.2 6).bind fun bt627 => (if 0 ≤ bt627.1 then (if bt627.1 < (y624.length : Int) then (some (rd y624 bt627.1, bt627.2.1, bt627.2.2.1, bt627.2.2.2)) else (none)) else (none)))))))) else (if x4 = 5 then ((spec_l01Src_n.f x1000 x1001 x1002 x1003 2).bind fun bt632 => ((spec_l01Src_n.f x1000 bt632.2.1 bt632.2.2.1 bt632.2.2.2 2).bind fun bt636 => ((spec_l01Src_n.f x1000 bt636.2.1 bt636.2.2.1 bt636.2.2.2 2).bind fun bt640 => ((some (([wrap64 (1792 + bt632.1), wrap64 (1824 + bt636.1), wrap64 (1857 + bt640.1), 1810, 1844, 1883] : List Int) : List Int)).bind fun y644 => ((spec_l01Src_n.f x1000 bt640.2.1 bt640.2.2.1 bt640.2.2.2 6).bind fun bt647 => (if 0 ≤ bt647.1 then (if bt647.1 < (y644.length : Int) then (some (rd y644 bt647.1, bt647.2.1, bt647.2.2.1, bt647.2.2.2)) else (none)) else (none))))))) else (if x4 = 6 then ((spec_l01Src_n.f x1000 x1001 x1002 x1003 399).bind fun bt652 => ((spec_l01Src_n.f x1000 bt652.2.1 bt652.2.2.1 bt652.2.2.2 11172).bind fun bt656 => ((some (([wrap64 (28 * bt652.1), bt656.1, 0, 11171] : List Int) : List Int)).bind fun y660 => ((spec_l01Src_n.f x1000 bt656.2.1 bt656.2.2.1 bt656.2.2.2 4).bind fun bt663 => (if 0 ≤ bt663.1 then (if bt663.1 < (y660.length : Int) then (some (wrap64 (12288 + (rd y660 bt663.1)), bt663.2.1, bt663.2.2.1, bt663.2.2.2)) else (none)) else (none)))))) else ((spec_l01Src_point.f k x1000 x1001 x1002 x1003).bind fun bt668 => ((spec_l01Src_point.f k x1000 bt668.2.1 bt668.2.2.1 bt668.2.2.2).bind fun bt672 => ((some (([1584, 1585, 1536, bt668.1, bt672.1] : List Int) : List Int)).bind fun y676 => ((spec_l01Src_n.f x1000 bt672.2.1 bt672.2.2.1 bt672.2.2.2 5).bind fun bt679 => (if 0 ≤ bt679.1 then (if bt679.1 < (y676.length : Int) then (some (rd y676 bt679.1, bt679.2.1, bt679.2.2.1, bt679.2.2.2)) else (none)) else (none))))))))))
def spec_l01Src_part.f (k : Nat) (s0_0 : List Int) (s0_1 : Int) (s0_2 : Int) (s0_3 : Int) : Option (Int × Int × Int × Int) := (spec_l01Src_n.f s0_0 s0_1 s0_2 s0_3 8).bind fun bt556 => (if bt556.1 = 0 then ((spec_l01Src_n.f s0_0 bt556.2.1 bt556.2.2.1 bt556.2.2.2 3).bind fun bt560 => ((spec_l01Src_n.f s0_0 bt560.2.1 bt560.2.2.1 bt560.2.2.2 3).bind fun bt564 => ((some (([wrap64 (65 + bt560.1), wrap64 (97 + bt564.1)] : List Int) : List Int)).bind fun y568 => ((spec_l01Src_n.f s0_0 bt564.2.1 bt564.2.2.1 bt564.2.2.2 2).bind fun bt571 => (if 0 ≤ bt571.1 then (if bt571.1 < (y568.length : Int) then (some (rd y568 bt571.1, bt571.2.1, bt571.2.2.1, bt571.2.2.2)) else (none)) else (none)))))) else (if bt556.1 = 1 then (spec_l01Src_part.j0 k bt556.1 (bt556.1 == 1) s0_0 bt556.2.1 bt556.2.2.1 bt556.2.2.2) else (spec_l01Src_part.j0 k bt556.1 (bt556.1 == 2) s0_0 bt556.2.1 bt556.2.2.1 bt556.2.2.2)))
theorem spec_l01Src_part.mono_l : ∀ k, (∀ y0 y1 y2 y3 y4 y5, LeO (spec_l01Src_part.j0 k y0 y1 y2 y3 y4 y5) (spec_l01Src_part.j0 (k + 1) y0 y1 y2 y3 y4 y5))
 | 0 => fun _ _ _ _ _ _ r h => by simp [spec_l01Src_part.j0] at h
 | k + 1 => by
  have ih0 := spec_l01Src_part.mono_l k; intro y0 y1 y2 y3 y4 y5
  unfold spec_l01Src_part.j0
  repeat' first
  | (with_reducible exact ih0 _ _ _ _ _ _)
  | (with_reducible exact spec_l01Src_point.mono _ _ _ _ _)
  | (with_reducible exact LeO.refl _)
  | (with_reducible exact LeO.none _)
  | (with_reducible refine LeO.ite ?_ ?_)
  | (with_reducible refine LeO.bind ?_ (fun _ => ?_))
  | exact ih0 _ _ _ _ _ _
  | exact spec_l01Src_point.mono _ _ _ _ _
  | exact LeO.none _
  | refine LeO.ite ?_ ?_
  | refine LeO.bind ?_ (fun _ => ?_)
theorem spec_l01Src_part.mono : ∀ a0 a1 a2 a3 k, LeO (spec_l01Src_part.f k a0 a1 a2 a3) (spec_l01Src_part.f (k + 1) a0 a1 a2 a3) := by
 intro a0 a1 a2 a3 k
 have ih0 := spec_l01Src_part.mono_l k
 unfold spec_l01Src_part.f
 repeat' first
   | (with_reducible exact ih0 _ _ _ _ _ _)
   | (with_reducible exact spec_l01Src_point.mono _ _ _ _ _)
   | (with_reducible exact LeO.refl _)
   | (with_reducible exact LeO.none _)
   | (with_reducible refine LeO.ite ?_ ?_)
   | (with_reducible refine LeO.bind ?_ (fun _ => ?_))
   | exact ih0 _ _ _ _ _ _
   | exact spec_l01Src_point.mono _ _ _ _ _
   | exact LeO.none _
   | refine LeO.ite ?_ ?_
   | refine LeO.bind ?_ (fun _ => ?_)
set_option maxHeartbeats 8000000 in
set_option maxRecDepth 100000 in
theorem spec_l01Src_part.calls (k : Nat) (g : Nat) (s0_0 : List Int) (s0_1 : Int) (s0_2 : Int) (s0_3 : Int) (r1 : Int) (r2 : Int) (r3 : Int) (r4 : Int) (w0 w : World) (hI : IsS134 w0 w g s0_0 s0_1 s0_2 s0_3) (hB : Below w0.heap.size w0 w) (h : spec_l01Src_part.f k s0_0 s0_1 s0_2 s0_3 = some (r1, r2, r3, r4)) :
  Calls Tryd.prog 165 #[.pointer (some ⟨g, 0, none⟩)] w fun e w' => e = .returned (.int .i64 r1) ∧ IsS134 w0 w' g s0_0 r2 r3 r4 ∧ Below w0.heap.size w0 w' ∧ KeepBut w w' g none := by
 have HI0 := Aside0.mk hI
 have HK := Aside0.mk (KeepBut.refl w g none)
 have HL := Aside0.mk hB.size
 clear hI
 have HW0 := Aside0.mk hB.size
 have HB := Aside0.mk hB
 clear hB
 have H : ((spec_l01Src_n.f s0_0 s0_1 s0_2 s0_3 8).bind fun bt556 => (if bt556.1 = 0 then ((spec_l01Src_n.f s0_0 bt556.2.1 bt556.2.2.1 bt556.2.2.2 3).bind fun bt560 => ((spec_l01Src_n.f s0_0 bt560.2.1 bt560.2.2.1 bt560.2.2.2 3).bind fun bt564 => ((some (([wrap64 (65 + bt560.1), wrap64 (97 + bt564.1)] : List Int) : List Int)).bind fun y568 => ((spec_l01Src_n.f s0_0 bt564.2.1 bt564.2.2.1 bt564.2.2.2 2).bind fun bt571 => (if 0 ≤ bt571.1 then (if bt571.1 < (y568.length : Int) then (some (rd y568 bt571.1, bt571.2.1, bt571.2.2.1, bt571.2.2.2)) else (none)) else (none)))))) else (if bt556.1 = 1 then (spec_l01Src_part.j0 k bt556.1 (bt556.1 == 1) s0_0 bt556.2.1 bt556.2.2.1 bt556.2.2.2) else (spec_l01Src_part.j0 k bt556.1 (bt556.1 == 2) s0_0 bt556.2.1 bt556.2.2.1 bt556.2.2.2)))) = some (r1, r2, r3, r4) := h
 clear h
 replace H := Option.bind_eq_some_iff.mp H
 obtain ⟨⟨t556, t557, t558, t559⟩, A20, H⟩ := H
 try dsimp only at H
 have A2 := Aside0.mk A20
 clear A20
 by_cases c3 : t556 = 0
 ·rw [if_pos c3] at H
  have c3b0 : (t556 == 0) = true := beq_iff_eq.mpr c3; have c3b1 : (t556 != 0) = false := bne_eq_false_iff_eq.mpr c3; clear c3; replace H := Option.bind_eq_some_iff.mp H; obtain ⟨⟨t560, t561, t562, t563⟩, A40, H⟩ := H
  try dsimp only at H
  have A4 := Aside0.mk A40; clear A40; replace H := Option.bind_eq_some_iff.mp H; obtain ⟨⟨t564, t565, t566, t567⟩, A50, H⟩ := H
  try dsimp only at H
  have A5 := Aside0.mk A50; clear A50; obtain ⟨y568, hy568⟩ : ∃ y_ : List Int, y_ = (([wrap64 (65 + t560), wrap64 (97 + t564)] : List Int)) := ⟨_, rfl⟩
  replace H : ((spec_l01Src_n.f s0_0 t565 t566 t567 2).bind fun bt571 => (if 0 ≤ bt571.1 then (if bt571.1 < (y568.length : Int) then (some (rd y568 bt571.1, bt571.2.1, bt571.2.2.1, bt571.2.2.2)) else (none)) else (none))) = some (r1, r2, r3, r4) := by first | (rw [hy568]; with_reducible exact H) | (have H2_ := (Option.bind_some _ _).symm.trans H; rw [hy568]; with_reducible exact H2_) | (have H2_ := (Option.bind_some _ _).symm.trans H; with_reducible exact H2_) | with_reducible exact H | (rw [hy568]; exact H) | exact H
  have Ny568 := Aside0.mk hy568; clear hy568; replace H := Option.bind_eq_some_iff.mp H; obtain ⟨⟨t571, t572, t573, t574⟩, A60, H⟩ := H
  try dsimp only at H
  have A6 := Aside0.mk A60; clear A60
  by_cases c7 : 0 ≤ t571
  ·rw [if_pos c7] at H
   have c7b0 : decide (0 ≤ t571) = true := decide_eq_true c7; clear c7
   by_cases c8 : t571 < (y568.length : Int)
   ·rw [if_pos c8] at H
    have c8b0 : decide (t571 < (y568.length : Int)) = true := decide_eq_true c8; clear c8; simp only [Option.some.injEq, Prod.mk.injEq] at H; obtain ⟨rfl, rfl, rfl, rfl⟩ := H
    go_enter Tryd.func165, Tryd.ntmps165
    go_wp2_with (first | ((with_reducible refine gate_callee (f := 82) rfl ?_); refine goesL_ (some 4) rfl rfl Tryd.func82 (by kernel_rfl) rfl #[.pointer (some ⟨g, 0, none⟩), .int .i64 8] rfl (by (try simp only [List.map_toArray, List.map_cons, List.map_nil]); first | done | rfl) ?_; refine (spec_l01Src_n.callsA g s0_0 s0_1 s0_2 s0_3 8 t556 t557 t558 t559 w0 _ _ A2.out).mono ?_; rintro e w9 ⟨rfl, hi, hb, hk⟩; refine ⟨_, rfl, ?_⟩; replace HI0 := hi; replace HB := hb; replace HK := hk; clear hi hb hk) | ((with_reducible refine gate_callee (f := 82) rfl ?_); refine goesL_ (some 8) rfl rfl Tryd.func82 (by kernel_rfl) rfl #[.pointer (some ⟨g, 0, none⟩), .int .i64 3] rfl (by (try simp only [List.map_toArray, List.map_cons, List.map_nil]); first | done | rfl) ?_; refine (spec_l01Src_n.callsA g s0_0 t557 t558 t559 3 t560 t561 t562 t563 w0 _ _ A4.out).mono ?_; rintro e w10 ⟨rfl, hi, hb, hk⟩; refine ⟨_, rfl, ?_⟩; replace HI0 := hi; replace HB := hb; replace HK := hk; clear hi hb hk) | ((with_reducible refine gate_callee (f := 82) rfl ?_); refine goesL_ (some 11) rfl rfl Tryd.func82 (by kernel_rfl) rfl #[.pointer (some ⟨g, 0, none⟩), .int .i64 3] rfl (by (try simp only [List.map_toArray, List.map_cons, List.map_nil]); first | done | rfl) ?_; refine (spec_l01Src_n.callsA g s0_0 t561 t562 t563 3 t564 t565 t566 t567 w0 _ _ A5.out).mono ?_; rintro e w11 ⟨rfl, hi, hb, hk⟩; refine ⟨_, rfl, ?_⟩; replace HI0 := hi; replace HB := hb; replace HK := hk; clear hi hb hk) | ((with_reducible refine gate_dst (N := 13) rfl ?_); refine Kd.R_lit (Kd.int .i64) _ 2 ?hg (N := 13) ?hd (xs := ([wrap64 (65 + t560), wrap64 (97 + t564)] : List Int)) (inner := [.int .i64 (wrap64 (65 + t560)), .int .i64 (wrap64 (97 + t564))]) (ok := fun _ => True) (okp := fun _ => True) ?hr ?hp (fun _ hk => hk) trivial (Below.refl _ _) (Nat.le_refl _) (by simp) ?_; (case hd => rfl); (case hg => rfl); (case hr => first | (go_simp; done) | (go_simp; rfl)); (case hp => exact (Reps.one (show Kd.M (Kd.int .i64) _ _ _ (wrap64 (65 + t560)) [.int .i64 (wrap64 (65 + t560))] from rfl) (Reps.one (show Kd.M (Kd.int .i64) _ _ _ (wrap64 (97 + t564)) [.int .i64 (wrap64 (97 + t564))] from rfl) (Reps.none _ _)))); intro v569 w12 ho13 hb hg_ hnew_; clear hg_ hnew_; (first | rw [← Ny568.out] at ho13 | (simp only [Int.reduceToNat] at ho13; rw [← Ny568.out] at ho13)); have n0_ := Aside0.mk (Kd.R_lower ho13 (keep_size (w := w) (g := g) (row := none) (keepA))); have n1_ := Aside0.mk (IsS134.below (isA) hb); have n2_ := Aside0.mk (KeepBut.trans (keepA) (KeepBut.of_below hb g none) (.inl rfl)); have n3_ := Aside0.mk (below_step (belowI) hb); clear HI0; clear HK; clear HB; have HO570 := n0_; have HI0 := n1_; have HK := n2_; have HB := n3_; clear n0_ n1_ n2_ n3_; clear hb ho13) | ((with_reducible refine gate_callee (f := 82) rfl ?_); refine goesL_ (some 15) rfl rfl Tryd.func82 (by kernel_rfl) rfl #[.pointer (some ⟨g, 0, none⟩), .int .i64 2] rfl (by (try simp only [List.map_toArray, List.map_cons, List.map_nil]); first | done | rfl) ?_; (with_reducible refine (spec_l01Src_n.calls g s0_0 t565 t566 t567 2 t571 t572 t573 t574 w0 _ ?side1 ?side2 A6.out).mono ?_); (case side1 => exact isA); (case side2 => exact belowI); rintro e w14 ⟨rfl, hi, hb, hk⟩; refine ⟨_, rfl, ?_⟩; have n0_ := Aside0.mk (Kd.R_mono (Kd.R_keep (IsS134.apart (show IsS134 w0 _ g s0_0 t565 t566 t567 from isA) (by (with_reducible repeat (first | apply Kd.R_alloc | apply Kd.R_drewN | apply Kd.R_drew)); exact HO570.out) (by decide)) hk (fun _ h => h.2)) (fun _ h => h.1)); have n1_ := Aside0.mk (KeepBut.trans (keepA) hk (.inl rfl)); have n2_ := Aside0.mk (hb); have n3_ := Aside0.mk (hi); clear HO570; clear HK; clear HB; clear HI0; have HO570 := n0_; have HK := n1_; have HB := n2_; have HI0 := n3_; clear n0_ n1_ n2_ n3_; (try clear hb); (try clear hb2); (try clear hk); (try clear hi); obtain ⟨Ao15, co15, eo15⟩ := Kd.R_slice HO570.out; subst eo15; have p575 : 0 ≤ (t571 : Int) := of_decide_eq_true (by first | (with_reducible assumption) | assumption); have q575 : t571 < (y568.length : Int) := of_decide_eq_true (by first | (with_reducible assumption) | assumption); obtain ⟨ad575, e575, hx575_0⟩ := Kd.at_int (Kd.R_reads' HO570.out).2.2 t571 p575 q575; cases e575; replace p575 := eq_true p575; replace q575 := eq_true q575))
    go_ret
    exact ⟨by first | rfl | (simp [errW_none, errW_some] <;> rfl) | (simp [*, errW_none, errW_some] <;> rfl), isA, belowI, keepA⟩
   rw [if_neg c8] at H
   exact absurd H (by simp)
  rw [if_neg c7] at H
  exact absurd H (by simp)
 rw [if_neg c3] at H
 have c3b0 : (t556 == 0) = false := beq_eq_false_iff_ne.mpr c3
 have c3b1 : (t556 != 0) = true := bne_iff_ne.mpr c3
 have HC16 := Aside0.mk H
 clear H
 go_enter Tryd.func165, Tryd.ntmps165
 go_upto_if 18 with (first | ((with_reducible refine gate_callee (f := 82) rfl ?_); refine goesL_ (some 4) rfl rfl Tryd.func82 (by kernel_rfl) rfl #[.pointer (some ⟨g, 0, none⟩), .int .i64 8] rfl (by (try simp only [List.map_toArray, List.map_cons, List.map_nil]); first | done | rfl) ?_; refine (spec_l01Src_n.callsA g s0_0 s0_1 s0_2 s0_3 8 t556 t557 t558 t559 w0 _ _ A2.out).mono ?_; rintro e w17 ⟨rfl, hi, hb, hk⟩; refine ⟨_, rfl, ?_⟩; replace HI0 := hi; replace HB := hb; replace HK := hk; clear hi hb hk))
 (try simp only [Act.put, List.setIfInBounds_toArray, List.set_cons_zero, List.set_cons_succ])
 go_cut [18] (fun v18 wc => ∃ (kq : Nat) (x18_15 : Bool), v18 = .bool x18_15 ∧ Aside0 (spec_l01Src_part.j0 kq t556 x18_15 s0_0 t557 t558 t559 = some (r1, r2, r3, r4)) ∧ Aside0 (kq ≤ k) ∧ Aside0 (IsS134 w0 wc g s0_0 t557 t558 t559) ∧ Aside0 (KeepBut w wc g none) ∧ Aside0 (Below w0.heap.size w0 wc))
 case first =>
  have H := HC16.out; clear HC16
  by_cases c18 : t556 = 1
  ·rw [if_pos c18] at H
   have c18b0 : (t556 == 1) = true := beq_iff_eq.mpr c18; have c18b1 : (t556 != 1) = false := bne_eq_false_iff_eq.mpr c18; clear c18
   (first | rw [c18b0] | (simp only [i64_w, i32_w]; rw [c18b0]) | skip)
   have H' := Aside0.mk H; clear H
   go_wp2
   go_meet
   case rel => exact ⟨_, ((t556 == 1)), (by first | rfl | (simp; done) | (simp [*]; done)), H', ⟨by first | omega | exact Nat.le_refl _⟩, ⟨isA⟩, ⟨keepA⟩, ⟨belowI⟩⟩
  rw [if_neg c18] at H; have c18b0 : (t556 == 1) = false := beq_eq_false_iff_ne.mpr c18; have c18b1 : (t556 != 1) = true := bne_iff_ne.mpr c18
  (first | rw [c18b0] | (simp only [i64_w, i32_w]; rw [c18b0]) | skip)
  have H' := Aside0.mk H; clear H
  go_wp2
  go_meet
  case rel => exact ⟨_, ((t556 == 2)), (by first | rfl | (simp; done) | (simp [*]; done)), H', ⟨by first | omega | exact Nat.le_refl _⟩, ⟨isA⟩, ⟨keepA⟩, ⟨belowI⟩⟩
 case rest =>
  clear HC16
  try clear c1; try clear p2; try clear c3; try clear c3b0; try clear c3b1; try clear p5; try clear q5; try clear hx5; try clear p6; try clear c7; try clear c7b0; try clear c8; try clear c8b0; try clear c16; try clear c18; try clear c18b0; try clear c18b1; try clear hx575_0; try clear p575; try clear q575
  obtain ⟨kq, x18_15, rfl, HA, HJ15, HI0, HK, HB⟩ := hcut
  cases kq with
  | zero => exact absurd HA.out (by simp [spec_l01Src_part.j0])
  | succ kj15 =>
   have H := HA.out; clear HA; simp only [spec_l01Src_part.j0] at H
   by_cases c19 : x18_15 = true
   ·subst c19
    have H1 : ((spec_l01Src_n.f s0_0 t557 t558 t559 3).bind fun bt576 => ((spec_l01Src_n.f s0_0 bt576.2.1 bt576.2.2.1 bt576.2.2.2 3).bind fun bt580 => ((spec_l01Src_n.f s0_0 bt580.2.1 bt580.2.2.1 bt580.2.2.2 2).bind fun bt584 => ((some (([bt576.1, wrap64 (16 + bt580.1), wrap64 (32 + bt584.1), 40, 48, 56] : List Int) : List Int)).bind fun y588 => ((spec_l01Src_n.f s0_0 bt584.2.1 bt584.2.2.1 bt584.2.2.2 6).bind fun bt591 => (if 0 ≤ bt591.1 then (if bt591.1 < (y588.length : Int) then (some (wrap64 (4096 + (rd y588 bt591.1)), bt591.2.1, bt591.2.2.1, bt591.2.2.2)) else (none)) else (none))))))) = some (r1, r2, r3, r4) := by rw [if_pos rfl] at H; exact H
    clear H; have H := H1; clear H1; replace H := Option.bind_eq_some_iff.mp H; obtain ⟨⟨t576, t577, t578, t579⟩, A200, H⟩ := H
    try dsimp only at H
    have A20 := Aside0.mk A200; clear A200; replace H := Option.bind_eq_some_iff.mp H; obtain ⟨⟨t580, t581, t582, t583⟩, A210, H⟩ := H
    try dsimp only at H
    have A21 := Aside0.mk A210; clear A210; replace H := Option.bind_eq_some_iff.mp H; obtain ⟨⟨t584, t585, t586, t587⟩, A220, H⟩ := H
    try dsimp only at H
    have A22 := Aside0.mk A220; clear A220; obtain ⟨y588, hy588⟩ : ∃ y_ : List Int, y_ = (([t576, wrap64 (16 + t580), wrap64 (32 + t584), 40, 48, 56] : List Int)) := ⟨_, rfl⟩
    replace H : ((spec_l01Src_n.f s0_0 t585 t586 t587 6).bind fun bt591 => (if 0 ≤ bt591.1 then (if bt591.1 < (y588.length : Int) then (some (wrap64 (4096 + (rd y588 bt591.1)), bt591.2.1, bt591.2.2.1, bt591.2.2.2)) else (none)) else (none))) = some (r1, r2, r3, r4) := by first | (rw [hy588]; with_reducible exact H) | (have H2_ := (Option.bind_some _ _).symm.trans H; rw [hy588]; with_reducible exact H2_) | (have H2_ := (Option.bind_some _ _).symm.trans H; with_reducible exact H2_) | with_reducible exact H | (rw [hy588]; exact H) | exact H
    have Ny588 := Aside0.mk hy588; clear hy588; replace H := Option.bind_eq_some_iff.mp H; obtain ⟨⟨t591, t592, t593, t594⟩, A230, H⟩ := H
    try dsimp only at H
    have A23 := Aside0.mk A230; clear A230
    by_cases c24 : 0 ≤ t591
    ·rw [if_pos c24] at H
     have c24b0 : decide (0 ≤ t591) = true := decide_eq_true c24; clear c24
     by_cases c25 : t591 < (y588.length : Int)
     ·rw [if_pos c25] at H
      have c25b0 : decide (t591 < (y588.length : Int)) = true := decide_eq_true c25; clear c25; simp only [Option.some.injEq, Prod.mk.injEq] at H; obtain ⟨rfl, rfl, rfl, rfl⟩ := H
      go_wp2_with (first | ((with_reducible refine gate_callee (f := 82) rfl ?_); refine goesL_ (some 22) rfl rfl Tryd.func82 (by kernel_rfl) rfl #[.pointer (some ⟨g, 0, none⟩), .int .i64 3] rfl (by (try simp only [List.map_toArray, List.map_cons, List.map_nil]); first | done | rfl) ?_; refine (spec_l01Src_n.callsA g s0_0 t557 t558 t559 3 t576 t577 t578 t579 w0 _ _ A20.out).mono ?_; rintro e w26 ⟨rfl, hi, hb, hk⟩; refine ⟨_, rfl, ?_⟩; replace HI0 := hi; replace HB := hb; replace HK := hk; clear hi hb hk) | ((with_reducible refine gate_callee (f := 82) rfl ?_); refine goesL_ (some 24) rfl rfl Tryd.func82 (by kernel_rfl) rfl #[.pointer (some ⟨g, 0, none⟩), .int .i64 3] rfl (by (try simp only [List.map_toArray, List.map_cons, List.map_nil]); first | done | rfl) ?_; refine (spec_l01Src_n.callsA g s0_0 t577 t578 t579 3 t580 t581 t582 t583 w0 _ _ A21.out).mono ?_; rintro e w27 ⟨rfl, hi, hb, hk⟩; refine ⟨_, rfl, ?_⟩; replace HI0 := hi; replace HB := hb; replace HK := hk; clear hi hb hk) | ((with_reducible refine gate_callee (f := 82) rfl ?_); refine goesL_ (some 27) rfl rfl Tryd.func82 (by kernel_rfl) rfl #[.pointer (some ⟨g, 0, none⟩), .int .i64 2] rfl (by (try simp only [List.map_toArray, List.map_cons, List.map_nil]); first | done | rfl) ?_; refine (spec_l01Src_n.callsA g s0_0 t581 t582 t583 2 t584 t585 t586 t587 w0 _ _ A22.out).mono ?_; rintro e w28 ⟨rfl, hi, hb, hk⟩; refine ⟨_, rfl, ?_⟩; replace HI0 := hi; replace HB := hb; replace HK := hk; clear hi hb hk) | ((with_reducible refine gate_dst (N := 29) rfl ?_); refine Kd.R_lit (Kd.int .i64) _ 2 ?hg (N := 29) ?hd (xs := ([t576, wrap64 (16 + t580), wrap64 (32 + t584), 40, 48, 56] : List Int)) (inner := [.int .i64 t576, .int .i64 (wrap64 (16 + t580)), .int .i64 (wrap64 (32 + t584)), .int .i64 40, .int .i64 48, .int .i64 56]) (ok := fun _ => True) (okp := fun _ => True) ?hr ?hp (fun _ hk => hk) trivial (Below.refl _ _) (Nat.le_refl _) (by simp) ?_; (case hd => rfl); (case hg => rfl); (case hr => first | (go_simp; done) | (go_simp; rfl)); (case hp => exact (Reps.one (show Kd.M (Kd.int .i64) _ _ _ t576 [.int .i64 t576] from rfl) (Reps.one (show Kd.M (Kd.int .i64) _ _ _ (wrap64 (16 + t580)) [.int .i64 (wrap64 (16 + t580))] from rfl) (Reps.one (show Kd.M (Kd.int .i64) _ _ _ (wrap64 (32 + t584)) [.int .i64 (wrap64 (32 + t584))] from rfl) (Reps.one (show Kd.M (Kd.int .i64) _ _ _ 40 [.int .i64 40] from rfl) (Reps.one (show Kd.M (Kd.int .i64) _ _ _ 48 [.int .i64 48] from rfl) (Reps.one (show Kd.M (Kd.int .i64) _ _ _ 56 [.int .i64 56] from rfl) (Reps.none _ _)))))))); intro v589 w29 ho30 hb hg_ hnew_; clear hg_ hnew_; (first | rw [← Ny588.out] at ho30 | (simp only [Int.reduceToNat] at ho30; rw [← Ny588.out] at ho30)); have n0_ := Aside0.mk (Kd.R_lower ho30 (keep_size (w := w) (g := g) (row := none) (keepA))); have n1_ := Aside0.mk (IsS134.below (isA) hb); have n2_ := Aside0.mk (KeepBut.trans (keepA) (KeepBut.of_below hb g none) (.inl rfl)); have n3_ := Aside0.mk (below_step (belowI) hb); clear HI0; clear HK; clear HB; have HO590 := n0_; have HI0 := n1_; have HK := n2_; have HB := n3_; clear n0_ n1_ n2_ n3_; clear hb ho30) | ((with_reducible refine gate_callee (f := 82) rfl ?_); refine goesL_ (some 31) rfl rfl Tryd.func82 (by kernel_rfl) rfl #[.pointer (some ⟨g, 0, none⟩), .int .i64 6] rfl (by (try simp only [List.map_toArray, List.map_cons, List.map_nil]); first | done | rfl) ?_; (with_reducible refine (spec_l01Src_n.calls g s0_0 t585 t586 t587 6 t591 t592 t593 t594 w0 _ ?side1 ?side2 A23.out).mono ?_); (case side1 => exact isA); (case side2 => exact belowI); rintro e w31 ⟨rfl, hi, hb, hk⟩; refine ⟨_, rfl, ?_⟩; have n0_ := Aside0.mk (Kd.R_mono (Kd.R_keep (IsS134.apart (show IsS134 w0 _ g s0_0 t585 t586 t587 from isA) (by (with_reducible repeat (first | apply Kd.R_alloc | apply Kd.R_drewN | apply Kd.R_drew)); exact HO590.out) (by decide)) hk (fun _ h => h.2)) (fun _ h => h.1)); have n1_ := Aside0.mk (KeepBut.trans (keepA) hk (.inl rfl)); have n2_ := Aside0.mk (hb); have n3_ := Aside0.mk (hi); clear HO590; clear HK; clear HB; clear HI0; have HO590 := n0_; have HK := n1_; have HB := n2_; have HI0 := n3_; clear n0_ n1_ n2_ n3_; (try clear hb); (try clear hb2); (try clear hk); (try clear hi); obtain ⟨Ao32, co32, eo32⟩ := Kd.R_slice HO590.out; subst eo32; have p595 : 0 ≤ (t591 : Int) := of_decide_eq_true (by first | (with_reducible assumption) | assumption); have q595 : t591 < (y588.length : Int) := of_decide_eq_true (by first | (with_reducible assumption) | assumption); obtain ⟨ad595, e595, hx595_0⟩ := Kd.at_int (Kd.R_reads' HO590.out).2.2 t591 p595 q595; cases e595; replace p595 := eq_true p595; replace q595 := eq_true q595))
      go_ret
      exact ⟨by first | rfl | (simp [errW_none, errW_some] <;> rfl) | (simp [*, errW_none, errW_some] <;> rfl), isA, belowI, keepA⟩
     rw [if_neg c25] at H
     exact absurd H (by simp)
    rw [if_neg c24] at H
    exact absurd H (by simp)
   replace c19 := Bool.eq_false_iff.mpr c19; subst c19
   have H1 : (if t556 = 3 then ((spec_l01Src_n.f s0_0 t557 t558 t559 3).bind fun bt596 => ((spec_l01Src_n.f s0_0 bt596.2.1 bt596.2.2.1 bt596.2.2.2 52).bind fun bt600 => ((spec_l01Src_n.f s0_0 bt600.2.1 bt600.2.2.1 bt600.2.2.2 2).bind fun bt604 => (some (wrap64 ((wrap64 ((wrap64 (8192 + (wrap64 (512 * bt596.1)))) + (wrap64 (8 * bt600.1)))) + bt604.1), bt604.2.1, bt604.2.2.1, bt604.2.2.2))))) else (if t556 = 4 then ((spec_l01Src_n.f s0_0 t557 t558 t559 26).bind fun bt608 => ((spec_l01Src_n.f s0_0 bt608.2.1 bt608.2.2.1 bt608.2.2.2 3).bind fun bt612 => ((spec_l01Src_n.f s0_0 bt612.2.1 bt612.2.2.1 bt612.2.2.2 3).bind fun bt616 => ((spec_l01Src_n.f s0_0 bt616.2.1 bt616.2.2.1 bt616.2.2.2 4).bind fun bt620 => ((some (([wrap64 (9728 + bt608.1), wrap64 (9984 + bt612.1), wrap64 (10016 + bt616.1), wrap64 (10032 + bt620.1), 8064, 160] : List Int) : List Int)).bind fun y624 => ((spec_l01Src_n.f s0_0 bt620.2.1 bt620.2.2.1 bt620.2.2.2 6).bind fun bt627 => (if 0 ≤ bt627.1 then (if bt627.1 < (y624.length : Int) then (some (rd y624 bt627.1, bt627.2.1, bt627.2.2.1, bt627.2.2.2)) else (none)) else (none)))))))) else (if t556 = 5 then ((spec_l01Src_n.f s0_0 t557 t558 t559 2).bind fun bt632 => ((spec_l01Src_n.f s0_0 bt632.2.1 bt632.2.2.1 bt632.2.2.2 2).bind fun bt636 => ((spec_l01Src_n.f s0_0 bt636.2.1 bt636.2.2.1 bt636.2.2.2 2).bind fun bt640 => ((some (([wrap64 (1792 + bt632.1), wrap64 (1824 + bt636.1), wrap64 (1857 + bt640.1), 1810, 1844, 1883] : List Int) : List Int)).bind fun y644 => ((spec_l01Src_n.f s0_0 bt640.2.1 bt640.2.2.1 bt640.2.2.2 6).bind fun bt647 => (if 0 ≤ bt647.1 then (if bt647.1 < (y644.length : Int) then (some (rd y644 bt647.1, bt647.2.1, bt647.2.2.1, bt647.2.2.2)) else (none)) else (none))))))) else (if t556 = 6 then ((spec_l01Src_n.f s0_0 t557 t558 t559 399).bind fun bt652 => ((spec_l01Src_n.f s0_0 bt652.2.1 bt652.2.2.1 bt652.2.2.2 11172).bind fun bt656 => ((some (([wrap64 (28 * bt652.1), bt656.1, 0, 11171] : List Int) : List Int)).bind fun y660 => ((spec_l01Src_n.f s0_0 bt656.2.1 bt656.2.2.1 bt656.2.2.2 4).bind fun bt663 => (if 0 ≤ bt663.1 then (if bt663.1 < (y660.length : Int) then (some (wrap64 (12288 + (rd y660 bt663.1)), bt663.2.1, bt663.2.2.1, bt663.2.2.2)) else (none)) else (none)))))) else ((spec_l01Src_point.f kj15 s0_0 t557 t558 t559).bind fun bt668 => ((spec_l01Src_point.f kj15 s0_0 bt668.2.1 bt668.2.2.1 bt668.2.2.2).bind fun bt672 => ((some (([1584, 1585, 1536, bt668.1, bt672.1] : List Int) : List Int)).bind fun y676 => ((spec_l01Src_n.f s0_0 bt672.2.1 bt672.2.2.1 bt672.2.2.2 5).bind fun bt679 => (if 0 ≤ bt679.1 then (if bt679.1 < (y676.length : Int) then (some (rd y676 bt679.1, bt679.2.1, bt679.2.2.1, bt679.2.2.2)) else (none)) else (none)))))))))) = some (r1, r2, r3, r4) := by rw [if_neg (show ¬ (false = true) by decide)] at H; exact H
   clear H; have H := H1; clear H1
   by_cases c33 : t556 = 3
   ·rw [if_pos c33] at H
    have c33b0 : (t556 == 3) = true := beq_iff_eq.mpr c33; have c33b1 : (t556 != 3) = false := bne_eq_false_iff_eq.mpr c33; clear c33; replace H := Option.bind_eq_some_iff.mp H; obtain ⟨⟨t596, t597, t598, t599⟩, A340, H⟩ := H
    try dsimp only at H
    have A34 := Aside0.mk A340; clear A340; replace H := Option.bind_eq_some_iff.mp H; obtain ⟨⟨t600, t601, t602, t603⟩, A350, H⟩ := H
    try dsimp only at H
    have A35 := Aside0.mk A350; clear A350; replace H := Option.bind_eq_some_iff.mp H; obtain ⟨⟨t604, t605, t606, t607⟩, A360, H⟩ := H
    try dsimp only at H
    have A36 := Aside0.mk A360; clear A360; simp only [Option.some.injEq, Prod.mk.injEq] at H; obtain ⟨rfl, rfl, rfl, rfl⟩ := H
    go_wp2_with (first | ((with_reducible refine gate_callee (f := 82) rfl ?_); refine goesL_ (some 38) rfl rfl Tryd.func82 (by kernel_rfl) rfl #[.pointer (some ⟨g, 0, none⟩), .int .i64 3] rfl (by (try simp only [List.map_toArray, List.map_cons, List.map_nil]); first | done | rfl) ?_; refine (spec_l01Src_n.callsA g s0_0 t557 t558 t559 3 t596 t597 t598 t599 w0 _ _ A34.out).mono ?_; rintro e w37 ⟨rfl, hi, hb, hk⟩; refine ⟨_, rfl, ?_⟩; replace HI0 := hi; replace HB := hb; replace HK := hk; clear hi hb hk) | ((with_reducible refine gate_callee (f := 82) rfl ?_); refine goesL_ (some 42) rfl rfl Tryd.func82 (by kernel_rfl) rfl #[.pointer (some ⟨g, 0, none⟩), .int .i64 52] rfl (by (try simp only [List.map_toArray, List.map_cons, List.map_nil]); first | done | rfl) ?_; refine (spec_l01Src_n.callsA g s0_0 t597 t598 t599 52 t600 t601 t602 t603 w0 _ _ A35.out).mono ?_; rintro e w38 ⟨rfl, hi, hb, hk⟩; refine ⟨_, rfl, ?_⟩; replace HI0 := hi; replace HB := hb; replace HK := hk; clear hi hb hk) | ((with_reducible refine gate_callee (f := 82) rfl ?_); refine goesL_ (some 46) rfl rfl Tryd.func82 (by kernel_rfl) rfl #[.pointer (some ⟨g, 0, none⟩), .int .i64 2] rfl (by (try simp only [List.map_toArray, List.map_cons, List.map_nil]); first | done | rfl) ?_; refine (spec_l01Src_n.callsA g s0_0 t601 t602 t603 2 t604 t605 t606 t607 w0 _ _ A36.out).mono ?_; rintro e w39 ⟨rfl, hi, hb, hk⟩; refine ⟨_, rfl, ?_⟩; replace HI0 := hi; replace HB := hb; replace HK := hk; clear hi hb hk))
    go_ret
    exact ⟨by first | rfl | (simp [errW_none, errW_some] <;> rfl) | (simp [*, errW_none, errW_some] <;> rfl), isA, belowI, keepA⟩
   rw [if_neg c33] at H; have c33b0 : (t556 == 3) = false := beq_eq_false_iff_ne.mpr c33; have c33b1 : (t556 != 3) = true := bne_iff_ne.mpr c33
   by_cases c40 : t556 = 4
   ·rw [if_pos c40] at H
    have c40b0 : (t556 == 4) = true := beq_iff_eq.mpr c40; have c40b1 : (t556 != 4) = false := bne_eq_false_iff_eq.mpr c40; clear c40; replace H := Option.bind_eq_some_iff.mp H; obtain ⟨⟨t608, t609, t610, t611⟩, A410, H⟩ := H
    try dsimp only at H
    have A41 := Aside0.mk A410; clear A410; replace H := Option.bind_eq_some_iff.mp H; obtain ⟨⟨t612, t613, t614, t615⟩, A420, H⟩ := H
    try dsimp only at H
    have A42 := Aside0.mk A420; clear A420; replace H := Option.bind_eq_some_iff.mp H; obtain ⟨⟨t616, t617, t618, t619⟩, A430, H⟩ := H
    try dsimp only at H
    have A43 := Aside0.mk A430; clear A430; replace H := Option.bind_eq_some_iff.mp H; obtain ⟨⟨t620, t621, t622, t623⟩, A440, H⟩ := H
    try dsimp only at H
    have A44 := Aside0.mk A440; clear A440; obtain ⟨y624, hy624⟩ : ∃ y_ : List Int, y_ = (([wrap64 (9728 + t608), wrap64 (9984 + t612), wrap64 (10016 + t616), wrap64 (10032 + t620), 8064, 160] : List Int)) := ⟨_, rfl⟩
    replace H : ((spec_l01Src_n.f s0_0 t621 t622 t623 6).bind fun bt627 => (if 0 ≤ bt627.1 then (if bt627.1 < (y624.length : Int) then (some (rd y624 bt627.1, bt627.2.1, bt627.2.2.1, bt627.2.2.2)) else (none)) else (none))) = some (r1, r2, r3, r4) := by first | (rw [hy624]; with_reducible exact H) | (have H2_ := (Option.bind_some _ _).symm.trans H; rw [hy624]; with_reducible exact H2_) | (have H2_ := (Option.bind_some _ _).symm.trans H; with_reducible exact H2_) | with_reducible exact H | (rw [hy624]; exact H) | exact H
    have Ny624 := Aside0.mk hy624; clear hy624; replace H := Option.bind_eq_some_iff.mp H; obtain ⟨⟨t627, t628, t629, t630⟩, A450, H⟩ := H
    try dsimp only at H
    have A45 := Aside0.mk A450; clear A450
    by_cases c46 : 0 ≤ t627
    ·rw [if_pos c46] at H
     have c46b0 : decide (0 ≤ t627) = true := decide_eq_true c46; clear c46
     by_cases c47 : t627 < (y624.length : Int)
     ·rw [if_pos c47] at H
      have c47b0 : decide (t627 < (y624.length : Int)) = true := decide_eq_true c47; clear c47; simp only [Option.some.injEq, Prod.mk.injEq] at H; obtain ⟨rfl, rfl, rfl, rfl⟩ := H
      go_wp2_with (first | ((with_reducible refine gate_callee (f := 82) rfl ?_); refine goesL_ (some 51) rfl rfl Tryd.func82 (by kernel_rfl) rfl #[.pointer (some ⟨g, 0, none⟩), .int .i64 26] rfl (by (try simp only [List.map_toArray, List.map_cons, List.map_nil]); first | done | rfl) ?_; refine (spec_l01Src_n.callsA g s0_0 t557 t558 t559 26 t608 t609 t610 t611 w0 _ _ A41.out).mono ?_; rintro e w48 ⟨rfl, hi, hb, hk⟩; refine ⟨_, rfl, ?_⟩; replace HI0 := hi; replace HB := hb; replace HK := hk; clear hi hb hk) | ((with_reducible refine gate_callee (f := 82) rfl ?_); refine goesL_ (some 54) rfl rfl Tryd.func82 (by kernel_rfl) rfl #[.pointer (some ⟨g, 0, none⟩), .int .i64 3] rfl (by (try simp only [List.map_toArray, List.map_cons, List.map_nil]); first | done | rfl) ?_; refine (spec_l01Src_n.callsA g s0_0 t609 t610 t611 3 t612 t613 t614 t615 w0 _ _ A42.out).mono ?_; rintro e w49 ⟨rfl, hi, hb, hk⟩; refine ⟨_, rfl, ?_⟩; replace HI0 := hi; replace HB := hb; replace HK := hk; clear hi hb hk) | ((with_reducible refine gate_callee (f := 82) rfl ?_); refine goesL_ (some 57) rfl rfl Tryd.func82 (by kernel_rfl) rfl #[.pointer (some ⟨g, 0, none⟩), .int .i64 3] rfl (by (try simp only [List.map_toArray, List.map_cons, List.map_nil]); first | done | rfl) ?_; refine (spec_l01Src_n.callsA g s0_0 t613 t614 t615 3 t616 t617 t618 t619 w0 _ _ A43.out).mono ?_; rintro e w50 ⟨rfl, hi, hb, hk⟩; refine ⟨_, rfl, ?_⟩; replace HI0 := hi; replace HB := hb; replace HK := hk; clear hi hb hk) | ((with_reducible refine gate_callee (f := 82) rfl ?_); refine goesL_ (some 60) rfl rfl Tryd.func82 (by kernel_rfl) rfl #[.pointer (some ⟨g, 0, none⟩), .int .i64 4] rfl (by (try simp only [List.map_toArray, List.map_cons, List.map_nil]); first | done | rfl) ?_; refine (spec_l01Src_n.callsA g s0_0 t617 t618 t619 4 t620 t621 t622 t623 w0 _ _ A44.out).mono ?_; rintro e w51 ⟨rfl, hi, hb, hk⟩; refine ⟨_, rfl, ?_⟩; replace HI0 := hi; replace HB := hb; replace HK := hk; clear hi hb hk) | ((with_reducible refine gate_dst (N := 62) rfl ?_); refine Kd.R_lit (Kd.int .i64) _ 2 ?hg (N := 62) ?hd (xs := ([wrap64 (9728 + t608), wrap64 (9984 + t612), wrap64 (10016 + t616), wrap64 (10032 + t620), 8064, 160] : List Int)) (inner := [.int .i64 (wrap64 (9728 + t608)), .int .i64 (wrap64 (9984 + t612)), .int .i64 (wrap64 (10016 + t616)), .int .i64 (wrap64 (10032 + t620)), .int .i64 8064, .int .i64 160]) (ok := fun _ => True) (okp := fun _ => True) ?hr ?hp (fun _ hk => hk) trivial (Below.refl _ _) (Nat.le_refl _) (by simp) ?_; (case hd => rfl); (case hg => rfl); (case hr => first | (go_simp; done) | (go_simp; rfl)); (case hp => exact (Reps.one (show Kd.M (Kd.int .i64) _ _ _ (wrap64 (9728 + t608)) [.int .i64 (wrap64 (9728 + t608))] from rfl) (Reps.one (show Kd.M (Kd.int .i64) _ _ _ (wrap64 (9984 + t612)) [.int .i64 (wrap64 (9984 + t612))] from rfl) (Reps.one (show Kd.M (Kd.int .i64) _ _ _ (wrap64 (10016 + t616)) [.int .i64 (wrap64 (10016 + t616))] from rfl) (Reps.one (show Kd.M (Kd.int .i64) _ _ _ (wrap64 (10032 + t620)) [.int .i64 (wrap64 (10032 + t620))] from rfl) (Reps.one (show Kd.M (Kd.int .i64) _ _ _ 8064 [.int .i64 8064] from rfl) (Reps.one (show Kd.M (Kd.int .i64) _ _ _ 160 [.int .i64 160] from rfl) (Reps.none _ _)))))))); intro v625 w52 ho53 hb hg_ hnew_; clear hg_ hnew_; (first | rw [← Ny624.out] at ho53 | (simp only [Int.reduceToNat] at ho53; rw [← Ny624.out] at ho53)); have n0_ := Aside0.mk (Kd.R_lower ho53 (keep_size (w := w) (g := g) (row := none) (keepA))); have n1_ := Aside0.mk (IsS134.below (isA) hb); have n2_ := Aside0.mk (KeepBut.trans (keepA) (KeepBut.of_below hb g none) (.inl rfl)); have n3_ := Aside0.mk (below_step (belowI) hb); clear HI0; clear HK; clear HB; have HO626 := n0_; have HI0 := n1_; have HK := n2_; have HB := n3_; clear n0_ n1_ n2_ n3_; clear hb ho53) | ((with_reducible refine gate_callee (f := 82) rfl ?_); refine goesL_ (some 64) rfl rfl Tryd.func82 (by kernel_rfl) rfl #[.pointer (some ⟨g, 0, none⟩), .int .i64 6] rfl (by (try simp only [List.map_toArray, List.map_cons, List.map_nil]); first | done | rfl) ?_; (with_reducible refine (spec_l01Src_n.calls g s0_0 t621 t622 t623 6 t627 t628 t629 t630 w0 _ ?side1 ?side2 A45.out).mono ?_); (case side1 => exact isA); (case side2 => exact belowI); rintro e w54 ⟨rfl, hi, hb, hk⟩; refine ⟨_, rfl, ?_⟩; have n0_ := Aside0.mk (Kd.R_mono (Kd.R_keep (IsS134.apart (show IsS134 w0 _ g s0_0 t621 t622 t623 from isA) (by (with_reducible repeat (first | apply Kd.R_alloc | apply Kd.R_drewN | apply Kd.R_drew)); exact HO626.out) (by decide)) hk (fun _ h => h.2)) (fun _ h => h.1)); have n1_ := Aside0.mk (KeepBut.trans (keepA) hk (.inl rfl)); have n2_ := Aside0.mk (hb); have n3_ := Aside0.mk (hi); clear HO626; clear HK; clear HB; clear HI0; have HO626 := n0_; have HK := n1_; have HB := n2_; have HI0 := n3_; clear n0_ n1_ n2_ n3_; (try clear hb); (try clear hb2); (try clear hk); (try clear hi); obtain ⟨Ao55, co55, eo55⟩ := Kd.R_slice HO626.out; subst eo55; have p631 : 0 ≤ (t627 : Int) := of_decide_eq_true (by first | (with_reducible assumption) | assumption); have q631 : t627 < (y624.length : Int) := of_decide_eq_true (by first | (with_reducible assumption) | assumption); obtain ⟨ad631, e631, hx631_0⟩ := Kd.at_int (Kd.R_reads' HO626.out).2.2 t627 p631 q631; cases e631; replace p631 := eq_true p631; replace q631 := eq_true q631))
      go_ret
      exact ⟨by first | rfl | (simp [errW_none, errW_some] <;> rfl) | (simp [*, errW_none, errW_some] <;> rfl), isA, belowI, keepA⟩
     rw [if_neg c47] at H
     exact absurd H (by simp)
    rw [if_neg c46] at H
    exact absurd H (by simp)
   rw [if_neg c40] at H; have c40b0 : (t556 == 4) = false := beq_eq_false_iff_ne.mpr c40; have c40b1 : (t556 != 4) = true := bne_iff_ne.mpr c40
   by_cases c56 : t556 = 5
   ·rw [if_pos c56] at H
    have c56b0 : (t556 == 5) = true := beq_iff_eq.mpr c56; have c56b1 : (t556 != 5) = false := bne_eq_false_iff_eq.mpr c56; clear c56; replace H := Option.bind_eq_some_iff.mp H; obtain ⟨⟨t632, t633, t634, t635⟩, A570, H⟩ := H
    try dsimp only at H
    have A57 := Aside0.mk A570; clear A570; replace H := Option.bind_eq_some_iff.mp H; obtain ⟨⟨t636, t637, t638, t639⟩, A580, H⟩ := H
    try dsimp only at H
    have A58 := Aside0.mk A580; clear A580; replace H := Option.bind_eq_some_iff.mp H; obtain ⟨⟨t640, t641, t642, t643⟩, A590, H⟩ := H
    try dsimp only at H
    have A59 := Aside0.mk A590; clear A590; obtain ⟨y644, hy644⟩ : ∃ y_ : List Int, y_ = (([wrap64 (1792 + t632), wrap64 (1824 + t636), wrap64 (1857 + t640), 1810, 1844, 1883] : List Int)) := ⟨_, rfl⟩
    replace H : ((spec_l01Src_n.f s0_0 t641 t642 t643 6).bind fun bt647 => (if 0 ≤ bt647.1 then (if bt647.1 < (y644.length : Int) then (some (rd y644 bt647.1, bt647.2.1, bt647.2.2.1, bt647.2.2.2)) else (none)) else (none))) = some (r1, r2, r3, r4) := by first | (rw [hy644]; with_reducible exact H) | (have H2_ := (Option.bind_some _ _).symm.trans H; rw [hy644]; with_reducible exact H2_) | (have H2_ := (Option.bind_some _ _).symm.trans H; with_reducible exact H2_) | with_reducible exact H | (rw [hy644]; exact H) | exact H
    have Ny644 := Aside0.mk hy644; clear hy644; replace H := Option.bind_eq_some_iff.mp H; obtain ⟨⟨t647, t648, t649, t650⟩, A600, H⟩ := H
    try dsimp only at H
    have A60 := Aside0.mk A600; clear A600
    by_cases c61 : 0 ≤ t647
    ·rw [if_pos c61] at H
     have c61b0 : decide (0 ≤ t647) = true := decide_eq_true c61; clear c61
     by_cases c62 : t647 < (y644.length : Int)
     ·rw [if_pos c62] at H
      have c62b0 : decide (t647 < (y644.length : Int)) = true := decide_eq_true c62; clear c62; simp only [Option.some.injEq, Prod.mk.injEq] at H; obtain ⟨rfl, rfl, rfl, rfl⟩ := H
      go_wp2_with (first | ((with_reducible refine gate_callee (f := 82) rfl ?_); refine goesL_ (some 70) rfl rfl Tryd.func82 (by kernel_rfl) rfl #[.pointer (some ⟨g, 0, none⟩), .int .i64 2] rfl (by (try simp only [List.map_toArray, List.map_cons, List.map_nil]); first | done | rfl) ?_; refine (spec_l01Src_n.callsA g s0_0 t557 t558 t559 2 t632 t633 t634 t635 w0 _ _ A57.out).mono ?_; rintro e w63 ⟨rfl, hi, hb, hk⟩; refine ⟨_, rfl, ?_⟩; replace HI0 := hi; replace HB := hb; replace HK := hk; clear hi hb hk) | ((with_reducible refine gate_callee (f := 82) rfl ?_); refine goesL_ (some 73) rfl rfl Tryd.func82 (by kernel_rfl) rfl #[.pointer (some ⟨g, 0, none⟩), .int .i64 2] rfl (by (try simp only [List.map_toArray, List.map_cons, List.map_nil]); first | done | rfl) ?_; refine (spec_l01Src_n.callsA g s0_0 t633 t634 t635 2 t636 t637 t638 t639 w0 _ _ A58.out).mono ?_; rintro e w64 ⟨rfl, hi, hb, hk⟩; refine ⟨_, rfl, ?_⟩; replace HI0 := hi; replace HB := hb; replace HK := hk; clear hi hb hk) | ((with_reducible refine gate_callee (f := 82) rfl ?_); refine goesL_ (some 76) rfl rfl Tryd.func82 (by kernel_rfl) rfl #[.pointer (some ⟨g, 0, none⟩), .int .i64 2] rfl (by (try simp only [List.map_toArray, List.map_cons, List.map_nil]); first | done | rfl) ?_; refine (spec_l01Src_n.callsA g s0_0 t637 t638 t639 2 t640 t641 t642 t643 w0 _ _ A59.out).mono ?_; rintro e w65 ⟨rfl, hi, hb, hk⟩; refine ⟨_, rfl, ?_⟩; replace HI0 := hi; replace HB := hb; replace HK := hk; clear hi hb hk) | ((with_reducible refine gate_dst (N := 78) rfl ?_); refine Kd.R_lit (Kd.int .i64) _ 2 ?hg (N := 78) ?hd (xs := ([wrap64 (1792 + t632), wrap64 (1824 + t636), wrap64 (1857 + t640), 1810, 1844, 1883] : List Int)) (inner := [.int .i64 (wrap64 (1792 + t632)), .int .i64 (wrap64 (1824 + t636)), .int .i64 (wrap64 (1857 + t640)), .int .i64 1810, .int .i64 1844, .int .i64 1883]) (ok := fun _ => True) (okp := fun _ => True) ?hr ?hp (fun _ hk => hk) trivial (Below.refl _ _) (Nat.le_refl _) (by simp) ?_; (case hd => rfl); (case hg => rfl); (case hr => first | (go_simp; done) | (go_simp; rfl)); (case hp => exact (Reps.one (show Kd.M (Kd.int .i64) _ _ _ (wrap64 (1792 + t632)) [.int .i64 (wrap64 (1792 + t632))] from rfl) (Reps.one (show Kd.M (Kd.int .i64) _ _ _ (wrap64 (1824 + t636)) [.int .i64 (wrap64 (1824 + t636))] from rfl) (Reps.one (show Kd.M (Kd.int .i64) _ _ _ (wrap64 (1857 + t640)) [.int .i64 (wrap64 (1857 + t640))] from rfl) (Reps.one (show Kd.M (Kd.int .i64) _ _ _ 1810 [.int .i64 1810] from rfl) (Reps.one (show Kd.M (Kd.int .i64) _ _ _ 1844 [.int .i64 1844] from rfl) (Reps.one (show Kd.M (Kd.int .i64) _ _ _ 1883 [.int .i64 1883] from rfl) (Reps.none _ _)))))))); intro v645 w66 ho67 hb hg_ hnew_; clear hg_ hnew_; (first | rw [← Ny644.out] at ho67 | (simp only [Int.reduceToNat] at ho67; rw [← Ny644.out] at ho67)); have n0_ := Aside0.mk (Kd.R_lower ho67 (keep_size (w := w) (g := g) (row := none) (keepA))); have n1_ := Aside0.mk (IsS134.below (isA) hb); have n2_ := Aside0.mk (KeepBut.trans (keepA) (KeepBut.of_below hb g none) (.inl rfl)); have n3_ := Aside0.mk (below_step (belowI) hb); clear HI0; clear HK; clear HB; have HO646 := n0_; have HI0 := n1_; have HK := n2_; have HB := n3_; clear n0_ n1_ n2_ n3_; clear hb ho67) | ((with_reducible refine gate_callee (f := 82) rfl ?_); refine goesL_ (some 80) rfl rfl Tryd.func82 (by kernel_rfl) rfl #[.pointer (some ⟨g, 0, none⟩), .int .i64 6] rfl (by (try simp only [List.map_toArray, List.map_cons, List.map_nil]); first | done | rfl) ?_; (with_reducible refine (spec_l01Src_n.calls g s0_0 t641 t642 t643 6 t647 t648 t649 t650 w0 _ ?side1 ?side2 A60.out).mono ?_); (case side1 => exact isA); (case side2 => exact belowI); rintro e w68 ⟨rfl, hi, hb, hk⟩; refine ⟨_, rfl, ?_⟩; have n0_ := Aside0.mk (Kd.R_mono (Kd.R_keep (IsS134.apart (show IsS134 w0 _ g s0_0 t641 t642 t643 from isA) (by (with_reducible repeat (first | apply Kd.R_alloc | apply Kd.R_drewN | apply Kd.R_drew)); exact HO646.out) (by decide)) hk (fun _ h => h.2)) (fun _ h => h.1)); have n1_ := Aside0.mk (KeepBut.trans (keepA) hk (.inl rfl)); have n2_ := Aside0.mk (hb); have n3_ := Aside0.mk (hi); clear HO646; clear HK; clear HB; clear HI0; have HO646 := n0_; have HK := n1_; have HB := n2_; have HI0 := n3_; clear n0_ n1_ n2_ n3_; (try clear hb); (try clear hb2); (try clear hk); (try clear hi); obtain ⟨Ao69, co69, eo69⟩ := Kd.R_slice HO646.out; subst eo69; have p651 : 0 ≤ (t647 : Int) := of_decide_eq_true (by first | (with_reducible assumption) | assumption); have q651 : t647 < (y644.length : Int) := of_decide_eq_true (by first | (with_reducible assumption) | assumption); obtain ⟨ad651, e651, hx651_0⟩ := Kd.at_int (Kd.R_reads' HO646.out).2.2 t647 p651 q651; cases e651; replace p651 := eq_true p651; replace q651 := eq_true q651))
      go_ret
      exact ⟨by first | rfl | (simp [errW_none, errW_some] <;> rfl) | (simp [*, errW_none, errW_some] <;> rfl), isA, belowI, keepA⟩
     rw [if_neg c62] at H
     exact absurd H (by simp)
    rw [if_neg c61] at H
    exact absurd H (by simp)
   rw [if_neg c56] at H; have c56b0 : (t556 == 5) = false := beq_eq_false_iff_ne.mpr c56; have c56b1 : (t556 != 5) = true := bne_iff_ne.mpr c56
   by_cases c70 : t556 = 6
   ·rw [if_pos c70] at H
    have c70b0 : (t556 == 6) = true := beq_iff_eq.mpr c70; have c70b1 : (t556 != 6) = false := bne_eq_false_iff_eq.mpr c70; clear c70; replace H := Option.bind_eq_some_iff.mp H; obtain ⟨⟨t652, t653, t654, t655⟩, A710, H⟩ := H
    try dsimp only at H
    have A71 := Aside0.mk A710; clear A710; replace H := Option.bind_eq_some_iff.mp H; obtain ⟨⟨t656, t657, t658, t659⟩, A720, H⟩ := H
    try dsimp only at H
    have A72 := Aside0.mk A720; clear A720; obtain ⟨y660, hy660⟩ : ∃ y_ : List Int, y_ = (([wrap64 (28 * t652), t656, 0, 11171] : List Int)) := ⟨_, rfl⟩
    replace H : ((spec_l01Src_n.f s0_0 t657 t658 t659 4).bind fun bt663 => (if 0 ≤ bt663.1 then (if bt663.1 < (y660.length : Int) then (some (wrap64 (12288 + (rd y660 bt663.1)), bt663.2.1, bt663.2.2.1, bt663.2.2.2)) else (none)) else (none))) = some (r1, r2, r3, r4) := by first | (rw [hy660]; with_reducible exact H) | (have H2_ := (Option.bind_some _ _).symm.trans H; rw [hy660]; with_reducible exact H2_) | (have H2_ := (Option.bind_some _ _).symm.trans H; with_reducible exact H2_) | with_reducible exact H | (rw [hy660]; exact H) | exact H
    have Ny660 := Aside0.mk hy660; clear hy660; replace H := Option.bind_eq_some_iff.mp H; obtain ⟨⟨t663, t664, t665, t666⟩, A730, H⟩ := H
    try dsimp only at H
    have A73 := Aside0.mk A730; clear A730
    by_cases c74 : 0 ≤ t663
    ·rw [if_pos c74] at H
     have c74b0 : decide (0 ≤ t663) = true := decide_eq_true c74; clear c74
     by_cases c75 : t663 < (y660.length : Int)
     ·rw [if_pos c75] at H
      have c75b0 : decide (t663 < (y660.length : Int)) = true := decide_eq_true c75; clear c75; simp only [Option.some.injEq, Prod.mk.injEq] at H; obtain ⟨rfl, rfl, rfl, rfl⟩ := H
      go_wp2_with (first | ((with_reducible refine gate_callee (f := 82) rfl ?_); refine goesL_ (some 86) rfl rfl Tryd.func82 (by kernel_rfl) rfl #[.pointer (some ⟨g, 0, none⟩), .int .i64 399] rfl (by (try simp only [List.map_toArray, List.map_cons, List.map_nil]); first | done | rfl) ?_; refine (spec_l01Src_n.callsA g s0_0 t557 t558 t559 399 t652 t653 t654 t655 w0 _ _ A71.out).mono ?_; rintro e w76 ⟨rfl, hi, hb, hk⟩; refine ⟨_, rfl, ?_⟩; replace HI0 := hi; replace HB := hb; replace HK := hk; clear hi hb hk) | ((with_reducible refine gate_callee (f := 82) rfl ?_); refine goesL_ (some 89) rfl rfl Tryd.func82 (by kernel_rfl) rfl #[.pointer (some ⟨g, 0, none⟩), .int .i64 11172] rfl (by (try simp only [List.map_toArray, List.map_cons, List.map_nil]); first | done | rfl) ?_; refine (spec_l01Src_n.callsA g s0_0 t653 t654 t655 11172 t656 t657 t658 t659 w0 _ _ A72.out).mono ?_; rintro e w77 ⟨rfl, hi, hb, hk⟩; refine ⟨_, rfl, ?_⟩; replace HI0 := hi; replace HB := hb; replace HK := hk; clear hi hb hk) | ((with_reducible refine gate_dst (N := 90) rfl ?_); refine Kd.R_lit (Kd.int .i64) _ 2 ?hg (N := 90) ?hd (xs := ([wrap64 (28 * t652), t656, 0, 11171] : List Int)) (inner := [.int .i64 (wrap64 (28 * t652)), .int .i64 t656, .int .i64 0, .int .i64 11171]) (ok := fun _ => True) (okp := fun _ => True) ?hr ?hp (fun _ hk => hk) trivial (Below.refl _ _) (Nat.le_refl _) (by simp) ?_; (case hd => rfl); (case hg => rfl); (case hr => first | (go_simp; done) | (go_simp; rfl)); (case hp => exact (Reps.one (show Kd.M (Kd.int .i64) _ _ _ (wrap64 (28 * t652)) [.int .i64 (wrap64 (28 * t652))] from rfl) (Reps.one (show Kd.M (Kd.int .i64) _ _ _ t656 [.int .i64 t656] from rfl) (Reps.one (show Kd.M (Kd.int .i64) _ _ _ 0 [.int .i64 0] from rfl) (Reps.one (show Kd.M (Kd.int .i64) _ _ _ 11171 [.int .i64 11171] from rfl) (Reps.none _ _)))))); intro v661 w78 ho79 hb hg_ hnew_; clear hg_ hnew_; (first | rw [← Ny660.out] at ho79 | (simp only [Int.reduceToNat] at ho79; rw [← Ny660.out] at ho79)); have n0_ := Aside0.mk (Kd.R_lower ho79 (keep_size (w := w) (g := g) (row := none) (keepA))); have n1_ := Aside0.mk (IsS134.below (isA) hb); have n2_ := Aside0.mk (KeepBut.trans (keepA) (KeepBut.of_below hb g none) (.inl rfl)); have n3_ := Aside0.mk (below_step (belowI) hb); clear HI0; clear HK; clear HB; have HO662 := n0_; have HI0 := n1_; have HK := n2_; have HB := n3_; clear n0_ n1_ n2_ n3_; clear hb ho79) | ((with_reducible refine gate_callee (f := 82) rfl ?_); refine goesL_ (some 92) rfl rfl Tryd.func82 (by kernel_rfl) rfl #[.pointer (some ⟨g, 0, none⟩), .int .i64 4] rfl (by (try simp only [List.map_toArray, List.map_cons, List.map_nil]); first | done | rfl) ?_; (with_reducible refine (spec_l01Src_n.calls g s0_0 t657 t658 t659 4 t663 t664 t665 t666 w0 _ ?side1 ?side2 A73.out).mono ?_); (case side1 => exact isA); (case side2 => exact belowI); rintro e w80 ⟨rfl, hi, hb, hk⟩; refine ⟨_, rfl, ?_⟩; have n0_ := Aside0.mk (Kd.R_mono (Kd.R_keep (IsS134.apart (show IsS134 w0 _ g s0_0 t657 t658 t659 from isA) (by (with_reducible repeat (first | apply Kd.R_alloc | apply Kd.R_drewN | apply Kd.R_drew)); exact HO662.out) (by decide)) hk (fun _ h => h.2)) (fun _ h => h.1)); have n1_ := Aside0.mk (KeepBut.trans (keepA) hk (.inl rfl)); have n2_ := Aside0.mk (hb); have n3_ := Aside0.mk (hi); clear HO662; clear HK; clear HB; clear HI0; have HO662 := n0_; have HK := n1_; have HB := n2_; have HI0 := n3_; clear n0_ n1_ n2_ n3_; (try clear hb); (try clear hb2); (try clear hk); (try clear hi); obtain ⟨Ao81, co81, eo81⟩ := Kd.R_slice HO662.out; subst eo81; have p667 : 0 ≤ (t663 : Int) := of_decide_eq_true (by first | (with_reducible assumption) | assumption); have q667 : t663 < (y660.length : Int) := of_decide_eq_true (by first | (with_reducible assumption) | assumption); obtain ⟨ad667, e667, hx667_0⟩ := Kd.at_int (Kd.R_reads' HO662.out).2.2 t663 p667 q667; cases e667; replace p667 := eq_true p667; replace q667 := eq_true q667))
      go_ret
      exact ⟨by first | rfl | (simp [errW_none, errW_some] <;> rfl) | (simp [*, errW_none, errW_some] <;> rfl), isA, belowI, keepA⟩
     rw [if_neg c75] at H
     exact absurd H (by simp)
    rw [if_neg c74] at H
    exact absurd H (by simp)
   rw [if_neg c70] at H; have c70b0 : (t556 == 6) = false := beq_eq_false_iff_ne.mpr c70; have c70b1 : (t556 != 6) = true := bne_iff_ne.mpr c70; replace H := Option.bind_eq_some_iff.mp H; obtain ⟨⟨t668, t669, t670, t671⟩, A820, H⟩ := H
   try dsimp only at H
   have A82 := Aside0.mk A820; clear A820; replace H := Option.bind_eq_some_iff.mp H; obtain ⟨⟨t672, t673, t674, t675⟩, A830, H⟩ := H
   try dsimp only at H
   have A83 := Aside0.mk A830; clear A830; obtain ⟨y676, hy676⟩ : ∃ y_ : List Int, y_ = (([1584, 1585, 1536, t668, t672] : List Int)) := ⟨_, rfl⟩
   replace H : ((spec_l01Src_n.f s0_0 t673 t674 t675 5).bind fun bt679 => (if 0 ≤ bt679.1 then (if bt679.1 < (y676.length : Int) then (some (rd y676 bt679.1, bt679.2.1, bt679.2.2.1, bt679.2.2.2)) else (none)) else (none))) = some (r1, r2, r3, r4) := by first | (rw [hy676]; with_reducible exact H) | (have H2_ := (Option.bind_some _ _).symm.trans H; rw [hy676]; with_reducible exact H2_) | (have H2_ := (Option.bind_some _ _).symm.trans H; with_reducible exact H2_) | with_reducible exact H | (rw [hy676]; exact H) | exact H
   have Ny676 := Aside0.mk hy676; clear hy676; replace H := Option.bind_eq_some_iff.mp H; obtain ⟨⟨t679, t680, t681, t682⟩, A840, H⟩ := H
   try dsimp only at H
   have A84 := Aside0.mk A840; clear A840
   by_cases c85 : 0 ≤ t679
   ·rw [if_pos c85] at H
    have c85b0 : decide (0 ≤ t679) = true := decide_eq_true c85; clear c85
    by_cases c86 : t679 < (y676.length : Int)
    ·rw [if_pos c86] at H
     have c86b0 : decide (t679 < (y676.length : Int)) = true := decide_eq_true c86; clear c86; simp only [Option.some.injEq, Prod.mk.injEq] at H; obtain ⟨rfl, rfl, rfl, rfl⟩ := H
     go_wp2_with (first | ((with_reducible refine gate_callee (f := 179) rfl ?_); refine goesL_ (some 97) rfl rfl Tryd.func179 (by kernel_rfl) rfl #[.pointer (some ⟨g, 0, none⟩)] rfl (by (try simp only [List.map_toArray, List.map_cons, List.map_nil]); first | done | rfl) ?_; (with_reducible refine (spec_l01Src_point.calls kj15 g s0_0 t557 t558 t559 t668 t669 t670 t671 w0 _ ?side1 ?side2 A82.out).mono ?_); (case side1 => exact isA); (case side2 => exact belowI); rintro e w87 ⟨rfl, hi, hb, hk⟩; refine ⟨_, rfl, ?_⟩; have n0_ := Aside0.mk (KeepBut.trans (keepA) hk (.inl rfl)); have n1_ := Aside0.mk (hb); have n2_ := Aside0.mk (hi); clear HK; clear HB; clear HI0; have HK := n0_; have HB := n1_; have HI0 := n2_; clear n0_ n1_ n2_; (try clear hb); (try clear hb2); (try clear hk); (try clear hi)) | ((with_reducible refine gate_callee (f := 179) rfl ?_); refine goesL_ (some 99) rfl rfl Tryd.func179 (by kernel_rfl) rfl #[.pointer (some ⟨g, 0, none⟩)] rfl (by (try simp only [List.map_toArray, List.map_cons, List.map_nil]); first | done | rfl) ?_; (with_reducible refine (spec_l01Src_point.calls kj15 g s0_0 t669 t670 t671 t672 t673 t674 t675 w0 _ ?side1 ?side2 A83.out).mono ?_); (case side1 => exact isA); (case side2 => exact belowI); rintro e w88 ⟨rfl, hi, hb, hk⟩; refine ⟨_, rfl, ?_⟩; have n0_ := Aside0.mk (KeepBut.trans (keepA) hk (.inl rfl)); have n1_ := Aside0.mk (hb); have n2_ := Aside0.mk (hi); clear HK; clear HB; clear HI0; have HK := n0_; have HB := n1_; have HI0 := n2_; clear n0_ n1_ n2_; (try clear hb); (try clear hb2); (try clear hk); (try clear hi)) | ((with_reducible refine gate_dst (N := 100) rfl ?_); refine Kd.R_lit (Kd.int .i64) _ 2 ?hg (N := 100) ?hd (xs := ([1584, 1585, 1536, t668, t672] : List Int)) (inner := [.int .i64 1584, .int .i64 1585, .int .i64 1536, .int .i64 t668, .int .i64 t672]) (ok := fun _ => True) (okp := fun _ => True) ?hr ?hp (fun _ hk => hk) trivial (Below.refl _ _) (Nat.le_refl _) (by simp) ?_; (case hd => rfl); (case hg => rfl); (case hr => first | (go_simp; done) | (go_simp; rfl)); (case hp => exact (Reps.one (show Kd.M (Kd.int .i64) _ _ _ 1584 [.int .i64 1584] from rfl) (Reps.one (show Kd.M (Kd.int .i64) _ _ _ 1585 [.int .i64 1585] from rfl) (Reps.one (show Kd.M (Kd.int .i64) _ _ _ 1536 [.int .i64 1536] from rfl) (Reps.one (show Kd.M (Kd.int .i64) _ _ _ t668 [.int .i64 t668] from rfl) (Reps.one (show Kd.M (Kd.int .i64) _ _ _ t672 [.int .i64 t672] from rfl) (Reps.none _ _))))))); intro v677 w89 ho90 hb hg_ hnew_; clear hg_ hnew_; (first | rw [← Ny676.out] at ho90 | (simp only [Int.reduceToNat] at ho90; rw [← Ny676.out] at ho90)); have n0_ := Aside0.mk (Kd.R_lower ho90 (keep_size (w := w) (g := g) (row := none) (keepA))); have n1_ := Aside0.mk (IsS134.below (isA) hb); have n2_ := Aside0.mk (KeepBut.trans (keepA) (KeepBut.of_below hb g none) (.inl rfl)); have n3_ := Aside0.mk (below_step (belowI) hb); clear HI0; clear HK; clear HB; have HO678 := n0_; have HI0 := n1_; have HK := n2_; have HB := n3_; clear n0_ n1_ n2_ n3_; clear hb ho90) | ((with_reducible refine gate_callee (f := 82) rfl ?_); refine goesL_ (some 102) rfl rfl Tryd.func82 (by kernel_rfl) rfl #[.pointer (some ⟨g, 0, none⟩), .int .i64 5] rfl (by (try simp only [List.map_toArray, List.map_cons, List.map_nil]); first | done | rfl) ?_; (with_reducible refine (spec_l01Src_n.calls g s0_0 t673 t674 t675 5 t679 t680 t681 t682 w0 _ ?side1 ?side2 A84.out).mono ?_); (case side1 => exact isA); (case side2 => exact belowI); rintro e w91 ⟨rfl, hi, hb, hk⟩; refine ⟨_, rfl, ?_⟩; have n0_ := Aside0.mk (Kd.R_mono (Kd.R_keep (IsS134.apart (show IsS134 w0 _ g s0_0 t673 t674 t675 from isA) (by (with_reducible repeat (first | apply Kd.R_alloc | apply Kd.R_drewN | apply Kd.R_drew)); exact HO678.out) (by decide)) hk (fun _ h => h.2)) (fun _ h => h.1)); have n1_ := Aside0.mk (KeepBut.trans (keepA) hk (.inl rfl)); have n2_ := Aside0.mk (hb); have n3_ := Aside0.mk (hi); clear HO678; clear HK; clear HB; clear HI0; have HO678 := n0_; have HK := n1_; have HB := n2_; have HI0 := n3_; clear n0_ n1_ n2_ n3_; (try clear hb); (try clear hb2); (try clear hk); (try clear hi); obtain ⟨Ao92, co92, eo92⟩ := Kd.R_slice HO678.out; subst eo92; have p683 : 0 ≤ (t679 : Int) := of_decide_eq_true (by first | (with_reducible assumption) | assumption); have q683 : t679 < (y676.length : Int) := of_decide_eq_true (by first | (with_reducible assumption) | assumption); obtain ⟨ad683, e683, hx683_0⟩ := Kd.at_int (Kd.R_reads' HO678.out).2.2 t679 p683 q683; cases e683; replace p683 := eq_true p683; replace q683 := eq_true q683))
     go_ret
     exact ⟨by first | rfl | (simp [errW_none, errW_some] <;> rfl) | (simp [*, errW_none, errW_some] <;> rfl), isA, belowI, keepA⟩
    rw [if_neg c86] at H
    exact absurd H (by simp)
   rw [if_neg c85] at H
   exact absurd H (by simp)

set_option maxHeartbeats 8000000 in
theorem spec_l01Src_part.tot (k : Nat) (l : List Int) (a m z : Int) (hl : l.length ≤ 140737488355328) (h0 : 0 ≤ a) (h1 : a ≤ (l.length : Int)) :
    YtiabgmddnddeiaaDoorPts.Tot (spec_l01Src_part.f (k + 10) l a m z) (fun r => 0 ≤ r.2.1 ∧ r.2.1 ≤ (l.length : Int) ∧ r.2.2.2 = z) := by
  unfold spec_l01Src_part.f
  refine YtiabgmddnddeiaaDoorPts.Tot.bind (spec_l01Src_n.tot l a m z 8 hl h0 h1 (by decide)) ?_
  rintro ⟨v, a1, m1, z1⟩ ⟨h2, h3, h4, h5, h6⟩
  dsimp only at h2 h3 h4 h5 h6 ⊢
  subst h6
  clear h0 h1
  have leaf : ∀ (b c d e : Int), 0 ≤ c ∧ c ≤ (l.length : Int) ∧ e = z1 → YtiabgmddnddeiaaDoorPts.Tot (some (b, c, d, e)) (fun r : Int × Int × Int × Int => 0 ≤ r.2.1 ∧ r.2.1 ≤ (l.length : Int) ∧ r.2.2.2 = z1) := fun _ _ _ _ h => YtiabgmddnddeiaaDoorPts.Tot.mk h
  repeat' first
    | exact leaf _ _ _ _ ⟨by assumption, by assumption, rfl⟩
    | (refine YtiabgmddnddeiaaDoorPts.Tot.bind (spec_l01Src_n.tot l _ _ _ _ hl (by assumption) (by assumption) (by decide)) ?_; rintro ⟨w, aw, mw, zw⟩ ⟨q1, q2, q3, q4, q5⟩; dsimp only at q1 q2 q3 q4 q5 ⊢; subst q5)
    | (refine YtiabgmddnddeiaaDoorPts.Tot.bind (spec_l01Src_point.tot k l _ _ _ hl (by assumption) (by assumption)) ?_; rintro ⟨w, aw, mw, zw⟩ ⟨q3, q4, q5⟩; dsimp only at q3 q4 q5 ⊢; subst q5)
    | (rw [Option.bind_some]; dsimp only [List.length_cons, List.length_nil])
    | (refine YtiabgmddnddeiaaDoorPts.Tot.ite (fun hc => ?_) (fun hc => ?_))
    | (simp only [spec_l01Src_part.j0])
    | (exfalso; omega)

/-! ### spec_l01Src_spoil: function 166 -/
def spec_l01Src_spoil.j0 : Nat → ByteArray → Int → ByteArray → Bool → List Int → Int → Int → Int → Option (ByteArray × Int × Int × Int)
 | 0, _, _, _, _, _, _, _, _ => none
 | k + 1, x1, x5, x6, x24, x1000, x1001, x1002, x1003 => if x24 = true then (if 0 ≤ x5 then (if x5 ≤ (x1.size : Int) then (if (x1.extract 0 (x5 : Int).toNat).size + x6.size ≤ 9223372036854775807 then (if ((x1.extract 0 (x5 : Int).toNat) ++ x6).size + (x1.extract (x5 : Int).toNat x1.size).size ≤ 9223372036854775807 then (some (((x1.extract 0 (x5 : Int).toNat) ++ x6) ++ (x1.extract (x5 : Int).toNat x1.size), x1001, x1002, x1003)) else (none)) else (none)) else (none)) else (none)) else ((spec_l01Src_one.f x1000 x1001 x1002 x1003 2).bind fun bt699 => (if bt699.1 = true then (if 0 ≤ x5 then (if x5 ≤ (x1.size : Int) then (if 0 ≤ (wrap64 (x5 + 1)) then (if (wrap64 (x5 + 1)) ≤ (x1.size : Int) then (if (x1.extract 0 (x5 : Int).toNat).size + (x1.extract ((wrap64 (x5 + 1)) : Int).toNat x1.size).size ≤ 9223372036854775807 then (some ((x1.extract 0 (x5 : Int).toNat) ++ (x1.extract ((wrap64 (x5 + 1)) : Int).toNat x1.size), bt699.2.1, bt699.2.2.1, bt699.2.2.2)) else (none)) else (none)) else (none)) else (none)) else (none)) else (if 0 ≤ x5 then (if x5 ≤ (x1.size : Int) then (if (x1.extract 0 (x5 : Int).toNat).size + x6.size ≤ 9223372036854775807 then (if 0 ≤ (wrap64 (x5 + 1)) then (if (wrap64 (x5 + 1)) ≤ (x1.size : Int) then (if ((x1.extract 0 (x5 : Int).toNat) ++ x6).size + (x1.extract ((wrap64 (x5 + 1)) : Int).toNat x1.size).size ≤ 9223372036854775807 then (some (((x1.extract 0 (x5 : Int).toNat) ++ x6) ++ (x1.extract ((wrap64 (x5 + 1)) : Int).toNat x1.size), bt699.2.1, bt699.2.2.1, bt699.2.2.2)) else (none)) else (none)) else (none)) else (none)) else (none)) else (none))))
def spec_l01Src_spoil.f (k : Nat) (s0_0 : List Int) (s0_1 : Int) (s0_2 : Int) (s0_3 : Int) (a1 : ByteArray) : Option (ByteArray × Int × Int × Int) := (spec_l01Src_n.f s0_0 s0_1 s0_2 s0_3 (wrap64 ((a1.size : Int) + 1))).bind fun bt684 => ((spec_l01Src_n.f s0_0 bt684.2.1 bt684.2.2.1 bt684.2.2.2 17).bind fun bt688 => (if 0 ≤ bt688.1 then (if bt688.1 < 17 then ((some (([bt (⟨#[32, 10, 48, 97, 45, 110, 44, 58, 93, 255, 40, 120, 34, 49, 128, 225, 59]⟩ : ByteArray) bt688.1] : List Int) : List Int)).bind fun y692 => (if bt684.1 = (a1.size : Int) then (spec_l01Src_spoil.j0 k a1 bt684.1 (strOfNums y692) true s0_0 bt688.2.1 bt688.2.2.1 bt688.2.2.2) else ((spec_l01Src_one.f s0_0 bt688.2.1 bt688.2.2.1 bt688.2.2.2 3).bind fun bt695 => (spec_l01Src_spoil.j0 k a1 bt684.1 (strOfNums y692) bt695.1 s0_0 bt695.2.1 bt695.2.2.1 bt695.2.2.2)))) else (none)) else (none)))
theorem spec_l01Src_spoil.mono_l : ∀ k, (∀ y0 y1 y2 y3 y4 y5 y6 y7, LeO (spec_l01Src_spoil.j0 k y0 y1 y2 y3 y4 y5 y6 y7) (spec_l01Src_spoil.j0 (k + 1) y0 y1 y2 y3 y4 y5 y6 y7))
 | 0 => fun _ _ _ _ _ _ _ _ r h => by simp [spec_l01Src_spoil.j0] at h
 | k + 1 => by
  have ih0 := spec_l01Src_spoil.mono_l k; intro y0 y1 y2 y3 y4 y5 y6 y7
  unfold spec_l01Src_spoil.j0
  repeat' first
  | (with_reducible exact ih0 _ _ _ _ _ _ _ _)
  | (with_reducible exact LeO.refl _)
  | (with_reducible exact LeO.none _)
  | (with_reducible refine LeO.ite ?_ ?_)
  | (with_reducible refine LeO.bind ?_ (fun _ => ?_))
  | exact ih0 _ _ _ _ _ _ _ _
  | exact LeO.none _
  | refine LeO.ite ?_ ?_
  | refine LeO.bind ?_ (fun _ => ?_)
theorem spec_l01Src_spoil.mono : ∀ a0 a1 a2 a3 a4 k, LeO (spec_l01Src_spoil.f k a0 a1 a2 a3 a4) (spec_l01Src_spoil.f (k + 1) a0 a1 a2 a3 a4) := by
 intro a0 a1 a2 a3 a4 k
 have ih0 := spec_l01Src_spoil.mono_l k
 unfold spec_l01Src_spoil.f
 repeat' first
   | (with_reducible exact ih0 _ _ _ _ _ _ _ _)
   | (with_reducible exact LeO.refl _)
   | (with_reducible exact LeO.none _)
   | (with_reducible refine LeO.ite ?_ ?_)
   | (with_reducible refine LeO.bind ?_ (fun _ => ?_))
   | exact ih0 _ _ _ _ _ _ _ _
   | exact LeO.none _
   | refine LeO.ite ?_ ?_
   | refine LeO.bind ?_ (fun _ => ?_)
set_option maxHeartbeats 8000000 in
set_option maxRecDepth 100000 in
theorem spec_l01Src_spoil.calls (k : Nat) (g : Nat) (s0_0 : List Int) (s0_1 : Int) (s0_2 : Int) (s0_3 : Int) (a1 : ByteArray) (r1 : ByteArray) (r2 : Int) (r3 : Int) (r4 : Int) (w0 w : World) (hI : IsS134 w0 w g s0_0 s0_1 s0_2 s0_3) (hB : Below w0.heap.size w0 w) (h : spec_l01Src_spoil.f k s0_0 s0_1 s0_2 s0_3 a1 = some (r1, r2, r3, r4)) :
  Calls Tryd.prog 166 #[.pointer (some ⟨g, 0, none⟩), .string a1] w fun e w' => e = .returned (.string r1) ∧ IsS134 w0 w' g s0_0 r2 r3 r4 ∧ Below w0.heap.size w0 w' ∧ KeepBut w w' g none := by
 have HI0 := Aside0.mk hI
 have HK := Aside0.mk (KeepBut.refl w g none)
 have HL := Aside0.mk hB.size
 clear hI
 have HW0 := Aside0.mk hB.size
 have HB := Aside0.mk hB
 clear hB
 have H : ((spec_l01Src_n.f s0_0 s0_1 s0_2 s0_3 (wrap64 ((a1.size : Int) + 1))).bind fun bt684 => ((spec_l01Src_n.f s0_0 bt684.2.1 bt684.2.2.1 bt684.2.2.2 17).bind fun bt688 => (if 0 ≤ bt688.1 then (if bt688.1 < 17 then ((some (([bt (⟨#[32, 10, 48, 97, 45, 110, 44, 58, 93, 255, 40, 120, 34, 49, 128, 225, 59]⟩ : ByteArray) bt688.1] : List Int) : List Int)).bind fun y692 => (if bt684.1 = (a1.size : Int) then (spec_l01Src_spoil.j0 k a1 bt684.1 (strOfNums y692) true s0_0 bt688.2.1 bt688.2.2.1 bt688.2.2.2) else ((spec_l01Src_one.f s0_0 bt688.2.1 bt688.2.2.1 bt688.2.2.2 3).bind fun bt695 => (spec_l01Src_spoil.j0 k a1 bt684.1 (strOfNums y692) bt695.1 s0_0 bt695.2.1 bt695.2.2.1 bt695.2.2.2)))) else (none)) else (none)))) = some (r1, r2, r3, r4) := h
 clear h
 replace H := Option.bind_eq_some_iff.mp H
 obtain ⟨⟨t684, t685, t686, t687⟩, A30, H⟩ := H
 try dsimp only at H
 have A3 := Aside0.mk A30
 clear A30
 replace H := Option.bind_eq_some_iff.mp H
 obtain ⟨⟨t688, t689, t690, t691⟩, A40, H⟩ := H
 try dsimp only at H
 have A4 := Aside0.mk A40
 clear A40
 by_cases c5 : 0 ≤ t688
 ·rw [if_pos c5] at H
  have c5b0 : decide (0 ≤ t688) = true := decide_eq_true c5; clear c5
  by_cases c6 : t688 < 17
  ·rw [if_pos c6] at H
   have c6b0 : decide (t688 < 17) = true := decide_eq_true c6; clear c6; obtain ⟨y692, hy692⟩ : ∃ y_ : List Int, y_ = (([bt (⟨#[32, 10, 48, 97, 45, 110, 44, 58, 93, 255, 40, 120, 34, 49, 128, 225, 59]⟩ : ByteArray) t688] : List Int)) := ⟨_, rfl⟩
   replace H : (if t684 = (a1.size : Int) then (spec_l01Src_spoil.j0 k a1 t684 (strOfNums y692) true s0_0 t689 t690 t691) else ((spec_l01Src_one.f s0_0 t689 t690 t691 3).bind fun bt695 => (spec_l01Src_spoil.j0 k a1 t684 (strOfNums y692) bt695.1 s0_0 bt695.2.1 bt695.2.2.1 bt695.2.2.2))) = some (r1, r2, r3, r4) := by first | (rw [hy692]; with_reducible exact H) | (have H2_ := (Option.bind_some _ _).symm.trans H; rw [hy692]; with_reducible exact H2_) | (have H2_ := (Option.bind_some _ _).symm.trans H; with_reducible exact H2_) | with_reducible exact H | (rw [hy692]; exact H) | exact H
   have Ny692 := Aside0.mk hy692; clear hy692; have HC8 := Aside0.mk H; clear H
   go_enter Tryd.func166, Tryd.ntmps166
   go_upto_region 3 with (first | (go_at_call 82; (with_reducible refine (spec_l01Src_n.calls g s0_0 s0_1 s0_2 s0_3 (wrap64 ((a1.size : Int) + 1)) t684 t685 t686 t687 w0 _ ?side1 ?side2 A3.out).mono ?_); (case side1 => exact isA); (case side2 => exact belowI); rintro e w9 ⟨rfl, hi, hb, hk⟩; have n0_ := Aside0.mk (KeepBut.trans (keepA) hk (.inl rfl)); have n1_ := Aside0.mk (hb); have n2_ := Aside0.mk (hi); clear HK; clear HB; clear HI0; have HK := n0_; have HB := n1_; have HI0 := n2_; clear n0_ n1_ n2_; (try clear hb); (try clear hb2); (try clear hk); (try clear hi)) | (go_at_call 82; (with_reducible refine (spec_l01Src_n.calls g s0_0 t685 t686 t687 17 t688 t689 t690 t691 w0 _ ?side1 ?side2 A4.out).mono ?_); (case side1 => exact isA); (case side2 => exact belowI); rintro e w10 ⟨rfl, hi, hb, hk⟩; have n0_ := Aside0.mk (KeepBut.trans (keepA) hk (.inl rfl)); have n1_ := Aside0.mk (hb); have n2_ := Aside0.mk (hi); clear HK; clear HB; clear HI0; have HK := n0_; have HB := n1_; have HI0 := n2_; clear n0_ n1_ n2_; (try clear hb); (try clear hb2); (try clear hk); (try clear hi); have p7 : 0 ≤ (t688 : Int) := of_decide_eq_true (by first | (with_reducible assumption) | assumption); have q7 : t688 < (17 : Int) := of_decide_eq_true (by first | (with_reducible assumption) | assumption); have hx7 := bt_at (⟨#[32, 10, 48, 97, 45, 110, 44, 58, 93, 255, 40, 120, 34, 49, 128, 225, 59]⟩ : ByteArray) t688; replace p7 := eq_true p7; replace q7 := eq_true q7) | ((with_reducible refine gate_dst (N := 15) rfl ?_); refine Kd.R_lit (Kd.int .u8) _ 5 ?hg (N := 15) ?hd (xs := ([bt (⟨#[32, 10, 48, 97, 45, 110, 44, 58, 93, 255, 40, 120, 34, 49, 128, 225, 59]⟩ : ByteArray) t688] : List Int)) (inner := [.int .u8 (bt (⟨#[32, 10, 48, 97, 45, 110, 44, 58, 93, 255, 40, 120, 34, 49, 128, 225, 59]⟩ : ByteArray) t688)]) (ok := fun _ => True) (okp := fun _ => True) ?hr ?hp (fun _ hk => hk) trivial (Below.refl _ _) (Nat.le_refl _) (by simp) ?_; (case hd => rfl); (case hg => rfl); (case hr => first | (go_simp; done) | (go_simp; rfl)); (case hp => exact (Reps.one (show Kd.M (Kd.int .u8) _ _ _ (bt (⟨#[32, 10, 48, 97, 45, 110, 44, 58, 93, 255, 40, 120, 34, 49, 128, 225, 59]⟩ : ByteArray) t688) [.int .u8 (bt (⟨#[32, 10, 48, 97, 45, 110, 44, 58, 93, 255, 40, 120, 34, 49, 128, 225, 59]⟩ : ByteArray) t688)] from rfl) (Reps.none _ _))); intro v693 w11 ho12 hb hg_ hnew_; clear hg_ hnew_; (first | rw [← Ny692.out] at ho12 | (simp only [Int.reduceToNat] at ho12; rw [← Ny692.out] at ho12)); have n0_ := Aside0.mk (Kd.R_lower ho12 (keep_size (w := w) (g := g) (row := none) (keepA))); have n1_ := Aside0.mk (IsS134.below (isA) hb); have n2_ := Aside0.mk (KeepBut.trans (keepA) (KeepBut.of_below hb g none) (.inl rfl)); have n3_ := Aside0.mk (below_step (belowI) hb); clear HI0; clear HK; clear HB; have HO694 := n0_; have HI0 := n1_; have HK := n2_; have HB := n3_; clear n0_ n1_ n2_ n3_; clear hb ho12; have hcv13 := own_string (P := Tryd.prog) Tryd.underlying22 Tryd.underlying5 Tryd.underlying9 (Kd.own_of_R HO694.out)))
   repeat (go_quiet (first | (go_at_call 82; (with_reducible refine (spec_l01Src_n.calls g s0_0 s0_1 s0_2 s0_3 (wrap64 ((a1.size : Int) + 1)) t684 t685 t686 t687 w0 _ ?side1 ?side2 A3.out).mono ?_); (case side1 => exact isA); (case side2 => exact belowI); rintro e w9 ⟨rfl, hi, hb, hk⟩; have n0_ := Aside0.mk (KeepBut.trans (keepA) hk (.inl rfl)); have n1_ := Aside0.mk (hb); have n2_ := Aside0.mk (hi); clear HK; clear HB; clear HI0; have HK := n0_; have HB := n1_; have HI0 := n2_; clear n0_ n1_ n2_; (try clear hb); (try clear hb2); (try clear hk); (try clear hi)) | (go_at_call 82; (with_reducible refine (spec_l01Src_n.calls g s0_0 t685 t686 t687 17 t688 t689 t690 t691 w0 _ ?side1 ?side2 A4.out).mono ?_); (case side1 => exact isA); (case side2 => exact belowI); rintro e w10 ⟨rfl, hi, hb, hk⟩; have n0_ := Aside0.mk (KeepBut.trans (keepA) hk (.inl rfl)); have n1_ := Aside0.mk (hb); have n2_ := Aside0.mk (hi); clear HK; clear HB; clear HI0; have HK := n0_; have HB := n1_; have HI0 := n2_; clear n0_ n1_ n2_; (try clear hb); (try clear hb2); (try clear hk); (try clear hi); have p7 : 0 ≤ (t688 : Int) := of_decide_eq_true (by first | (with_reducible assumption) | assumption); have q7 : t688 < (17 : Int) := of_decide_eq_true (by first | (with_reducible assumption) | assumption); have hx7 := bt_at (⟨#[32, 10, 48, 97, 45, 110, 44, 58, 93, 255, 40, 120, 34, 49, 128, 225, 59]⟩ : ByteArray) t688; replace p7 := eq_true p7; replace q7 := eq_true q7) | ((with_reducible refine gate_dst (N := 15) rfl ?_); refine Kd.R_lit (Kd.int .u8) _ 5 ?hg (N := 15) ?hd (xs := ([bt (⟨#[32, 10, 48, 97, 45, 110, 44, 58, 93, 255, 40, 120, 34, 49, 128, 225, 59]⟩ : ByteArray) t688] : List Int)) (inner := [.int .u8 (bt (⟨#[32, 10, 48, 97, 45, 110, 44, 58, 93, 255, 40, 120, 34, 49, 128, 225, 59]⟩ : ByteArray) t688)]) (ok := fun _ => True) (okp := fun _ => True) ?hr ?hp (fun _ hk => hk) trivial (Below.refl _ _) (Nat.le_refl _) (by simp) ?_; (case hd => rfl); (case hg => rfl); (case hr => first | (go_simp; done) | (go_simp; rfl)); (case hp => exact (Reps.one (show Kd.M (Kd.int .u8) _ _ _ (bt (⟨#[32, 10, 48, 97, 45, 110, 44, 58, 93, 255, 40, 120, 34, 49, 128, 225, 59]⟩ : ByteArray) t688) [.int .u8 (bt (⟨#[32, 10, 48, 97, 45, 110, 44, 58, 93, 255, 40, 120, 34, 49, 128, 225, 59]⟩ : ByteArray) t688)] from rfl) (Reps.none _ _))); intro v693 w11 ho12 hb hg_ hnew_; clear hg_ hnew_; (first | rw [← Ny692.out] at ho12 | (simp only [Int.reduceToNat] at ho12; rw [← Ny692.out] at ho12)); have n0_ := Aside0.mk (Kd.R_lower ho12 (keep_size (w := w) (g := g) (row := none) (keepA))); have n1_ := Aside0.mk (IsS134.below (isA) hb); have n2_ := Aside0.mk (KeepBut.trans (keepA) (KeepBut.of_below hb g none) (.inl rfl)); have n3_ := Aside0.mk (below_step (belowI) hb); clear HI0; clear HK; clear HB; have HO694 := n0_; have HI0 := n1_; have HK := n2_; have HB := n3_; clear n0_ n1_ n2_ n3_; clear hb ho12; have hcv13 := own_string (P := Tryd.prog) Tryd.underlying22 Tryd.underlying5 Tryd.underlying9 (Kd.own_of_R HO694.out))); go_upto_region 3 with (first | (go_at_call 82; (with_reducible refine (spec_l01Src_n.calls g s0_0 s0_1 s0_2 s0_3 (wrap64 ((a1.size : Int) + 1)) t684 t685 t686 t687 w0 _ ?side1 ?side2 A3.out).mono ?_); (case side1 => exact isA); (case side2 => exact belowI); rintro e w9 ⟨rfl, hi, hb, hk⟩; have n0_ := Aside0.mk (KeepBut.trans (keepA) hk (.inl rfl)); have n1_ := Aside0.mk (hb); have n2_ := Aside0.mk (hi); clear HK; clear HB; clear HI0; have HK := n0_; have HB := n1_; have HI0 := n2_; clear n0_ n1_ n2_; (try clear hb); (try clear hb2); (try clear hk); (try clear hi)) | (go_at_call 82; (with_reducible refine (spec_l01Src_n.calls g s0_0 t685 t686 t687 17 t688 t689 t690 t691 w0 _ ?side1 ?side2 A4.out).mono ?_); (case side1 => exact isA); (case side2 => exact belowI); rintro e w10 ⟨rfl, hi, hb, hk⟩; have n0_ := Aside0.mk (KeepBut.trans (keepA) hk (.inl rfl)); have n1_ := Aside0.mk (hb); have n2_ := Aside0.mk (hi); clear HK; clear HB; clear HI0; have HK := n0_; have HB := n1_; have HI0 := n2_; clear n0_ n1_ n2_; (try clear hb); (try clear hb2); (try clear hk); (try clear hi); have p7 : 0 ≤ (t688 : Int) := of_decide_eq_true (by first | (with_reducible assumption) | assumption); have q7 : t688 < (17 : Int) := of_decide_eq_true (by first | (with_reducible assumption) | assumption); have hx7 := bt_at (⟨#[32, 10, 48, 97, 45, 110, 44, 58, 93, 255, 40, 120, 34, 49, 128, 225, 59]⟩ : ByteArray) t688; replace p7 := eq_true p7; replace q7 := eq_true q7) | ((with_reducible refine gate_dst (N := 15) rfl ?_); refine Kd.R_lit (Kd.int .u8) _ 5 ?hg (N := 15) ?hd (xs := ([bt (⟨#[32, 10, 48, 97, 45, 110, 44, 58, 93, 255, 40, 120, 34, 49, 128, 225, 59]⟩ : ByteArray) t688] : List Int)) (inner := [.int .u8 (bt (⟨#[32, 10, 48, 97, 45, 110, 44, 58, 93, 255, 40, 120, 34, 49, 128, 225, 59]⟩ : ByteArray) t688)]) (ok := fun _ => True) (okp := fun _ => True) ?hr ?hp (fun _ hk => hk) trivial (Below.refl _ _) (Nat.le_refl _) (by simp) ?_; (case hd => rfl); (case hg => rfl); (case hr => first | (go_simp; done) | (go_simp; rfl)); (case hp => exact (Reps.one (show Kd.M (Kd.int .u8) _ _ _ (bt (⟨#[32, 10, 48, 97, 45, 110, 44, 58, 93, 255, 40, 120, 34, 49, 128, 225, 59]⟩ : ByteArray) t688) [.int .u8 (bt (⟨#[32, 10, 48, 97, 45, 110, 44, 58, 93, 255, 40, 120, 34, 49, 128, 225, 59]⟩ : ByteArray) t688)] from rfl) (Reps.none _ _))); intro v693 w11 ho12 hb hg_ hnew_; clear hg_ hnew_; (first | rw [← Ny692.out] at ho12 | (simp only [Int.reduceToNat] at ho12; rw [← Ny692.out] at ho12)); have n0_ := Aside0.mk (Kd.R_lower ho12 (keep_size (w := w) (g := g) (row := none) (keepA))); have n1_ := Aside0.mk (IsS134.below (isA) hb); have n2_ := Aside0.mk (KeepBut.trans (keepA) (KeepBut.of_below hb g none) (.inl rfl)); have n3_ := Aside0.mk (below_step (belowI) hb); clear HI0; clear HK; clear HB; have HO694 := n0_; have HI0 := n1_; have HK := n2_; have HB := n3_; clear n0_ n1_ n2_ n3_; clear hb ho12; have hcv13 := own_string (P := Tryd.prog) Tryd.underlying22 Tryd.underlying5 Tryd.underlying9 (Kd.own_of_R HO694.out))))
   (try simp only [Act.put, List.setIfInBounds_toArray, List.set_cons_zero, List.set_cons_succ])
   go_cut [24] (fun v24 wc => ∃ (kq : Nat) (x24_7 : Bool) (x1001_7 : Int) (x1002_7 : Int) (x1003_7 : Int), v24 = .bool x24_7 ∧ Aside0 (spec_l01Src_spoil.j0 kq a1 t684 (strOfNums y692) x24_7 s0_0 x1001_7 x1002_7 x1003_7 = some (r1, r2, r3, r4)) ∧ Aside0 (kq ≤ k) ∧ Aside0 (IsS134 w0 wc g s0_0 x1001_7 x1002_7 x1003_7) ∧ Aside0 (KeepBut w wc g none) ∧ Aside0 (Below w0.heap.size w0 wc))
   case first =>
    have H := HC8.out; clear HC8
    by_cases c14 : t684 = (a1.size : Int)
    ·rw [if_pos c14] at H
     have c14b0 : (t684 == (a1.size : Int)) = true := beq_iff_eq.mpr c14; have c14b1 : (t684 != (a1.size : Int)) = false := bne_eq_false_iff_eq.mpr c14; clear c14
     (first | rw [c14b0] | (simp only [i64_w, i32_w]; rw [c14b0]) | skip)
     have H' := Aside0.mk H; clear H
     go_wp2
     repeat (go_quiet (fail); try go_wp2)
     go_meet
     case rel => exact ⟨_, (true), (t689), (t690), (t691), (by first | rfl | (simp; done) | (simp [*]; done)), H', ⟨by first | omega | exact Nat.le_refl _⟩, ⟨isA⟩, ⟨keepA⟩, ⟨belowI⟩⟩
    rw [if_neg c14] at H; have c14b0 : (t684 == (a1.size : Int)) = false := beq_eq_false_iff_ne.mpr c14; have c14b1 : (t684 != (a1.size : Int)) = true := bne_iff_ne.mpr c14
    (first | rw [c14b0] | (simp only [i64_w, i32_w]; rw [c14b0]) | skip)
    replace H := Option.bind_eq_some_iff.mp H; obtain ⟨⟨t695, t696, t697, t698⟩, A150, H⟩ := H
    try dsimp only at H
    have A15 := Aside0.mk A150; clear A150; have H' := Aside0.mk H; clear H
    go_wp2_with (first | (go_at_call 79; (with_reducible refine (spec_l01Src_one.calls g s0_0 t689 t690 t691 3 t695 t696 t697 t698 w0 _ ?side1 ?side2 A15.out).mono ?_); (case side1 => exact isA); (case side2 => exact belowI); rintro e w16 ⟨rfl, hi, hb, hk⟩; have n0_ := Aside0.mk (Kd.R_mono (Kd.R_keep (IsS134.apart (show IsS134 w0 _ g s0_0 t689 t690 t691 from isA) (by (with_reducible repeat (first | apply Kd.R_alloc | apply Kd.R_drewN | apply Kd.R_drew)); exact HO694.out) (by decide)) hk (fun _ h => h.2)) (fun _ h => h.1)); have n1_ := Aside0.mk (KeepBut.trans (keepA) hk (.inl rfl)); have n2_ := Aside0.mk (hb); have n3_ := Aside0.mk (hi); clear HO694; clear HK; clear HB; clear HI0; have HO694 := n0_; have HK := n1_; have HB := n2_; have HI0 := n3_; clear n0_ n1_ n2_ n3_; (try clear hb); (try clear hb2); (try clear hk); (try clear hi)))
    repeat (go_quiet (first | (go_at_call 79; (with_reducible refine (spec_l01Src_one.calls g s0_0 t689 t690 t691 3 t695 t696 t697 t698 w0 _ ?side1 ?side2 A15.out).mono ?_); (case side1 => exact isA); (case side2 => exact belowI); rintro e w16 ⟨rfl, hi, hb, hk⟩; have n0_ := Aside0.mk (Kd.R_mono (Kd.R_keep (IsS134.apart (show IsS134 w0 _ g s0_0 t689 t690 t691 from isA) (by (with_reducible repeat (first | apply Kd.R_alloc | apply Kd.R_drewN | apply Kd.R_drew)); exact HO694.out) (by decide)) hk (fun _ h => h.2)) (fun _ h => h.1)); have n1_ := Aside0.mk (KeepBut.trans (keepA) hk (.inl rfl)); have n2_ := Aside0.mk (hb); have n3_ := Aside0.mk (hi); clear HO694; clear HK; clear HB; clear HI0; have HO694 := n0_; have HK := n1_; have HB := n2_; have HI0 := n3_; clear n0_ n1_ n2_ n3_; (try clear hb); (try clear hb2); (try clear hk); (try clear hi))); try go_wp2_with (first | (go_at_call 79; (with_reducible refine (spec_l01Src_one.calls g s0_0 t689 t690 t691 3 t695 t696 t697 t698 w0 _ ?side1 ?side2 A15.out).mono ?_); (case side1 => exact isA); (case side2 => exact belowI); rintro e w16 ⟨rfl, hi, hb, hk⟩; have n0_ := Aside0.mk (Kd.R_mono (Kd.R_keep (IsS134.apart (show IsS134 w0 _ g s0_0 t689 t690 t691 from isA) (by (with_reducible repeat (first | apply Kd.R_alloc | apply Kd.R_drewN | apply Kd.R_drew)); exact HO694.out) (by decide)) hk (fun _ h => h.2)) (fun _ h => h.1)); have n1_ := Aside0.mk (KeepBut.trans (keepA) hk (.inl rfl)); have n2_ := Aside0.mk (hb); have n3_ := Aside0.mk (hi); clear HO694; clear HK; clear HB; clear HI0; have HO694 := n0_; have HK := n1_; have HB := n2_; have HI0 := n3_; clear n0_ n1_ n2_ n3_; (try clear hb); (try clear hb2); (try clear hk); (try clear hi))))
    go_meet
    case rel => exact ⟨_, (t695), (t696), (t697), (t698), (by first | rfl | (simp; done) | (simp [*]; done)), H', ⟨by first | omega | exact Nat.le_refl _⟩, ⟨isA⟩, ⟨keepA⟩, ⟨belowI⟩⟩
   case rest =>
    clear HC8
    try clear c1; try clear hcv1; try clear p2; try clear c5; try clear c5b0; try clear c6; try clear c6b0; try clear p6; try clear p7; try clear q7; try clear hx7; try clear hcv13; try clear c14; try clear c14b0; try clear c14b1; try clear c16; try clear p7; try clear q7
    obtain ⟨kq, x24_7, x1001_7, x1002_7, x1003_7, rfl, HA, HJ7, HI0, HK, HB⟩ := hcut
    cases kq with
    | zero => exact absurd HA.out (by simp [spec_l01Src_spoil.j0])
    | succ kj7 =>
     have H := HA.out; clear HA; simp only [spec_l01Src_spoil.j0] at H
     by_cases c17 : x24_7 = true
     ·subst c17
      have H1 : (if 0 ≤ t684 then (if t684 ≤ (a1.size : Int) then (if (a1.extract 0 (t684 : Int).toNat).size + (strOfNums y692).size ≤ 9223372036854775807 then (if ((a1.extract 0 (t684 : Int).toNat) ++ (strOfNums y692)).size + (a1.extract (t684 : Int).toNat a1.size).size ≤ 9223372036854775807 then (some (((a1.extract 0 (t684 : Int).toNat) ++ (strOfNums y692)) ++ (a1.extract (t684 : Int).toNat a1.size), x1001_7, x1002_7, x1003_7)) else (none)) else (none)) else (none)) else (none)) = some (r1, r2, r3, r4) := by rw [if_pos rfl] at H; exact H
      clear H; have H := H1; clear H1
      by_cases c18 : 0 ≤ t684
      ·rw [if_pos c18] at H
       have c18b0 := eq_true c18; have c18b1 : decide (0 ≤ t684) = true := decide_eq_true c18; clear c18
       by_cases c19 : t684 ≤ (a1.size : Int)
       ·rw [if_pos c19] at H
        have c19b0 := eq_true c19; have c19b1 : decide (t684 ≤ (a1.size : Int)) = true := decide_eq_true c19; clear c19
        by_cases c20 : (a1.extract 0 (t684 : Int).toNat).size + (strOfNums y692).size ≤ 9223372036854775807
        ·rw [if_pos c20] at H
         have c20b0 := eq_true c20; have c20b1 : decide ((a1.extract 0 (t684 : Int).toNat).size + (strOfNums y692).size ≤ 9223372036854775807) = true := decide_eq_true c20
         try have c20b2 : (9223372036854775807 < (a1.extract 0 (t684 : Int).toNat).size + (strOfNums y692).size) = False := eq_false (Nat.not_lt.2 c20)
         have c21b0 := eq_true (of_decide_eq_true (by first | (with_reducible assumption) | assumption) : 0 ≤ t684)
         have c22b0 := eq_true (of_decide_eq_true (by first | (with_reducible assumption) | assumption) : t684 ≤ (a1.size : Int))
         by_cases c23 : ((a1.extract 0 (t684 : Int).toNat) ++ (strOfNums y692)).size + (a1.extract (t684 : Int).toNat a1.size).size ≤ 9223372036854775807
         ·rw [if_pos c23] at H
          have c23b0 := eq_true c23; have c23b1 : decide (((a1.extract 0 (t684 : Int).toNat) ++ (strOfNums y692)).size + (a1.extract (t684 : Int).toNat a1.size).size ≤ 9223372036854775807) = true := decide_eq_true c23
          try have c23b2 : (9223372036854775807 < ((a1.extract 0 (t684 : Int).toNat) ++ (strOfNums y692)).size + (a1.extract (t684 : Int).toNat a1.size).size) = False := eq_false (Nat.not_lt.2 c23)
          simp only [Option.some.injEq, Prod.mk.injEq] at H; obtain ⟨rfl, rfl, rfl, rfl⟩ := H
          go_wp2
          repeat (go_quiet (fail); try go_wp2)
          go_ret
          exact ⟨by first | rfl | (simp [errW_none, errW_some] <;> rfl) | (simp [*, errW_none, errW_some] <;> rfl), isA, belowI, keepA⟩
         rw [if_neg c23] at H
         exact absurd H (by simp)
        rw [if_neg c20] at H
        exact absurd H (by simp)
       rw [if_neg c19] at H
       exact absurd H (by simp)
      rw [if_neg c18] at H
      exact absurd H (by simp)
     replace c17 := Bool.eq_false_iff.mpr c17; subst c17
     have H1 : ((spec_l01Src_one.f s0_0 x1001_7 x1002_7 x1003_7 2).bind fun bt699 => (if bt699.1 = true then (if 0 ≤ t684 then (if t684 ≤ (a1.size : Int) then (if 0 ≤ (wrap64 (t684 + 1)) then (if (wrap64 (t684 + 1)) ≤ (a1.size : Int) then (if (a1.extract 0 (t684 : Int).toNat).size + (a1.extract ((wrap64 (t684 + 1)) : Int).toNat a1.size).size ≤ 9223372036854775807 then (some ((a1.extract 0 (t684 : Int).toNat) ++ (a1.extract ((wrap64 (t684 + 1)) : Int).toNat a1.size), bt699.2.1, bt699.2.2.1, bt699.2.2.2)) else (none)) else (none)) else (none)) else (none)) else (none)) else (if 0 ≤ t684 then (if t684 ≤ (a1.size : Int) then (if (a1.extract 0 (t684 : Int).toNat).size + (strOfNums y692).size ≤ 9223372036854775807 then (if 0 ≤ (wrap64 (t684 + 1)) then (if (wrap64 (t684 + 1)) ≤ (a1.size : Int) then (if ((a1.extract 0 (t684 : Int).toNat) ++ (strOfNums y692)).size + (a1.extract ((wrap64 (t684 + 1)) : Int).toNat a1.size).size ≤ 9223372036854775807 then (some (((a1.extract 0 (t684 : Int).toNat) ++ (strOfNums y692)) ++ (a1.extract ((wrap64 (t684 + 1)) : Int).toNat a1.size), bt699.2.1, bt699.2.2.1, bt699.2.2.2)) else (none)) else (none)) else (none)) else (none)) else (none)) else (none)))) = some (r1, r2, r3, r4) := by rw [if_neg (show ¬ (false = true) by decide)] at H; exact H
     clear H; have H := H1; clear H1; replace H := Option.bind_eq_some_iff.mp H; obtain ⟨⟨t699, t700, t701, t702⟩, A240, H⟩ := H
     try dsimp only at H
     have A24 := Aside0.mk A240; clear A240
     by_cases c25 : t699 = true
     ·subst c25
      have H1 : (if 0 ≤ t684 then (if t684 ≤ (a1.size : Int) then (if 0 ≤ (wrap64 (t684 + 1)) then (if (wrap64 (t684 + 1)) ≤ (a1.size : Int) then (if (a1.extract 0 (t684 : Int).toNat).size + (a1.extract ((wrap64 (t684 + 1)) : Int).toNat a1.size).size ≤ 9223372036854775807 then (some ((a1.extract 0 (t684 : Int).toNat) ++ (a1.extract ((wrap64 (t684 + 1)) : Int).toNat a1.size), t700, t701, t702)) else (none)) else (none)) else (none)) else (none)) else (none)) = some (r1, r2, r3, r4) := by rw [if_pos rfl] at H; exact H
      clear H; have H := H1; clear H1
      by_cases c26 : 0 ≤ t684
      ·rw [if_pos c26] at H
       have c26b0 := eq_true c26; have c26b1 : decide (0 ≤ t684) = true := decide_eq_true c26; clear c26
       by_cases c27 : t684 ≤ (a1.size : Int)
       ·rw [if_pos c27] at H
        have c27b0 := eq_true c27; have c27b1 : decide (t684 ≤ (a1.size : Int)) = true := decide_eq_true c27; clear c27; obtain ⟨ji28, hji28⟩ : ∃ j_ : Int, (wrap64 (t684 + 1)) = j_ := ⟨_, rfl⟩
        replace H : (if 0 ≤ (ji28) then (if (ji28) ≤ (a1.size : Int) then (if (a1.extract 0 (t684 : Int).toNat).size + (a1.extract ((ji28) : Int).toNat a1.size).size ≤ 9223372036854775807 then (some ((a1.extract 0 (t684 : Int).toNat) ++ (a1.extract ((ji28) : Int).toNat a1.size), t700, t701, t702)) else (none)) else (none)) else (none)) = some (r1, r2, r3, r4) := by first | (rw [hji28] at H; exact H) | (simp only [hji28] at H ⊢; exact H)
        (try rw [hji28] at A24)
        have hji28w : (IntKind.i64.wrap (t684 + 1)) = ji28 := (i64_w _).trans hji28
        by_cases c29 : 0 ≤ (ji28)
        ·rw [if_pos c29] at H
         have c29b0 := eq_true c29; have c29b1 : decide (0 ≤ (ji28)) = true := decide_eq_true c29; clear c29
         by_cases c30 : (ji28) ≤ (a1.size : Int)
         ·rw [if_pos c30] at H
          have c30b0 := eq_true c30; have c30b1 : decide ((ji28) ≤ (a1.size : Int)) = true := decide_eq_true c30; clear c30
          by_cases c31 : (a1.extract 0 (t684 : Int).toNat).size + (a1.extract ((ji28) : Int).toNat a1.size).size ≤ 9223372036854775807
          ·rw [if_pos c31] at H
           have c31b0 := eq_true c31; have c31b1 : decide ((a1.extract 0 (t684 : Int).toNat).size + (a1.extract ((ji28) : Int).toNat a1.size).size ≤ 9223372036854775807) = true := decide_eq_true c31
           try have c31b2 : (9223372036854775807 < (a1.extract 0 (t684 : Int).toNat).size + (a1.extract ((ji28) : Int).toNat a1.size).size) = False := eq_false (Nat.not_lt.2 c31)
           simp only [Option.some.injEq, Prod.mk.injEq] at H; obtain ⟨rfl, rfl, rfl, rfl⟩ := H
           go_wp2_with (first | (go_at_call 79; (with_reducible refine (spec_l01Src_one.calls g s0_0 x1001_7 x1002_7 x1003_7 2 true t700 t701 t702 w0 _ ?side1 ?side2 A24.out).mono ?_); (case side1 => exact isA); (case side2 => exact belowI); rintro e w32 ⟨rfl, hi, hb, hk⟩; have n0_ := Aside0.mk (KeepBut.trans (keepA) hk (.inl rfl)); have n1_ := Aside0.mk (hb); have n2_ := Aside0.mk (hi); clear HK; clear HB; clear HI0; have HK := n0_; have HB := n1_; have HI0 := n2_; clear n0_ n1_ n2_; (try clear hb); (try clear hb2); (try clear hk); (try clear hi)))
           repeat (go_quiet (first | (go_at_call 79; (with_reducible refine (spec_l01Src_one.calls g s0_0 x1001_7 x1002_7 x1003_7 2 true t700 t701 t702 w0 _ ?side1 ?side2 A24.out).mono ?_); (case side1 => exact isA); (case side2 => exact belowI); rintro e w32 ⟨rfl, hi, hb, hk⟩; have n0_ := Aside0.mk (KeepBut.trans (keepA) hk (.inl rfl)); have n1_ := Aside0.mk (hb); have n2_ := Aside0.mk (hi); clear HK; clear HB; clear HI0; have HK := n0_; have HB := n1_; have HI0 := n2_; clear n0_ n1_ n2_; (try clear hb); (try clear hb2); (try clear hk); (try clear hi))); try go_wp2_with (first | (go_at_call 79; (with_reducible refine (spec_l01Src_one.calls g s0_0 x1001_7 x1002_7 x1003_7 2 true t700 t701 t702 w0 _ ?side1 ?side2 A24.out).mono ?_); (case side1 => exact isA); (case side2 => exact belowI); rintro e w32 ⟨rfl, hi, hb, hk⟩; have n0_ := Aside0.mk (KeepBut.trans (keepA) hk (.inl rfl)); have n1_ := Aside0.mk (hb); have n2_ := Aside0.mk (hi); clear HK; clear HB; clear HI0; have HK := n0_; have HB := n1_; have HI0 := n2_; clear n0_ n1_ n2_; (try clear hb); (try clear hb2); (try clear hk); (try clear hi))))
           go_ret
           exact ⟨by first | rfl | (simp [errW_none, errW_some] <;> rfl) | (simp only [← hji28]; first | rfl | (simp [errW_none, errW_some] <;> rfl)) | (simp [*, errW_none, errW_some] <;> rfl), isA, belowI, keepA⟩
          rw [if_neg c31] at H
          exact absurd H (by simp)
         rw [if_neg c30] at H
         exact absurd H (by simp)
        rw [if_neg c29] at H
        exact absurd H (by simp)
       rw [if_neg c27] at H
       exact absurd H (by simp)
      rw [if_neg c26] at H
      exact absurd H (by simp)
     replace c25 := Bool.eq_false_iff.mpr c25; subst c25
     have H1 : (if 0 ≤ t684 then (if t684 ≤ (a1.size : Int) then (if (a1.extract 0 (t684 : Int).toNat).size + (strOfNums y692).size ≤ 9223372036854775807 then (if 0 ≤ (wrap64 (t684 + 1)) then (if (wrap64 (t684 + 1)) ≤ (a1.size : Int) then (if ((a1.extract 0 (t684 : Int).toNat) ++ (strOfNums y692)).size + (a1.extract ((wrap64 (t684 + 1)) : Int).toNat a1.size).size ≤ 9223372036854775807 then (some (((a1.extract 0 (t684 : Int).toNat) ++ (strOfNums y692)) ++ (a1.extract ((wrap64 (t684 + 1)) : Int).toNat a1.size), t700, t701, t702)) else (none)) else (none)) else (none)) else (none)) else (none)) else (none)) = some (r1, r2, r3, r4) := by rw [if_neg (show ¬ (false = true) by decide)] at H; exact H
     clear H; have H := H1; clear H1
     by_cases c33 : 0 ≤ t684
     ·rw [if_pos c33] at H
      have c33b0 := eq_true c33; have c33b1 : decide (0 ≤ t684) = true := decide_eq_true c33; clear c33
      by_cases c34 : t684 ≤ (a1.size : Int)
      ·rw [if_pos c34] at H
       have c34b0 := eq_true c34; have c34b1 : decide (t684 ≤ (a1.size : Int)) = true := decide_eq_true c34; clear c34
       by_cases c35 : (a1.extract 0 (t684 : Int).toNat).size + (strOfNums y692).size ≤ 9223372036854775807
       ·rw [if_pos c35] at H
        have c35b0 := eq_true c35; have c35b1 : decide ((a1.extract 0 (t684 : Int).toNat).size + (strOfNums y692).size ≤ 9223372036854775807) = true := decide_eq_true c35
        try have c35b2 : (9223372036854775807 < (a1.extract 0 (t684 : Int).toNat).size + (strOfNums y692).size) = False := eq_false (Nat.not_lt.2 c35)
        obtain ⟨ji36, hji36⟩ : ∃ j_ : Int, (wrap64 (t684 + 1)) = j_ := ⟨_, rfl⟩
        replace H : (if 0 ≤ (ji36) then (if (ji36) ≤ (a1.size : Int) then (if ((a1.extract 0 (t684 : Int).toNat) ++ (strOfNums y692)).size + (a1.extract ((ji36) : Int).toNat a1.size).size ≤ 9223372036854775807 then (some (((a1.extract 0 (t684 : Int).toNat) ++ (strOfNums y692)) ++ (a1.extract ((ji36) : Int).toNat a1.size), t700, t701, t702)) else (none)) else (none)) else (none)) = some (r1, r2, r3, r4) := by first | (rw [hji36] at H; exact H) | (simp only [hji36] at H ⊢; exact H)
        (try rw [hji36] at A24)
        have hji36w : (IntKind.i64.wrap (t684 + 1)) = ji36 := (i64_w _).trans hji36
        by_cases c37 : 0 ≤ (ji36)
        ·rw [if_pos c37] at H
         have c37b0 := eq_true c37; have c37b1 : decide (0 ≤ (ji36)) = true := decide_eq_true c37; clear c37
         by_cases c38 : (ji36) ≤ (a1.size : Int)
         ·rw [if_pos c38] at H
          have c38b0 := eq_true c38; have c38b1 : decide ((ji36) ≤ (a1.size : Int)) = true := decide_eq_true c38; clear c38
          by_cases c39 : ((a1.extract 0 (t684 : Int).toNat) ++ (strOfNums y692)).size + (a1.extract ((ji36) : Int).toNat a1.size).size ≤ 9223372036854775807
          ·rw [if_pos c39] at H
           have c39b0 := eq_true c39; have c39b1 : decide (((a1.extract 0 (t684 : Int).toNat) ++ (strOfNums y692)).size + (a1.extract ((ji36) : Int).toNat a1.size).size ≤ 9223372036854775807) = true := decide_eq_true c39
           try have c39b2 : (9223372036854775807 < ((a1.extract 0 (t684 : Int).toNat) ++ (strOfNums y692)).size + (a1.extract ((ji36) : Int).toNat a1.size).size) = False := eq_false (Nat.not_lt.2 c39)
           simp only [Option.some.injEq, Prod.mk.injEq] at H; obtain ⟨rfl, rfl, rfl, rfl⟩ := H
           go_wp2_with (first | (go_at_call 79; (with_reducible refine (spec_l01Src_one.calls g s0_0 x1001_7 x1002_7 x1003_7 2 false t700 t701 t702 w0 _ ?side1 ?side2 A24.out).mono ?_); (case side1 => exact isA); (case side2 => exact belowI); rintro e w40 ⟨rfl, hi, hb, hk⟩; have n0_ := Aside0.mk (KeepBut.trans (keepA) hk (.inl rfl)); have n1_ := Aside0.mk (hb); have n2_ := Aside0.mk (hi); clear HK; clear HB; clear HI0; have HK := n0_; have HB := n1_; have HI0 := n2_; clear n0_ n1_ n2_; (try clear hb); (try clear hb2); (try clear hk); (try clear hi)))
           repeat (go_quiet (first | (go_at_call 79; (with_reducible refine (spec_l01Src_one.calls g s0_0 x1001_7 x1002_7 x1003_7 2 false t700 t701 t702 w0 _ ?side1 ?side2 A24.out).mono ?_); (case side1 => exact isA); (case side2 => exact belowI); rintro e w40 ⟨rfl, hi, hb, hk⟩; have n0_ := Aside0.mk (KeepBut.trans (keepA) hk (.inl rfl)); have n1_ := Aside0.mk (hb); have n2_ := Aside0.mk (hi); clear HK; clear HB; clear HI0; have HK := n0_; have HB := n1_; have HI0 := n2_; clear n0_ n1_ n2_; (try clear hb); (try clear hb2); (try clear hk); (try clear hi))); try go_wp2_with (first | (go_at_call 79; (with_reducible refine (spec_l01Src_one.calls g s0_0 x1001_7 x1002_7 x1003_7 2 false t700 t701 t702 w0 _ ?side1 ?side2 A24.out).mono ?_); (case side1 => exact isA); (case side2 => exact belowI); rintro e w40 ⟨rfl, hi, hb, hk⟩; have n0_ := Aside0.mk (KeepBut.trans (keepA) hk (.inl rfl)); have n1_ := Aside0.mk (hb); have n2_ := Aside0.mk (hi); clear HK; clear HB; clear HI0; have HK := n0_; have HB := n1_; have HI0 := n2_; clear n0_ n1_ n2_; (try clear hb); (try clear hb2); (try clear hk); (try clear hi))))
           go_ret
           exact ⟨by first | rfl | (simp [errW_none, errW_some] <;> rfl) | (simp only [← hji36]; first | rfl | (simp [errW_none, errW_some] <;> rfl)) | (simp [*, errW_none, errW_some] <;> rfl), isA, belowI, keepA⟩
          rw [if_neg c39] at H
          exact absurd H (by simp)
         rw [if_neg c38] at H
         exact absurd H (by simp)
        rw [if_neg c37] at H
        exact absurd H (by simp)
       rw [if_neg c35] at H
       exact absurd H (by simp)
      rw [if_neg c34] at H
      exact absurd H (by simp)
     rw [if_neg c33] at H
     exact absurd H (by simp)
  rw [if_neg c6] at H
  exact absurd H (by simp)
 rw [if_neg c5] at H
 exact absurd H (by simp)

theorem spec_l01Src_spoil.join (k : Nat) (l : List Int) (t c : ByteArray) (x : Int) (b : Bool) (a m z : Int) (hl : l.length ≤ 140737488355328) (h0 : 0 ≤ a) (h1 : a ≤ (l.length : Int)) (ht : t.size ≤ 10000000) (hc : c.size ≤ 10) (hx : 0 ≤ x) (hx2 : x ≤ (t.size : Int)) (hb : b = false → x < (t.size : Int)) :
    YtiabgmddnddeiaaDoorPts.Tot (spec_l01Src_spoil.j0 (k + 1) t x c b l a m z) (fun r => r.1.size ≤ t.size + c.size ∧ 0 ≤ r.2.1 ∧ r.2.1 ≤ (l.length : Int) ∧ r.2.2.2 = z) := by
  have s1 : (t.extract 0 x.toNat).size = x.toNat := by simp; omega
  have s2 : (t.extract x.toNat t.size).size = t.size - x.toNat := by simp
  simp only [spec_l01Src_spoil.j0]
  refine YtiabgmddnddeiaaDoorPts.Tot.ite (fun hb1 => ?_) (fun hb1 => ?_)
  · rw [if_pos hx, if_pos hx2, if_pos (by rw [s1]; omega), if_pos (by rw [ByteArray.size_append, s1, s2]; omega)]
    exact YtiabgmddnddeiaaDoorPts.Tot.mk ⟨by dsimp only; rw [ByteArray.size_append, ByteArray.size_append, s1, s2]; omega, h0, h1, rfl⟩
  · have hlt := hb (by simpa using hb1)
    have hw : wrap64 (x + 1) = x + 1 := by unfold wrap64; omega
    have s3 : (t.extract (x + 1).toNat t.size).size = t.size - (x + 1).toNat := by simp
    refine YtiabgmddnddeiaaDoorPts.Tot.bind (spec_l01Src_one.tot l a m z 2 hl h0 h1 (by decide)) ?_
    rintro ⟨v, a1, m1, z1⟩ ⟨h2, h3, h4⟩
    dsimp only at h2 h3 h4 ⊢
    rw [hw]
    refine YtiabgmddnddeiaaDoorPts.Tot.ite (fun hv => ?_) (fun hv => ?_)
    · rw [if_pos hx, if_pos hx2, if_pos (by omega), if_pos (by omega), if_pos (by rw [s1, s3]; omega)]
      exact YtiabgmddnddeiaaDoorPts.Tot.mk ⟨by dsimp only; rw [ByteArray.size_append, s1, s3]; omega, h2, h3, h4⟩
    · rw [if_pos hx, if_pos hx2, if_pos (by rw [s1]; omega), if_pos (by omega), if_pos (by omega), if_pos (by rw [ByteArray.size_append, s1, s3]; omega)]
      exact YtiabgmddnddeiaaDoorPts.Tot.mk ⟨by dsimp only; rw [ByteArray.size_append, ByteArray.size_append, s1, s3]; omega, h2, h3, h4⟩
theorem spec_l01Src_spoil.tot (k : Nat) (l : List Int) (a m z : Int) (t : ByteArray) (hl : l.length ≤ 140737488355328) (h0 : 0 ≤ a) (h1 : a ≤ (l.length : Int)) (ht : t.size ≤ 10000000) :
    YtiabgmddnddeiaaDoorPts.Tot (spec_l01Src_spoil.f (k + 1) l a m z t) (fun r => r.1.size ≤ t.size + 1 ∧ 0 ≤ r.2.1 ∧ r.2.1 ≤ (l.length : Int) ∧ r.2.2.2 = z) := by
  unfold spec_l01Src_spoil.f
  have hw : wrap64 ((t.size : Int) + 1) = (t.size : Int) + 1 := by unfold wrap64; omega
  rw [hw]
  clear hw
  refine YtiabgmddnddeiaaDoorPts.Tot.bind (spec_l01Src_n.tot l a m z ((t.size : Int) + 1) hl h0 h1 (by omega)) ?_
  rintro ⟨v, a1, m1, z1⟩ ⟨v1, v2, h2, h3, h4⟩
  dsimp only at v1 v2 h2 h3 h4 ⊢
  refine YtiabgmddnddeiaaDoorPts.Tot.bind (spec_l01Src_n.tot l a1 m1 z1 17 hl h2 h3 (by decide)) ?_
  rintro ⟨w, a2, m2, z2⟩ ⟨w1, w2, h5, h6, h7⟩
  dsimp only at w1 w2 h5 h6 h7 ⊢
  subst h4 h7
  rw [if_pos w1, if_pos (by omega)]
  simp only [Option.bind_some]
  refine YtiabgmddnddeiaaDoorPts.Tot.ite (fun he => ?_) (fun he => ?_)
  · refine (spec_l01Src_spoil.join k l t _ v true a2 m2 z2 hl h5 h6 ht (by rw [strOfNums_size]; simp) v1 (by omega) (by intro h; cases h)).mono ?_
    rintro ⟨s, a3, m3, z3⟩ ⟨q1, q2, q3, q4⟩
    dsimp only at q1 q2 q3 q4 ⊢
    rw [strOfNums_size] at q1
    exact ⟨q1, q2, q3, q4⟩
  · refine YtiabgmddnddeiaaDoorPts.Tot.bind (spec_l01Src_one.tot l a2 m2 z2 3 hl h5 h6 (by decide)) ?_
    rintro ⟨b, a3, m3, z3⟩ ⟨h8, h9, h10⟩
    dsimp only at h8 h9 h10 ⊢
    subst h10
    refine (spec_l01Src_spoil.join k l t _ v b a3 m3 z3 hl h8 h9 ht (by rw [strOfNums_size]; simp) v1 (by omega) (by intro _; omega)).mono ?_
    rintro ⟨s, a4, m4, z4⟩ ⟨q1, q2, q3, q4⟩
    dsimp only at q1 q2 q3 q4 ⊢
    rw [strOfNums_size] at q1
    exact ⟨q1, q2, q3, q4⟩

end Go.Proofs.YtiabgmddnddeiaaDoor.QFnJoinNormal
