/- The law FnEquivalent: at every input the call answers true (this text: contracts on its way, by a program of this session's; no condition of ours). -/
import Derived.Test.YtdkoofdfkhogoaaDoorQFnEquivalentx0
import Derived.Test.YtdkoofdfkhogoaaDoorQFnEquivalentx3
import Derived.Test.YtdkoofdfkhogoaaDoorQFnEquivalentx8
import Derived.Test.YtdkoofdfkhogoaaDoorQFnEquivalentx9
import Derived.Test.YtdkoofdfkhogoaaDoorQFnEquivalentx10
namespace Go.Proofs.YtdkoofdfkhogoaaDoor.QFnEquivalent
open Go.RowKit Go.Proofs.YtdkoofdfkhogoaaDoorW.PrintWords Go.Proofs.YtdkoofdfkhogoaaDoorW.PrintLast Go.Proofs.YtdkoofdfkhogoaaDoorW.PrintMore
attribute [local go_sem] max2_int min2_int max_two min_two max_three min_three max_four min_four   -- for this text's walks alone
set_option linter.unusedVariables false
set_option linter.unusedSimpArgs false

/-! ### spec_l01Src_part: function 178 -/
def spec_l01Src_part.j0 : Nat → Int → Bool → List Int → Int → Int → Int → Option (Int × Int × Int × Int)
 | 0, _, _, _, _, _, _ => none
 | k + 1, x4, x18, x1000, x1001, x1002, x1003 => if x18 = true then ((spec_l01Src_n.f x1000 x1001 x1002 x1003 3).bind fun bt493 => ((spec_l01Src_n.f x1000 bt493.2.1 bt493.2.2.1 bt493.2.2.2 3).bind fun bt497 => ((spec_l01Src_n.f x1000 bt497.2.1 bt497.2.2.1 bt497.2.2.2 2).bind fun bt501 => ((some (([bt493.1, wrap64 (16 + bt497.1), wrap64 (32 + bt501.1), 40, 48, 56] : List Int) : List Int)).bind fun y505 => ((spec_l01Src_n.f x1000 bt501.2.1 bt501.2.2.1 bt501.2.2.2 6).bind fun bt508 => (if 0 ≤ bt508.1 then (if bt508.1 < (y505.length : Int) then (some (wrap64 (4096 + (rd y505 bt508.1)), bt508.2.1, bt508.2.2.1, bt508.2.2.2)) else (none)) else (none))))))) else (if x4 = 3 then ((spec_l01Src_n.f x1000 x1001 x1002 x1003 3).bind fun bt513 => ((spec_l01Src_n.f x1000 bt513.2.1 bt513.2.2.1 bt513.2.2.2 52).bind fun bt517 => ((spec_l01Src_n.f x1000 bt517.2.1 bt517.2.2.1 bt517.2.2.2 2).bind fun bt521 => (some (wrap64 ((wrap64 ((wrap64 (8192 + (wrap64 (512 * bt513.1)))) + (wrap64 (8 * bt517.1)))) + bt521.1), bt521.2.1, bt521.2.2.1, bt521.2.2.2))))) else (if x4 = 4 then ((spec_l01Src_n.f x1000 x1001 x1002 x1003 26).bind fun bt525 => ((spec_l01Src_n.f x1000 bt525.2.1 bt525.2.2.1 bt525.2.2.2 3).bind fun bt529 => ((spec_l01Src_n.f x1000 bt529.2.1 bt529.2.2.1 bt529.2.2.2 3).bind fun bt533 => ((spec_l01Src_n.f x1000 bt533.2.1 bt533.2.2.1 bt533.2.2.2 4).bind fun bt537 => ((some (([wrap64 (9728 + bt525.1), wrap64 (9984 + bt529.1), wrap64 (10016 + bt533.1), wrap64 (10032 + bt537.1), 8064, 160] : List Int) : List Int)).bind fun y541 => ((spec_l01Src_n.f x1000 bt537.2.1 bt537.2.2.1 bt537.2.2.2 6).bind fun bt544 => (if 0 ≤ bt544.1 then (if bt544.1 < (y541.length : Int) then (some (rd y541 bt544.1, bt544.2.1, bt544.2.2.1, bt544.2.2.2)) else (none)) else (none)))))))) else (if x4 = 5 then ((spec_l01Src_n.f x1000 x1001 x1002 x1003 2).bind fun bt549 => ((spec_l01Src_n.f x1000 bt549.2.1 bt549.2.2.1 bt549.2.2.2 2).bind fun bt553 => ((spec_l01Src_n.f x1000 bt553.2.1 bt553.2.2.1 bt553.2.2.2 2).bind fun bt557 => ((some (([wrap64 (1792 + bt549.1), wrap64 (1824 + bt553.1), wrap64 (1857 + bt557.1), 1810, 1844, 1883] : List Int) : List Int)).bind fun y561 => ((spec_l01Src_n.f x1000 bt557.2.1 bt557.2.2.1 bt557.2.2.2 6).bind fun bt564 => (if 0 ≤ bt564.1 then (if bt564.1 < (y561.length : Int) then (some (rd y561 bt564.1, bt564.2.1, bt564.2.2.1, bt564.2.2.2)) else (none)) else (none))))))) else (if x4 = 6 then ((spec_l01Src_n.f x1000 x1001 x1002 x1003 399).bind fun bt569 => ((spec_l01Src_n.f x1000 bt569.2.1 bt569.2.2.1 bt569.2.2.2 11172).bind fun bt573 => ((some (([wrap64 (28 * bt569.1), bt573.1, 0, 11171] : List Int) : List Int)).bind fun y577 => ((spec_l01Src_n.f x1000 bt573.2.1 bt573.2.2.1 bt573.2.2.2 4).bind fun bt580 => (if 0 ≤ bt580.1 then (if bt580.1 < (y577.length : Int) then (some (wrap64 (12288 + (rd y577 bt580.1)), bt580.2.1, bt580.2.2.1, bt580.2.2.2)) else (none)) else (none)))))) else ((spec_l01Src_point.f k x1000 x1001 x1002 x1003).bind fun bt585 => ((spec_l01Src_point.f k x1000 bt585.2.1 bt585.2.2.1 bt585.2.2.2).bind fun bt589 => ((some (([1584, 1585, 1536, bt585.1, bt589.1] : List Int) : List Int)).bind fun y593 => ((spec_l01Src_n.f x1000 bt589.2.1 bt589.2.2.1 bt589.2.2.2 5).bind fun bt596 => (if 0 ≤ bt596.1 then (if bt596.1 < (y593.length : Int) then (some (rd y593 bt596.1, bt596.2.1, bt596.2.2.1, bt596.2.2.2)) else (none)) else (none))))))))))
def spec_l01Src_part.f (k : Nat) (s0_0 : List Int) (s0_1 : Int) (s0_2 : Int) (s0_3 : Int) : Option (Int × Int × Int × Int) := (spec_l01Src_n.f s0_0 s0_1 s0_2 s0_3 8).bind fun bt473 => (if bt473.1 = 0 then ((spec_l01Src_n.f s0_0 bt473.2.1 bt473.2.2.1 bt473.2.2.2 3).bind fun bt477 => ((spec_l01Src_n.f s0_0 bt477.2.1 bt477.2.2.1 bt477.2.2.2 3).bind fun bt481 => ((some (([wrap64 (65 + bt477.1), wrap64 (97 + bt481.1)] : List Int) : List Int)).bind fun y485 => ((spec_l01Src_n.f s0_0 bt481.2.1 bt481.2.2.1 bt481.2.2.2 2).bind fun bt488 => (if 0 ≤ bt488.1 then (if bt488.1 < (y485.length : Int) then (some (rd y485 bt488.1, bt488.2.1, bt488.2.2.1, bt488.2.2.2)) else (none)) else (none)))))) else (if bt473.1 = 1 then (spec_l01Src_part.j0 k bt473.1 (bt473.1 == 1) s0_0 bt473.2.1 bt473.2.2.1 bt473.2.2.2) else (spec_l01Src_part.j0 k bt473.1 (bt473.1 == 2) s0_0 bt473.2.1 bt473.2.2.1 bt473.2.2.2)))
theorem spec_l01Src_part.mono_l : ∀ k, (∀ y0 y1 y2 y3 y4 y5, LeO (spec_l01Src_part.j0 k y0 y1 y2 y3 y4 y5) (spec_l01Src_part.j0 (k + 1) y0 y1 y2 y3 y4 y5))
 | 0 => fun _ _ _ _ _ _ r h => by simp [spec_l01Src_part.j0] at h
 | k + 1 => by
  have ih0 := spec_l01Src_part.mono_l k; intro y0 y1 y2 y3 y4 y5
  unfold spec_l01Src_part.j0
  repeat' first
  | (with_reducible exact ih0 _ _ _ _ _ _)
  | (with_reducible exact spec_l01Src_point.mono _ _ _ _ _)
  | (with_reducible exact LeO.refl _)
  | (with_reducible exact LeO.none _)
  | (with_reducible refine LeO.ite ?_ ?_)
  | (with_reducible refine LeO.bind ?_ (fun _ => ?_))
  | exact ih0 _ _ _ _ _ _
  | exact spec_l01Src_point.mono _ _ _ _ _
  | exact LeO.none _
  | refine LeO.ite ?_ ?_
  | refine LeO.bind ?_ (fun _ => ?_)
theorem spec_l01Src_part.mono : ∀ a0 a1 a2 a3 k, LeO (spec_l01Src_part.f k a0 a1 a2 a3) (spec_l01Src_part.f (k + 1) a0 a1 a2 a3) := by
 intro a0 a1 a2 a3 k
 have ih0 := spec_l01Src_part.mono_l k
 unfold spec_l01Src_part.f
 repeat' first
   | (with_reducible exact ih0 _ _ _ _ _ _)
   | (with_reducible exact spec_l01Src_point.mono _ _ _ _ _)
   | (with_reducible exact LeO.refl _)
   | (with_reducible exact LeO.none _)
   | (with_reducible refine LeO.ite ?_ ?_)
   | (with_reducible refine LeO.bind ?_ (fun _ => ?_))
   | exact ih0 _ _ _ _ _ _
   | exact spec_l01Src_point.mono _ _ _ _ _
   | exact LeO.none _
   | refine LeO.ite ?_ ?_
   | refine LeO.bind ?_ (fun _ => ?_)
set_option maxHeartbeats 8000000 in
set_option maxRecDepth 100000 in
theorem spec_l01Src_part.calls (k : Nat) (g : Nat) (s0_0 : List Int) (s0_1 : Int) (s0_2 : Int) (s0_3 : Int) (r1 : Int) (r2 : Int) (r3 : Int) (r4 : Int) (w0 w : World) (hI : IsS95 w0 w g s0_0 s0_1 s0_2 s0_3) (hB : Below w0.heap.size w0 w) (h : spec_l01Src_part.f k s0_0 s0_1 s0_2 s0_3 = some (r1, r2, r3, r4)) :
  Calls Tryd.prog 178 #[.pointer (some ⟨g, 0, none⟩)] w fun e w' => e = .returned (.int .i64 r1) ∧ IsS95 w0 w' g s0_0 r2 r3 r4 ∧ Below w0.heap.size w0 w' ∧ KeepBut w w' g none := by
 have HI0 := Aside0.mk hI
 have HK := Aside0.mk (KeepBut.refl w g none)
 have HL := Aside0.mk hB.size
 clear hI
 have HW0 := Aside0.mk hB.size
 have HB := Aside0.mk hB
 clear hB
 have H : ((spec_l01Src_n.f s0_0 s0_1 s0_2 s0_3 8).bind fun bt473 => (if bt473.1 = 0 then ((spec_l01Src_n.f s0_0 bt473.2.1 bt473.2.2.1 bt473.2.2.2 3).bind fun bt477 => ((spec_l01Src_n.f s0_0 bt477.2.1 bt477.2.2.1 bt477.2.2.2 3).bind fun bt481 => ((some (([wrap64 (65 + bt477.1), wrap64 (97 + bt481.1)] : List Int) : List Int)).bind fun y485 => ((spec_l01Src_n.f s0_0 bt481.2.1 bt481.2.2.1 bt481.2.2.2 2).bind fun bt488 => (if 0 ≤ bt488.1 then (if bt488.1 < (y485.length : Int) then (some (rd y485 bt488.1, bt488.2.1, bt488.2.2.1, bt488.2.2.2)) else (none)) else (none)))))) else (if bt473.1 = 1 then (spec_l01Src_part.j0 k bt473.1 (bt473.1 == 1) s0_0 bt473.2.1 bt473.2.2.1 bt473.2.2.2) else (spec_l01Src_part.j0 k bt473.1 (bt473.1 == 2) s0_0 bt473.2.1 bt473.2.2.1 bt473.2.2.2)))) = some (r1, r2, r3, r4) := h
 clear h
 replace H := Option.bind_eq_some_iff.mp H
 obtain ⟨⟨t473, t474, t475, t476⟩, A20, H⟩ := H
 try dsimp only at H
 have A2 := Aside0.mk A20
 clear A20
 by_cases c3 : t473 = 0
 ·rw [if_pos c3] at H
  have c3b0 : (t473 == 0) = true := beq_iff_eq.mpr c3; have c3b1 : (t473 != 0) = false := bne_eq_false_iff_eq.mpr c3; clear c3; replace H := Option.bind_eq_some_iff.mp H; obtain ⟨⟨t477, t478, t479, t480⟩, A40, H⟩ := H
  try dsimp only at H
  have A4 := Aside0.mk A40; clear A40; replace H := Option.bind_eq_some_iff.mp H; obtain ⟨⟨t481, t482, t483, t484⟩, A50, H⟩ := H
  try dsimp only at H
  have A5 := Aside0.mk A50; clear A50; obtain ⟨y485, hy485⟩ : ∃ y_ : List Int, y_ = (([wrap64 (65 + t477), wrap64 (97 + t481)] : List Int)) := ⟨_, rfl⟩
  replace H : ((spec_l01Src_n.f s0_0 t482 t483 t484 2).bind fun bt488 => (if 0 ≤ bt488.1 then (if bt488.1 < (y485.length : Int) then (some (rd y485 bt488.1, bt488.2.1, bt488.2.2.1, bt488.2.2.2)) else (none)) else (none))) = some (r1, r2, r3, r4) := by first | (rw [hy485]; with_reducible exact H) | (have H2_ := (Option.bind_some _ _).symm.trans H; rw [hy485]; with_reducible exact H2_) | (have H2_ := (Option.bind_some _ _).symm.trans H; with_reducible exact H2_) | with_reducible exact H | (rw [hy485]; exact H) | exact H
  have Ny485 := Aside0.mk hy485; clear hy485; replace H := Option.bind_eq_some_iff.mp H; obtain ⟨⟨t488, t489, t490, t491⟩, A60, H⟩ := H
  try dsimp only at H
  have A6 := Aside0.mk A60; clear A60
  by_cases c7 : 0 ≤ t488
  ·rw [if_pos c7] at H
   have c7b0 : decide (0 ≤ t488) = true := decide_eq_true c7; clear c7
   by_cases c8 : t488 < (y485.length : Int)
   ·rw [if_pos c8] at H
    have c8b0 : decide (t488 < (y485.length : Int)) = true := decide_eq_true c8; clear c8; simp only [Option.some.injEq, Prod.mk.injEq] at H; obtain ⟨rfl, rfl, rfl, rfl⟩ := H
    go_enter Tryd.func178, Tryd.ntmps178
    go_wp2_with (first | ((with_reducible refine gate_callee (f := 97) rfl ?_); refine goesL_ (some 4) rfl rfl Tryd.func97 (by kernel_rfl) rfl #[.pointer (some ⟨g, 0, none⟩), .int .i64 8] rfl (by (try simp only [List.map_toArray, List.map_cons, List.map_nil]); first | done | rfl) ?_; refine (spec_l01Src_n.callsA g s0_0 s0_1 s0_2 s0_3 8 t473 t474 t475 t476 w0 _ _ A2.out).mono ?_; rintro e w9 ⟨rfl, hi, hb, hk⟩; refine ⟨_, rfl, ?_⟩; replace HI0 := hi; replace HB := hb; replace HK := hk; clear hi hb hk) | ((with_reducible refine gate_callee (f := 97) rfl ?_); refine goesL_ (some 8) rfl rfl Tryd.func97 (by kernel_rfl) rfl #[.pointer (some ⟨g, 0, none⟩), .int .i64 3] rfl (by (try simp only [List.map_toArray, List.map_cons, List.map_nil]); first | done | rfl) ?_; refine (spec_l01Src_n.callsA g s0_0 t474 t475 t476 3 t477 t478 t479 t480 w0 _ _ A4.out).mono ?_; rintro e w10 ⟨rfl, hi, hb, hk⟩; refine ⟨_, rfl, ?_⟩; replace HI0 := hi; replace HB := hb; replace HK := hk; clear hi hb hk) | ((with_reducible refine gate_callee (f := 97) rfl ?_); refine goesL_ (some 11) rfl rfl Tryd.func97 (by kernel_rfl) rfl #[.pointer (some ⟨g, 0, none⟩), .int .i64 3] rfl (by (try simp only [List.map_toArray, List.map_cons, List.map_nil]); first | done | rfl) ?_; refine (spec_l01Src_n.callsA g s0_0 t478 t479 t480 3 t481 t482 t483 t484 w0 _ _ A5.out).mono ?_; rintro e w11 ⟨rfl, hi, hb, hk⟩; refine ⟨_, rfl, ?_⟩; replace HI0 := hi; replace HB := hb; replace HK := hk; clear hi hb hk) | ((with_reducible refine gate_dst (N := 13) rfl ?_); refine Kd.R_lit (Kd.int .i64) _ 2 ?hg (N := 13) ?hd (xs := ([wrap64 (65 + t477), wrap64 (97 + t481)] : List Int)) (inner := [.int .i64 (wrap64 (65 + t477)), .int .i64 (wrap64 (97 + t481))]) (ok := fun _ => True) (okp := fun _ => True) ?hr ?hp (fun _ hk => hk) trivial (Below.refl _ _) (Nat.le_refl _) (by simp) ?_; (case hd => rfl); (case hg => rfl); (case hr => first | (go_simp; done) | (go_simp; rfl)); (case hp => exact (Reps.one (show Kd.M (Kd.int .i64) _ _ _ (wrap64 (65 + t477)) [.int .i64 (wrap64 (65 + t477))] from rfl) (Reps.one (show Kd.M (Kd.int .i64) _ _ _ (wrap64 (97 + t481)) [.int .i64 (wrap64 (97 + t481))] from rfl) (Reps.none _ _)))); intro v486 w12 ho13 hb hg_ hnew_; clear hg_ hnew_; (first | rw [← Ny485.out] at ho13 | (simp only [Int.reduceToNat] at ho13; rw [← Ny485.out] at ho13)); have n0_ := Aside0.mk (Kd.R_lower ho13 (keep_size (w := w) (g := g) (row := none) (keepA))); have n1_ := Aside0.mk (IsS95.below (isA) hb); have n2_ := Aside0.mk (KeepBut.trans (keepA) (KeepBut.of_below hb g none) (.inl rfl)); have n3_ := Aside0.mk (below_step (belowI) hb); clear HI0; clear HK; clear HB; have HO487 := n0_; have HI0 := n1_; have HK := n2_; have HB := n3_; clear n0_ n1_ n2_ n3_; clear hb ho13) | ((with_reducible refine gate_callee (f := 97) rfl ?_); refine goesL_ (some 15) rfl rfl Tryd.func97 (by kernel_rfl) rfl #[.pointer (some ⟨g, 0, none⟩), .int .i64 2] rfl (by (try simp only [List.map_toArray, List.map_cons, List.map_nil]); first | done | rfl) ?_; (with_reducible refine (spec_l01Src_n.calls g s0_0 t482 t483 t484 2 t488 t489 t490 t491 w0 _ ?side1 ?side2 A6.out).mono ?_); (case side1 => exact isA); (case side2 => exact belowI); rintro e w14 ⟨rfl, hi, hb, hk⟩; refine ⟨_, rfl, ?_⟩; have n0_ := Aside0.mk (Kd.R_mono (Kd.R_keep (IsS95.apart (show IsS95 w0 _ g s0_0 t482 t483 t484 from isA) (by (with_reducible repeat (first | apply Kd.R_alloc | apply Kd.R_drewN | apply Kd.R_drew)); exact HO487.out) (by decide)) hk (fun _ h => h.2)) (fun _ h => h.1)); have n1_ := Aside0.mk (KeepBut.trans (keepA) hk (.inl rfl)); have n2_ := Aside0.mk (hb); have n3_ := Aside0.mk (hi); clear HO487; clear HK; clear HB; clear HI0; have HO487 := n0_; have HK := n1_; have HB := n2_; have HI0 := n3_; clear n0_ n1_ n2_ n3_; (try clear hb); (try clear hb2); (try clear hk); (try clear hi); obtain ⟨Ao15, co15, eo15⟩ := Kd.R_slice HO487.out; subst eo15; have p492 : 0 ≤ (t488 : Int) := of_decide_eq_true (by first | (with_reducible assumption) | assumption); have q492 : t488 < (y485.length : Int) := of_decide_eq_true (by first | (with_reducible assumption) | assumption); obtain ⟨ad492, e492, hx492_0⟩ := Kd.at_int (Kd.R_reads' HO487.out).2.2 t488 p492 q492; cases e492; replace p492 := eq_true p492; replace q492 := eq_true q492))
    go_ret
    exact ⟨by first | rfl | (simp [errW_none, errW_some] <;> rfl) | (simp [*, errW_none, errW_some] <;> rfl), isA, belowI, keepA⟩
   rw [if_neg c8] at H
   exact absurd H (by simp)
  rw [if_neg c7] at H
  exact absurd H (by simp)
 rw [if_neg c3] at H
 have c3b0 : (t473 == 0) = false := beq_eq_false_iff_ne.mpr c3
 have c3b1 : (t473 != 0) = true := bne_iff_ne.mpr c3
 have HC16 := Aside0.mk H
 clear H
 go_enter Tryd.func178, Tryd.ntmps178
 go_upto_if 18 with (first | ((with_reducible refine gate_callee (f := 97) rfl ?_); refine goesL_ (some 4) rfl rfl Tryd.func97 (by kernel_rfl) rfl #[.pointer (some ⟨g, 0, none⟩), .int .i64 8] rfl (by (try simp only [List.map_toArray, List.map_cons, List.map_nil]); first | done | rfl) ?_; refine (spec_l01Src_n.callsA g s0_0 s0_1 s0_2 s0_3 8 t473 t474 t475 t476 w0 _ _ A2.out).mono ?_; rintro e w17 ⟨rfl, hi, hb, hk⟩; refine ⟨_, rfl, ?_⟩; replace HI0 := hi; replace HB := hb; replace HK := hk; clear hi hb hk))
 (try simp only [Act.put, List.setIfInBounds_toArray, List.set_cons_zero, List.set_cons_succ])
 go_cut [18] (fun v18 wc => ∃ (kq : Nat) (x18_15 : Bool), v18 = .bool x18_15 ∧ Aside0 (spec_l01Src_part.j0 kq t473 x18_15 s0_0 t474 t475 t476 = some (r1, r2, r3, r4)) ∧ Aside0 (kq ≤ k) ∧ Aside0 (IsS95 w0 wc g s0_0 t474 t475 t476) ∧ Aside0 (KeepBut w wc g none) ∧ Aside0 (Below w0.heap.size w0 wc))
 case first =>
  have H := HC16.out; clear HC16
  by_cases c18 : t473 = 1
  ·rw [if_pos c18] at H
   have c18b0 : (t473 == 1) = true := beq_iff_eq.mpr c18; have c18b1 : (t473 != 1) = false := bne_eq_false_iff_eq.mpr c18; clear c18
   (first | rw [c18b0] | (simp only [i64_w, i32_w]; rw [c18b0]) | skip)
   have H' := Aside0.mk H; clear H
   go_wp2
   go_meet
   case rel => exact ⟨_, ((t473 == 1)), (by first | rfl | (simp; done) | (simp [*]; done)), H', ⟨by first | omega | exact Nat.le_refl _⟩, ⟨isA⟩, ⟨keepA⟩, ⟨belowI⟩⟩
  rw [if_neg c18] at H; have c18b0 : (t473 == 1) = false := beq_eq_false_iff_ne.mpr c18; have c18b1 : (t473 != 1) = true := bne_iff_ne.mpr c18
  (first | rw [c18b0] | (simp only [i64_w, i32_w]; rw [c18b0]) | skip)
  have H' := Aside0.mk H; clear H
  go_wp2
  go_meet
  case rel => exact ⟨_, ((t473 == 2)), (by first | rfl | (simp; done) | (simp [*]; done)), H', ⟨by first | omega | exact Nat.le_refl _⟩, ⟨isA⟩, ⟨keepA⟩, ⟨belowI⟩⟩
 case rest =>
  clear HC16
  try clear c1; try clear p2; try clear c3; try clear c3b0; try clear c3b1; try clear p4; try clear q4; try clear hx4; try clear p6; try clear c7; try clear c7b0; try clear c8; try clear c8b0; try clear c9; try clear c17; try clear c18; try clear c18b0; try clear c18b1; try clear hx492_0; try clear p492; try clear q492
  obtain ⟨kq, x18_15, rfl, HA, HJ15, HI0, HK, HB⟩ := hcut
  cases kq with
  | zero => exact absurd HA.out (by simp [spec_l01Src_part.j0])
  | succ kj15 =>
   have H := HA.out; clear HA; simp only [spec_l01Src_part.j0] at H
   by_cases c19 : x18_15 = true
   ·subst c19
    have H1 : ((spec_l01Src_n.f s0_0 t474 t475 t476 3).bind fun bt493 => ((spec_l01Src_n.f s0_0 bt493.2.1 bt493.2.2.1 bt493.2.2.2 3).bind fun bt497 => ((spec_l01Src_n.f s0_0 bt497.2.1 bt497.2.2.1 bt497.2.2.2 2).bind fun bt501 => ((some (([bt493.1, wrap64 (16 + bt497.1), wrap64 (32 + bt501.1), 40, 48, 56] : List Int) : List Int)).bind fun y505 => ((spec_l01Src_n.f s0_0 bt501.2.1 bt501.2.2.1 bt501.2.2.2 6).bind fun bt508 => (if 0 ≤ bt508.1 then (if bt508.1 < (y505.length : Int) then (some (wrap64 (4096 + (rd y505 bt508.1)), bt508.2.1, bt508.2.2.1, bt508.2.2.2)) else (none)) else (none))))))) = some (r1, r2, r3, r4) := by rw [if_pos rfl] at H; exact H
    clear H; have H := H1; clear H1; replace H := Option.bind_eq_some_iff.mp H; obtain ⟨⟨t493, t494, t495, t496⟩, A200, H⟩ := H
    try dsimp only at H
    have A20 := Aside0.mk A200; clear A200; replace H := Option.bind_eq_some_iff.mp H; obtain ⟨⟨t497, t498, t499, t500⟩, A210, H⟩ := H
    try dsimp only at H
    have A21 := Aside0.mk A210; clear A210; replace H := Option.bind_eq_some_iff.mp H; obtain ⟨⟨t501, t502, t503, t504⟩, A220, H⟩ := H
    try dsimp only at H
    have A22 := Aside0.mk A220; clear A220; obtain ⟨y505, hy505⟩ : ∃ y_ : List Int, y_ = (([t493, wrap64 (16 + t497), wrap64 (32 + t501), 40, 48, 56] : List Int)) := ⟨_, rfl⟩
    replace H : ((spec_l01Src_n.f s0_0 t502 t503 t504 6).bind fun bt508 => (if 0 ≤ bt508.1 then (if bt508.1 < (y505.length : Int) then (some (wrap64 (4096 + (rd y505 bt508.1)), bt508.2.1, bt508.2.2.1, bt508.2.2.2)) else (none)) else (none))) = some (r1, r2, r3, r4) := by first | (rw [hy505]; with_reducible exact H) | (have H2_ := (Option.bind_some _ _).symm.trans H; rw [hy505]; with_reducible exact H2_) | (have H2_ := (Option.bind_some _ _).symm.trans H; with_reducible exact H2_) | with_reducible exact H | (rw [hy505]; exact H) | exact H
    have Ny505 := Aside0.mk hy505; clear hy505; replace H := Option.bind_eq_some_iff.mp H; obtain ⟨⟨t508, t509, t510, t511⟩, A230, H⟩ := H
    try dsimp only at H
    have A23 := Aside0.mk A230; clear A230
    by_cases c24 : 0 ≤ t508
    ·rw [if_pos c24] at H
     have c24b0 : decide (0 ≤ t508) = true := decide_eq_true c24; clear c24
     by_cases c25 : t508 < (y505.length : Int)
     ·rw [if_pos c25] at H
      have c25b0 : decide (t508 < (y505.length : Int)) = true := decide_eq_true c25; clear c25; simp only [Option.some.injEq, Prod.mk.injEq] at H; obtain ⟨rfl, rfl, rfl, rfl⟩ := H
      go_wp2_with (first | ((with_reducible refine gate_callee (f := 97) rfl ?_); refine goesL_ (some 22) rfl rfl Tryd.func97 (by kernel_rfl) rfl #[.pointer (some ⟨g, 0, none⟩), .int .i64 3] rfl (by (try simp only [List.map_toArray, List.map_cons, List.map_nil]); first | done | rfl) ?_; refine (spec_l01Src_n.callsA g s0_0 t474 t475 t476 3 t493 t494 t495 t496 w0 _ _ A20.out).mono ?_; rintro e w26 ⟨rfl, hi, hb, hk⟩; refine ⟨_, rfl, ?_⟩; replace HI0 := hi; replace HB := hb; replace HK := hk; clear hi hb hk) | ((with_reducible refine gate_callee (f := 97) rfl ?_); refine goesL_ (some 24) rfl rfl Tryd.func97 (by kernel_rfl) rfl #[.pointer (some ⟨g, 0, none⟩), .int .i64 3] rfl (by (try simp only [List.map_toArray, List.map_cons, List.map_nil]); first | done | rfl) ?_; refine (spec_l01Src_n.callsA g s0_0 t494 t495 t496 3 t497 t498 t499 t500 w0 _ _ A21.out).mono ?_; rintro e w27 ⟨rfl, hi, hb, hk⟩; refine ⟨_, rfl, ?_⟩; replace HI0 := hi; replace HB := hb; replace HK := hk; clear hi hb hk) | ((with_reducible refine gate_callee (f := 97) rfl ?_); refine goesL_ (some 27) rfl rfl Tryd.func97 (by kernel_rfl) rfl #[.pointer (some ⟨g, 0, none⟩), .int .i64 2] rfl (by (try simp only [List.map_toArray, List.map_cons, List.map_nil]); first | done | rfl) ?_; refine (spec_l01Src_n.callsA g s0_0 t498 t499 t500 2 t501 t502 t503 t504 w0 _ _ A22.out).mono ?_; rintro e w28 ⟨rfl, hi, hb, hk⟩; refine ⟨_, rfl, ?_⟩; replace HI0 := hi; replace HB := hb; replace HK := hk; clear hi hb hk) | ((with_reducible refine gate_dst (N := 29) rfl ?_); refine Kd.R_lit (Kd.int .i64) _ 2 ?hg (N := 29) ?hd (xs := ([t493, wrap64 (16 + t497), wrap64 (32 + t501), 40, 48, 56] : List Int)) (inner := [.int .i64 t493, .int .i64 (wrap64 (16 + t497)), .int .i64 (wrap64 (32 + t501)), .int .i64 40, .int .i64 48, .int .i64 56]) (ok := fun _ => True) (okp := fun _ => True) ?hr ?hp (fun _ hk => hk) trivial (Below.refl _ _) (Nat.le_refl _) (by simp) ?_; (case hd => rfl); (case hg => rfl); (case hr => first | (go_simp; done) | (go_simp; rfl)); (case hp => exact (Reps.one (show Kd.M (Kd.int .i64) _ _ _ t493 [.int .i64 t493] from rfl) (Reps.one (show Kd.M (Kd.int .i64) _ _ _ (wrap64 (16 + t497)) [.int .i64 (wrap64 (16 + t497))] from rfl) (Reps.one (show Kd.M (Kd.int .i64) _ _ _ (wrap64 (32 + t501)) [.int .i64 (wrap64 (32 + t501))] from rfl) (Reps.one (show Kd.M (Kd.int .i64) _ _ _ 40 [.int .i64 40] from rfl) (Reps.one (show Kd.M (Kd.int .i64) _ _ _ 48 [.int .i64 48] from rfl) (Reps.one (show Kd.M (Kd.int .i64) _ _ _ 56 [.int .i64 56] from rfl) (Reps.none _ _)))))))); intro v506 w29 ho30 hb hg_ hnew_; clear hg_ hnew_; (first | rw [← Ny505.out] at ho30 | (simp only [Int.reduceToNat] at ho30; rw [← Ny505.out] at ho30)); have n0_ := Aside0.mk (Kd.R_lower ho30 (keep_size (w := w) (g := g) (row := none) (keepA))); have n1_ := Aside0.mk (IsS95.below (isA) hb); have n2_ := Aside0.mk (KeepBut.trans (keepA) (KeepBut.of_below hb g none) (.inl rfl)); have n3_ := Aside0.mk (below_step (belowI) hb); clear HI0; clear HK; clear HB; have HO507 := n0_; have HI0 := n1_; have HK := n2_; have HB := n3_; clear n0_ n1_ n2_ n3_; clear hb ho30) | ((with_reducible refine gate_callee (f := 97) rfl ?_); refine goesL_ (some 31) rfl rfl Tryd.func97 (by kernel_rfl) rfl #[.pointer (some ⟨g, 0, none⟩), .int .i64 6] rfl (by (try simp only [List.map_toArray, List.map_cons, List.map_nil]); first | done | rfl) ?_; (with_reducible refine (spec_l01Src_n.calls g s0_0 t502 t503 t504 6 t508 t509 t510 t511 w0 _ ?side1 ?side2 A23.out).mono ?_); (case side1 => exact isA); (case side2 => exact belowI); rintro e w31 ⟨rfl, hi, hb, hk⟩; refine ⟨_, rfl, ?_⟩; have n0_ := Aside0.mk (Kd.R_mono (Kd.R_keep (IsS95.apart (show IsS95 w0 _ g s0_0 t502 t503 t504 from isA) (by (with_reducible repeat (first | apply Kd.R_alloc | apply Kd.R_drewN | apply Kd.R_drew)); exact HO507.out) (by decide)) hk (fun _ h => h.2)) (fun _ h => h.1)); have n1_ := Aside0.mk (KeepBut.trans (keepA) hk (.inl rfl)); have n2_ := Aside0.mk (hb); have n3_ := Aside0.mk (hi); clear HO507; clear HK; clear HB; clear HI0; have HO507 := n0_; have HK := n1_; have HB := n2_; have HI0 := n3_; clear n0_ n1_ n2_ n3_; (try clear hb); (try clear hb2); (try clear hk); (try clear hi); obtain ⟨Ao32, co32, eo32⟩ := Kd.R_slice HO507.out; subst eo32; have p512 : 0 ≤ (t508 : Int) := of_decide_eq_true (by first | (with_reducible assumption) | assumption); have q512 : t508 < (y505.length : Int) := of_decide_eq_true (by first | (with_reducible assumption) | assumption); obtain ⟨ad512, e512, hx512_0⟩ := Kd.at_int (Kd.R_reads' HO507.out).2.2 t508 p512 q512; cases e512; replace p512 := eq_true p512; replace q512 := eq_true q512))
      go_ret
      exact ⟨by first | rfl | (simp [errW_none, errW_some] <;> rfl) | (simp [*, errW_none, errW_some] <;> rfl), isA, belowI, keepA⟩
     rw [if_neg c25] at H
     exact absurd H (by simp)
    rw [if_neg c24] at H
    exact absurd H (by simp)
   replace c19 := Bool.eq_false_iff.mpr c19; subst c19
   have H1 : (if t473 = 3 then ((spec_l01Src_n.f s0_0 t474 t475 t476 3).bind fun bt513 => ((spec_l01Src_n.f s0_0 bt513.2.1 bt513.2.2.1 bt513.2.2.2 52).bind fun bt517 => ((spec_l01Src_n.f s0_0 bt517.2.1 bt517.2.2.1 bt517.2.2.2 2).bind fun bt521 => (some (wrap64 ((wrap64 ((wrap64 (8192 + (wrap64 (512 * bt513.1)))) + (wrap64 (8 * bt517.1)))) + bt521.1), bt521.2.1, bt521.2.2.1, bt521.2.2.2))))) else (if t473 = 4 then ((spec_l01Src_n.f s0_0 t474 t475 t476 26).bind fun bt525 => ((spec_l01Src_n.f s0_0 bt525.2.1 bt525.2.2.1 bt525.2.2.2 3).bind fun bt529 => ((spec_l01Src_n.f s0_0 bt529.2.1 bt529.2.2.1 bt529.2.2.2 3).bind fun bt533 => ((spec_l01Src_n.f s0_0 bt533.2.1 bt533.2.2.1 bt533.2.2.2 4).bind fun bt537 => ((some (([wrap64 (9728 + bt525.1), wrap64 (9984 + bt529.1), wrap64 (10016 + bt533.1), wrap64 (10032 + bt537.1), 8064, 160] : List Int) : List Int)).bind fun y541 => ((spec_l01Src_n.f s0_0 bt537.2.1 bt537.2.2.1 bt537.2.2.2 6).bind fun bt544 => (if 0 ≤ bt544.1 then (if bt544.1 < (y541.length : Int) then (some (rd y541 bt544.1, bt544.2.1, bt544.2.2.1, bt544.2.2.2)) else (none)) else (none)))))))) else (if t473 = 5 then ((spec_l01Src_n.f s0_0 t474 t475 t476 2).bind fun bt549 => ((spec_l01Src_n.f s0_0 bt549.2.1 bt549.2.2.1 bt549.2.2.2 2).bind fun bt553 => ((spec_l01Src_n.f s0_0 bt553.2.1 bt553.2.2.1 bt553.2.2.2 2).bind fun bt557 => ((some (([wrap64 (1792 + bt549.1), wrap64 (1824 + bt553.1), wrap64 (1857 + bt557.1), 1810, 1844, 1883] : List Int) : List Int)).bind fun y561 => ((spec_l01Src_n.f s0_0 bt557.2.1 bt557.2.2.1 bt557.2.2.2 6).bind fun bt564 => (if 0 ≤ bt564.1 then (if bt564.1 < (y561.length : Int) then (some (rd y561 bt564.1, bt564.2.1, bt564.2.2.1, bt564.2.2.2)) else (none)) else (none))))))) else (if t473 = 6 then ((spec_l01Src_n.f s0_0 t474 t475 t476 399).bind fun bt569 => ((spec_l01Src_n.f s0_0 bt569.2.1 bt569.2.2.1 bt569.2.2.2 11172).bind fun bt573 => ((some (([wrap64 (28 * bt569.1), bt573.1, 0, 11171] : List Int) : List Int)).bind fun y577 => ((spec_l01Src_n.f s0_0 bt573.2.1 bt573.2.2.1 bt573.2.2.2 4).bind fun bt580 => (if 0 ≤ bt580.1 then (if bt580.1 < (y577.length : Int) then (some (wrap64 (12288 + (rd y577 bt580.1)), bt580.2.1, bt580.2.2.1, bt580.2.2.2)) else (none)) else (none)))))) else ((spec_l01Src_point.f kj15 s0_0 t474 t475 t476).bind fun bt585 => ((spec_l01Src_point.f kj15 s0_0 bt585.2.1 bt585.2.2.1 bt585.2.2.2).bind fun bt589 => ((some (([1584, 1585, 1536, bt585.1, bt589.1] : List Int) : List Int)).bind fun y593 => ((spec_l01Src_n.f s0_0 bt589.2.1 bt589.2.2.1 bt589.2.2.2 5).bind fun bt596 => (if 0 ≤ bt596.1 then (if bt596.1 < (y593.length : Int) then (some (rd y593 bt596.1, bt596.2.1, bt596.2.2.1, bt596.2.2.2)) else (none)) else (none)))))))))) = some (r1, r2, r3, r4) := by rw [if_neg (show ¬ (false = true) by decide)] at H; exact H
   clear H; have H := H1; clear H1
   by_cases c33 : t473 = 3
   ·rw [if_pos c33] at H
    have c33b0 : (t473 == 3) = true := beq_iff_eq.mpr c33; have c33b1 : (t473 != 3) = false := bne_eq_false_iff_eq.mpr c33; clear c33; replace H := Option.bind_eq_some_iff.mp H; obtain ⟨⟨t513, t514, t515, t516⟩, A340, H⟩ := H
    try dsimp only at H
    have A34 := Aside0.mk A340; clear A340; replace H := Option.bind_eq_some_iff.mp H; obtain ⟨⟨t517, t518, t519, t520⟩, A350, H⟩ := H
    try dsimp only at H
    have A35 := Aside0.mk A350; clear A350; replace H := Option.bind_eq_some_iff.mp H; obtain ⟨⟨t521, t522, t523, t524⟩, A360, H⟩ := H
    try dsimp only at H
    have A36 := Aside0.mk A360; clear A360; simp only [Option.some.injEq, Prod.mk.injEq] at H; obtain ⟨rfl, rfl, rfl, rfl⟩ := H
    go_wp2_with (first | ((with_reducible refine gate_callee (f := 97) rfl ?_); refine goesL_ (some 38) rfl rfl Tryd.func97 (by kernel_rfl) rfl #[.pointer (some ⟨g, 0, none⟩), .int .i64 3] rfl (by (try simp only [List.map_toArray, List.map_cons, List.map_nil]); first | done | rfl) ?_; refine (spec_l01Src_n.callsA g s0_0 t474 t475 t476 3 t513 t514 t515 t516 w0 _ _ A34.out).mono ?_; rintro e w37 ⟨rfl, hi, hb, hk⟩; refine ⟨_, rfl, ?_⟩; replace HI0 := hi; replace HB := hb; replace HK := hk; clear hi hb hk) | ((with_reducible refine gate_callee (f := 97) rfl ?_); refine goesL_ (some 42) rfl rfl Tryd.func97 (by kernel_rfl) rfl #[.pointer (some ⟨g, 0, none⟩), .int .i64 52] rfl (by (try simp only [List.map_toArray, List.map_cons, List.map_nil]); first | done | rfl) ?_; refine (spec_l01Src_n.callsA g s0_0 t514 t515 t516 52 t517 t518 t519 t520 w0 _ _ A35.out).mono ?_; rintro e w38 ⟨rfl, hi, hb, hk⟩; refine ⟨_, rfl, ?_⟩; replace HI0 := hi; replace HB := hb; replace HK := hk; clear hi hb hk) | ((with_reducible refine gate_callee (f := 97) rfl ?_); refine goesL_ (some 46) rfl rfl Tryd.func97 (by kernel_rfl) rfl #[.pointer (some ⟨g, 0, none⟩), .int .i64 2] rfl (by (try simp only [List.map_toArray, List.map_cons, List.map_nil]); first | done | rfl) ?_; refine (spec_l01Src_n.callsA g s0_0 t518 t519 t520 2 t521 t522 t523 t524 w0 _ _ A36.out).mono ?_; rintro e w39 ⟨rfl, hi, hb, hk⟩; refine ⟨_, rfl, ?_⟩; replace HI0 := hi; replace HB := hb; replace HK := hk; clear hi hb hk))
    go_ret
    exact ⟨by first | rfl | (simp [errW_none, errW_some] <;> rfl) | (simp [*, errW_none, errW_some] <;> rfl), isA, belowI, keepA⟩
   rw [if_neg c33] at H; have c33b0 : (t473 == 3) = false := beq_eq_false_iff_ne.mpr c33; have c33b1 : (t473 != 3) = true := bne_iff_ne.mpr c33
   by_cases c40 : t473 = 4
   ·rw [if_pos c40] at H
    have c40b0 : (t473 == 4) = true := beq_iff_eq.mpr c40; have c40b1 : (t473 != 4) = false := bne_eq_false_iff_eq.mpr c40; clear c40; replace H := Option.bind_eq_some_iff.mp H; obtain ⟨⟨t525, t526, t527, t528⟩, A410, H⟩ := H
    try dsimp only at H
    have A41 := Aside0.mk A410; clear A410; replace H := Option.bind_eq_some_iff.mp H; obtain ⟨⟨t529, t530, t531, t532⟩, A420, H⟩ := H
    try dsimp only at H
    have A42 := Aside0.mk A420; clear A420; replace H := Option.bind_eq_some_iff.mp H; obtain ⟨⟨t533, t534, t535, t536⟩, A430, H⟩ := H
    try dsimp only at H
    have A43 := Aside0.mk A430; clear A430; replace H := Option.bind_eq_some_iff.mp H; obtain ⟨⟨t537, t538, t539, t540⟩, A440, H⟩ := H
    try dsimp only at H
    have A44 := Aside0.mk A440; clear A440; obtain ⟨y541, hy541⟩ : ∃ y_ : List Int, y_ = (([wrap64 (9728 + t525), wrap64 (9984 + t529), wrap64 (10016 + t533), wrap64 (10032 + t537), 8064, 160] : List Int)) := ⟨_, rfl⟩
    replace H : ((spec_l01Src_n.f s0_0 t538 t539 t540 6).bind fun bt544 => (if 0 ≤ bt544.1 then (if bt544.1 < (y541.length : Int) then (some (rd y541 bt544.1, bt544.2.1, bt544.2.2.1, bt544.2.2.2)) else (none)) else (none))) = some (r1, r2, r3, r4) := by first | (rw [hy541]; with_reducible exact H) | (have H2_ := (Option.bind_some _ _).symm.trans H; rw [hy541]; with_reducible exact H2_) | (have H2_ := (Option.bind_some _ _).symm.trans H; with_reducible exact H2_) | with_reducible exact H | (rw [hy541]; exact H) | exact H
    have Ny541 := Aside0.mk hy541; clear hy541; replace H := Option.bind_eq_some_iff.mp H; obtain ⟨⟨t544, t545, t546, t547⟩, A450, H⟩ := H
    try dsimp only at H
    have A45 := Aside0.mk A450; clear A450
    by_cases c46 : 0 ≤ t544
    ·rw [if_pos c46] at H
     have c46b0 : decide (0 ≤ t544) = true := decide_eq_true c46; clear c46
     by_cases c47 : t544 < (y541.length : Int)
     ·rw [if_pos c47] at H
      have c47b0 : decide (t544 < (y541.length : Int)) = true := decide_eq_true c47; clear c47; simp only [Option.some.injEq, Prod.mk.injEq] at H; obtain ⟨rfl, rfl, rfl, rfl⟩ := H
      go_wp2_with (first | ((with_reducible refine gate_callee (f := 97) rfl ?_); refine goesL_ (some 51) rfl rfl Tryd.func97 (by kernel_rfl) rfl #[.pointer (some ⟨g, 0, none⟩), .int .i64 26] rfl (by (try simp only [List.map_toArray, List.map_cons, List.map_nil]); first | done | rfl) ?_; refine (spec_l01Src_n.callsA g s0_0 t474 t475 t476 26 t525 t526 t527 t528 w0 _ _ A41.out).mono ?_; rintro e w48 ⟨rfl, hi, hb, hk⟩; refine ⟨_, rfl, ?_⟩; replace HI0 := hi; replace HB := hb; replace HK := hk; clear hi hb hk) | ((with_reducible refine gate_callee (f := 97) rfl ?_); refine goesL_ (some 54) rfl rfl Tryd.func97 (by kernel_rfl) rfl #[.pointer (some ⟨g, 0, none⟩), .int .i64 3] rfl (by (try simp only [List.map_toArray, List.map_cons, List.map_nil]); first | done | rfl) ?_; refine (spec_l01Src_n.callsA g s0_0 t526 t527 t528 3 t529 t530 t531 t532 w0 _ _ A42.out).mono ?_; rintro e w49 ⟨rfl, hi, hb, hk⟩; refine ⟨_, rfl, ?_⟩; replace HI0 := hi; replace HB := hb; replace HK := hk; clear hi hb hk) | ((with_reducible refine gate_callee (f := 97) rfl ?_); refine goesL_ (some 57) rfl rfl Tryd.func97 (by kernel_rfl) rfl #[.pointer (some ⟨g, 0, none⟩), .int .i64 3] rfl (by (try simp only [List.map_toArray, List.map_cons, List.map_nil]); first | done | rfl) ?_; refine (spec_l01Src_n.callsA g s0_0 t530 t531 t532 3 t533 t534 t535 t536 w0 _ _ A43.out).mono ?_; rintro e w50 ⟨rfl, hi, hb, hk⟩; refine ⟨_, rfl, ?_⟩; replace HI0 := hi; replace HB := hb; replace HK := hk; clear hi hb hk) | ((with_reducible refine gate_callee (f := 97) rfl ?_); refine goesL_ (some 60) rfl rfl Tryd.func97 (by kernel_rfl) rfl #[.pointer (some ⟨g, 0, none⟩), .int .i64 4] rfl (by (try simp only [List.map_toArray, List.map_cons, List.map_nil]); first | done | rfl) ?_; refine (spec_l01Src_n.callsA g s0_0 t534 t535 t536 4 t537 t538 t539 t540 w0 _ _ A44.out).mono ?_; rintro e w51 ⟨rfl, hi, hb, hk⟩; refine ⟨_, rfl, ?_⟩; replace HI0 := hi; replace HB := hb; replace HK := hk; clear hi hb hk) | ((with_reducible refine gate_dst (N := 62) rfl ?_); refine Kd.R_lit (Kd.int .i64) _ 2 ?hg (N := 62) ?hd (xs := ([wrap64 (9728 + t525), wrap64 (9984 + t529), wrap64 (10016 + t533), wrap64 (10032 + t537), 8064, 160] : List Int)) (inner := [.int .i64 (wrap64 (9728 + t525)), .int .i64 (wrap64 (9984 + t529)), .int .i64 (wrap64 (10016 + t533)), .int .i64 (wrap64 (10032 + t537)), .int .i64 8064, .int .i64 160]) (ok := fun _ => True) (okp := fun _ => True) ?hr ?hp (fun _ hk => hk) trivial (Below.refl _ _) (Nat.le_refl _) (by simp) ?_; (case hd => rfl); (case hg => rfl); (case hr => first | (go_simp; done) | (go_simp; rfl)); (case hp => exact (Reps.one (show Kd.M (Kd.int .i64) _ _ _ (wrap64 (9728 + t525)) [.int .i64 (wrap64 (9728 + t525))] from rfl) (Reps.one (show Kd.M (Kd.int .i64) _ _ _ (wrap64 (9984 + t529)) [.int .i64 (wrap64 (9984 + t529))] from rfl) (Reps.one (show Kd.M (Kd.int .i64) _ _ _ (wrap64 (10016 + t533)) [.int .i64 (wrap64 (10016 + t533))] from rfl) (Reps.one (show Kd.M (Kd.int .i64) _ _ _ (wrap64 (10032 + t537)) [.int .i64 (wrap64 (10032 + t537))] from rfl) (Reps.one (show Kd.M (Kd.int .i64) _ _ _ 8064 [.int .i64 8064] from rfl) (Reps.one (show Kd.M (Kd.int .i64) _ _ _ 160 [.int .i64 160] from rfl) (Reps.none _ _)))))))); intro v542 w52 ho53 hb hg_ hnew_; clear hg_ hnew_; (first | rw [← Ny541.out] at ho53 | (simp only [Int.reduceToNat] at ho53; rw [← Ny541.out] at ho53)); have n0_ := Aside0.mk (Kd.R_lower ho53 (keep_size (w := w) (g := g) (row := none) (keepA))); have n1_ := Aside0.mk (IsS95.below (isA) hb); have n2_ := Aside0.mk (KeepBut.trans (keepA) (KeepBut.of_below hb g none) (.inl rfl)); have n3_ := Aside0.mk (below_step (belowI) hb); clear HI0; clear HK; clear HB; have HO543 := n0_; have HI0 := n1_; have HK := n2_; have HB := n3_; clear n0_ n1_ n2_ n3_; clear hb ho53) | ((with_reducible refine gate_callee (f := 97) rfl ?_); refine goesL_ (some 64) rfl rfl Tryd.func97 (by kernel_rfl) rfl #[.pointer (some ⟨g, 0, none⟩), .int .i64 6] rfl (by (try simp only [List.map_toArray, List.map_cons, List.map_nil]); first | done | rfl) ?_; (with_reducible refine (spec_l01Src_n.calls g s0_0 t538 t539 t540 6 t544 t545 t546 t547 w0 _ ?side1 ?side2 A45.out).mono ?_); (case side1 => exact isA); (case side2 => exact belowI); rintro e w54 ⟨rfl, hi, hb, hk⟩; refine ⟨_, rfl, ?_⟩; have n0_ := Aside0.mk (Kd.R_mono (Kd.R_keep (IsS95.apart (show IsS95 w0 _ g s0_0 t538 t539 t540 from isA) (by (with_reducible repeat (first | apply Kd.R_alloc | apply Kd.R_drewN | apply Kd.R_drew)); exact HO543.out) (by decide)) hk (fun _ h => h.2)) (fun _ h => h.1)); have n1_ := Aside0.mk (KeepBut.trans (keepA) hk (.inl rfl)); have n2_ := Aside0.mk (hb); have n3_ := Aside0.mk (hi); clear HO543; clear HK; clear HB; clear HI0; have HO543 := n0_; have HK := n1_; have HB := n2_; have HI0 := n3_; clear n0_ n1_ n2_ n3_; (try clear hb); (try clear hb2); (try clear hk); (try clear hi); obtain ⟨Ao55, co55, eo55⟩ := Kd.R_slice HO543.out; subst eo55; have p548 : 0 ≤ (t544 : Int) := of_decide_eq_true (by first | (with_reducible assumption) | assumption); have q548 : t544 < (y541.length : Int) := of_decide_eq_true (by first | (with_reducible assumption) | assumption); obtain ⟨ad548, e548, hx548_0⟩ := Kd.at_int (Kd.R_reads' HO543.out).2.2 t544 p548 q548; cases e548; replace p548 := eq_true p548; replace q548 := eq_true q548))
      go_ret
      exact ⟨by first | rfl | (simp [errW_none, errW_some] <;> rfl) | (simp [*, errW_none, errW_some] <;> rfl), isA, belowI, keepA⟩
     rw [if_neg c47] at H
     exact absurd H (by simp)
    rw [if_neg c46] at H
    exact absurd H (by simp)
   rw [if_neg c40] at H; have c40b0 : (t473 == 4) = false := beq_eq_false_iff_ne.mpr c40; have c40b1 : (t473 != 4) = true := bne_iff_ne.mpr c40
   by_cases c56 : t473 = 5
   ·rw [if_pos c56] at H
    have c56b0 : (t473 == 5) = true := beq_iff_eq.mpr c56; have c56b1 : (t473 != 5) = false := bne_eq_false_iff_eq.mpr c56; clear c56; replace H := Option.bind_eq_some_iff.mp H; obtain ⟨⟨t549, t550, t551, t552⟩, A570, H⟩ := H
    try dsimp only at H
    have A57 := Aside0.mk A570; clear A570; replace H := Option.bind_eq_some_iff.mp H; obtain ⟨⟨t553, t554, t555, t556⟩, A580, H⟩ := H
    try dsimp only at H
    have A58 := Aside0.mk A580; clear A580; replace H := Option.bind_eq_some_iff.mp H; obtain ⟨⟨t557, t558, t559, t560⟩, A590, H⟩ := H
    try dsimp only at H
    have A59 := Aside0.mk A590; clear A590; obtain ⟨y561, hy561⟩ : ∃ y_ : List Int, y_ = (([wrap64 (1792 + t549), wrap64 (1824 + t553), wrap64 (1857 + t557), 1810, 1844, 1883] : List Int)) := ⟨_, rfl⟩
    replace H : ((spec_l01Src_n.f s0_0 t558 t559 t560 6).bind fun bt564 => (if 0 ≤ bt564.1 then (if bt564.1 < (y561.length : Int) then (some (rd y561 bt564.1, bt564.2.1, bt564.2.2.1, bt564.2.2.2)) else (none)) else (none))) = some (r1, r2, r3, r4) := by first | (rw [hy561]; with_reducible exact H) | (have H2_ := (Option.bind_some _ _).symm.trans H; rw [hy561]; with_reducible exact H2_) | (have H2_ := (Option.bind_some _ _).symm.trans H; with_reducible exact H2_) | with_reducible exact H | (rw [hy561]; exact H) | exact H
    have Ny561 := Aside0.mk hy561; clear hy561; replace H := Option.bind_eq_some_iff.mp H; obtain ⟨⟨t564, t565, t566, t567⟩, A600, H⟩ := H
    try dsimp only at H
    have A60 := Aside0.mk A600; clear A600
    by_cases c61 : 0 ≤ t564
    ·rw [if_pos c61] at H
     have c61b0 : decide (0 ≤ t564) = true := decide_eq_true c61; clear c61
     by_cases c62 : t564 < (y561.length : Int)
     ·rw [if_pos c62] at H
      have c62b0 : decide (t564 < (y561.length : Int)) = true := decide_eq_true c62; clear c62; simp only [Option.some.injEq, Prod.mk.injEq] at H; obtain ⟨rfl, rfl, rfl, rfl⟩ := H
      go_wp2_with (first | ((with_reducible refine gate_callee (f := 97) rfl ?_); refine goesL_ (some 70) rfl rfl Tryd.func97 (by kernel_rfl) rfl #[.pointer (some ⟨g, 0, none⟩), .int .i64 2] rfl (by (try simp only [List.map_toArray, List.map_cons, List.map_nil]); first | done | rfl) ?_; refine (spec_l01Src_n.callsA g s0_0 t474 t475 t476 2 t549 t550 t551 t552 w0 _ _ A57.out).mono ?_; rintro e w63 ⟨rfl, hi, hb, hk⟩; refine ⟨_, rfl, ?_⟩; replace HI0 := hi; replace HB := hb; replace HK := hk; clear hi hb hk) | ((with_reducible refine gate_callee (f := 97) rfl ?_); refine goesL_ (some 73) rfl rfl Tryd.func97 (by kernel_rfl) rfl #[.pointer (some ⟨g, 0, none⟩), .int .i64 2] rfl (by (try simp only [List.map_toArray, List.map_cons, List.map_nil]); first | done | rfl) ?_; refine (spec_l01Src_n.callsA g s0_0 t550 t551 t552 2 t553 t554 t555 t556 w0 _ _ A58.out).mono ?_; rintro e w64 ⟨rfl, hi, hb, hk⟩; refine ⟨_, rfl, ?_⟩; replace HI0 := hi; replace HB := hb; replace HK := hk; clear hi hb hk) | ((with_reducible refine gate_callee (f := 97) rfl ?_); refine goesL_ (some 76) rfl rfl Tryd.func97 (by kernel_rfl) rfl #[.pointer (some ⟨g, 0, none⟩), .int .i64 2] rfl (by (try simp only [List.map_toArray, List.map_cons, List.map_nil]); first | done | rfl) ?_; refine (spec_l01Src_n.callsA g s0_0 t554 t555 t556 2 t557 t558 t559 t560 w0 _ _ A59.out).mono ?_; rintro e w65 ⟨rfl, hi, hb, hk⟩; refine ⟨_, rfl, ?_⟩; replace HI0 := hi; replace HB := hb; replace HK := hk; clear hi hb hk) | ((with_reducible refine gate_dst (N := 78) rfl ?_); refine Kd.R_lit (Kd.int .i64) _ 2 ?hg (N := 78) ?hd (xs := ([wrap64 (1792 + t549), wrap64 (1824 + t553), wrap64 (1857 + t557), 1810, 1844, 1883] : List Int)) (inner := [.int .i64 (wrap64 (1792 + t549)), .int .i64 (wrap64 (1824 + t553)), .int .i64 (wrap64 (1857 + t557)), .int .i64 1810, .int .i64 1844, .int .i64 1883]) (ok := fun _ => True) (okp := fun _ => True) ?hr ?hp (fun _ hk => hk) trivial (Below.refl _ _) (Nat.le_refl _) (by simp) ?_; (case hd => rfl); (case hg => rfl); (case hr => first | (go_simp; done) | (go_simp; rfl)); (case hp => exact (Reps.one (show Kd.M (Kd.int .i64) _ _ _ (wrap64 (1792 + t549)) [.int .i64 (wrap64 (1792 + t549))] from rfl) (Reps.one (show Kd.M (Kd.int .i64) _ _ _ (wrap64 (1824 + t553)) [.int .i64 (wrap64 (1824 + t553))] from rfl) (Reps.one (show Kd.M (Kd.int .i64) _ _ _ (wrap64 (1857 + t557)) [.int .i64 (wrap64 (1857 + t557))] from rfl) (Reps.one (show Kd.M (Kd.int .i64) _ _ _ 1810 [.int .i64 1810] from rfl) (Reps.one (show Kd.M (Kd.int .i64) _ _ _ 1844 [.int .i64 1844] from rfl) (Reps.one (show Kd.M (Kd.int .i64) _ _ _ 1883 [.int .i64 1883] from rfl) (Reps.none _ _)))))))); intro v562 w66 ho67 hb hg_ hnew_; clear hg_ hnew_; (first | rw [← Ny561.out] at ho67 | (simp only [Int.reduceToNat] at ho67; rw [← Ny561.out] at ho67)); have n0_ := Aside0.mk (Kd.R_lower ho67 (keep_size (w := w) (g := g) (row := none) (keepA))); have n1_ := Aside0.mk (IsS95.below (isA) hb); have n2_ := Aside0.mk (KeepBut.trans (keepA) (KeepBut.of_below hb g none) (.inl rfl)); have n3_ := Aside0.mk (below_step (belowI) hb); clear HI0; clear HK; clear HB; have HO563 := n0_; have HI0 := n1_; have HK := n2_; have HB := n3_; clear n0_ n1_ n2_ n3_; clear hb ho67) | ((with_reducible refine gate_callee (f := 97) rfl ?_); refine goesL_ (some 80) rfl rfl Tryd.func97 (by kernel_rfl) rfl #[.pointer (some ⟨g, 0, none⟩), .int .i64 6] rfl (by (try simp only [List.map_toArray, List.map_cons, List.map_nil]); first | done | rfl) ?_; (with_reducible refine (spec_l01Src_n.calls g s0_0 t558 t559 t560 6 t564 t565 t566 t567 w0 _ ?side1 ?side2 A60.out).mono ?_); (case side1 => exact isA); (case side2 => exact belowI); rintro e w68 ⟨rfl, hi, hb, hk⟩; refine ⟨_, rfl, ?_⟩; have n0_ := Aside0.mk (Kd.R_mono (Kd.R_keep (IsS95.apart (show IsS95 w0 _ g s0_0 t558 t559 t560 from isA) (by (with_reducible repeat (first | apply Kd.R_alloc | apply Kd.R_drewN | apply Kd.R_drew)); exact HO563.out) (by decide)) hk (fun _ h => h.2)) (fun _ h => h.1)); have n1_ := Aside0.mk (KeepBut.trans (keepA) hk (.inl rfl)); have n2_ := Aside0.mk (hb); have n3_ := Aside0.mk (hi); clear HO563; clear HK; clear HB; clear HI0; have HO563 := n0_; have HK := n1_; have HB := n2_; have HI0 := n3_; clear n0_ n1_ n2_ n3_; (try clear hb); (try clear hb2); (try clear hk); (try clear hi); obtain ⟨Ao69, co69, eo69⟩ := Kd.R_slice HO563.out; subst eo69; have p568 : 0 ≤ (t564 : Int) := of_decide_eq_true (by first | (with_reducible assumption) | assumption); have q568 : t564 < (y561.length : Int) := of_decide_eq_true (by first | (with_reducible assumption) | assumption); obtain ⟨ad568, e568, hx568_0⟩ := Kd.at_int (Kd.R_reads' HO563.out).2.2 t564 p568 q568; cases e568; replace p568 := eq_true p568; replace q568 := eq_true q568))
      go_ret
      exact ⟨by first | rfl | (simp [errW_none, errW_some] <;> rfl) | (simp [*, errW_none, errW_some] <;> rfl), isA, belowI, keepA⟩
     rw [if_neg c62] at H
     exact absurd H (by simp)
    rw [if_neg c61] at H
    exact absurd H (by simp)
   rw [if_neg c56] at H; have c56b0 : (t473 == 5) = false := beq_eq_false_iff_ne.mpr c56; have c56b1 : (t473 != 5) = true := bne_iff_ne.mpr c56
   by_cases c70 : t473 = 6
   ·rw [if_pos c70] at H
    have c70b0 : (t473 == 6) = true := beq_iff_eq.mpr c70; have c70b1 : (t473 != 6) = false := bne_eq_false_iff_eq.mpr c70; clear c70; replace H := Option.bind_eq_some_iff.mp H; obtain ⟨⟨t569, t570, t571, t572⟩, A710, H⟩ := H
    try dsimp only at H
    have A71 := Aside0.mk A710; clear A710; replace H := Option.bind_eq_some_iff.mp H; obtain ⟨⟨t573, t574, t575, t576⟩, A720, H⟩ := H
    try dsimp only at H
    have A72 := Aside0.mk A720; clear A720; obtain ⟨y577, hy577⟩ : ∃ y_ : List Int, y_ = (([wrap64 (28 * t569), t573, 0, 11171] : List Int)) := ⟨_, rfl⟩
    replace H : ((spec_l01Src_n.f s0_0 t574 t575 t576 4).bind fun bt580 => (if 0 ≤ bt580.1 then (if bt580.1 < (y577.length : Int) then (some (wrap64 (12288 + (rd y577 bt580.1)), bt580.2.1, bt580.2.2.1, bt580.2.2.2)) else (none)) else (none))) = some (r1, r2, r3, r4) := by first | (rw [hy577]; with_reducible exact H) | (have H2_ := (Option.bind_some _ _).symm.trans H; rw [hy577]; with_reducible exact H2_) | (have H2_ := (Option.bind_some _ _).symm.trans H; with_reducible exact H2_) | with_reducible exact H | (rw [hy577]; exact H) | exact H
    have Ny577 := Aside0.mk hy577; clear hy577; replace H := Option.bind_eq_some_iff.mp H; obtain ⟨⟨t580, t581, t582, t583⟩, A730, H⟩ := H
    try dsimp only at H
    have A73 := Aside0.mk A730; clear A730
    by_cases c74 : 0 ≤ t580
    ·rw [if_pos c74] at H
     have c74b0 : decide (0 ≤ t580) = true := decide_eq_true c74; clear c74
     by_cases c75 : t580 < (y577.length : Int)
     ·rw [if_pos c75] at H
      have c75b0 : decide (t580 < (y577.length : Int)) = true := decide_eq_true c75; clear c75; simp only [Option.some.injEq, Prod.mk.injEq] at H; obtain ⟨rfl, rfl, rfl, rfl⟩ := H
      go_wp2_with (first | ((with_reducible refine gate_callee (f := 97) rfl ?_); refine goesL_ (some 86) rfl rfl Tryd.func97 (by kernel_rfl) rfl #[.pointer (some ⟨g, 0, none⟩), .int .i64 399] rfl (by (try simp only [List.map_toArray, List.map_cons, List.map_nil]); first | done | rfl) ?_; refine (spec_l01Src_n.callsA g s0_0 t474 t475 t476 399 t569 t570 t571 t572 w0 _ _ A71.out).mono ?_; rintro e w76 ⟨rfl, hi, hb, hk⟩; refine ⟨_, rfl, ?_⟩; replace HI0 := hi; replace HB := hb; replace HK := hk; clear hi hb hk) | ((with_reducible refine gate_callee (f := 97) rfl ?_); refine goesL_ (some 89) rfl rfl Tryd.func97 (by kernel_rfl) rfl #[.pointer (some ⟨g, 0, none⟩), .int .i64 11172] rfl (by (try simp only [List.map_toArray, List.map_cons, List.map_nil]); first | done | rfl) ?_; refine (spec_l01Src_n.callsA g s0_0 t570 t571 t572 11172 t573 t574 t575 t576 w0 _ _ A72.out).mono ?_; rintro e w77 ⟨rfl, hi, hb, hk⟩; refine ⟨_, rfl, ?_⟩; replace HI0 := hi; replace HB := hb; replace HK := hk; clear hi hb hk) | ((with_reducible refine gate_dst (N := 90) rfl ?_); refine Kd.R_lit (Kd.int .i64) _ 2 ?hg (N := 90) ?hd (xs := ([wrap64 (28 * t569), t573, 0, 11171] : List Int)) (inner := [.int .i64 (wrap64 (28 * t569)), .int .i64 t573, .int .i64 0, .int .i64 11171]) (ok := fun _ => True) (okp := fun _ => True) ?hr ?hp (fun _ hk => hk) trivial (Below.refl _ _) (Nat.le_refl _) (by simp) ?_; (case hd => rfl); (case hg => rfl); (case hr => first | (go_simp; done) | (go_simp; rfl)); (case hp => exact (Reps.one (show Kd.M (Kd.int .i64) _ _ _ (wrap64 (28 * t569)) [.int .i64 (wrap64 (28 * t569))] from rfl) (Reps.one (show Kd.M (Kd.int .i64) _ _ _ t573 [.int .i64 t573] from rfl) (Reps.one (show Kd.M (Kd.int .i64) _ _ _ 0 [.int .i64 0] from rfl) (Reps.one (show Kd.M (Kd.int .i64) _ _ _ 11171 [.int .i64 11171] from rfl) (Reps.none _ _)))))); intro v578 w78 ho79 hb hg_ hnew_; clear hg_ hnew_; (first | rw [← Ny577.out] at ho79 | (simp only [Int.reduceToNat] at ho79; rw [← Ny577.out] at ho79)); have n0_ := Aside0.mk (Kd.R_lower ho79 (keep_size (w := w) (g := g) (row := none) (keepA))); have n1_ := Aside0.mk (IsS95.below (isA) hb); have n2_ := Aside0.mk (KeepBut.trans (keepA) (KeepBut.of_below hb g none) (.inl rfl)); have n3_ := Aside0.mk (below_step (belowI) hb); clear HI0; clear HK; clear HB; have HO579 := n0_; have HI0 := n1_; have HK := n2_; have HB := n3_; clear n0_ n1_ n2_ n3_; clear hb ho79) | ((with_reducible refine gate_callee (f := 97) rfl ?_); refine goesL_ (some 92) rfl rfl Tryd.func97 (by kernel_rfl) rfl #[.pointer (some ⟨g, 0, none⟩), .int .i64 4] rfl (by (try simp only [List.map_toArray, List.map_cons, List.map_nil]); first | done | rfl) ?_; (with_reducible refine (spec_l01Src_n.calls g s0_0 t574 t575 t576 4 t580 t581 t582 t583 w0 _ ?side1 ?side2 A73.out).mono ?_); (case side1 => exact isA); (case side2 => exact belowI); rintro e w80 ⟨rfl, hi, hb, hk⟩; refine ⟨_, rfl, ?_⟩; have n0_ := Aside0.mk (Kd.R_mono (Kd.R_keep (IsS95.apart (show IsS95 w0 _ g s0_0 t574 t575 t576 from isA) (by (with_reducible repeat (first | apply Kd.R_alloc | apply Kd.R_drewN | apply Kd.R_drew)); exact HO579.out) (by decide)) hk (fun _ h => h.2)) (fun _ h => h.1)); have n1_ := Aside0.mk (KeepBut.trans (keepA) hk (.inl rfl)); have n2_ := Aside0.mk (hb); have n3_ := Aside0.mk (hi); clear HO579; clear HK; clear HB; clear HI0; have HO579 := n0_; have HK := n1_; have HB := n2_; have HI0 := n3_; clear n0_ n1_ n2_ n3_; (try clear hb); (try clear hb2); (try clear hk); (try clear hi); obtain ⟨Ao81, co81, eo81⟩ := Kd.R_slice HO579.out; subst eo81; have p584 : 0 ≤ (t580 : Int) := of_decide_eq_true (by first | (with_reducible assumption) | assumption); have q584 : t580 < (y577.length : Int) := of_decide_eq_true (by first | (with_reducible assumption) | assumption); obtain ⟨ad584, e584, hx584_0⟩ := Kd.at_int (Kd.R_reads' HO579.out).2.2 t580 p584 q584; cases e584; replace p584 := eq_true p584; replace q584 := eq_true q584))
      go_ret
      exact ⟨by first | rfl | (simp [errW_none, errW_some] <;> rfl) | (simp [*, errW_none, errW_some] <;> rfl), isA, belowI, keepA⟩
     rw [if_neg c75] at H
     exact absurd H (by simp)
    rw [if_neg c74] at H
    exact absurd H (by simp)
   rw [if_neg c70] at H; have c70b0 : (t473 == 6) = false := beq_eq_false_iff_ne.mpr c70; have c70b1 : (t473 != 6) = true := bne_iff_ne.mpr c70; replace H := Option.bind_eq_some_iff.mp H; obtain ⟨⟨t585, t586, t587, t588⟩, A820, H⟩ := H
   try dsimp only at H
   have A82 := Aside0.mk A820; clear A820; replace H := Option.bind_eq_some_iff.mp H; obtain ⟨⟨t589, t590, t591, t592⟩, A830, H⟩ := H
   try dsimp only at H
   have A83 := Aside0.mk A830; clear A830; obtain ⟨y593, hy593⟩ : ∃ y_ : List Int, y_ = (([1584, 1585, 1536, t585, t589] : List Int)) := ⟨_, rfl⟩
   replace H : ((spec_l01Src_n.f s0_0 t590 t591 t592 5).bind fun bt596 => (if 0 ≤ bt596.1 then (if bt596.1 < (y593.length : Int) then (some (rd y593 bt596.1, bt596.2.1, bt596.2.2.1, bt596.2.2.2)) else (none)) else (none))) = some (r1, r2, r3, r4) := by first | (rw [hy593]; with_reducible exact H) | (have H2_ := (Option.bind_some _ _).symm.trans H; rw [hy593]; with_reducible exact H2_) | (have H2_ := (Option.bind_some _ _).symm.trans H; with_reducible exact H2_) | with_reducible exact H | (rw [hy593]; exact H) | exact H
   have Ny593 := Aside0.mk hy593; clear hy593; replace H := Option.bind_eq_some_iff.mp H; obtain ⟨⟨t596, t597, t598, t599⟩, A840, H⟩ := H
   try dsimp only at H
   have A84 := Aside0.mk A840; clear A840
   by_cases c85 : 0 ≤ t596
   ·rw [if_pos c85] at H
    have c85b0 : decide (0 ≤ t596) = true := decide_eq_true c85; clear c85
    by_cases c86 : t596 < (y593.length : Int)
    ·rw [if_pos c86] at H
     have c86b0 : decide (t596 < (y593.length : Int)) = true := decide_eq_true c86; clear c86; simp only [Option.some.injEq, Prod.mk.injEq] at H; obtain ⟨rfl, rfl, rfl, rfl⟩ := H
     go_wp2_with (first | ((with_reducible refine gate_callee (f := 144) rfl ?_); refine goesL_ (some 97) rfl rfl Tryd.func144 (by kernel_rfl) rfl #[.pointer (some ⟨g, 0, none⟩)] rfl (by (try simp only [List.map_toArray, List.map_cons, List.map_nil]); first | done | rfl) ?_; (with_reducible refine (spec_l01Src_point.calls kj15 g s0_0 t474 t475 t476 t585 t586 t587 t588 w0 _ ?side1 ?side2 A82.out).mono ?_); (case side1 => exact isA); (case side2 => exact belowI); rintro e w87 ⟨rfl, hi, hb, hk⟩; refine ⟨_, rfl, ?_⟩; have n0_ := Aside0.mk (KeepBut.trans (keepA) hk (.inl rfl)); have n1_ := Aside0.mk (hb); have n2_ := Aside0.mk (hi); clear HK; clear HB; clear HI0; have HK := n0_; have HB := n1_; have HI0 := n2_; clear n0_ n1_ n2_; (try clear hb); (try clear hb2); (try clear hk); (try clear hi)) | ((with_reducible refine gate_callee (f := 144) rfl ?_); refine goesL_ (some 99) rfl rfl Tryd.func144 (by kernel_rfl) rfl #[.pointer (some ⟨g, 0, none⟩)] rfl (by (try simp only [List.map_toArray, List.map_cons, List.map_nil]); first | done | rfl) ?_; (with_reducible refine (spec_l01Src_point.calls kj15 g s0_0 t586 t587 t588 t589 t590 t591 t592 w0 _ ?side1 ?side2 A83.out).mono ?_); (case side1 => exact isA); (case side2 => exact belowI); rintro e w88 ⟨rfl, hi, hb, hk⟩; refine ⟨_, rfl, ?_⟩; have n0_ := Aside0.mk (KeepBut.trans (keepA) hk (.inl rfl)); have n1_ := Aside0.mk (hb); have n2_ := Aside0.mk (hi); clear HK; clear HB; clear HI0; have HK := n0_; have HB := n1_; have HI0 := n2_; clear n0_ n1_ n2_; (try clear hb); (try clear hb2); (try clear hk); (try clear hi)) | ((with_reducible refine gate_dst (N := 100) rfl ?_); refine Kd.R_lit (Kd.int .i64) _ 2 ?hg (N := 100) ?hd (xs := ([1584, 1585, 1536, t585, t589] : List Int)) (inner := [.int .i64 1584, .int .i64 1585, .int .i64 1536, .int .i64 t585, .int .i64 t589]) (ok := fun _ => True) (okp := fun _ => True) ?hr ?hp (fun _ hk => hk) trivial (Below.refl _ _) (Nat.le_refl _) (by simp) ?_; (case hd => rfl); (case hg => rfl); (case hr => first | (go_simp; done) | (go_simp; rfl)); (case hp => exact (Reps.one (show Kd.M (Kd.int .i64) _ _ _ 1584 [.int .i64 1584] from rfl) (Reps.one (show Kd.M (Kd.int .i64) _ _ _ 1585 [.int .i64 1585] from rfl) (Reps.one (show Kd.M (Kd.int .i64) _ _ _ 1536 [.int .i64 1536] from rfl) (Reps.one (show Kd.M (Kd.int .i64) _ _ _ t585 [.int .i64 t585] from rfl) (Reps.one (show Kd.M (Kd.int .i64) _ _ _ t589 [.int .i64 t589] from rfl) (Reps.none _ _))))))); intro v594 w89 ho90 hb hg_ hnew_; clear hg_ hnew_; (first | rw [← Ny593.out] at ho90 | (simp only [Int.reduceToNat] at ho90; rw [← Ny593.out] at ho90)); have n0_ := Aside0.mk (Kd.R_lower ho90 (keep_size (w := w) (g := g) (row := none) (keepA))); have n1_ := Aside0.mk (IsS95.below (isA) hb); have n2_ := Aside0.mk (KeepBut.trans (keepA) (KeepBut.of_below hb g none) (.inl rfl)); have n3_ := Aside0.mk (below_step (belowI) hb); clear HI0; clear HK; clear HB; have HO595 := n0_; have HI0 := n1_; have HK := n2_; have HB := n3_; clear n0_ n1_ n2_ n3_; clear hb ho90) | ((with_reducible refine gate_callee (f := 97) rfl ?_); refine goesL_ (some 102) rfl rfl Tryd.func97 (by kernel_rfl) rfl #[.pointer (some ⟨g, 0, none⟩), .int .i64 5] rfl (by (try simp only [List.map_toArray, List.map_cons, List.map_nil]); first | done | rfl) ?_; (with_reducible refine (spec_l01Src_n.calls g s0_0 t590 t591 t592 5 t596 t597 t598 t599 w0 _ ?side1 ?side2 A84.out).mono ?_); (case side1 => exact isA); (case side2 => exact belowI); rintro e w91 ⟨rfl, hi, hb, hk⟩; refine ⟨_, rfl, ?_⟩; have n0_ := Aside0.mk (Kd.R_mono (Kd.R_keep (IsS95.apart (show IsS95 w0 _ g s0_0 t590 t591 t592 from isA) (by (with_reducible repeat (first | apply Kd.R_alloc | apply Kd.R_drewN | apply Kd.R_drew)); exact HO595.out) (by decide)) hk (fun _ h => h.2)) (fun _ h => h.1)); have n1_ := Aside0.mk (KeepBut.trans (keepA) hk (.inl rfl)); have n2_ := Aside0.mk (hb); have n3_ := Aside0.mk (hi); clear HO595; clear HK; clear HB; clear HI0; have HO595 := n0_; have HK := n1_; have HB := n2_; have HI0 := n3_; clear n0_ n1_ n2_ n3_; (try clear hb); (try clear hb2); (try clear hk); (try clear hi); obtain ⟨Ao92, co92, eo92⟩ := Kd.R_slice HO595.out; subst eo92; have p600 : 0 ≤ (t596 : Int) := of_decide_eq_true (by first | (with_reducible assumption) | assumption); have q600 : t596 < (y593.length : Int) := of_decide_eq_true (by first | (with_reducible assumption) | assumption); obtain ⟨ad600, e600, hx600_0⟩ := Kd.at_int (Kd.R_reads' HO595.out).2.2 t596 p600 q600; cases e600; replace p600 := eq_true p600; replace q600 := eq_true q600))
     go_ret
     exact ⟨by first | rfl | (simp [errW_none, errW_some] <;> rfl) | (simp [*, errW_none, errW_some] <;> rfl), isA, belowI, keepA⟩
    rw [if_neg c86] at H
    exact absurd H (by simp)
   rw [if_neg c85] at H
   exact absurd H (by simp)

set_option maxHeartbeats 8000000 in
theorem spec_l01Src_part.tot (k : Nat) (l : List Int) (a m z : Int) (hl : l.length ≤ 140737488355328) (h0 : 0 ≤ a) (h1 : a ≤ (l.length : Int)) :
    YtdkoofdfkhogoaaDoorPts.Tot (spec_l01Src_part.f (k + 10) l a m z) (fun r => 0 ≤ r.2.1 ∧ r.2.1 ≤ (l.length : Int) ∧ r.2.2.2 = z) := by
  unfold spec_l01Src_part.f
  refine YtdkoofdfkhogoaaDoorPts.Tot.bind (spec_l01Src_n.tot l a m z 8 hl h0 h1 (by decide)) ?_
  rintro ⟨v, a1, m1, z1⟩ ⟨h2, h3, h4, h5, h6⟩
  dsimp only at h2 h3 h4 h5 h6 ⊢
  subst h6
  clear h0 h1
  have leaf : ∀ (b c d e : Int), 0 ≤ c ∧ c ≤ (l.length : Int) ∧ e = z1 → YtdkoofdfkhogoaaDoorPts.Tot (some (b, c, d, e)) (fun r : Int × Int × Int × Int => 0 ≤ r.2.1 ∧ r.2.1 ≤ (l.length : Int) ∧ r.2.2.2 = z1) := fun _ _ _ _ h => YtdkoofdfkhogoaaDoorPts.Tot.mk h
  repeat' first
    | exact leaf _ _ _ _ ⟨by assumption, by assumption, rfl⟩
    | (refine YtdkoofdfkhogoaaDoorPts.Tot.bind (spec_l01Src_n.tot l _ _ _ _ hl (by assumption) (by assumption) (by decide)) ?_; rintro ⟨w, aw, mw, zw⟩ ⟨q1, q2, q3, q4, q5⟩; dsimp only at q1 q2 q3 q4 q5 ⊢; subst q5)
    | (refine YtdkoofdfkhogoaaDoorPts.Tot.bind (spec_l01Src_point.tot k l _ _ _ hl (by assumption) (by assumption)) ?_; rintro ⟨w, aw, mw, zw⟩ ⟨q3, q4, q5⟩; dsimp only at q3 q4 q5 ⊢; subst q5)
    | (rw [Option.bind_some]; dsimp only [List.length_cons, List.length_nil])
    | (refine YtdkoofdfkhogoaaDoorPts.Tot.ite (fun hc => ?_) (fun hc => ?_))
    | (simp only [spec_l01Src_part.j0])
    | (exfalso; omega)

/-! ### spec_l01Src_partsText: function 119 -/
def spec_l01Src_partsText.l0 : Nat → List Int → Int → List Int → Int → Int → Int → Option (ByteArray × Int × Int × Int)
 | 0, _, _, _, _, _, _ => none
 | k + 1, x3, x4, x1000, x1001, x1002, x1003 => if x4 > 0 then ((spec_l01Src_part.f k x1000 x1001 x1002 x1003).bind fun bt608 => (if x3.length < 17592186044416 then (spec_l01Src_partsText.l0 k (x3 ++ [bt608.1]) (wrap64 (x4 - 1)) x1000 bt608.2.1 bt608.2.2.1 bt608.2.2.2) else (none))) else ((W_spec_l01Text.f x3).bind fun t615 => ((spec_l01Src_one.f x1000 x1001 x1002 x1003 15).bind fun bt616 => (if bt616.1 = true then ((spec_l01Src_spoil.f k x1000 bt616.2.1 bt616.2.2.1 bt616.2.2.2 t615).bind fun bt620 => (some (bt620.1, bt620.2.1, bt620.2.2.1, bt620.2.2.2))) else (some (t615, bt616.2.1, bt616.2.2.1, bt616.2.2.2)))))
def spec_l01Src_partsText.f (k : Nat) (s0_0 : List Int) (s0_1 : Int) (s0_2 : Int) (s0_3 : Int) : Option (ByteArray × Int × Int × Int) := (spec_l01Src_n.f s0_0 s0_1 s0_2 s0_3 (wrap64 (7 + (wrap64 (2 * s0_3))))).bind fun bt604 => (spec_l01Src_partsText.l0 k (([] : List Int)) bt604.1 s0_0 bt604.2.1 bt604.2.2.1 bt604.2.2.2)
theorem spec_l01Src_partsText.mono_l : ∀ k, (∀ y0 y1 y2 y3 y4 y5, LeO (spec_l01Src_partsText.l0 k y0 y1 y2 y3 y4 y5) (spec_l01Src_partsText.l0 (k + 1) y0 y1 y2 y3 y4 y5))
 | 0 => fun _ _ _ _ _ _ r h => by simp [spec_l01Src_partsText.l0] at h
 | k + 1 => by
  have ih0 := spec_l01Src_partsText.mono_l k; intro y0 y1 y2 y3 y4 y5
  unfold spec_l01Src_partsText.l0
  repeat' first
  | (with_reducible exact ih0 _ _ _ _ _ _)
  | (with_reducible exact spec_l01Src_part.mono _ _ _ _ _)
  | (with_reducible exact spec_l01Src_spoil.mono _ _ _ _ _ _)
  | (with_reducible exact LeO.refl _)
  | (with_reducible exact LeO.none _)
  | (with_reducible refine LeO.ite ?_ ?_)
  | (with_reducible refine LeO.bind ?_ (fun _ => ?_))
  | exact ih0 _ _ _ _ _ _
  | exact spec_l01Src_part.mono _ _ _ _ _
  | exact spec_l01Src_spoil.mono _ _ _ _ _ _
  | exact LeO.none _
  | refine LeO.ite ?_ ?_
  | refine LeO.bind ?_ (fun _ => ?_)
theorem spec_l01Src_partsText.mono : ∀ a0 a1 a2 a3 k, LeO (spec_l01Src_partsText.f k a0 a1 a2 a3) (spec_l01Src_partsText.f (k + 1) a0 a1 a2 a3) := by
 intro a0 a1 a2 a3 k
 have ih0 := spec_l01Src_partsText.mono_l k
 unfold spec_l01Src_partsText.f
 repeat' first
   | (with_reducible exact ih0 _ _ _ _ _ _)
   | (with_reducible exact spec_l01Src_part.mono _ _ _ _ _)
   | (with_reducible exact spec_l01Src_spoil.mono _ _ _ _ _ _)
   | (with_reducible exact LeO.refl _)
   | (with_reducible exact LeO.none _)
   | (with_reducible refine LeO.ite ?_ ?_)
   | (with_reducible refine LeO.bind ?_ (fun _ => ?_))
   | exact ih0 _ _ _ _ _ _
   | exact spec_l01Src_part.mono _ _ _ _ _
   | exact spec_l01Src_spoil.mono _ _ _ _ _ _
   | exact LeO.none _
   | refine LeO.ite ?_ ?_
   | refine LeO.bind ?_ (fun _ => ?_)
set_option maxHeartbeats 8000000 in
set_option maxRecDepth 100000 in
theorem spec_l01Src_partsText.calls (k : Nat) (g : Nat) (s0_0 : List Int) (s0_1 : Int) (s0_2 : Int) (s0_3 : Int) (r1 : ByteArray) (r2 : Int) (r3 : Int) (r4 : Int) (w0 w : World) (hI : IsS95 w0 w g s0_0 s0_1 s0_2 s0_3) (hB : Below w0.heap.size w0 w) (h : spec_l01Src_partsText.f k s0_0 s0_1 s0_2 s0_3 = some (r1, r2, r3, r4)) :
  Calls Tryd.prog 119 #[.pointer (some ⟨g, 0, none⟩)] w fun e w' => e = .returned (.string r1) ∧ IsS95 w0 w' g s0_0 r2 r3 r4 ∧ Below w0.heap.size w0 w' ∧ KeepBut w w' g none := by
 have HI0 := Aside0.mk hI
 have HK := Aside0.mk (KeepBut.refl w g none)
 have HL := Aside0.mk hB.size
 clear hI
 have HW0 := Aside0.mk hB.size
 have HB := Aside0.mk hB
 clear hB
 have H : ((spec_l01Src_n.f s0_0 s0_1 s0_2 s0_3 (wrap64 (7 + (wrap64 (2 * s0_3))))).bind fun bt604 => (spec_l01Src_partsText.l0 k (([] : List Int)) bt604.1 s0_0 bt604.2.1 bt604.2.2.1 bt604.2.2.2)) = some (r1, r2, r3, r4) := h
 clear h
 obtain ⟨y601, hy601⟩ : ∃ y_ : List Int, y_ = (([] : List Int)) := ⟨_, rfl⟩
 replace H : ((spec_l01Src_n.f s0_0 s0_1 s0_2 s0_3 (wrap64 (7 + (wrap64 (2 * s0_3))))).bind fun bt604 => (spec_l01Src_partsText.l0 k y601 bt604.1 s0_0 bt604.2.1 bt604.2.2.1 bt604.2.2.2)) = some (r1, r2, r3, r4) := by first | (rw [hy601]; with_reducible exact H) | (have H2_ := (Option.bind_some _ _).symm.trans H; rw [hy601]; with_reducible exact H2_) | (have H2_ := (Option.bind_some _ _).symm.trans H; with_reducible exact H2_) | with_reducible exact H | (rw [hy601]; exact H) | exact H
 have Ny601 := Aside0.mk hy601
 clear hy601
 replace H := Option.bind_eq_some_iff.mp H
 obtain ⟨⟨t604, t605, t606, t607⟩, A20, H⟩ := H
 try dsimp only at H
 have A2 := Aside0.mk A20
 clear A20
 have H' := Aside0.mk H
 clear H
 go_enter Tryd.func119, Tryd.ntmps119
 go_wp2_with (first | ((with_reducible refine gate_dst (N := 6) rfl ?_); refine Kd.R_lit (Kd.int .i64) _ 2 ?hg (N := 6) ?hd (xs := ([] : List Int)) (inner := []) (ok := fun _ => True) (okp := fun _ => True) ?hr ?hp (fun _ hk => hk) trivial (Below.refl _ _) (Nat.le_refl _) (by simp) ?_; (case hd => rfl); (case hg => rfl); (case hr => first | (go_simp; done) | (go_simp; rfl)); (case hp => exact (Reps.none _ _)); intro v602 w3 ho4 hb hg_ hnew_; clear hg_ hnew_; (first | rw [← Ny601.out] at ho4 | (simp only [Int.reduceToNat] at ho4; rw [← Ny601.out] at ho4)); have n0_ := Aside0.mk (Kd.R_lower ho4 (keep_size (w := w) (g := g) (row := none) (keepA))); have n1_ := Aside0.mk (IsS95.below (isA) hb); have n2_ := Aside0.mk (KeepBut.trans (keepA) (KeepBut.of_below hb g none) (.inl rfl)); have n3_ := Aside0.mk (below_step (belowI) hb); clear HI0; clear HK; clear HB; have HO603 := n0_; have HI0 := n1_; have HK := n2_; have HB := n3_; clear n0_ n1_ n2_ n3_; clear hb ho4; obtain ⟨ASz5_0, cSz5_0, HGz5, hgz5, HSz5_0⟩ := HI0.out; have hcz5_0 := cellS95_0 HGz5; have hcz5_1 := cellS95_1 HGz5; have hcz5_2 := cellS95_2 HGz5; have hcz5_3 := cellS95_3 HGz5; have hfz5_1 := blk_frozen HGz5 1; have hfz5_2 := blk_frozen HGz5 2; have hfz5_3 := blk_frozen HGz5 3; clear HGz5 hgz5) | ((with_reducible refine gate_callee (f := 97) rfl ?_); refine goesL_ (some 14) rfl rfl Tryd.func97 (by kernel_rfl) rfl #[.pointer (some ⟨g, 0, none⟩), .int .i64 (wrap64 (7 + (wrap64 (2 * s0_3))))] rfl (by (try simp only [List.map_toArray, List.map_cons, List.map_nil]); first | done | rfl) ?_; (with_reducible refine (spec_l01Src_n.calls g s0_0 s0_1 s0_2 s0_3 (wrap64 (7 + (wrap64 (2 * s0_3)))) t604 t605 t606 t607 w0 _ ?side1 ?side2 A2.out).mono ?_); (case side1 => exact isA); (case side2 => exact belowI); rintro e w6 ⟨rfl, hi, hb, hk⟩; refine ⟨_, rfl, ?_⟩; have n0_ := Aside0.mk (Kd.R_mono (Kd.R_keep (IsS95.apart (show IsS95 w0 _ g s0_0 s0_1 s0_2 s0_3 from isA) (by (with_reducible repeat (first | apply Kd.R_alloc | apply Kd.R_drewN | apply Kd.R_drew)); exact HO603.out) (by decide)) hk (fun _ h => h.2)) (fun _ h => h.1)); have n1_ := Aside0.mk (KeepBut.trans (keepA) hk (.inl rfl)); have n2_ := Aside0.mk (hb); have n3_ := Aside0.mk (hi); clear HO603; clear HK; clear HB; clear HI0; have HO603 := n0_; have HK := n1_; have HB := n2_; have HI0 := n3_; clear n0_ n1_ n2_ n3_; (try clear hb); (try clear hb2); (try clear hk); (try clear hi)))
 go_loopg [3, 4] k (fun kq v3 v4 w' => ∃ (x3_1 : List Int) (x4_1 : Int) (x1001_1 : Int) (x1002_1 : Int) (x1003_1 : Int), v4 = .int .i64 x4_1 ∧ Aside0 (spec_l01Src_partsText.l0 kq x3_1 x4_1 s0_0 x1001_1 x1002_1 x1003_1 = some (r1, r2, r3, r4)) ∧ Aside0 (kq ≤ k) ∧ Aside0 (Kd.R (Kd.int .i64) 2 w' w.heap.size (fun _ => True) v3 x3_1) ∧ Aside0 (IsS95 w0 w' g s0_0 x1001_1 x1002_1 x1003_1) ∧ Aside0 (KeepBut w w' g none) ∧ Aside0 (Below w0.heap.size w0 w'))
 case atStart => exact ⟨(y601), (t604), (t605), (t606), (t607), (by first | rfl | (simp; done) | (simp [*]; done)), H', ⟨Nat.le_refl _⟩, ⟨by (with_reducible repeat (first | apply Kd.R_alloc | apply Kd.R_drewN | apply Kd.R_drew)); exact HO603.out⟩, ⟨isA⟩, ⟨keepA⟩, ⟨belowI⟩⟩
 case round =>
  clear H'
  try clear c1; try clear p2; try clear p6; try clear hcz5_0; try clear hcz5_1; try clear hcz5_2; try clear hcz5_3; try clear hfz5_1; try clear hfz5_2; try clear hfz5_3
  obtain ⟨x3_1, x4_1, x1001_1, x1002_1, x1003_1, rfl, HA, HK1, HO_3, HI0, HK, HB⟩ := hrel
  cases gk with
  | zero => exact absurd HA.out (by simp [spec_l01Src_partsText.l0])
  | succ k1 =>
   have H := HA.out; clear HA; simp only [spec_l01Src_partsText.l0] at H
   by_cases c7 : x4_1 > 0
   ·rw [if_pos c7] at H
    have c7b0 : decide (0 < x4_1) = true := decide_eq_true c7; clear c7; replace H := Option.bind_eq_some_iff.mp H; obtain ⟨⟨t608, t609, t610, t611⟩, A80, H⟩ := H
    try dsimp only at H
    have A8 := Aside0.mk A80; clear A80
    by_cases c9 : x3_1.length < 17592186044416
    ·rw [if_pos c9] at H
     have LMc9 := Aside0.mk c9; clear c9; obtain ⟨y612, hy612⟩ : ∃ y_ : List Int, y_ = (x3_1 ++ [t608]) := ⟨_, rfl⟩
     replace H : (spec_l01Src_partsText.l0 k1 y612 (wrap64 (x4_1 - 1)) s0_0 t609 t610 t611) = some (r1, r2, r3, r4) := by first | (rw [hy612]; with_reducible exact H) | (have H2_ := (Option.bind_some _ _).symm.trans H; rw [hy612]; with_reducible exact H2_) | (have H2_ := (Option.bind_some _ _).symm.trans H; with_reducible exact H2_) | with_reducible exact H | (rw [hy612]; exact H) | exact H
     have Ny612 := Aside0.mk hy612; clear hy612; have H' := Aside0.mk H; clear H
     go_wp2_with (first | ((with_reducible refine gate_callee (f := 178) rfl ?_); refine goesL_ (some 21) rfl rfl Tryd.func178 (by kernel_rfl) rfl #[.pointer (some ⟨g, 0, none⟩)] rfl (by (try simp only [List.map_toArray, List.map_cons, List.map_nil]); first | done | rfl) ?_; (with_reducible refine (spec_l01Src_part.calls k1 g s0_0 x1001_1 x1002_1 x1003_1 t608 t609 t610 t611 w0 _ ?side1 ?side2 A8.out).mono ?_); (case side1 => exact isA); (case side2 => exact belowI); rintro e w10 ⟨rfl, hi, hb, hk⟩; refine ⟨_, rfl, ?_⟩; have n0_ := Aside0.mk (Kd.R_mono (Kd.R_keep (IsS95.apart (show IsS95 w0 _ g s0_0 x1001_1 x1002_1 x1003_1 from isA) (by (with_reducible repeat (first | apply Kd.R_alloc | apply Kd.R_drewN | apply Kd.R_drew)); exact HO_3.out) (by decide)) hk (fun _ h => h.2)) (fun _ h => h.1)); have n1_ := Aside0.mk (KeepBut.trans (keepA) hk (.inl rfl)); have n2_ := Aside0.mk (hb); have n3_ := Aside0.mk (hi); clear HO_3; clear HK; clear HB; clear HI0; have HO_3 := n0_; have HK := n1_; have HB := n2_; have HI0 := n3_; clear n0_ n1_ n2_ n3_; (try clear hb); (try clear hb2); (try clear hk); (try clear hi)) | ((with_reducible refine gate_builtin (b := .append) (xs := #[.tmp 19, .tmp 22]) rfl ?_); at_builtin; refine Kd.R_append (Kd.int .i64) w.heap.size rfl (.tmp 19) (.tmp 22) 29 2 (.int .i64 0) 8 rfl Tryd.underlying29 info2 rfl (by decide) (by omega) u3 x3_1 t608 [.int .i64 t608] (fun _ => True) (fun _ => False) rfl rfl ?aP (fun _ hk => hk.elim) ?aF ?aO (Below.refl _ _) ?aS ?aL ?_; (case aP => exact rfl); (case aF => exact (fun _ _ => trivial)); (case aO => exact (by (with_reducible repeat (first | apply Kd.R_alloc | apply Kd.R_drewN | apply Kd.R_drew)); exact HO_3.out)); (case aS => exact (keep_size (w := w) (g := g) (row := none) (keepA))); (case aL => have := LMc9.out; omega); intro v613 w11 ho hb hg hat; rw [← Ny612.out] at ho; have n0_ := Aside0.mk (IsS95.grown (isA) hg (IsS95.own_ne HI0.out HO_3.out (by decide))); have n1_ := Aside0.mk (below_weaken (belowI) HL.out hb); have n2_ := Aside0.mk (KeepBut.trans (keepA) (KeepBut.of_grown hg g) (Kd.R_base2 HO_3.out)); have n3_ := Aside0.mk (ho); clear HI0; clear HB; clear HK; clear HO_3; have HI0 := n0_; have HB := n1_; have HK := n2_; have HO614 := n3_; clear n0_ n1_ n2_ n3_; clear ho hb hg hat))
     go_roundg k1
     case measure => have := HK1.out; omega
     case rel => exact ⟨(y612), (wrap64 (x4_1 - 1)), (t609), (t610), (t611), (by first | rfl | (simp; done) | (simp [*]; done)), H', ⟨by have := HK1.out; omega⟩, ⟨by (with_reducible repeat (first | apply Kd.R_alloc | apply Kd.R_drewN | apply Kd.R_drew)); exact HO614.out⟩, ⟨isA⟩, ⟨keepA⟩, ⟨belowI⟩⟩
    rw [if_neg c9] at H
    exact absurd H (by simp)
   rw [if_neg c7] at H; have c7b0 : decide (0 < x4_1) = false := decide_eq_false c7; clear c7; replace H := Option.bind_eq_some_iff.mp H; obtain ⟨t615, A120, H⟩ := H
   try dsimp only at H
   have A12 := Aside0.mk A120; clear A120; replace H := Option.bind_eq_some_iff.mp H; obtain ⟨⟨t616, t617, t618, t619⟩, A130, H⟩ := H
   try dsimp only at H
   have A13 := Aside0.mk A130; clear A130
   by_cases c14 : t616 = true
   ·subst c14
    have H1 : ((spec_l01Src_spoil.f k1 s0_0 t617 t618 t619 t615).bind fun bt620 => (some (bt620.1, bt620.2.1, bt620.2.2.1, bt620.2.2.2))) = some (r1, r2, r3, r4) := by rw [if_pos rfl] at H; exact H
    clear H; have H := H1; clear H1; replace H := Option.bind_eq_some_iff.mp H; obtain ⟨⟨t620, t621, t622, t623⟩, A150, H⟩ := H
    try dsimp only at H
    have A15 := Aside0.mk A150; clear A150; simp only [Option.some.injEq, Prod.mk.injEq] at H; obtain ⟨rfl, rfl, rfl, rfl⟩ := H; obtain ⟨Ao16, co16, eo16⟩ := Kd.R_slice HO_3.out; subst eo16
    go_wp2_with (first | ((with_reducible refine gate_callee (f := 101) rfl ?_); refine goesL_ (some 25) rfl rfl Tryd.func101 (by kernel_rfl) rfl #[.slice Ao16 x3_1.length co16] rfl (by (try simp only [List.map_toArray, List.map_cons, List.map_nil]); first | done | rfl) ?_; (with_reducible refine (W_spec_l01Text.calls _ _ x3_1 t615 _ ?side1 ?side2 A12.out).mono ?_); (case side1 => repeat (first | exact (Kd.R_reads' HO_3.out).2.2 | (with_reducible refine Kd.C_alloc ?_ _) | (with_reducible refine Kd.C_drewN ?_ _) | (with_reducible refine Kd.C_drew ?_))); (case side2 => exact (Kd.R_reads' HO_3.out).2.1); rintro e w17 ⟨rfl, hb⟩; refine ⟨_, rfl, ?_⟩; have n0_ := Aside0.mk (Kd.R_below (by (with_reducible repeat (first | apply Kd.R_alloc | apply Kd.R_drewN | apply Kd.R_drew)); exact HO_3.out) hb); have n1_ := Aside0.mk (IsS95.below (isA) hb); have n2_ := Aside0.mk (KeepBut.trans (keepA) (KeepBut.of_below hb g none) (.inl rfl)); have n3_ := Aside0.mk (below_step (belowI) hb); clear HO_3; clear HI0; clear HK; clear HB; have HO_3 := n0_; have HI0 := n1_; have HK := n2_; have HB := n3_; clear n0_ n1_ n2_ n3_; (try clear hb); (try clear hb2); (try clear hk); (try clear hi)) | ((with_reducible refine gate_callee (f := 120) rfl ?_); refine goesL_ (some 27) rfl rfl Tryd.func120 (by kernel_rfl) rfl #[.pointer (some ⟨g, 0, none⟩), .int .i64 15] rfl (by (try simp only [List.map_toArray, List.map_cons, List.map_nil]); first | done | rfl) ?_; (with_reducible refine (spec_l01Src_one.calls g s0_0 x1001_1 x1002_1 x1003_1 15 true t617 t618 t619 w0 _ ?side1 ?side2 A13.out).mono ?_); (case side1 => exact isA); (case side2 => exact belowI); rintro e w18 ⟨rfl, hi, hb, hk⟩; refine ⟨_, rfl, ?_⟩; have n0_ := Aside0.mk (Kd.R_mono (Kd.R_keep (IsS95.apart (show IsS95 w0 _ g s0_0 x1001_1 x1002_1 x1003_1 from isA) (by (with_reducible repeat (first | apply Kd.R_alloc | apply Kd.R_drewN | apply Kd.R_drew)); exact HO_3.out) (by decide)) hk (fun _ h => h.2)) (fun _ h => h.1)); have n1_ := Aside0.mk (KeepBut.trans (keepA) hk (.inl rfl)); have n2_ := Aside0.mk (hb); have n3_ := Aside0.mk (hi); clear HO_3; clear HK; clear HB; clear HI0; have HO_3 := n0_; have HK := n1_; have HB := n2_; have HI0 := n3_; clear n0_ n1_ n2_ n3_; (try clear hb); (try clear hb2); (try clear hk); (try clear hi)) | ((with_reducible refine gate_callee (f := 148) rfl ?_); refine goesL_ (some 30) rfl rfl Tryd.func148 (by kernel_rfl) rfl #[.pointer (some ⟨g, 0, none⟩), .string t615] rfl (by (try simp only [List.map_toArray, List.map_cons, List.map_nil]); first | done | rfl) ?_; (with_reducible refine (spec_l01Src_spoil.calls k1 g s0_0 t617 t618 t619 t615 t620 t621 t622 t623 w0 _ ?side1 ?side2 A15.out).mono ?_); (case side1 => exact isA); (case side2 => exact belowI); rintro e w19 ⟨rfl, hi, hb, hk⟩; refine ⟨_, rfl, ?_⟩; have n0_ := Aside0.mk (Kd.R_mono (Kd.R_keep (IsS95.apart (show IsS95 w0 _ g s0_0 t617 t618 t619 from isA) (by (with_reducible repeat (first | apply Kd.R_alloc | apply Kd.R_drewN | apply Kd.R_drew)); exact HO_3.out) (by decide)) hk (fun _ h => h.2)) (fun _ h => h.1)); have n1_ := Aside0.mk (KeepBut.trans (keepA) hk (.inl rfl)); have n2_ := Aside0.mk (hb); have n3_ := Aside0.mk (hi); clear HO_3; clear HK; clear HB; clear HI0; have HO_3 := n0_; have HK := n1_; have HB := n2_; have HI0 := n3_; clear n0_ n1_ n2_ n3_; (try clear hb); (try clear hb2); (try clear hk); (try clear hi)))
    go_ret
    exact ⟨by first | rfl | (simp [errW_none, errW_some] <;> rfl) | (simp [*, errW_none, errW_some] <;> rfl), isA, belowI, keepA⟩
   replace c14 := Bool.eq_false_iff.mpr c14; subst c14
   have H1 : (some (t615, t617, t618, t619)) = some (r1, r2, r3, r4) := by rw [if_neg (show ¬ (false = true) by decide)] at H; exact H
   clear H; have H := H1; clear H1; simp only [Option.some.injEq, Prod.mk.injEq] at H; obtain ⟨rfl, rfl, rfl, rfl⟩ := H; obtain ⟨Ao20, co20, eo20⟩ := Kd.R_slice HO_3.out; subst eo20
   go_wp2_with (first | ((with_reducible refine gate_callee (f := 101) rfl ?_); refine goesL_ (some 25) rfl rfl Tryd.func101 (by kernel_rfl) rfl #[.slice Ao20 x3_1.length co20] rfl (by (try simp only [List.map_toArray, List.map_cons, List.map_nil]); first | done | rfl) ?_; (with_reducible refine (W_spec_l01Text.calls _ _ x3_1 t615 _ ?side1 ?side2 A12.out).mono ?_); (case side1 => repeat (first | exact (Kd.R_reads' HO_3.out).2.2 | (with_reducible refine Kd.C_alloc ?_ _) | (with_reducible refine Kd.C_drewN ?_ _) | (with_reducible refine Kd.C_drew ?_))); (case side2 => exact (Kd.R_reads' HO_3.out).2.1); rintro e w21 ⟨rfl, hb⟩; refine ⟨_, rfl, ?_⟩; have n0_ := Aside0.mk (Kd.R_below (by (with_reducible repeat (first | apply Kd.R_alloc | apply Kd.R_drewN | apply Kd.R_drew)); exact HO_3.out) hb); have n1_ := Aside0.mk (IsS95.below (isA) hb); have n2_ := Aside0.mk (KeepBut.trans (keepA) (KeepBut.of_below hb g none) (.inl rfl)); have n3_ := Aside0.mk (below_step (belowI) hb); clear HO_3; clear HI0; clear HK; clear HB; have HO_3 := n0_; have HI0 := n1_; have HK := n2_; have HB := n3_; clear n0_ n1_ n2_ n3_; (try clear hb); (try clear hb2); (try clear hk); (try clear hi)) | ((with_reducible refine gate_callee (f := 120) rfl ?_); refine goesL_ (some 27) rfl rfl Tryd.func120 (by kernel_rfl) rfl #[.pointer (some ⟨g, 0, none⟩), .int .i64 15] rfl (by (try simp only [List.map_toArray, List.map_cons, List.map_nil]); first | done | rfl) ?_; (with_reducible refine (spec_l01Src_one.calls g s0_0 x1001_1 x1002_1 x1003_1 15 false t617 t618 t619 w0 _ ?side1 ?side2 A13.out).mono ?_); (case side1 => exact isA); (case side2 => exact belowI); rintro e w22 ⟨rfl, hi, hb, hk⟩; refine ⟨_, rfl, ?_⟩; have n0_ := Aside0.mk (Kd.R_mono (Kd.R_keep (IsS95.apart (show IsS95 w0 _ g s0_0 x1001_1 x1002_1 x1003_1 from isA) (by (with_reducible repeat (first | apply Kd.R_alloc | apply Kd.R_drewN | apply Kd.R_drew)); exact HO_3.out) (by decide)) hk (fun _ h => h.2)) (fun _ h => h.1)); have n1_ := Aside0.mk (KeepBut.trans (keepA) hk (.inl rfl)); have n2_ := Aside0.mk (hb); have n3_ := Aside0.mk (hi); clear HO_3; clear HK; clear HB; clear HI0; have HO_3 := n0_; have HK := n1_; have HB := n2_; have HI0 := n3_; clear n0_ n1_ n2_ n3_; (try clear hb); (try clear hb2); (try clear hk); (try clear hi)))
   go_ret
   exact ⟨by first | rfl | (simp [errW_none, errW_some] <;> rfl) | (simp [*, errW_none, errW_some] <;> rfl), isA, belowI, keepA⟩

theorem spec_l01Src_partsText.run (l : List Int) (z : Int) (hl : l.length ≤ 140737488355328) (d : Nat) (hd : d ≤ 1000) : ∀ (k : Nat) (n : Int) (acc : List Int) (a m : Int), n = d → acc.length + d ≤ 1000 → d + 40 ≤ k → 0 ≤ a → a ≤ (l.length : Int) →
    YtdkoofdfkhogoaaDoorPts.Tot (spec_l01Src_partsText.l0 k acc n l a m z) (fun r => r.1.size ≤ 4 * (acc.length + d) + 1 ∧ 0 ≤ r.2.1 ∧ r.2.1 ≤ (l.length : Int) ∧ r.2.2.2 = z) := by
  induction d with
  | zero =>
    intro k n acc a m hn ha hk h0 h1
    obtain ⟨k, rfl⟩ : ∃ j, k = j + 1 + 1 := ⟨k - 2, by omega⟩
    rw [spec_l01Src_partsText.l0]
    rw [if_neg (by omega)]
    unfold W_spec_l01Text.f
    rw [if_pos (by omega)]
    simp only [Option.bind_some]
    have hs := YtdkoofdfkhogoaaDoorPts.encs_length acc
    have hz : (strOfNums (YtdkoofdfkhogoaaDoorPts.encs acc)).size ≤ 4 * acc.length := by rw [strOfNums_size]; omega
    refine YtdkoofdfkhogoaaDoorPts.Tot.bind (spec_l01Src_one.tot l a m z 15 hl h0 h1 (by decide)) ?_
    rintro ⟨b, a3, m3, z3⟩ ⟨h9, h10, h11⟩
    dsimp only at h9 h10 h11 ⊢
    subst h11
    refine YtdkoofdfkhogoaaDoorPts.Tot.ite (fun _ => ?_) (fun _ => YtdkoofdfkhogoaaDoorPts.Tot.mk ⟨by dsimp only; omega, h9, h10, rfl⟩)
    refine YtdkoofdfkhogoaaDoorPts.Tot.bind (spec_l01Src_spoil.tot k l a3 m3 z3 _ hl h9 h10 (by omega)) ?_
    rintro ⟨t2, a4, m4, z4⟩ ⟨h12, h13, h14, h15⟩
    dsimp only at h12 h13 h14 h15 ⊢
    exact YtdkoofdfkhogoaaDoorPts.Tot.mk ⟨by dsimp only; omega, h13, h14, h15⟩
  | succ d ih =>
    intro k n acc a m hn ha hk h0 h1
    obtain ⟨k, rfl⟩ : ∃ j, k = j + 10 + 1 := ⟨k - 11, by omega⟩
    have hw : wrap64 (n - 1) = ((d : Nat) : Int) := by unfold wrap64; omega
    rw [spec_l01Src_partsText.l0]
    rw [if_pos (by omega)]
    refine YtdkoofdfkhogoaaDoorPts.Tot.bind (spec_l01Src_part.tot k l a m z hl h0 h1) ?_
    rintro ⟨p, a1, m1, z1⟩ ⟨h2, h3, h4⟩
    dsimp only at h2 h3 h4 ⊢
    subst h4
    rw [hw]
    clear hw
    rw [if_pos (by omega)]
    refine (ih (by omega) (k + 10) (d : Int) (acc ++ [p]) a1 m1 rfl (by rw [List.length_append]; simp only [List.length_cons, List.length_nil]; omega) (by omega) h2 h3).mono ?_
    rintro ⟨s, a2, m2, z2⟩ ⟨q1, q2, q3, q4⟩
    dsimp only at q1 q2 q3 q4 ⊢
    rw [List.length_append] at q1
    simp only [List.length_cons, List.length_nil] at q1
    exact ⟨by omega, q2, q3, q4⟩
theorem spec_l01Src_partsText.tot (k : Nat) (l : List Int) (a m z : Int) (hl : l.length ≤ 140737488355328) (h0 : 0 ≤ a) (h1 : a ≤ (l.length : Int)) (hz : 0 ≤ z) (hz2 : z ≤ 12) (hk : 200 ≤ k) :
    YtdkoofdfkhogoaaDoorPts.Tot (spec_l01Src_partsText.f k l a m z) (fun r => r.1.size ≤ 200 ∧ 0 ≤ r.2.1 ∧ r.2.1 ≤ (l.length : Int) ∧ r.2.2.2 = z) := by
  unfold spec_l01Src_partsText.f
  have hw : wrap64 (7 + wrap64 (2 * z)) = 7 + 2 * z := by unfold wrap64; omega
  rw [hw]
  clear hw
  refine YtdkoofdfkhogoaaDoorPts.Tot.bind (spec_l01Src_n.tot l a m z _ hl h0 h1 (by omega)) ?_
  rintro ⟨v, a1, m1, z1⟩ ⟨v1, v2, h2, h3, h4⟩
  dsimp only at v1 v2 h2 h3 h4 ⊢
  subst h4
  refine (spec_l01Src_partsText.run l z1 hl v.toNat (by omega) k v [] a1 m1 (by omega) (by simp; omega) (by omega) h2 h3).mono ?_
  rintro ⟨s, a2, m2, z2⟩ ⟨q1, q2, q3, q4⟩
  dsimp only at q1 q2 q3 q4 ⊢
  simp only [List.length_nil] at q1
  exact ⟨by omega, q2, q3, q4⟩

/-! ### spec_DrawEquivalent: function 47 -/
def spec_DrawEquivalent.f (k : Nat) (l0 : List Int) : Option (ByteArray × ByteArray) := (spec_l01Source.f l0).bind fun bt624 => ((spec_l01Src_partsText.f k bt624.1 bt624.2.1 bt624.2.2.1 bt624.2.2.2).bind fun bt629 => ((spec_l01Src_one.f bt624.1 bt629.2.1 bt629.2.2.1 bt629.2.2.2 3).bind fun bt633 => (if bt633.1 = true then ((spec_l01Src_partsText.f k bt624.1 bt633.2.1 bt633.2.2.1 bt633.2.2.2).bind fun bt637 => (some (bt629.1, bt637.1))) else ((spec_l01Src_n.f bt624.1 bt633.2.1 bt633.2.2.1 bt633.2.2.2 4).bind fun bt641 => ((W_spec_Normalize.f (wrap64 (1 + bt641.1)) bt629.1).bind fun t645 => (some (bt629.1, t645)))))))
theorem spec_DrawEquivalent.mono : ∀ a0 k, LeO (spec_DrawEquivalent.f k a0) (spec_DrawEquivalent.f (k + 1) a0) := by
 intro a0 k
 unfold spec_DrawEquivalent.f
 repeat' first
   | (with_reducible exact spec_l01Src_partsText.mono _ _ _ _ _)
   | (with_reducible exact LeO.refl _)
   | (with_reducible exact LeO.none _)
   | (with_reducible refine LeO.ite ?_ ?_)
   | (with_reducible refine LeO.bind ?_ (fun _ => ?_))
   | exact spec_l01Src_partsText.mono _ _ _ _ _
   | exact LeO.none _
   | refine LeO.ite ?_ ?_
   | refine LeO.bind ?_ (fun _ => ?_)
set_option maxHeartbeats 8000000 in
set_option maxRecDepth 100000 in
theorem spec_DrawEquivalent.calls (k : Nat) (A0 : Option Addr) (c0 : Nat) (l0 : List Int) (r1 : ByteArray) (r2 : ByteArray) (w : World) (hr0 : Kd.C (Kd.int .u8) w A0 l0.length l0) (hc0 : l0.length ≤ c0) (h : spec_DrawEquivalent.f k l0 = some (r1, r2)) :
  Calls Tryd.prog 47 #[.slice A0 l0.length c0] w fun e w' => e = .returned (.tuple #[.string r1, .string r2]) ∧ Below w.heap.size w w' := by
 have HR0 := Aside0.mk hr0
 have HC0 := Aside0.mk hc0
 clear hr0 hc0
 have HB := Aside0.mk (Below.refl w.heap.size w)
 have H : ((spec_l01Source.f l0).bind fun bt624 => ((spec_l01Src_partsText.f k bt624.1 bt624.2.1 bt624.2.2.1 bt624.2.2.2).bind fun bt629 => ((spec_l01Src_one.f bt624.1 bt629.2.1 bt629.2.2.1 bt629.2.2.2 3).bind fun bt633 => (if bt633.1 = true then ((spec_l01Src_partsText.f k bt624.1 bt633.2.1 bt633.2.2.1 bt633.2.2.2).bind fun bt637 => (some (bt629.1, bt637.1))) else ((spec_l01Src_n.f bt624.1 bt633.2.1 bt633.2.2.1 bt633.2.2.2 4).bind fun bt641 => ((W_spec_Normalize.f (wrap64 (1 + bt641.1)) bt629.1).bind fun t645 => (some (bt629.1, t645)))))))) = some (r1, r2) := h
 clear h
 replace H := Option.bind_eq_some_iff.mp H
 obtain ⟨⟨t624, t625, t626, t627⟩, A20, H⟩ := H
 try dsimp only at H
 have A2 := Aside0.mk A20
 clear A20
 replace H := Option.bind_eq_some_iff.mp H
 obtain ⟨⟨t629, t630, t631, t632⟩, A30, H⟩ := H
 try dsimp only at H
 have A3 := Aside0.mk A30
 clear A30
 replace H := Option.bind_eq_some_iff.mp H
 obtain ⟨⟨t633, t634, t635, t636⟩, A40, H⟩ := H
 try dsimp only at H
 have A4 := Aside0.mk A40
 clear A40
 by_cases c5 : t633 = true
 ·subst c5
  have H1 : ((spec_l01Src_partsText.f k t624 t634 t635 t636).bind fun bt637 => (some (t629, bt637.1))) = some (r1, r2) := by rw [if_pos rfl] at H; exact H
  clear H; have H := H1; clear H1; replace H := Option.bind_eq_some_iff.mp H; obtain ⟨⟨t637, t638, t639, t640⟩, A60, H⟩ := H
  try dsimp only at H
  have A6 := Aside0.mk A60; clear A60; simp only [Option.some.injEq, Prod.mk.injEq] at H; obtain ⟨rfl, rfl⟩ := H
  go_enter Tryd.func47, Tryd.ntmps47
  go_wp2_with (first | ((with_reducible refine gate_callee (f := 64) rfl ?_); refine goesL_ (some 7) rfl rfl Tryd.func64 (by kernel_rfl) rfl #[.slice A0 l0.length c0] rfl (by (try simp only [List.map_toArray, List.map_cons, List.map_nil]); first | done | rfl) ?_; (with_reducible refine (spec_l01Source.calls _ _ l0 t624 t625 t626 t627 w _ ?side1 ?side2 ?side3 A2.out).mono ?_); (case side1 => repeat (first | (with_reducible first | exact HB.out | apply below_alloc | apply pw_below_drewN | apply below_drew1) | exact HB.out)); (case side2 => exact HR0.out); (case side3 => exact HC0.out); rintro e w7 ⟨g628, rfl, hi, hb, hb2⟩; refine ⟨_, rfl, ?_⟩; have n0_ := Aside0.mk (hb); have n1_ := Aside0.mk (hi); clear HB; have HB := n0_; have HI628 := n1_; clear n0_ n1_; (try clear hb); (try clear hb2); (try clear hk); (try clear hi)) | ((with_reducible refine gate_callee (f := 119) rfl ?_); refine goesL_ (some 9) rfl rfl Tryd.func119 (by kernel_rfl) rfl #[.pointer (some ⟨g628, 0, none⟩)] rfl (by (try simp only [List.map_toArray, List.map_cons, List.map_nil]); first | done | rfl) ?_; (with_reducible refine (spec_l01Src_partsText.calls k g628 t624 t625 t626 t627 t629 t630 t631 t632 w _ ?side1 ?side2 A3.out).mono ?_); (case side1 => repeat (first | (with_reducible first | exact HI628.out | apply IsS95.alloc | apply IsS95.drewN | apply IsS95.drew | apply IsS95.set_1 | apply IsS95.set_2 | apply IsS95.set_3) | exact HI628.out)); (case side2 => repeat (first | (with_reducible first | exact HB.out | apply below_alloc | apply pw_below_drewN | apply below_drew1 | refine below_set ?_ (IsS95.ge HI628.out)) | exact HB.out)); rintro e w8 ⟨rfl, hi, hb, hk⟩; refine ⟨_, rfl, ?_⟩; have n0_ := Aside0.mk (hb); have n1_ := Aside0.mk (hi); clear HB; clear HI628; have HB := n0_; have HI628 := n1_; clear n0_ n1_; (try clear hb); (try clear hb2); (try clear hk); (try clear hi)) | ((with_reducible refine gate_callee (f := 120) rfl ?_); refine goesL_ (some 11) rfl rfl Tryd.func120 (by kernel_rfl) rfl #[.pointer (some ⟨g628, 0, none⟩), .int .i64 3] rfl (by (try simp only [List.map_toArray, List.map_cons, List.map_nil]); first | done | rfl) ?_; (with_reducible refine (spec_l01Src_one.calls g628 t624 t630 t631 t632 3 true t634 t635 t636 w _ ?side1 ?side2 A4.out).mono ?_); (case side1 => repeat (first | (with_reducible first | exact HI628.out | apply IsS95.alloc | apply IsS95.drewN | apply IsS95.drew | apply IsS95.set_1 | apply IsS95.set_2 | apply IsS95.set_3) | exact HI628.out)); (case side2 => repeat (first | (with_reducible first | exact HB.out | apply below_alloc | apply pw_below_drewN | apply below_drew1 | refine below_set ?_ (IsS95.ge HI628.out)) | exact HB.out)); rintro e w9 ⟨rfl, hi, hb, hk⟩; refine ⟨_, rfl, ?_⟩; have n0_ := Aside0.mk (hb); have n1_ := Aside0.mk (hi); clear HB; clear HI628; have HB := n0_; have HI628 := n1_; clear n0_ n1_; (try clear hb); (try clear hb2); (try clear hk); (try clear hi)) | ((with_reducible refine gate_callee (f := 119) rfl ?_); refine goesL_ (some 14) rfl rfl Tryd.func119 (by kernel_rfl) rfl #[.pointer (some ⟨g628, 0, none⟩)] rfl (by (try simp only [List.map_toArray, List.map_cons, List.map_nil]); first | done | rfl) ?_; (with_reducible refine (spec_l01Src_partsText.calls k g628 t624 t634 t635 t636 t637 t638 t639 t640 w _ ?side1 ?side2 A6.out).mono ?_); (case side1 => repeat (first | (with_reducible first | exact HI628.out | apply IsS95.alloc | apply IsS95.drewN | apply IsS95.drew | apply IsS95.set_1 | apply IsS95.set_2 | apply IsS95.set_3) | exact HI628.out)); (case side2 => repeat (first | (with_reducible first | exact HB.out | apply below_alloc | apply pw_below_drewN | apply below_drew1 | refine below_set ?_ (IsS95.ge HI628.out)) | exact HB.out)); rintro e w10 ⟨rfl, hi, hb, hk⟩; refine ⟨_, rfl, ?_⟩; have n0_ := Aside0.mk (hb); have n1_ := Aside0.mk (hi); clear HB; clear HI628; have HB := n0_; have HI628 := n1_; clear n0_ n1_; (try clear hb); (try clear hb2); (try clear hk); (try clear hi)))
  go_ret2
  exact ⟨by first | rfl | (simp [errW_none, errW_some] <;> rfl) | (simp [*, errW_none, errW_some] <;> rfl), by repeat (first | (with_reducible first | exact HB.out | apply below_alloc | apply pw_below_drewN | apply below_drew1 | refine below_set ?_ (IsS95.ge HI628.out)) | exact HB.out)⟩
 replace c5 := Bool.eq_false_iff.mpr c5
 subst c5
 have H1 : ((spec_l01Src_n.f t624 t634 t635 t636 4).bind fun bt641 => ((W_spec_Normalize.f (wrap64 (1 + bt641.1)) t629).bind fun t645 => (some (t629, t645)))) = some (r1, r2) := by rw [if_neg (show ¬ (false = true) by decide)] at H; exact H
 clear H
 have H := H1
 clear H1
 replace H := Option.bind_eq_some_iff.mp H
 obtain ⟨⟨t641, t642, t643, t644⟩, A110, H⟩ := H
 try dsimp only at H
 have A11 := Aside0.mk A110
 clear A110
 replace H := Option.bind_eq_some_iff.mp H
 obtain ⟨t645, A120, H⟩ := H
 try dsimp only at H
 have A12 := Aside0.mk A120
 clear A120
 simp only [Option.some.injEq, Prod.mk.injEq] at H
 obtain ⟨rfl, rfl⟩ := H
 go_enter Tryd.func47, Tryd.ntmps47
 go_wp2_with (first | ((with_reducible refine gate_callee (f := 64) rfl ?_); refine goesL_ (some 7) rfl rfl Tryd.func64 (by kernel_rfl) rfl #[.slice A0 l0.length c0] rfl (by (try simp only [List.map_toArray, List.map_cons, List.map_nil]); first | done | rfl) ?_; (with_reducible refine (spec_l01Source.calls _ _ l0 t624 t625 t626 t627 w _ ?side1 ?side2 ?side3 A2.out).mono ?_); (case side1 => repeat (first | (with_reducible first | exact HB.out | apply below_alloc | apply pw_below_drewN | apply below_drew1) | exact HB.out)); (case side2 => exact HR0.out); (case side3 => exact HC0.out); rintro e w13 ⟨g628, rfl, hi, hb, hb2⟩; refine ⟨_, rfl, ?_⟩; have n0_ := Aside0.mk (hb); have n1_ := Aside0.mk (hi); clear HB; have HB := n0_; have HI628 := n1_; clear n0_ n1_; (try clear hb); (try clear hb2); (try clear hk); (try clear hi)) | ((with_reducible refine gate_callee (f := 119) rfl ?_); refine goesL_ (some 9) rfl rfl Tryd.func119 (by kernel_rfl) rfl #[.pointer (some ⟨g628, 0, none⟩)] rfl (by (try simp only [List.map_toArray, List.map_cons, List.map_nil]); first | done | rfl) ?_; (with_reducible refine (spec_l01Src_partsText.calls k g628 t624 t625 t626 t627 t629 t630 t631 t632 w _ ?side1 ?side2 A3.out).mono ?_); (case side1 => repeat (first | (with_reducible first | exact HI628.out | apply IsS95.alloc | apply IsS95.drewN | apply IsS95.drew | apply IsS95.set_1 | apply IsS95.set_2 | apply IsS95.set_3) | exact HI628.out)); (case side2 => repeat (first | (with_reducible first | exact HB.out | apply below_alloc | apply pw_below_drewN | apply below_drew1 | refine below_set ?_ (IsS95.ge HI628.out)) | exact HB.out)); rintro e w14 ⟨rfl, hi, hb, hk⟩; refine ⟨_, rfl, ?_⟩; have n0_ := Aside0.mk (hb); have n1_ := Aside0.mk (hi); clear HB; clear HI628; have HB := n0_; have HI628 := n1_; clear n0_ n1_; (try clear hb); (try clear hb2); (try clear hk); (try clear hi)) | ((with_reducible refine gate_callee (f := 120) rfl ?_); refine goesL_ (some 11) rfl rfl Tryd.func120 (by kernel_rfl) rfl #[.pointer (some ⟨g628, 0, none⟩), .int .i64 3] rfl (by (try simp only [List.map_toArray, List.map_cons, List.map_nil]); first | done | rfl) ?_; (with_reducible refine (spec_l01Src_one.calls g628 t624 t630 t631 t632 3 false t634 t635 t636 w _ ?side1 ?side2 A4.out).mono ?_); (case side1 => repeat (first | (with_reducible first | exact HI628.out | apply IsS95.alloc | apply IsS95.drewN | apply IsS95.drew | apply IsS95.set_1 | apply IsS95.set_2 | apply IsS95.set_3) | exact HI628.out)); (case side2 => repeat (first | (with_reducible first | exact HB.out | apply below_alloc | apply pw_below_drewN | apply below_drew1 | refine below_set ?_ (IsS95.ge HI628.out)) | exact HB.out)); rintro e w15 ⟨rfl, hi, hb, hk⟩; refine ⟨_, rfl, ?_⟩; have n0_ := Aside0.mk (hb); have n1_ := Aside0.mk (hi); clear HB; clear HI628; have HB := n0_; have HI628 := n1_; clear n0_ n1_; (try clear hb); (try clear hb2); (try clear hk); (try clear hi)) | ((with_reducible refine gate_callee (f := 97) rfl ?_); refine goesL_ (some 17) rfl rfl Tryd.func97 (by kernel_rfl) rfl #[.pointer (some ⟨g628, 0, none⟩), .int .i64 4] rfl (by (try simp only [List.map_toArray, List.map_cons, List.map_nil]); first | done | rfl) ?_; (with_reducible refine (spec_l01Src_n.calls g628 t624 t634 t635 t636 4 t641 t642 t643 t644 w _ ?side1 ?side2 A11.out).mono ?_); (case side1 => repeat (first | (with_reducible first | exact HI628.out | apply IsS95.alloc | apply IsS95.drewN | apply IsS95.drew | apply IsS95.set_1 | apply IsS95.set_2 | apply IsS95.set_3) | exact HI628.out)); (case side2 => repeat (first | (with_reducible first | exact HB.out | apply below_alloc | apply pw_below_drewN | apply below_drew1 | refine below_set ?_ (IsS95.ge HI628.out)) | exact HB.out)); rintro e w16 ⟨rfl, hi, hb, hk⟩; refine ⟨_, rfl, ?_⟩; have n0_ := Aside0.mk (hb); have n1_ := Aside0.mk (hi); clear HB; clear HI628; have HB := n0_; have HI628 := n1_; clear n0_ n1_; (try clear hb); (try clear hb2); (try clear hk); (try clear hi)) | ((with_reducible refine gate_callee (f := 48) rfl ?_); refine goesL_ (some 20) rfl rfl Tryd.func48 (by kernel_rfl) rfl #[.int .i64 (wrap64 (1 + t641)), .string t629] rfl (by (try simp only [List.map_toArray, List.map_cons, List.map_nil]); first | done | rfl) ?_; (with_reducible refine (W_spec_Normalize.calls (wrap64 (1 + t641)) t629 t645 _ A12.out).mono ?_); rintro e w17 ⟨rfl, hb⟩; refine ⟨_, rfl, ?_⟩; have n0_ := Aside0.mk (IsS95.below (by repeat (first | (with_reducible first | exact HI628.out | apply IsS95.alloc | apply IsS95.drewN | apply IsS95.drew | apply IsS95.set_1 | apply IsS95.set_2 | apply IsS95.set_3) | exact HI628.out)) hb); have n1_ := Aside0.mk (below_step (by repeat (first | (with_reducible first | exact HB.out | apply below_alloc | apply pw_below_drewN | apply below_drew1 | refine below_set ?_ (IsS95.ge HI628.out)) | exact HB.out)) hb); clear HI628; clear HB; have HI628 := n0_; have HB := n1_; clear n0_ n1_; (try clear hb); (try clear hb2); (try clear hk); (try clear hi)))
 go_ret2
 exact ⟨by first | rfl | (simp [errW_none, errW_some] <;> rfl) | (simp [*, errW_none, errW_some] <;> rfl), by repeat (first | (with_reducible first | exact HB.out | apply below_alloc | apply pw_below_drewN | apply below_drew1 | refine below_set ?_ (IsS95.ge HI628.out)) | exact HB.out)⟩

theorem spec_DrawEquivalent.tot (l : List Int) (hl : l.length ≤ 140737488355328) : YtdkoofdfkhogoaaDoorPts.Tot (spec_DrawEquivalent.f 100001 l) (fun r => r.1.size ≤ 200 ∧ r.2.size ≤ 2400) := by
  have nt : ∀ f (t : ByteArray), t.size ≤ 200 → (YtdkoofdfkhogoaaDoorNst.NT f t).size ≤ 2400 := fun f t ht => by
    unfold YtdkoofdfkhogoaaDoorNst.NT YtdkoofdfkhogoaaDoorNst.sh
    have := YtdkoofdfkhogoaaDoorNst.N_size f t
    split
    · exact Nat.zero_le _
    · split
      · exact Nat.zero_le _
      · omega
  unfold spec_DrawEquivalent.f spec_l01Source.f
  rw [if_pos hl]
  simp only [Option.bind_some]
  refine YtdkoofdfkhogoaaDoorPts.Tot.bind (spec_l01Src_partsText.tot 100001 l 0 _ _ hl (by omega) (by omega) (by split <;> omega) (by split <;> omega) (by omega)) ?_
  rintro ⟨t, a2, m2, z2⟩ ⟨ht, h5, h6, h7⟩
  dsimp only at ht h5 h6 h7 ⊢
  have hz : 0 ≤ z2 ∧ z2 ≤ 12 := by rw [h7]; split <;> omega
  clear h7
  refine YtdkoofdfkhogoaaDoorPts.Tot.bind (spec_l01Src_one.tot l a2 m2 z2 3 hl h5 h6 (by decide)) ?_
  rintro ⟨b, a3, m3, z3⟩ ⟨h8, h9, h10⟩
  dsimp only at h8 h9 h10 ⊢
  refine YtdkoofdfkhogoaaDoorPts.Tot.ite (fun _ => ?_) (fun _ => ?_)
  · refine YtdkoofdfkhogoaaDoorPts.Tot.bind (spec_l01Src_partsText.tot 100001 l a3 m3 z3 hl h8 h9 (by rw [h10]; exact hz.1) (by rw [h10]; exact hz.2) (by omega)) ?_
    rintro ⟨t2, a4, m4, z4⟩ ⟨ht2, _, _, _⟩
    dsimp only at ht2 ⊢
    exact YtdkoofdfkhogoaaDoorPts.Tot.mk ⟨by dsimp only; omega, by dsimp only; omega⟩
  · refine YtdkoofdfkhogoaaDoorPts.Tot.bind (spec_l01Src_n.tot l a3 m3 z3 4 hl h8 h9 (by decide)) ?_
    rintro ⟨v, a4, m4, z4⟩ _
    dsimp only
    unfold W_spec_Normalize.f
    rw [if_pos (by omega)]
    simp only [Option.bind_some]
    have n1 := nt (wrap64 (1 + v)) t ht
    exact YtdkoofdfkhogoaaDoorPts.Tot.mk ⟨by dsimp only; omega, by dsimp only; omega⟩
def W_spec_DrawEquivalent.f (l0 : List Int) : Option (ByteArray × ByteArray) := spec_DrawEquivalent.f 100001 l0
theorem W_spec_DrawEquivalent.to {l0 : List Int} {r : ByteArray × ByteArray} (h : W_spec_DrawEquivalent.f l0 = some r) : ∃ k, spec_DrawEquivalent.f k l0 = some r := ⟨100001, h⟩
theorem W_spec_DrawEquivalent.has {l : List Int} (hl : l.length ≤ 140737488355328) : ∃ a b, W_spec_DrawEquivalent.f l = some (a, b) ∧ a.size ≤ 200 ∧ b.size ≤ 2400 := by
  obtain ⟨⟨a, b⟩, h1, h2⟩ := spec_DrawEquivalent.tot l hl
  exact ⟨a, b, h1, h2⟩
theorem W_spec_DrawEquivalent.calls (A0 : Option Addr) (c0 : Nat) (l0 : List Int) (r1 : ByteArray) (r2 : ByteArray) (w : World) (hr0 : Kd.C (Kd.int .u8) w A0 l0.length l0) (hc0 : l0.length ≤ c0) (h : W_spec_DrawEquivalent.f l0 = some (r1, r2)) :
    Calls Tryd.prog 47 #[.slice A0 l0.length c0] w fun e w' => e = .returned (.tuple #[.string r1, .string r2]) ∧ Below w.heap.size w w' := by
  obtain ⟨k, hk⟩ := W_spec_DrawEquivalent.to h
  exact spec_DrawEquivalent.calls k A0 c0 l0 r1 r2 w hr0 hc0 hk

/-! ### impl_long: function 66 -/
def impl_long.f (a0 : ByteArray) : Option (Bool) := some (decide ((a0.size : Int) > 65536))
set_option maxHeartbeats 8000000 in
set_option maxRecDepth 100000 in
theorem impl_long.calls (a0 : ByteArray) (r : Bool) (w : World) (h : impl_long.f a0 = some r) :
    Calls Tryd.prog 66 #[.string a0] w fun e w' => e = .returned (.bool r) ∧ Drawn0 w w' := by
  have H : (some (decide ((a0.size : Int) > 65536))) = some r := h
  clear h
  obtain rfl := Option.some.inj H
  go_enter Tryd.func66, Tryd.ntmps66
  go_wp2
  go_ret
  exact ⟨by first | rfl | (simp; done) | (simp [*]; done), by repeat (first | exact Drawn0.refl _ | apply Drawn0.step)⟩

/-- The tables of unicode/utf8 lie in this world as start-up lays them. -/
def GT (w : World) : Prop := Lib.Utf8Tabs 1 2 w
theorem GT.below {w w' : World} (h : GT w) (hb : Below w.heap.size w w') : GT w' := by
  obtain ⟨h1, h2⟩ := h
  refine ⟨fun c hc => ?_, fun i hi => ⟨?_, ?_⟩⟩
  · exact (hb.cell (World.block_lt_of_cell? w _ (h1 c hc))).trans (h1 c hc)
  · exact (hb.cell (World.block_lt_of_cell? w _ (h2 i hi).1)).trans (h2 i hi).1
  · exact (hb.cell (World.block_lt_of_cell? w _ (h2 i hi).2)).trans (h2 i hi).2

/-! ### utf8_DecodeRuneInString: function 158 (by hand) -/
def utf8_DecodeRuneInString.f (a0 : ByteArray) : Option (Int × Int) := some (((Lib.decodeGo a0).1 : Int), ((Lib.decodeGo a0).2 : Int))
theorem utf8_DecodeRuneInString.calls (a0 : ByteArray) (r1 : Int) (r2 : Int) (w : World) (h : utf8_DecodeRuneInString.f a0 = some (r1, r2)) (hG : GT w) :
    Calls Tryd.prog 158 #[.string a0] w fun e w' => e = .returned (.tuple #[.int .i32 r1, .int .i64 r2]) ∧ Below w.heap.size w w' := by
  have h := Option.some.inj h
  obtain ⟨rfl, rfl⟩ := Prod.mk.inj h
  exact Tryd.utf8_DecodeRuneInString a0 w hG

end Go.Proofs.YtdkoofdfkhogoaaDoor.QFnEquivalent
