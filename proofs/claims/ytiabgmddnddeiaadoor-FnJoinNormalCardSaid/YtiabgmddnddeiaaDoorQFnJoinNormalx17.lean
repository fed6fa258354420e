/- The law FnJoinNormal: at every input the call answers true (this text: contracts on its way, by a program of this session's; no condition of ours). -/
import Derived.Test.YtiabgmddnddeiaaDoorQFnJoinNormalx0
import Derived.Test.YtiabgmddnddeiaaDoorQFnJoinNormalx1
import Derived.Test.YtiabgmddnddeiaaDoorQFnJoinNormalx6
import Derived.Test.YtiabgmddnddeiaaDoorQFnJoinNormalx8
import Derived.Test.YtiabgmddnddeiaaDoorQFnJoinNormalx13
import Derived.Test.YtiabgmddnddeiaaDoorQFnJoinNormalx14
import Derived.Test.YtiabgmddnddeiaaDoorQFnJoinNormalx16
namespace Go.Proofs.YtiabgmddnddeiaaDoor.QFnJoinNormal
open Go.RowKit Go.Proofs.YtiabgmddnddeiaaDoorW.PrintWords Go.Proofs.YtiabgmddnddeiaaDoorW.PrintLast Go.Proofs.YtiabgmddnddeiaaDoorW.PrintMore
attribute [local go_sem] max2_int min2_int max_two min_two max_three min_three max_four min_four   -- for this text's walks alone
set_option linter.unusedVariables false
set_option linter.unusedSimpArgs false

/-! ### spec_l01Src_partsText: function 78 -/
def spec_l01Src_partsText.l0 : Nat → List Int → Int → List Int → Int → Int → Int → Option (ByteArray × Int × Int × Int)
 | 0, _, _, _, _, _, _ => none
 | k + 1, x3, x4, x1000, x1001, x1002, x1003 => if x4 > 0 then ((spec_l01Src_part.f k x1000 x1001 x1002 x1003).bind fun bt710 => (if x3.length < 17592186044416 then (spec_l01Src_partsText.l0 k (x3 ++ [bt710.1]) (wrap64 (x4 - 1)) x1000 bt710.2.1 bt710.2.2.1 bt710.2.2.2) else (none))) else ((W_spec_l01Text.f x3).bind fun t717 => ((spec_l01Src_one.f x1000 x1001 x1002 x1003 15).bind fun bt718 => (if bt718.1 = true then ((spec_l01Src_spoil.f k x1000 bt718.2.1 bt718.2.2.1 bt718.2.2.2 t717).bind fun bt722 => (some (bt722.1, bt722.2.1, bt722.2.2.1, bt722.2.2.2))) else (some (t717, bt718.2.1, bt718.2.2.1, bt718.2.2.2)))))
def spec_l01Src_partsText.f (k : Nat) (s0_0 : List Int) (s0_1 : Int) (s0_2 : Int) (s0_3 : Int) : Option (ByteArray × Int × Int × Int) := (spec_l01Src_n.f s0_0 s0_1 s0_2 s0_3 (wrap64 (7 + (wrap64 (2 * s0_3))))).bind fun bt706 => (spec_l01Src_partsText.l0 k (([] : List Int)) bt706.1 s0_0 bt706.2.1 bt706.2.2.1 bt706.2.2.2)
theorem spec_l01Src_partsText.mono_l : ∀ k, (∀ y0 y1 y2 y3 y4 y5, LeO (spec_l01Src_partsText.l0 k y0 y1 y2 y3 y4 y5) (spec_l01Src_partsText.l0 (k + 1) y0 y1 y2 y3 y4 y5))
 | 0 => fun _ _ _ _ _ _ r h => by simp [spec_l01Src_partsText.l0] at h
 | k + 1 => by
  have ih0 := spec_l01Src_partsText.mono_l k; intro y0 y1 y2 y3 y4 y5
  unfold spec_l01Src_partsText.l0
  repeat' first
  | (with_reducible exact ih0 _ _ _ _ _ _)
  | (with_reducible exact spec_l01Src_part.mono _ _ _ _ _)
  | (with_reducible exact spec_l01Src_spoil.mono _ _ _ _ _ _)
  | (with_reducible exact LeO.refl _)
  | (with_reducible exact LeO.none _)
  | (with_reducible refine LeO.ite ?_ ?_)
  | (with_reducible refine LeO.bind ?_ (fun _ => ?_))
  | exact ih0 _ _ _ _ _ _
  | exact spec_l01Src_part.mono _ _ _ _ _
  | exact spec_l01Src_spoil.mono _ _ _ _ _ _
  | exact LeO.none _
  | refine LeO.ite ?_ ?_
  | refine LeO.bind ?_ (fun _ => ?_)
theorem spec_l01Src_partsText.mono : ∀ a0 a1 a2 a3 k, LeO (spec_l01Src_partsText.f k a0 a1 a2 a3) (spec_l01Src_partsText.f (k + 1) a0 a1 a2 a3) := by
 intro a0 a1 a2 a3 k
 have ih0 := spec_l01Src_partsText.mono_l k
 unfold spec_l01Src_partsText.f
 repeat' first
   | (with_reducible exact ih0 _ _ _ _ _ _)
   | (with_reducible exact spec_l01Src_part.mono _ _ _ _ _)
   | (with_reducible exact spec_l01Src_spoil.mono _ _ _ _ _ _)
   | (with_reducible exact LeO.refl _)
   | (with_reducible exact LeO.none _)
   | (with_reducible refine LeO.ite ?_ ?_)
   | (with_reducible refine LeO.bind ?_ (fun _ => ?_))
   | exact ih0 _ _ _ _ _ _
   | exact spec_l01Src_part.mono _ _ _ _ _
   | exact spec_l01Src_spoil.mono _ _ _ _ _ _
   | exact LeO.none _
   | refine LeO.ite ?_ ?_
   | refine LeO.bind ?_ (fun _ => ?_)
set_option maxHeartbeats 8000000 in
set_option maxRecDepth 100000 in
theorem spec_l01Src_partsText.calls (k : Nat) (g : Nat) (s0_0 : List Int) (s0_1 : Int) (s0_2 : Int) (s0_3 : Int) (r1 : ByteArray) (r2 : Int) (r3 : Int) (r4 : Int) (w0 w : World) (hI : IsS134 w0 w g s0_0 s0_1 s0_2 s0_3) (hB : Below w0.heap.size w0 w) (h : spec_l01Src_partsText.f k s0_0 s0_1 s0_2 s0_3 = some (r1, r2, r3, r4)) :
  Calls Tryd.prog 78 #[.pointer (some ⟨g, 0, none⟩)] w fun e w' => e = .returned (.string r1) ∧ IsS134 w0 w' g s0_0 r2 r3 r4 ∧ Below w0.heap.size w0 w' ∧ KeepBut w w' g none := by
 have HI0 := Aside0.mk hI
 have HK := Aside0.mk (KeepBut.refl w g none)
 have HL := Aside0.mk hB.size
 clear hI
 have HW0 := Aside0.mk hB.size
 have HB := Aside0.mk hB
 clear hB
 have H : ((spec_l01Src_n.f s0_0 s0_1 s0_2 s0_3 (wrap64 (7 + (wrap64 (2 * s0_3))))).bind fun bt706 => (spec_l01Src_partsText.l0 k (([] : List Int)) bt706.1 s0_0 bt706.2.1 bt706.2.2.1 bt706.2.2.2)) = some (r1, r2, r3, r4) := h
 clear h
 obtain ⟨y703, hy703⟩ : ∃ y_ : List Int, y_ = (([] : List Int)) := ⟨_, rfl⟩
 replace H : ((spec_l01Src_n.f s0_0 s0_1 s0_2 s0_3 (wrap64 (7 + (wrap64 (2 * s0_3))))).bind fun bt706 => (spec_l01Src_partsText.l0 k y703 bt706.1 s0_0 bt706.2.1 bt706.2.2.1 bt706.2.2.2)) = some (r1, r2, r3, r4) := by first | (rw [hy703]; with_reducible exact H) | (have H2_ := (Option.bind_some _ _).symm.trans H; rw [hy703]; with_reducible exact H2_) | (have H2_ := (Option.bind_some _ _).symm.trans H; with_reducible exact H2_) | with_reducible exact H | (rw [hy703]; exact H) | exact H
 have Ny703 := Aside0.mk hy703
 clear hy703
 replace H := Option.bind_eq_some_iff.mp H
 obtain ⟨⟨t706, t707, t708, t709⟩, A20, H⟩ := H
 try dsimp only at H
 have A2 := Aside0.mk A20
 clear A20
 have H' := Aside0.mk H
 clear H
 go_enter Tryd.func78, Tryd.ntmps78
 go_wp2_with (first | ((with_reducible refine gate_dst (N := 6) rfl ?_); refine Kd.R_lit (Kd.int .i64) _ 2 ?hg (N := 6) ?hd (xs := ([] : List Int)) (inner := []) (ok := fun _ => True) (okp := fun _ => True) ?hr ?hp (fun _ hk => hk) trivial (Below.refl _ _) (Nat.le_refl _) (by simp) ?_; (case hd => rfl); (case hg => rfl); (case hr => first | (go_simp; done) | (go_simp; rfl)); (case hp => exact (Reps.none _ _)); intro v704 w3 ho4 hb hg_ hnew_; clear hg_ hnew_; (first | rw [← Ny703.out] at ho4 | (simp only [Int.reduceToNat] at ho4; rw [← Ny703.out] at ho4)); have n0_ := Aside0.mk (Kd.R_lower ho4 (keep_size (w := w) (g := g) (row := none) (keepA))); have n1_ := Aside0.mk (IsS134.below (isA) hb); have n2_ := Aside0.mk (KeepBut.trans (keepA) (KeepBut.of_below hb g none) (.inl rfl)); have n3_ := Aside0.mk (below_step (belowI) hb); clear HI0; clear HK; clear HB; have HO705 := n0_; have HI0 := n1_; have HK := n2_; have HB := n3_; clear n0_ n1_ n2_ n3_; clear hb ho4; obtain ⟨ASz5_0, cSz5_0, HGz5, hgz5, HSz5_0⟩ := HI0.out; have hcz5_0 := cellS134_0 HGz5; have hcz5_1 := cellS134_1 HGz5; have hcz5_2 := cellS134_2 HGz5; have hcz5_3 := cellS134_3 HGz5; have hfz5_1 := blk_frozen HGz5 1; have hfz5_2 := blk_frozen HGz5 2; have hfz5_3 := blk_frozen HGz5 3; clear HGz5 hgz5) | ((with_reducible refine gate_callee (f := 82) rfl ?_); refine goesL_ (some 14) rfl rfl Tryd.func82 (by kernel_rfl) rfl #[.pointer (some ⟨g, 0, none⟩), .int .i64 (wrap64 (7 + (wrap64 (2 * s0_3))))] rfl (by (try simp only [List.map_toArray, List.map_cons, List.map_nil]); first | done | rfl) ?_; (with_reducible refine (spec_l01Src_n.calls g s0_0 s0_1 s0_2 s0_3 (wrap64 (7 + (wrap64 (2 * s0_3)))) t706 t707 t708 t709 w0 _ ?side1 ?side2 A2.out).mono ?_); (case side1 => exact isA); (case side2 => exact belowI); rintro e w6 ⟨rfl, hi, hb, hk⟩; refine ⟨_, rfl, ?_⟩; have n0_ := Aside0.mk (Kd.R_mono (Kd.R_keep (IsS134.apart (show IsS134 w0 _ g s0_0 s0_1 s0_2 s0_3 from isA) (by (with_reducible repeat (first | apply Kd.R_alloc | apply Kd.R_drewN | apply Kd.R_drew)); exact HO705.out) (by decide)) hk (fun _ h => h.2)) (fun _ h => h.1)); have n1_ := Aside0.mk (KeepBut.trans (keepA) hk (.inl rfl)); have n2_ := Aside0.mk (hb); have n3_ := Aside0.mk (hi); clear HO705; clear HK; clear HB; clear HI0; have HO705 := n0_; have HK := n1_; have HB := n2_; have HI0 := n3_; clear n0_ n1_ n2_ n3_; (try clear hb); (try clear hb2); (try clear hk); (try clear hi)))
 go_loopg [3, 4] k (fun kq v3 v4 w' => ∃ (x3_1 : List Int) (x4_1 : Int) (x1001_1 : Int) (x1002_1 : Int) (x1003_1 : Int), v4 = .int .i64 x4_1 ∧ Aside0 (spec_l01Src_partsText.l0 kq x3_1 x4_1 s0_0 x1001_1 x1002_1 x1003_1 = some (r1, r2, r3, r4)) ∧ Aside0 (kq ≤ k) ∧ Aside0 (Kd.R (Kd.int .i64) 2 w' w.heap.size (fun _ => True) v3 x3_1) ∧ Aside0 (IsS134 w0 w' g s0_0 x1001_1 x1002_1 x1003_1) ∧ Aside0 (KeepBut w w' g none) ∧ Aside0 (Below w0.heap.size w0 w'))
 case atStart => exact ⟨(y703), (t706), (t707), (t708), (t709), (by first | rfl | (simp; done) | (simp [*]; done)), H', ⟨Nat.le_refl _⟩, ⟨by (with_reducible repeat (first | apply Kd.R_alloc | apply Kd.R_drewN | apply Kd.R_drew)); exact HO705.out⟩, ⟨isA⟩, ⟨keepA⟩, ⟨belowI⟩⟩
 case round =>
  clear H'
  try clear p2; try clear p6; try clear hcz5_0; try clear hcz5_1; try clear hcz5_2; try clear hcz5_3; try clear hfz5_1; try clear hfz5_2; try clear hfz5_3
  obtain ⟨x3_1, x4_1, x1001_1, x1002_1, x1003_1, rfl, HA, HK1, HO_3, HI0, HK, HB⟩ := hrel
  cases gk with
  | zero => exact absurd HA.out (by simp [spec_l01Src_partsText.l0])
  | succ k1 =>
   have H := HA.out; clear HA; simp only [spec_l01Src_partsText.l0] at H
   by_cases c7 : x4_1 > 0
   ·rw [if_pos c7] at H
    have c7b0 : decide (0 < x4_1) = true := decide_eq_true c7; clear c7; replace H := Option.bind_eq_some_iff.mp H; obtain ⟨⟨t710, t711, t712, t713⟩, A80, H⟩ := H
    try dsimp only at H
    have A8 := Aside0.mk A80; clear A80
    by_cases c9 : x3_1.length < 17592186044416
    ·rw [if_pos c9] at H
     have LMc9 := Aside0.mk c9; clear c9; obtain ⟨y714, hy714⟩ : ∃ y_ : List Int, y_ = (x3_1 ++ [t710]) := ⟨_, rfl⟩
     replace H : (spec_l01Src_partsText.l0 k1 y714 (wrap64 (x4_1 - 1)) s0_0 t711 t712 t713) = some (r1, r2, r3, r4) := by first | (rw [hy714]; with_reducible exact H) | (have H2_ := (Option.bind_some _ _).symm.trans H; rw [hy714]; with_reducible exact H2_) | (have H2_ := (Option.bind_some _ _).symm.trans H; with_reducible exact H2_) | with_reducible exact H | (rw [hy714]; exact H) | exact H
     have Ny714 := Aside0.mk hy714; clear hy714; have H' := Aside0.mk H; clear H
     go_wp2_with (first | ((with_reducible refine gate_callee (f := 165) rfl ?_); refine goesL_ (some 21) rfl rfl Tryd.func165 (by kernel_rfl) rfl #[.pointer (some ⟨g, 0, none⟩)] rfl (by (try simp only [List.map_toArray, List.map_cons, List.map_nil]); first | done | rfl) ?_; (with_reducible refine (spec_l01Src_part.calls k1 g s0_0 x1001_1 x1002_1 x1003_1 t710 t711 t712 t713 w0 _ ?side1 ?side2 A8.out).mono ?_); (case side1 => exact isA); (case side2 => exact belowI); rintro e w10 ⟨rfl, hi, hb, hk⟩; refine ⟨_, rfl, ?_⟩; have n0_ := Aside0.mk (Kd.R_mono (Kd.R_keep (IsS134.apart (show IsS134 w0 _ g s0_0 x1001_1 x1002_1 x1003_1 from isA) (by (with_reducible repeat (first | apply Kd.R_alloc | apply Kd.R_drewN | apply Kd.R_drew)); exact HO_3.out) (by decide)) hk (fun _ h => h.2)) (fun _ h => h.1)); have n1_ := Aside0.mk (KeepBut.trans (keepA) hk (.inl rfl)); have n2_ := Aside0.mk (hb); have n3_ := Aside0.mk (hi); clear HO_3; clear HK; clear HB; clear HI0; have HO_3 := n0_; have HK := n1_; have HB := n2_; have HI0 := n3_; clear n0_ n1_ n2_ n3_; (try clear hb); (try clear hb2); (try clear hk); (try clear hi)) | ((with_reducible refine gate_builtin (b := .append) (xs := #[.tmp 19, .tmp 22]) rfl ?_); at_builtin; refine Kd.R_append (Kd.int .i64) w.heap.size rfl (.tmp 19) (.tmp 22) 28 2 (.int .i64 0) 8 rfl Tryd.underlying28 info2 rfl (by decide) (by omega) u3 x3_1 t710 [.int .i64 t710] (fun _ => True) (fun _ => False) rfl rfl ?aP (fun _ hk => hk.elim) ?aF ?aO (Below.refl _ _) ?aS ?aL ?_; (case aP => exact rfl); (case aF => exact (fun _ _ => trivial)); (case aO => exact (by (with_reducible repeat (first | apply Kd.R_alloc | apply Kd.R_drewN | apply Kd.R_drew)); exact HO_3.out)); (case aS => exact (keep_size (w := w) (g := g) (row := none) (keepA))); (case aL => have := LMc9.out; omega); intro v715 w11 ho hb hg hat; rw [← Ny714.out] at ho; have n0_ := Aside0.mk (IsS134.grown (isA) hg (IsS134.own_ne HI0.out HO_3.out (by decide))); have n1_ := Aside0.mk (below_weaken (belowI) HL.out hb); have n2_ := Aside0.mk (KeepBut.trans (keepA) (KeepBut.of_grown hg g) (Kd.R_base2 HO_3.out)); have n3_ := Aside0.mk (ho); clear HI0; clear HB; clear HK; clear HO_3; have HI0 := n0_; have HB := n1_; have HK := n2_; have HO716 := n3_; clear n0_ n1_ n2_ n3_; clear ho hb hg hat))
     go_roundg k1
     case measure => have := HK1.out; omega
     case rel => exact ⟨(y714), (wrap64 (x4_1 - 1)), (t711), (t712), (t713), (by first | rfl | (simp; done) | (simp [*]; done)), H', ⟨by have := HK1.out; omega⟩, ⟨by (with_reducible repeat (first | apply Kd.R_alloc | apply Kd.R_drewN | apply Kd.R_drew)); exact HO716.out⟩, ⟨isA⟩, ⟨keepA⟩, ⟨belowI⟩⟩
    rw [if_neg c9] at H
    exact absurd H (by simp)
   rw [if_neg c7] at H; have c7b0 : decide (0 < x4_1) = false := decide_eq_false c7; clear c7; replace H := Option.bind_eq_some_iff.mp H; obtain ⟨t717, A120, H⟩ := H
   try dsimp only at H
   have A12 := Aside0.mk A120; clear A120; replace H := Option.bind_eq_some_iff.mp H; obtain ⟨⟨t718, t719, t720, t721⟩, A130, H⟩ := H
   try dsimp only at H
   have A13 := Aside0.mk A130; clear A130
   by_cases c14 : t718 = true
   ·subst c14
    have H1 : ((spec_l01Src_spoil.f k1 s0_0 t719 t720 t721 t717).bind fun bt722 => (some (bt722.1, bt722.2.1, bt722.2.2.1, bt722.2.2.2))) = some (r1, r2, r3, r4) := by rw [if_pos rfl] at H; exact H
    clear H; have H := H1; clear H1; replace H := Option.bind_eq_some_iff.mp H; obtain ⟨⟨t722, t723, t724, t725⟩, A150, H⟩ := H
    try dsimp only at H
    have A15 := Aside0.mk A150; clear A150; simp only [Option.some.injEq, Prod.mk.injEq] at H; obtain ⟨rfl, rfl, rfl, rfl⟩ := H; obtain ⟨Ao16, co16, eo16⟩ := Kd.R_slice HO_3.out; subst eo16
    go_wp2_with (first | ((with_reducible refine gate_callee (f := 95) rfl ?_); refine goesL_ (some 25) rfl rfl Tryd.func95 (by kernel_rfl) rfl #[.slice Ao16 x3_1.length co16] rfl (by (try simp only [List.map_toArray, List.map_cons, List.map_nil]); first | done | rfl) ?_; (with_reducible refine (W_spec_l01Text.calls _ _ x3_1 t717 _ ?side1 ?side2 A12.out).mono ?_); (case side1 => repeat (first | exact (Kd.R_reads' HO_3.out).2.2 | (with_reducible refine Kd.C_alloc ?_ _) | (with_reducible refine Kd.C_drewN ?_ _) | (with_reducible refine Kd.C_drew ?_))); (case side2 => exact (Kd.R_reads' HO_3.out).2.1); rintro e w17 ⟨rfl, hb⟩; refine ⟨_, rfl, ?_⟩; have n0_ := Aside0.mk (Kd.R_below (by (with_reducible repeat (first | apply Kd.R_alloc | apply Kd.R_drewN | apply Kd.R_drew)); exact HO_3.out) hb); have n1_ := Aside0.mk (IsS134.below (isA) hb); have n2_ := Aside0.mk (KeepBut.trans (keepA) (KeepBut.of_below hb g none) (.inl rfl)); have n3_ := Aside0.mk (below_step (belowI) hb); clear HO_3; clear HI0; clear HK; clear HB; have HO_3 := n0_; have HI0 := n1_; have HK := n2_; have HB := n3_; clear n0_ n1_ n2_ n3_; (try clear hb); (try clear hb2); (try clear hk); (try clear hi)) | ((with_reducible refine gate_callee (f := 79) rfl ?_); refine goesL_ (some 27) rfl rfl Tryd.func79 (by kernel_rfl) rfl #[.pointer (some ⟨g, 0, none⟩), .int .i64 15] rfl (by (try simp only [List.map_toArray, List.map_cons, List.map_nil]); first | done | rfl) ?_; (with_reducible refine (spec_l01Src_one.calls g s0_0 x1001_1 x1002_1 x1003_1 15 true t719 t720 t721 w0 _ ?side1 ?side2 A13.out).mono ?_); (case side1 => exact isA); (case side2 => exact belowI); rintro e w18 ⟨rfl, hi, hb, hk⟩; refine ⟨_, rfl, ?_⟩; have n0_ := Aside0.mk (Kd.R_mono (Kd.R_keep (IsS134.apart (show IsS134 w0 _ g s0_0 x1001_1 x1002_1 x1003_1 from isA) (by (with_reducible repeat (first | apply Kd.R_alloc | apply Kd.R_drewN | apply Kd.R_drew)); exact HO_3.out) (by decide)) hk (fun _ h => h.2)) (fun _ h => h.1)); have n1_ := Aside0.mk (KeepBut.trans (keepA) hk (.inl rfl)); have n2_ := Aside0.mk (hb); have n3_ := Aside0.mk (hi); clear HO_3; clear HK; clear HB; clear HI0; have HO_3 := n0_; have HK := n1_; have HB := n2_; have HI0 := n3_; clear n0_ n1_ n2_ n3_; (try clear hb); (try clear hb2); (try clear hk); (try clear hi)) | ((with_reducible refine gate_callee (f := 166) rfl ?_); refine goesL_ (some 30) rfl rfl Tryd.func166 (by kernel_rfl) rfl #[.pointer (some ⟨g, 0, none⟩), .string t717] rfl (by (try simp only [List.map_toArray, List.map_cons, List.map_nil]); first | done | rfl) ?_; (with_reducible refine (spec_l01Src_spoil.calls k1 g s0_0 t719 t720 t721 t717 t722 t723 t724 t725 w0 _ ?side1 ?side2 A15.out).mono ?_); (case side1 => exact isA); (case side2 => exact belowI); rintro e w19 ⟨rfl, hi, hb, hk⟩; refine ⟨_, rfl, ?_⟩; have n0_ := Aside0.mk (Kd.R_mono (Kd.R_keep (IsS134.apart (show IsS134 w0 _ g s0_0 t719 t720 t721 from isA) (by (with_reducible repeat (first | apply Kd.R_alloc | apply Kd.R_drewN | apply Kd.R_drew)); exact HO_3.out) (by decide)) hk (fun _ h => h.2)) (fun _ h => h.1)); have n1_ := Aside0.mk (KeepBut.trans (keepA) hk (.inl rfl)); have n2_ := Aside0.mk (hb); have n3_ := Aside0.mk (hi); clear HO_3; clear HK; clear HB; clear HI0; have HO_3 := n0_; have HK := n1_; have HB := n2_; have HI0 := n3_; clear n0_ n1_ n2_ n3_; (try clear hb); (try clear hb2); (try clear hk); (try clear hi)))
    go_ret
    exact ⟨by first | rfl | (simp [errW_none, errW_some] <;> rfl) | (simp [*, errW_none, errW_some] <;> rfl), isA, belowI, keepA⟩
   replace c14 := Bool.eq_false_iff.mpr c14; subst c14
   have H1 : (some (t717, t719, t720, t721)) = some (r1, r2, r3, r4) := by rw [if_neg (show ¬ (false = true) by decide)] at H; exact H
   clear H; have H := H1; clear H1; simp only [Option.some.injEq, Prod.mk.injEq] at H; obtain ⟨rfl, rfl, rfl, rfl⟩ := H; obtain ⟨Ao20, co20, eo20⟩ := Kd.R_slice HO_3.out; subst eo20
   go_wp2_with (first | ((with_reducible refine gate_callee (f := 95) rfl ?_); refine goesL_ (some 25) rfl rfl Tryd.func95 (by kernel_rfl) rfl #[.slice Ao20 x3_1.length co20] rfl (by (try simp only [List.map_toArray, List.map_cons, List.map_nil]); first | done | rfl) ?_; (with_reducible refine (W_spec_l01Text.calls _ _ x3_1 t717 _ ?side1 ?side2 A12.out).mono ?_); (case side1 => repeat (first | exact (Kd.R_reads' HO_3.out).2.2 | (with_reducible refine Kd.C_alloc ?_ _) | (with_reducible refine Kd.C_drewN ?_ _) | (with_reducible refine Kd.C_drew ?_))); (case side2 => exact (Kd.R_reads' HO_3.out).2.1); rintro e w21 ⟨rfl, hb⟩; refine ⟨_, rfl, ?_⟩; have n0_ := Aside0.mk (Kd.R_below (by (with_reducible repeat (first | apply Kd.R_alloc | apply Kd.R_drewN | apply Kd.R_drew)); exact HO_3.out) hb); have n1_ := Aside0.mk (IsS134.below (isA) hb); have n2_ := Aside0.mk (KeepBut.trans (keepA) (KeepBut.of_below hb g none) (.inl rfl)); have n3_ := Aside0.mk (below_step (belowI) hb); clear HO_3; clear HI0; clear HK; clear HB; have HO_3 := n0_; have HI0 := n1_; have HK := n2_; have HB := n3_; clear n0_ n1_ n2_ n3_; (try clear hb); (try clear hb2); (try clear hk); (try clear hi)) | ((with_reducible refine gate_callee (f := 79) rfl ?_); refine goesL_ (some 27) rfl rfl Tryd.func79 (by kernel_rfl) rfl #[.pointer (some ⟨g, 0, none⟩), .int .i64 15] rfl (by (try simp only [List.map_toArray, List.map_cons, List.map_nil]); first | done | rfl) ?_; (with_reducible refine (spec_l01Src_one.calls g s0_0 x1001_1 x1002_1 x1003_1 15 false t719 t720 t721 w0 _ ?side1 ?side2 A13.out).mono ?_); (case side1 => exact isA); (case side2 => exact belowI); rintro e w22 ⟨rfl, hi, hb, hk⟩; refine ⟨_, rfl, ?_⟩; have n0_ := Aside0.mk (Kd.R_mono (Kd.R_keep (IsS134.apart (show IsS134 w0 _ g s0_0 x1001_1 x1002_1 x1003_1 from isA) (by (with_reducible repeat (first | apply Kd.R_alloc | apply Kd.R_drewN | apply Kd.R_drew)); exact HO_3.out) (by decide)) hk (fun _ h => h.2)) (fun _ h => h.1)); have n1_ := Aside0.mk (KeepBut.trans (keepA) hk (.inl rfl)); have n2_ := Aside0.mk (hb); have n3_ := Aside0.mk (hi); clear HO_3; clear HK; clear HB; clear HI0; have HO_3 := n0_; have HK := n1_; have HB := n2_; have HI0 := n3_; clear n0_ n1_ n2_ n3_; (try clear hb); (try clear hb2); (try clear hk); (try clear hi)))
   go_ret
   exact ⟨by first | rfl | (simp [errW_none, errW_some] <;> rfl) | (simp [*, errW_none, errW_some] <;> rfl), isA, belowI, keepA⟩

theorem spec_l01Src_partsText.run (l : List Int) (z : Int) (hl : l.length ≤ 140737488355328) (d : Nat) (hd : d ≤ 1000) : ∀ (k : Nat) (n : Int) (acc : List Int) (a m : Int), n = d → acc.length + d ≤ 1000 → d + 40 ≤ k → 0 ≤ a → a ≤ (l.length : Int) →
    YtiabgmddnddeiaaDoorPts.Tot (spec_l01Src_partsText.l0 k acc n l a m z) (fun r => r.1.size ≤ 4 * (acc.length + d) + 1 ∧ 0 ≤ r.2.1 ∧ r.2.1 ≤ (l.length : Int) ∧ r.2.2.2 = z) := by
  induction d with
  | zero =>
    intro k n acc a m hn ha hk h0 h1
    obtain ⟨k, rfl⟩ : ∃ j, k = j + 1 + 1 := ⟨k - 2, by omega⟩
    rw [spec_l01Src_partsText.l0]
    rw [if_neg (by omega)]
    unfold W_spec_l01Text.f
    rw [if_pos (by omega)]
    simp only [Option.bind_some]
    have hs := YtiabgmddnddeiaaDoorPts.encs_length acc
    have hz : (strOfNums (YtiabgmddnddeiaaDoorPts.encs acc)).size ≤ 4 * acc.length := by rw [strOfNums_size]; omega
    refine YtiabgmddnddeiaaDoorPts.Tot.bind (spec_l01Src_one.tot l a m z 15 hl h0 h1 (by decide)) ?_
    rintro ⟨b, a3, m3, z3⟩ ⟨h9, h10, h11⟩
    dsimp only at h9 h10 h11 ⊢
    subst h11
    refine YtiabgmddnddeiaaDoorPts.Tot.ite (fun _ => ?_) (fun _ => YtiabgmddnddeiaaDoorPts.Tot.mk ⟨by dsimp only; omega, h9, h10, rfl⟩)
    refine YtiabgmddnddeiaaDoorPts.Tot.bind (spec_l01Src_spoil.tot k l a3 m3 z3 _ hl h9 h10 (by omega)) ?_
    rintro ⟨t2, a4, m4, z4⟩ ⟨h12, h13, h14, h15⟩
    dsimp only at h12 h13 h14 h15 ⊢
    exact YtiabgmddnddeiaaDoorPts.Tot.mk ⟨by dsimp only; omega, h13, h14, h15⟩
  | succ d ih =>
    intro k n acc a m hn ha hk h0 h1
    obtain ⟨k, rfl⟩ : ∃ j, k = j + 10 + 1 := ⟨k - 11, by omega⟩
    have hw : wrap64 (n - 1) = ((d : Nat) : Int) := by unfold wrap64; omega
    rw [spec_l01Src_partsText.l0]
    rw [if_pos (by omega)]
    refine YtiabgmddnddeiaaDoorPts.Tot.bind (spec_l01Src_part.tot k l a m z hl h0 h1) ?_
    rintro ⟨p, a1, m1, z1⟩ ⟨h2, h3, h4⟩
    dsimp only at h2 h3 h4 ⊢
    subst h4
    rw [hw]
    clear hw
    rw [if_pos (by omega)]
    refine (ih (by omega) (k + 10) (d : Int) (acc ++ [p]) a1 m1 rfl (by rw [List.length_append]; simp only [List.length_cons, List.length_nil]; omega) (by omega) h2 h3).mono ?_
    rintro ⟨s, a2, m2, z2⟩ ⟨q1, q2, q3, q4⟩
    dsimp only at q1 q2 q3 q4 ⊢
    rw [List.length_append] at q1
    simp only [List.length_cons, List.length_nil] at q1
    exact ⟨by omega, q2, q3, q4⟩
theorem spec_l01Src_partsText.tot (k : Nat) (l : List Int) (a m z : Int) (hl : l.length ≤ 140737488355328) (h0 : 0 ≤ a) (h1 : a ≤ (l.length : Int)) (hz : 0 ≤ z) (hz2 : z ≤ 12) (hk : 200 ≤ k) :
    YtiabgmddnddeiaaDoorPts.Tot (spec_l01Src_partsText.f k l a m z) (fun r => r.1.size ≤ 200 ∧ 0 ≤ r.2.1 ∧ r.2.1 ≤ (l.length : Int) ∧ r.2.2.2 = z) := by
  unfold spec_l01Src_partsText.f
  have hw : wrap64 (7 + wrap64 (2 * z)) = 7 + 2 * z := by unfold wrap64; omega
  rw [hw]
  clear hw
  refine YtiabgmddnddeiaaDoorPts.Tot.bind (spec_l01Src_n.tot l a m z _ hl h0 h1 (by omega)) ?_
  rintro ⟨v, a1, m1, z1⟩ ⟨v1, v2, h2, h3, h4⟩
  dsimp only at v1 v2 h2 h3 h4 ⊢
  subst h4
  refine (spec_l01Src_partsText.run l z1 hl v.toNat (by omega) k v [] a1 m1 (by omega) (by simp; omega) (by omega) h2 h3).mono ?_
  rintro ⟨s, a2, m2, z2⟩ ⟨q1, q2, q3, q4⟩
  dsimp only at q1 q2 q3 q4 ⊢
  simp only [List.length_nil] at q1
  exact ⟨by omega, q2, q3, q4⟩

/-! ### spec_DrawJoinNormal: function 54 -/
def spec_DrawJoinNormal.f (k : Nat) (l0 : List Int) : Option (Int × ByteArray × ByteArray) := (spec_l01Source.f l0).bind fun bt726 => ((spec_l01Src_normForm.f bt726.1 bt726.2.1 bt726.2.2.1 bt726.2.2.2).bind fun bt731 => ((spec_l01Src_one.f bt726.1 bt731.2.1 bt731.2.2.1 bt731.2.2.2 6).bind fun bt735 => (if bt735.1 = true then ((spec_l01Src_partsText.f k bt726.1 bt735.2.1 bt735.2.2.1 bt735.2.2.2).bind fun bt739 => ((spec_l01Src_partsText.f k bt726.1 bt739.2.1 bt739.2.2.1 bt739.2.2.2).bind fun bt743 => (some (bt731.1, bt739.1, bt743.1)))) else ((spec_l01Src_partsText.f k bt726.1 bt735.2.1 bt735.2.2.1 bt735.2.2.2).bind fun bt747 => ((W_spec_Normalize.f bt731.1 bt747.1).bind fun t751 => ((spec_l01Src_partsText.f k bt726.1 bt747.2.1 bt747.2.2.1 bt747.2.2.2).bind fun bt752 => ((W_spec_Normalize.f bt731.1 bt752.1).bind fun t756 => (some (bt731.1, t751, t756)))))))))
theorem spec_DrawJoinNormal.mono : ∀ a0 k, LeO (spec_DrawJoinNormal.f k a0) (spec_DrawJoinNormal.f (k + 1) a0) := by
 intro a0 k
 unfold spec_DrawJoinNormal.f
 repeat' first
   | (with_reducible exact spec_l01Src_partsText.mono _ _ _ _ _)
   | (with_reducible exact LeO.refl _)
   | (with_reducible exact LeO.none _)
   | (with_reducible refine LeO.ite ?_ ?_)
   | (with_reducible refine LeO.bind ?_ (fun _ => ?_))
   | exact spec_l01Src_partsText.mono _ _ _ _ _
   | exact LeO.none _
   | refine LeO.ite ?_ ?_
   | refine LeO.bind ?_ (fun _ => ?_)
set_option maxHeartbeats 8000000 in
set_option maxRecDepth 100000 in
theorem spec_DrawJoinNormal.calls (k : Nat) (A0 : Option Addr) (c0 : Nat) (l0 : List Int) (r1 : Int) (r2 : ByteArray) (r3 : ByteArray) (w : World) (hr0 : Kd.C (Kd.int .u8) w A0 l0.length l0) (hc0 : l0.length ≤ c0) (h : spec_DrawJoinNormal.f k l0 = some (r1, r2, r3)) :
  Calls Tryd.prog 54 #[.slice A0 l0.length c0] w fun e w' => e = .returned (.tuple #[.int .i64 r1, .string r2, .string r3]) ∧ Below w.heap.size w w' := by
 have HR0 := Aside0.mk hr0
 have HC0 := Aside0.mk hc0
 clear hr0 hc0
 have HB := Aside0.mk (Below.refl w.heap.size w)
 have H : ((spec_l01Source.f l0).bind fun bt726 => ((spec_l01Src_normForm.f bt726.1 bt726.2.1 bt726.2.2.1 bt726.2.2.2).bind fun bt731 => ((spec_l01Src_one.f bt726.1 bt731.2.1 bt731.2.2.1 bt731.2.2.2 6).bind fun bt735 => (if bt735.1 = true then ((spec_l01Src_partsText.f k bt726.1 bt735.2.1 bt735.2.2.1 bt735.2.2.2).bind fun bt739 => ((spec_l01Src_partsText.f k bt726.1 bt739.2.1 bt739.2.2.1 bt739.2.2.2).bind fun bt743 => (some (bt731.1, bt739.1, bt743.1)))) else ((spec_l01Src_partsText.f k bt726.1 bt735.2.1 bt735.2.2.1 bt735.2.2.2).bind fun bt747 => ((W_spec_Normalize.f bt731.1 bt747.1).bind fun t751 => ((spec_l01Src_partsText.f k bt726.1 bt747.2.1 bt747.2.2.1 bt747.2.2.2).bind fun bt752 => ((W_spec_Normalize.f bt731.1 bt752.1).bind fun t756 => (some (bt731.1, t751, t756)))))))))) = some (r1, r2, r3) := h
 clear h
 replace H := Option.bind_eq_some_iff.mp H
 obtain ⟨⟨t726, t727, t728, t729⟩, A20, H⟩ := H
 try dsimp only at H
 have A2 := Aside0.mk A20
 clear A20
 replace H := Option.bind_eq_some_iff.mp H
 obtain ⟨⟨t731, t732, t733, t734⟩, A30, H⟩ := H
 try dsimp only at H
 have A3 := Aside0.mk A30
 clear A30
 replace H := Option.bind_eq_some_iff.mp H
 obtain ⟨⟨t735, t736, t737, t738⟩, A40, H⟩ := H
 try dsimp only at H
 have A4 := Aside0.mk A40
 clear A40
 by_cases c5 : t735 = true
 ·subst c5
  have H1 : ((spec_l01Src_partsText.f k t726 t736 t737 t738).bind fun bt739 => ((spec_l01Src_partsText.f k t726 bt739.2.1 bt739.2.2.1 bt739.2.2.2).bind fun bt743 => (some (t731, bt739.1, bt743.1)))) = some (r1, r2, r3) := by rw [if_pos rfl] at H; exact H
  clear H; have H := H1; clear H1; replace H := Option.bind_eq_some_iff.mp H; obtain ⟨⟨t739, t740, t741, t742⟩, A60, H⟩ := H
  try dsimp only at H
  have A6 := Aside0.mk A60; clear A60; replace H := Option.bind_eq_some_iff.mp H; obtain ⟨⟨t743, t744, t745, t746⟩, A70, H⟩ := H
  try dsimp only at H
  have A7 := Aside0.mk A70; clear A70; simp only [Option.some.injEq, Prod.mk.injEq] at H; obtain ⟨rfl, rfl, rfl⟩ := H
  go_enter Tryd.func54, Tryd.ntmps54
  go_wp2_with (first | ((with_reducible refine gate_callee (f := 76) rfl ?_); refine goesL_ (some 8) rfl rfl Tryd.func76 (by kernel_rfl) rfl #[.slice A0 l0.length c0] rfl (by (try simp only [List.map_toArray, List.map_cons, List.map_nil]); first | done | rfl) ?_; (with_reducible refine (spec_l01Source.calls _ _ l0 t726 t727 t728 t729 w _ ?side1 ?side2 ?side3 A2.out).mono ?_); (case side1 => repeat (first | (with_reducible first | exact HB.out | apply below_alloc | apply pw_below_drewN | apply below_drew1) | exact HB.out)); (case side2 => exact HR0.out); (case side3 => exact HC0.out); rintro e w8 ⟨g730, rfl, hi, hb, hb2⟩; refine ⟨_, rfl, ?_⟩; have n0_ := Aside0.mk (hb); have n1_ := Aside0.mk (hi); clear HB; have HB := n0_; have HI730 := n1_; clear n0_ n1_; (try clear hb); (try clear hb2); (try clear hk); (try clear hi)) | ((with_reducible refine gate_callee (f := 77) rfl ?_); refine goesL_ (some 10) rfl rfl Tryd.func77 (by kernel_rfl) rfl #[.pointer (some ⟨g730, 0, none⟩)] rfl (by (try simp only [List.map_toArray, List.map_cons, List.map_nil]); first | done | rfl) ?_; (with_reducible refine (spec_l01Src_normForm.calls g730 t726 t727 t728 t729 t731 t732 t733 t734 w _ ?side1 ?side2 A3.out).mono ?_); (case side1 => repeat (first | (with_reducible first | exact HI730.out | apply IsS134.alloc | apply IsS134.drewN | apply IsS134.drew | apply IsS134.set_1 | apply IsS134.set_2 | apply IsS134.set_3) | exact HI730.out)); (case side2 => repeat (first | (with_reducible first | exact HB.out | apply below_alloc | apply pw_below_drewN | apply below_drew1 | refine below_set ?_ (IsS134.ge HI730.out)) | exact HB.out)); rintro e w9 ⟨rfl, hi, hb, hk⟩; refine ⟨_, rfl, ?_⟩; have n0_ := Aside0.mk (hb); have n1_ := Aside0.mk (hi); clear HB; clear HI730; have HB := n0_; have HI730 := n1_; clear n0_ n1_; (try clear hb); (try clear hb2); (try clear hk); (try clear hi)) | ((with_reducible refine gate_callee (f := 79) rfl ?_); refine goesL_ (some 12) rfl rfl Tryd.func79 (by kernel_rfl) rfl #[.pointer (some ⟨g730, 0, none⟩), .int .i64 6] rfl (by (try simp only [List.map_toArray, List.map_cons, List.map_nil]); first | done | rfl) ?_; (with_reducible refine (spec_l01Src_one.calls g730 t726 t732 t733 t734 6 true t736 t737 t738 w _ ?side1 ?side2 A4.out).mono ?_); (case side1 => repeat (first | (with_reducible first | exact HI730.out | apply IsS134.alloc | apply IsS134.drewN | apply IsS134.drew | apply IsS134.set_1 | apply IsS134.set_2 | apply IsS134.set_3) | exact HI730.out)); (case side2 => repeat (first | (with_reducible first | exact HB.out | apply below_alloc | apply pw_below_drewN | apply below_drew1 | refine below_set ?_ (IsS134.ge HI730.out)) | exact HB.out)); rintro e w10 ⟨rfl, hi, hb, hk⟩; refine ⟨_, rfl, ?_⟩; have n0_ := Aside0.mk (hb); have n1_ := Aside0.mk (hi); clear HB; clear HI730; have HB := n0_; have HI730 := n1_; clear n0_ n1_; (try clear hb); (try clear hb2); (try clear hk); (try clear hi)) | ((with_reducible refine gate_callee (f := 78) rfl ?_); refine goesL_ (some 15) rfl rfl Tryd.func78 (by kernel_rfl) rfl #[.pointer (some ⟨g730, 0, none⟩)] rfl (by (try simp only [List.map_toArray, List.map_cons, List.map_nil]); first | done | rfl) ?_; (with_reducible refine (spec_l01Src_partsText.calls k g730 t726 t736 t737 t738 t739 t740 t741 t742 w _ ?side1 ?side2 A6.out).mono ?_); (case side1 => repeat (first | (with_reducible first | exact HI730.out | apply IsS134.alloc | apply IsS134.drewN | apply IsS134.drew | apply IsS134.set_1 | apply IsS134.set_2 | apply IsS134.set_3) | exact HI730.out)); (case side2 => repeat (first | (with_reducible first | exact HB.out | apply below_alloc | apply pw_below_drewN | apply below_drew1 | refine below_set ?_ (IsS134.ge HI730.out)) | exact HB.out)); rintro e w11 ⟨rfl, hi, hb, hk⟩; refine ⟨_, rfl, ?_⟩; have n0_ := Aside0.mk (hb); have n1_ := Aside0.mk (hi); clear HB; clear HI730; have HB := n0_; have HI730 := n1_; clear n0_ n1_; (try clear hb); (try clear hb2); (try clear hk); (try clear hi)) | ((with_reducible refine gate_callee (f := 78) rfl ?_); refine goesL_ (some 17) rfl rfl Tryd.func78 (by kernel_rfl) rfl #[.pointer (some ⟨g730, 0, none⟩)] rfl (by (try simp only [List.map_toArray, List.map_cons, List.map_nil]); first | done | rfl) ?_; (with_reducible refine (spec_l01Src_partsText.calls k g730 t726 t740 t741 t742 t743 t744 t745 t746 w _ ?side1 ?side2 A7.out).mono ?_); (case side1 => repeat (first | (with_reducible first | exact HI730.out | apply IsS134.alloc | apply IsS134.drewN | apply IsS134.drew | apply IsS134.set_1 | apply IsS134.set_2 | apply IsS134.set_3) | exact HI730.out)); (case side2 => repeat (first | (with_reducible first | exact HB.out | apply below_alloc | apply pw_below_drewN | apply below_drew1 | refine below_set ?_ (IsS134.ge HI730.out)) | exact HB.out)); rintro e w12 ⟨rfl, hi, hb, hk⟩; refine ⟨_, rfl, ?_⟩; have n0_ := Aside0.mk (hb); have n1_ := Aside0.mk (hi); clear HB; clear HI730; have HB := n0_; have HI730 := n1_; clear n0_ n1_; (try clear hb); (try clear hb2); (try clear hk); (try clear hi)))
  go_ret3
  exact ⟨by first | rfl | (simp [errW_none, errW_some] <;> rfl) | (simp [*, errW_none, errW_some] <;> rfl), by repeat (first | (with_reducible first | exact HB.out | apply below_alloc | apply pw_below_drewN | apply below_drew1 | refine below_set ?_ (IsS134.ge HI730.out)) | exact HB.out)⟩
 replace c5 := Bool.eq_false_iff.mpr c5
 subst c5
 have H1 : ((spec_l01Src_partsText.f k t726 t736 t737 t738).bind fun bt747 => ((W_spec_Normalize.f t731 bt747.1).bind fun t751 => ((spec_l01Src_partsText.f k t726 bt747.2.1 bt747.2.2.1 bt747.2.2.2).bind fun bt752 => ((W_spec_Normalize.f t731 bt752.1).bind fun t756 => (some (t731, t751, t756)))))) = some (r1, r2, r3) := by rw [if_neg (show ¬ (false = true) by decide)] at H; exact H
 clear H
 have H := H1
 clear H1
 replace H := Option.bind_eq_some_iff.mp H
 obtain ⟨⟨t747, t748, t749, t750⟩, A130, H⟩ := H
 try dsimp only at H
 have A13 := Aside0.mk A130
 clear A130
 replace H := Option.bind_eq_some_iff.mp H
 obtain ⟨t751, A140, H⟩ := H
 try dsimp only at H
 have A14 := Aside0.mk A140
 clear A140
 replace H := Option.bind_eq_some_iff.mp H
 obtain ⟨⟨t752, t753, t754, t755⟩, A150, H⟩ := H
 try dsimp only at H
 have A15 := Aside0.mk A150
 clear A150
 replace H := Option.bind_eq_some_iff.mp H
 obtain ⟨t756, A160, H⟩ := H
 try dsimp only at H
 have A16 := Aside0.mk A160
 clear A160
 simp only [Option.some.injEq, Prod.mk.injEq] at H
 obtain ⟨rfl, rfl, rfl⟩ := H
 go_enter Tryd.func54, Tryd.ntmps54
 go_wp2_with (first | ((with_reducible refine gate_callee (f := 76) rfl ?_); refine goesL_ (some 8) rfl rfl Tryd.func76 (by kernel_rfl) rfl #[.slice A0 l0.length c0] rfl (by (try simp only [List.map_toArray, List.map_cons, List.map_nil]); first | done | rfl) ?_; (with_reducible refine (spec_l01Source.calls _ _ l0 t726 t727 t728 t729 w _ ?side1 ?side2 ?side3 A2.out).mono ?_); (case side1 => repeat (first | (with_reducible first | exact HB.out | apply below_alloc | apply pw_below_drewN | apply below_drew1) | exact HB.out)); (case side2 => exact HR0.out); (case side3 => exact HC0.out); rintro e w17 ⟨g730, rfl, hi, hb, hb2⟩; refine ⟨_, rfl, ?_⟩; have n0_ := Aside0.mk (hb); have n1_ := Aside0.mk (hi); clear HB; have HB := n0_; have HI730 := n1_; clear n0_ n1_; (try clear hb); (try clear hb2); (try clear hk); (try clear hi)) | ((with_reducible refine gate_callee (f := 77) rfl ?_); refine goesL_ (some 10) rfl rfl Tryd.func77 (by kernel_rfl) rfl #[.pointer (some ⟨g730, 0, none⟩)] rfl (by (try simp only [List.map_toArray, List.map_cons, List.map_nil]); first | done | rfl) ?_; (with_reducible refine (spec_l01Src_normForm.calls g730 t726 t727 t728 t729 t731 t732 t733 t734 w _ ?side1 ?side2 A3.out).mono ?_); (case side1 => repeat (first | (with_reducible first | exact HI730.out | apply IsS134.alloc | apply IsS134.drewN | apply IsS134.drew | apply IsS134.set_1 | apply IsS134.set_2 | apply IsS134.set_3) | exact HI730.out)); (case side2 => repeat (first | (with_reducible first | exact HB.out | apply below_alloc | apply pw_below_drewN | apply below_drew1 | refine below_set ?_ (IsS134.ge HI730.out)) | exact HB.out)); rintro e w18 ⟨rfl, hi, hb, hk⟩; refine ⟨_, rfl, ?_⟩; have n0_ := Aside0.mk (hb); have n1_ := Aside0.mk (hi); clear HB; clear HI730; have HB := n0_; have HI730 := n1_; clear n0_ n1_; (try clear hb); (try clear hb2); (try clear hk); (try clear hi)) | ((with_reducible refine gate_callee (f := 79) rfl ?_); refine goesL_ (some 12) rfl rfl Tryd.func79 (by kernel_rfl) rfl #[.pointer (some ⟨g730, 0, none⟩), .int .i64 6] rfl (by (try simp only [List.map_toArray, List.map_cons, List.map_nil]); first | done | rfl) ?_; (with_reducible refine (spec_l01Src_one.calls g730 t726 t732 t733 t734 6 false t736 t737 t738 w _ ?side1 ?side2 A4.out).mono ?_); (case side1 => repeat (first | (with_reducible first | exact HI730.out | apply IsS134.alloc | apply IsS134.drewN | apply IsS134.drew | apply IsS134.set_1 | apply IsS134.set_2 | apply IsS134.set_3) | exact HI730.out)); (case side2 => repeat (first | (with_reducible first | exact HB.out | apply below_alloc | apply pw_below_drewN | apply below_drew1 | refine below_set ?_ (IsS134.ge HI730.out)) | exact HB.out)); rintro e w19 ⟨rfl, hi, hb, hk⟩; refine ⟨_, rfl, ?_⟩; have n0_ := Aside0.mk (hb); have n1_ := Aside0.mk (hi); clear HB; clear HI730; have HB := n0_; have HI730 := n1_; clear n0_ n1_; (try clear hb); (try clear hb2); (try clear hk); (try clear hi)) | ((with_reducible refine gate_callee (f := 78) rfl ?_); refine goesL_ (some 21) rfl rfl Tryd.func78 (by kernel_rfl) rfl #[.pointer (some ⟨g730, 0, none⟩)] rfl (by (try simp only [List.map_toArray, List.map_cons, List.map_nil]); first | done | rfl) ?_; (with_reducible refine (spec_l01Src_partsText.calls k g730 t726 t736 t737 t738 t747 t748 t749 t750 w _ ?side1 ?side2 A13.out).mono ?_); (case side1 => repeat (first | (with_reducible first | exact HI730.out | apply IsS134.alloc | apply IsS134.drewN | apply IsS134.drew | apply IsS134.set_1 | apply IsS134.set_2 | apply IsS134.set_3) | exact HI730.out)); (case side2 => repeat (first | (with_reducible first | exact HB.out | apply below_alloc | apply pw_below_drewN | apply below_drew1 | refine below_set ?_ (IsS134.ge HI730.out)) | exact HB.out)); rintro e w20 ⟨rfl, hi, hb, hk⟩; refine ⟨_, rfl, ?_⟩; have n0_ := Aside0.mk (hb); have n1_ := Aside0.mk (hi); clear HB; clear HI730; have HB := n0_; have HI730 := n1_; clear n0_ n1_; (try clear hb); (try clear hb2); (try clear hk); (try clear hi)) | ((with_reducible refine gate_callee (f := 15) rfl ?_); refine goesL_ (some 22) rfl rfl Tryd.func15 (by kernel_rfl) rfl #[.int .i64 t731, .string t747] rfl (by (try simp only [List.map_toArray, List.map_cons, List.map_nil]); first | done | rfl) ?_; (with_reducible refine (W_spec_Normalize.calls t731 t747 t751 _ A14.out).mono ?_); rintro e w21 ⟨rfl, hb⟩; refine ⟨_, rfl, ?_⟩; have n0_ := Aside0.mk (IsS134.below (by repeat (first | (with_reducible first | exact HI730.out | apply IsS134.alloc | apply IsS134.drewN | apply IsS134.drew | apply IsS134.set_1 | apply IsS134.set_2 | apply IsS134.set_3) | exact HI730.out)) hb); have n1_ := Aside0.mk (below_step (by repeat (first | (with_reducible first | exact HB.out | apply below_alloc | apply pw_below_drewN | apply below_drew1 | refine below_set ?_ (IsS134.ge HI730.out)) | exact HB.out)) hb); clear HI730; clear HB; have HI730 := n0_; have HB := n1_; clear n0_ n1_; (try clear hb); (try clear hb2); (try clear hk); (try clear hi)) | ((with_reducible refine gate_callee (f := 78) rfl ?_); refine goesL_ (some 25) rfl rfl Tryd.func78 (by kernel_rfl) rfl #[.pointer (some ⟨g730, 0, none⟩)] rfl (by (try simp only [List.map_toArray, List.map_cons, List.map_nil]); first | done | rfl) ?_; (with_reducible refine (spec_l01Src_partsText.calls k g730 t726 t748 t749 t750 t752 t753 t754 t755 w _ ?side1 ?side2 A15.out).mono ?_); (case side1 => repeat (first | (with_reducible first | exact HI730.out | apply IsS134.alloc | apply IsS134.drewN | apply IsS134.drew | apply IsS134.set_1 | apply IsS134.set_2 | apply IsS134.set_3) | exact HI730.out)); (case side2 => repeat (first | (with_reducible first | exact HB.out | apply below_alloc | apply pw_below_drewN | apply below_drew1 | refine below_set ?_ (IsS134.ge HI730.out)) | exact HB.out)); rintro e w22 ⟨rfl, hi, hb, hk⟩; refine ⟨_, rfl, ?_⟩; have n0_ := Aside0.mk (hb); have n1_ := Aside0.mk (hi); clear HB; clear HI730; have HB := n0_; have HI730 := n1_; clear n0_ n1_; (try clear hb); (try clear hb2); (try clear hk); (try clear hi)) | ((with_reducible refine gate_callee (f := 15) rfl ?_); refine goesL_ (some 26) rfl rfl Tryd.func15 (by kernel_rfl) rfl #[.int .i64 t731, .string t752] rfl (by (try simp only [List.map_toArray, List.map_cons, List.map_nil]); first | done | rfl) ?_; (with_reducible refine (W_spec_Normalize.calls t731 t752 t756 _ A16.out).mono ?_); rintro e w23 ⟨rfl, hb⟩; refine ⟨_, rfl, ?_⟩; have n0_ := Aside0.mk (IsS134.below (by repeat (first | (with_reducible first | exact HI730.out | apply IsS134.alloc | apply IsS134.drewN | apply IsS134.drew | apply IsS134.set_1 | apply IsS134.set_2 | apply IsS134.set_3) | exact HI730.out)) hb); have n1_ := Aside0.mk (below_step (by repeat (first | (with_reducible first | exact HB.out | apply below_alloc | apply pw_below_drewN | apply below_drew1 | refine below_set ?_ (IsS134.ge HI730.out)) | exact HB.out)) hb); clear HI730; clear HB; have HI730 := n0_; have HB := n1_; clear n0_ n1_; (try clear hb); (try clear hb2); (try clear hk); (try clear hi)))
 go_ret3
 exact ⟨by first | rfl | (simp [errW_none, errW_some] <;> rfl) | (simp [*, errW_none, errW_some] <;> rfl), by repeat (first | (with_reducible first | exact HB.out | apply below_alloc | apply pw_below_drewN | apply below_drew1 | refine below_set ?_ (IsS134.ge HI730.out)) | exact HB.out)⟩

theorem spec_DrawJoinNormal.tot (l : List Int) (hl : l.length ≤ 140737488355328) : YtiabgmddnddeiaaDoorPts.Tot (spec_DrawJoinNormal.f 100001 l) (fun r => (-1 ≤ r.1 ∧ r.1 ≤ 5) ∧ r.2.1.size ≤ 100000 ∧ r.2.2.size ≤ 100000) := by
  have nt : ∀ f (t : ByteArray), (YtiabgmddnddeiaaDoorNst.NT f t).size ≤ 65536 := fun f t => by
    unfold YtiabgmddnddeiaaDoorNst.NT
    split
    · exact Nat.zero_le _
    · exact YtiabgmddnddeiaaDoorNst.sh_size _
  unfold spec_DrawJoinNormal.f spec_l01Source.f
  rw [if_pos hl]
  simp only [Option.bind_some]
  refine YtiabgmddnddeiaaDoorPts.Tot.bind (spec_l01Src_normForm.tot l 0 _ _ hl (by omega) (by omega)) ?_
  rintro ⟨f, a1, m1, z1⟩ ⟨hf, h2, h3, h4⟩
  dsimp only at hf h2 h3 h4 ⊢
  refine YtiabgmddnddeiaaDoorPts.Tot.bind (spec_l01Src_one.tot l a1 m1 z1 6 hl h2 h3 (by decide)) ?_
  rintro ⟨b, a3, m3, z3⟩ ⟨h8, h9, h10⟩
  dsimp only at h8 h9 h10 ⊢
  have hz : 0 ≤ z3 ∧ z3 ≤ 12 := by rw [h10, h4]; split <;> omega
  clear h10 h4
  refine YtiabgmddnddeiaaDoorPts.Tot.ite (fun _ => ?_) (fun _ => ?_)
  · refine YtiabgmddnddeiaaDoorPts.Tot.bind (spec_l01Src_partsText.tot 100001 l a3 m3 z3 hl h8 h9 hz.1 hz.2 (by omega)) ?_
    rintro ⟨t, a2, m2, z2⟩ ⟨ht, h5, h6, h7⟩
    dsimp only at ht h5 h6 h7 ⊢
    refine YtiabgmddnddeiaaDoorPts.Tot.bind (spec_l01Src_partsText.tot 100001 l a2 m2 z2 hl h5 h6 (by rw [h7]; exact hz.1) (by rw [h7]; exact hz.2) (by omega)) ?_
    rintro ⟨t2, a4, m4, z4⟩ ⟨ht2, _, _, _⟩
    dsimp only at ht2 ⊢
    exact YtiabgmddnddeiaaDoorPts.Tot.mk ⟨hf, by dsimp only; omega, by dsimp only; omega⟩
  · refine YtiabgmddnddeiaaDoorPts.Tot.bind (spec_l01Src_partsText.tot 100001 l a3 m3 z3 hl h8 h9 hz.1 hz.2 (by omega)) ?_
    rintro ⟨t, a2, m2, z2⟩ ⟨ht, h5, h6, h7⟩
    dsimp only at ht h5 h6 h7 ⊢
    unfold W_spec_Normalize.f
    rw [if_pos (by omega)]
    simp only [Option.bind_some]
    refine YtiabgmddnddeiaaDoorPts.Tot.bind (spec_l01Src_partsText.tot 100001 l a2 m2 z2 hl h5 h6 (by rw [h7]; exact hz.1) (by rw [h7]; exact hz.2) (by omega)) ?_
    rintro ⟨t2, a4, m4, z4⟩ ⟨ht2, _, _, _⟩
    dsimp only at ht2 ⊢
    rw [if_pos (by omega)]
    simp only [Option.bind_some]
    have n1 := nt f t
    have n2 := nt f t2
    exact YtiabgmddnddeiaaDoorPts.Tot.mk ⟨hf, by dsimp only; omega, by dsimp only; omega⟩
def W_spec_DrawJoinNormal.f (l0 : List Int) : Option (Int × ByteArray × ByteArray) := spec_DrawJoinNormal.f 100001 l0
theorem W_spec_DrawJoinNormal.to {l0 : List Int} {r : Int × ByteArray × ByteArray} (h : W_spec_DrawJoinNormal.f l0 = some r) : ∃ k, spec_DrawJoinNormal.f k l0 = some r := ⟨100001, h⟩
theorem W_spec_DrawJoinNormal.has {l : List Int} (hl : l.length ≤ 140737488355328) : ∃ f a b, W_spec_DrawJoinNormal.f l = some (f, a, b) ∧ (-1 ≤ f ∧ f ≤ 5) ∧ a.size ≤ 100000 ∧ b.size ≤ 100000 := by
  obtain ⟨⟨f, a, b⟩, h1, h2⟩ := spec_DrawJoinNormal.tot l hl
  exact ⟨f, a, b, h1, h2⟩
theorem W_spec_DrawJoinNormal.calls (A0 : Option Addr) (c0 : Nat) (l0 : List Int) (r1 : Int) (r2 : ByteArray) (r3 : ByteArray) (w : World) (hr0 : Kd.C (Kd.int .u8) w A0 l0.length l0) (hc0 : l0.length ≤ c0) (h : W_spec_DrawJoinNormal.f l0 = some (r1, r2, r3)) :
    Calls Tryd.prog 54 #[.slice A0 l0.length c0] w fun e w' => e = .returned (.tuple #[.int .i64 r1, .string r2, .string r3]) ∧ Below w.heap.size w w' := by
  obtain ⟨k, hk⟩ := W_spec_DrawJoinNormal.to h
  exact spec_DrawJoinNormal.calls k A0 c0 l0 r1 r2 r3 w hr0 hc0 hk

/-! ### impl_JoinNormal: function 55 -/
def impl_JoinNormal.j0 : Nat → Int → ByteArray → ByteArray → Bool → Option (ByteArray)
 | 0, _, _, _, _ => none
 | k + 1, x0, x1, x2, x16 => if x16 = true then (some (⟨#[]⟩ : ByteArray)) else (if x1.size + x2.size ≤ 9223372036854775807 then ((impl_norm.f x0 (x1 ++ x2)).bind fun t759 => ((impl_short.f t759).bind fun t760 => (some t760))) else (none))
def impl_JoinNormal.f (k : Nat) (a0 : Int) (a1 : ByteArray) (a2 : ByteArray) : Option (ByteArray) := (impl_IsNormal.f a0 a1).bind fun t757 => (if t757 = true then ((impl_IsNormal.f a0 a2).bind fun t758 => (impl_JoinNormal.j0 k a0 a1 a2 (!t758))) else (impl_JoinNormal.j0 k a0 a1 a2 true))
theorem impl_JoinNormal.mono_l : ∀ k, (∀ y0 y1 y2 y3, LeO (impl_JoinNormal.j0 k y0 y1 y2 y3) (impl_JoinNormal.j0 (k + 1) y0 y1 y2 y3))
 | 0 => fun _ _ _ _ r h => by simp [impl_JoinNormal.j0] at h
 | k + 1 => by
  have ih0 := impl_JoinNormal.mono_l k; intro y0 y1 y2 y3
  unfold impl_JoinNormal.j0
  repeat' first
  | (with_reducible exact ih0 _ _ _ _)
  | (with_reducible exact LeO.refl _)
  | (with_reducible exact LeO.none _)
  | (with_reducible refine LeO.ite ?_ ?_)
  | (with_reducible refine LeO.bind ?_ (fun _ => ?_))
  | exact ih0 _ _ _ _
  | exact LeO.none _
  | refine LeO.ite ?_ ?_
  | refine LeO.bind ?_ (fun _ => ?_)
theorem impl_JoinNormal.mono : ∀ a0 a1 a2 k, LeO (impl_JoinNormal.f k a0 a1 a2) (impl_JoinNormal.f (k + 1) a0 a1 a2) := by
 intro a0 a1 a2 k
 have ih0 := impl_JoinNormal.mono_l k
 unfold impl_JoinNormal.f
 repeat' first
   | (with_reducible exact ih0 _ _ _ _)
   | (with_reducible exact LeO.refl _)
   | (with_reducible exact LeO.none _)
   | (with_reducible refine LeO.ite ?_ ?_)
   | (with_reducible refine LeO.bind ?_ (fun _ => ?_))
   | exact ih0 _ _ _ _
   | exact LeO.none _
   | refine LeO.ite ?_ ?_
   | refine LeO.bind ?_ (fun _ => ?_)
set_option maxHeartbeats 8000000 in
set_option maxRecDepth 100000 in
theorem impl_JoinNormal.calls (k : Nat) (a0 : Int) (a1 : ByteArray) (a2 : ByteArray) (r : ByteArray) (w : World) (h : impl_JoinNormal.f k a0 a1 a2 = some r) (hG : GT w) :
  Calls Tryd.prog 55 #[.int .i64 a0, .string a1, .string a2] w fun e w' => e = .returned (.string r) ∧ Below w.heap.size w w' := by
 have HG := Aside0.mk hG
 clear hG
 have HB := Aside0.mk (Below.refl w.heap.size w)
 have H : ((impl_IsNormal.f a0 a1).bind fun t757 => (if t757 = true then ((impl_IsNormal.f a0 a2).bind fun t758 => (impl_JoinNormal.j0 k a0 a1 a2 (!t758))) else (impl_JoinNormal.j0 k a0 a1 a2 true))) = some r := h
 clear h
 have HC4 := Aside0.mk H
 clear H
 go_enter Tryd.func55, Tryd.ntmps55
 go_upto_region 1 with (fail)
 go_cut [16] (fun v16 wc => ∃ (kq : Nat) (x16_3 : Bool), v16 = .bool x16_3 ∧ Aside0 (impl_JoinNormal.j0 kq a0 a1 a2 x16_3 = some r) ∧ Aside0 (kq ≤ k) ∧ Aside0 (Below w.heap.size w wc))
 case first =>
  have H := HC4.out; clear HC4; replace H := Option.bind_eq_some_iff.mp H; obtain ⟨t757, A50, H⟩ := H
  try dsimp only at H
  have A5 := Aside0.mk A50; clear A50
  by_cases c6 : t757 = true
  ·subst c6
   have H1 : ((impl_IsNormal.f a0 a2).bind fun t758 => (impl_JoinNormal.j0 k a0 a1 a2 (!t758))) = some r := by rw [if_pos rfl] at H; exact H
   clear H; have H := H1; clear H1; replace H := Option.bind_eq_some_iff.mp H; obtain ⟨t758, A70, H⟩ := H
   try dsimp only at H
   have A7 := Aside0.mk A70; clear A70; have H' := Aside0.mk H; clear H
   go_wp2_with (first | ((with_reducible refine gate_callee (f := 53) rfl ?_); refine goesL_ (some 9) rfl rfl Tryd.func53 (by kernel_rfl) rfl #[.int .i64 a0, .string a1] rfl (by (try simp only [List.map_toArray, List.map_cons, List.map_nil]); first | done | rfl) ?_; (with_reducible refine (impl_IsNormal.calls a0 a1 true _ A5.out (by first | exact HG.out | exact GT.below HG.out (by first | exact HB.out | (repeat (first | (with_reducible first | exact HB.out | apply below_alloc | apply pw_below_drewN | apply below_drew1 | refine below_set ?_ (Aside0.out (by assumption))) | exact HB.out))) | exact GT.below HG.out (HB.out))).mono ?_); rintro e w8 ⟨rfl, hb⟩; refine ⟨_, rfl, ?_⟩; have n0_ := Aside0.mk (below_step (belowA) hb); clear HB; have HB := n0_; clear n0_; (try clear hb); (try clear hb2); (try clear hk); (try clear hi)) | (go_at_call 53; (with_reducible refine (impl_IsNormal.calls a0 a2 t758 _ A7.out (by first | exact HG.out | exact GT.below HG.out (by first | exact HB.out | (repeat (first | (with_reducible first | exact HB.out | apply below_alloc | apply pw_below_drewN | apply below_drew1 | refine below_set ?_ (Aside0.out (by assumption))) | exact HB.out))) | exact GT.below HG.out (HB.out))).mono ?_); rintro e w9 ⟨rfl, hb⟩; have n0_ := Aside0.mk (below_step (belowA) hb); clear HB; have HB := n0_; clear n0_; (try clear hb); (try clear hb2); (try clear hk); (try clear hi)))
   go_meet
   case rel => exact ⟨_, (!t758), (by first | rfl | (simp; done) | (simp [*]; done)), H', ⟨by first | omega | exact Nat.le_refl _⟩, ⟨belowA⟩⟩
  replace c6 := Bool.eq_false_iff.mpr c6; subst c6
  have H1 : (impl_JoinNormal.j0 k a0 a1 a2 true) = some r := by rw [if_neg (show ¬ (false = true) by decide)] at H; exact H
  clear H; have H := H1; clear H1; have H' := Aside0.mk H; clear H
  go_wp2_with (first | ((with_reducible refine gate_callee (f := 53) rfl ?_); refine goesL_ (some 9) rfl rfl Tryd.func53 (by kernel_rfl) rfl #[.int .i64 a0, .string a1] rfl (by (try simp only [List.map_toArray, List.map_cons, List.map_nil]); first | done | rfl) ?_; (with_reducible refine (impl_IsNormal.calls a0 a1 false _ A5.out (by first | exact HG.out | exact GT.below HG.out (by first | exact HB.out | (repeat (first | (with_reducible first | exact HB.out | apply below_alloc | apply pw_below_drewN | apply below_drew1 | refine below_set ?_ (Aside0.out (by assumption))) | exact HB.out))) | exact GT.below HG.out (HB.out))).mono ?_); rintro e w10 ⟨rfl, hb⟩; refine ⟨_, rfl, ?_⟩; have n0_ := Aside0.mk (below_step (belowA) hb); clear HB; have HB := n0_; clear n0_; (try clear hb); (try clear hb2); (try clear hk); (try clear hi)))
  go_meet
  case rel => exact ⟨_, (true), (by first | rfl | (simp; done) | (simp [*]; done)), H', ⟨by first | omega | exact Nat.le_refl _⟩, ⟨belowA⟩⟩
 case rest =>
  clear HC4
  try clear p2; try clear c5; try clear c6
  obtain ⟨kq, x16_3, rfl, HA, HJ3, HB⟩ := hcut
  cases kq with
  | zero => exact absurd HA.out (by simp [impl_JoinNormal.j0])
  | succ kj3 =>
   have H := HA.out; clear HA; simp only [impl_JoinNormal.j0] at H
   by_cases c11 : x16_3 = true
   ·subst c11
    have H1 : (some (⟨#[]⟩ : ByteArray)) = some r := by rw [if_pos rfl] at H; exact H
    clear H; have H := H1; clear H1; obtain rfl := Option.some.inj H
    go_wp2
    go_ret
    exact ⟨by first | rfl | (simp [errW_none, errW_some] <;> rfl) | (simp [*, errW_none, errW_some] <;> rfl), belowA⟩
   replace c11 := Bool.eq_false_iff.mpr c11; subst c11
   have H1 : (if a1.size + a2.size ≤ 9223372036854775807 then ((impl_norm.f a0 (a1 ++ a2)).bind fun t759 => ((impl_short.f t759).bind fun t760 => (some t760))) else (none)) = some r := by rw [if_neg (show ¬ (false = true) by decide)] at H; exact H
   clear H; have H := H1; clear H1
   by_cases c12 : a1.size + a2.size ≤ 9223372036854775807
   ·rw [if_pos c12] at H
    have c12b0 := eq_true c12; have c12b1 : decide (a1.size + a2.size ≤ 9223372036854775807) = true := decide_eq_true c12
    try have c12b2 : (9223372036854775807 < a1.size + a2.size) = False := eq_false (Nat.not_lt.2 c12)
    replace H := Option.bind_eq_some_iff.mp H; obtain ⟨t759, A130, H⟩ := H
    try dsimp only at H
    have A13 := Aside0.mk A130; clear A130; replace H := Option.bind_eq_some_iff.mp H; obtain ⟨t760, A140, H⟩ := H
    try dsimp only at H
    have A14 := Aside0.mk A140; clear A140; obtain rfl := Option.some.inj H
    go_wp2_with (first | ((with_reducible refine gate_callee (f := 89) rfl ?_); refine goesL_ (some 21) rfl rfl Tryd.func89 (by kernel_rfl) rfl #[.int .i64 a0, .string (a1 ++ a2)] rfl (by (try simp only [List.map_toArray, List.map_cons, List.map_nil]); first | done | rfl) ?_; (with_reducible refine (impl_norm.calls a0 (a1 ++ a2) t759 _ A13.out (by first | exact HG.out | exact GT.below HG.out (by first | exact HB.out | (repeat (first | (with_reducible first | exact HB.out | apply below_alloc | apply pw_below_drewN | apply below_drew1 | refine below_set ?_ (Aside0.out (by assumption))) | exact HB.out))) | exact GT.below HG.out (HB.out))).mono ?_); rintro e w15 ⟨rfl, hb⟩; refine ⟨_, rfl, ?_⟩; have n0_ := Aside0.mk (below_step (belowA) hb); clear HB; have HB := n0_; clear n0_; (try clear hb); (try clear hb2); (try clear hk); (try clear hi)) | ((with_reducible refine gate_callee (f := 88) rfl ?_); refine goesL_ (some 22) rfl rfl Tryd.func88 (by kernel_rfl) rfl #[.string t759] rfl (by (try simp only [List.map_toArray, List.map_cons, List.map_nil]); first | done | rfl) ?_; (with_reducible refine (impl_short.calls t759 t760 _ A14.out).mono ?_); rintro e w' ⟨rfl, ⟨nd, rfl⟩⟩; refine ⟨_, rfl, ?_⟩))
    go_ret
    exact ⟨by first | rfl | (simp [errW_none, errW_some] <;> rfl) | (simp [*, errW_none, errW_some] <;> rfl), belowA⟩
   rw [if_neg c12] at H
   exact absurd H (by simp)

def W_impl_JoinNormal.f (f : Int) (a b : ByteArray) : Option ByteArray := if a.size ≤ 10000000 ∧ b.size ≤ 10000000 then some (YtiabgmddnddeiaaDoorNst.JN f a b) else none
theorem W_impl_JoinNormal.to {f : Int} {a b : ByteArray} {r : ByteArray} (h : W_impl_JoinNormal.f f a b = some r) : ∃ k, impl_JoinNormal.f k f a b = some r := by
  unfold W_impl_JoinNormal.f at h
  split at h
  · rename_i ht
    refine ⟨1, ?_⟩
    rw [← h]
    unfold impl_JoinNormal.f YtiabgmddnddeiaaDoorNst.JN
    rw [impl_IsNormal.eq (by omega), impl_IsNormal.eq (by omega)]
    simp only [Option.bind_some]
    cases ha : YtiabgmddnddeiaaDoorNst.IsN f a with
    | false =>
      rw [if_neg (by decide)]
      simp only [impl_JoinNormal.j0]
      rw [if_pos trivial, if_neg (by rintro ⟨z, _⟩; cases z)]
    | true =>
      rw [if_pos rfl]
      cases hb : YtiabgmddnddeiaaDoorNst.IsN f b with
      | false =>
        simp only [impl_JoinNormal.j0]
        rw [if_pos (by rfl), if_neg (by rintro ⟨_, z⟩; cases z)]
      | true =>
        have hf : 1 ≤ f ∧ f ≤ 4 := by
          unfold YtiabgmddnddeiaaDoorNst.IsN at ha
          split at ha
          · cases ha
          · rename_i c
            apply of_decide_eq_true
            cases ho : YtiabgmddnddeiaaDoorNst.ok f with
            | false => exact absurd (.inr ho) c
            | true => exact ho
        simp only [impl_JoinNormal.j0]
        rw [if_neg (by decide), if_pos (by omega), impl_norm.eq hf (by rw [ByteArray.size_append]; omega), if_pos (by simp)]
        simp only [Option.bind_some]
        unfold impl_short.f impl_long.f YtiabgmddnddeiaaDoorNst.sh
        simp only [Option.bind_some]
        by_cases d : ((YtiabgmddnddeiaaDoorNst.N f (a ++ b)).size : Int) > 65536
        · rw [decide_eq_true d, if_pos rfl, if_pos d]; rfl
        · rw [decide_eq_false d, if_neg (by decide), if_neg d]; rfl
  · cases h
theorem W_impl_JoinNormal.calls (a0 : Int) (a1 : ByteArray) (a2 : ByteArray) (r : ByteArray) (w : World) (h : W_impl_JoinNormal.f a0 a1 a2 = some r) (hG : GT w) :
    Calls Tryd.prog 55 #[.int .i64 a0, .string a1, .string a2] w fun e w' => e = .returned (.string r) ∧ Below w.heap.size w w' := by
  obtain ⟨k, hk⟩ := W_impl_JoinNormal.to h
  exact impl_JoinNormal.calls k a0 a1 a2 r w hk hG

/-! ### spec_l05Is: function 139 -/
def spec_l05Is.f (a0 : Int) (a1 : ByteArray) : Option (Bool) := (spec_l05Text.f a0 a1).bind fun t761 => (some (t761.toList == a1.toList))
set_option maxHeartbeats 8000000 in
set_option maxRecDepth 100000 in
theorem spec_l05Is.calls (a0 : Int) (a1 : ByteArray) (r : Bool) (w : World) (h : spec_l05Is.f a0 a1 = some r) :
    Calls Tryd.prog 139 #[.int .i64 a0, .string a1] w fun e w' => e = .returned (.bool r) ∧ Below w.heap.size w w' := by
  have HB := Aside0.mk (Below.refl w.heap.size w)
  have H : ((spec_l05Text.f a0 a1).bind fun t761 => (some (t761.toList == a1.toList))) = some r := h
  clear h
  replace H := Option.bind_eq_some_iff.mp H
  obtain ⟨t761, A30, H⟩ := H
  replace H : (some (t761.toList == a1.toList)) = some r := H
  have A3 := Aside0.mk A30
  clear A30
  obtain rfl := Option.some.inj H
  go_enter Tryd.func139, Tryd.ntmps139
  go_wp2_with (first | ((with_reducible refine gate_callee (f := 85) rfl ?_); refine goesL_ (some 7) rfl rfl Tryd.func85 (by kernel_rfl) rfl #[.int .i64 a0, .string a1] rfl (by (try simp only [List.map_toArray, List.map_cons, List.map_nil]); first | done | rfl | (simp only [List.length_drop, List.length_take]; rfl)) ?_; (with_reducible refine (spec_l05Text.calls a0 a1 t761 _ A3.out).mono ?_); rintro e w4 ⟨rfl, hb⟩; refine ⟨_, rfl, ?_⟩; have n0_ := Aside0.mk (below_step (by repeat (first | (with_reducible first | exact HB.out | apply below_alloc | apply pw_below_drewN | apply below_drew1) | exact HB.out)) hb); clear HB; have HB := n0_; clear n0_; (try clear hb); (try clear hb2); (try clear hk); (try clear hi)))
  go_ret
  exact ⟨by first | rfl | (simp [errW_none, errW_some] <;> rfl) | (simp [*, errW_none, errW_some] <;> rfl), by repeat (first | (with_reducible first | exact HB.out | apply below_alloc | apply pw_below_drewN | apply below_drew1) | exact HB.out)⟩

theorem spec_l05Is.eq {f : Int} {t : ByteArray} (hf : 1 ≤ f ∧ f ≤ 4) (ht : t.size ≤ 100000000) : spec_l05Is.f f t = some ((YtiabgmddnddeiaaDoorNst.N f t).toList == t.toList) := by
  unfold spec_l05Is.f
  rw [spec_l05Text.eq hf ht]; rfl

/-! ### spec_IsNormal: function 57 -/
def spec_IsNormal.f (a0 : Int) (a1 : ByteArray) : Option (Bool) := if (a1.size : Int) ≤ 65536 then ((spec_l05IsForm.f a0).bind fun t762 => (if t762 = true then ((spec_l05Is.f a0 a1).bind fun t763 => (some t763)) else (some false))) else (some false)
set_option maxHeartbeats 8000000 in
set_option maxRecDepth 100000 in
theorem spec_IsNormal.calls (a0 : Int) (a1 : ByteArray) (r : Bool) (w : World) (h : spec_IsNormal.f a0 a1 = some r) :
    Calls Tryd.prog 57 #[.int .i64 a0, .string a1] w fun e w' => e = .returned (.bool r) ∧ Below w.heap.size w w' := by
  have HB := Aside0.mk (Below.refl w.heap.size w)
  have H : (if (a1.size : Int) ≤ 65536 then ((spec_l05IsForm.f a0).bind fun t762 => (if t762 = true then ((spec_l05Is.f a0 a1).bind fun t763 => (some t763)) else (some false))) else (some false)) = some r := h
  clear h
  by_cases c3 : (a1.size : Int) ≤ 65536
  · rw [if_pos c3] at H
    have c3b0 : decide ((a1.size : Int) ≤ 65536) = true := decide_eq_true c3
    have c3b1 : decide (a1.size ≤ 65536) = true := decide_eq_true (by omega)
    clear c3
    replace H := Option.bind_eq_some_iff.mp H
    obtain ⟨t762, A40, H⟩ := H
    replace H : (if t762 = true then ((spec_l05Is.f a0 a1).bind fun t763 => (some t763)) else (some false)) = some r := H
    have A4 := Aside0.mk A40
    clear A40
    by_cases c5 : t762 = true
    · subst c5
      have H1 : ((spec_l05Is.f a0 a1).bind fun t763 => (some t763)) = some r := by rw [if_pos rfl] at H; exact H
      clear H
      have H := H1
      clear H1
      replace H := Option.bind_eq_some_iff.mp H
      obtain ⟨t763, A60, H⟩ := H
      replace H : (some t763) = some r := H
      have A6 := Aside0.mk A60
      clear A60
      obtain rfl := Option.some.inj H
      go_enter Tryd.func57, Tryd.ntmps57
      go_wp2_with (first | (go_at_call 83; (with_reducible refine (spec_l05IsForm.calls a0 true _ A4.out).mono ?_); rintro e w' ⟨rfl, ⟨nd, rfl⟩⟩) | (go_at_call 139; (with_reducible refine (spec_l05Is.calls a0 a1 t763 _ A6.out).mono ?_); rintro e w7 ⟨rfl, hb⟩; have n0_ := Aside0.mk (below_step (by repeat (first | (with_reducible first | exact HB.out | apply below_alloc | apply pw_below_drewN | apply below_drew1) | exact HB.out)) hb); clear HB; have HB := n0_; clear n0_; (try clear hb); (try clear hb2); (try clear hk); (try clear hi)))
      go_ret
      exact ⟨by first | rfl | (simp [errW_none, errW_some] <;> rfl) | (simp [*, errW_none, errW_some] <;> rfl), by repeat (first | (with_reducible first | exact HB.out | apply below_alloc | apply pw_below_drewN | apply below_drew1) | exact HB.out)⟩
    · replace c5 := Bool.eq_false_iff.mpr c5
      subst c5
      have H1 : (some false) = some r := by rw [if_neg (show ¬ (false = true) by decide)] at H; exact H
      clear H
      have H := H1
      clear H1
      obtain rfl := Option.some.inj H
      go_enter Tryd.func57, Tryd.ntmps57
      go_wp2_with (first | (go_at_call 83; (with_reducible refine (spec_l05IsForm.calls a0 false _ A4.out).mono ?_); rintro e w' ⟨rfl, ⟨nd, rfl⟩⟩))
      go_ret
      exact ⟨by first | rfl | (simp [errW_none, errW_some] <;> rfl) | (simp [*, errW_none, errW_some] <;> rfl), by repeat (first | (with_reducible first | exact HB.out | apply below_alloc | apply pw_below_drewN | apply below_drew1) | exact HB.out)⟩
  · rw [if_neg c3] at H
    have c3b0 : decide ((a1.size : Int) ≤ 65536) = false := decide_eq_false c3
    have c3b1 : decide (a1.size ≤ 65536) = false := decide_eq_false (by omega)
    clear c3
    obtain rfl := Option.some.inj H
    go_enter Tryd.func57, Tryd.ntmps57
    go_wp2
    go_ret
    exact ⟨by first | rfl | (simp [errW_none, errW_some] <;> rfl) | (simp [*, errW_none, errW_some] <;> rfl), by repeat (first | (with_reducible first | exact HB.out | apply below_alloc | apply pw_below_drewN | apply below_drew1) | exact HB.out)⟩

theorem spec_IsNormal.eq {f : Int} {t : ByteArray} (ht : t.size ≤ 100000000) : spec_IsNormal.f f t = some (YtiabgmddnddeiaaDoorNst.IsN f t) := by
  unfold spec_IsNormal.f YtiabgmddnddeiaaDoorNst.IsN
  by_cases c : (t.size : Int) > 65536
  · rw [if_neg (by omega), if_pos (.inl c)]
  · rw [if_pos (by omega), spec_l05IsForm.eq]
    simp only [Option.bind_some]
    cases ho : YtiabgmddnddeiaaDoorNst.ok f with
    | false => rw [if_neg (by decide), if_pos (.inr rfl)]
    | true =>
      rw [if_pos rfl, spec_l05Is.eq (of_decide_eq_true ho) ht, if_neg (by rintro (z | z); exact c z; cases z)]
      rfl

/-! ### spec_JoinNormal: function 56 -/
def spec_JoinNormal.j0 : Nat → Int → ByteArray → ByteArray → Bool → Option (ByteArray)
 | 0, _, _, _, _ => none
 | k + 1, x0, x1, x2, x16 => if x16 = true then (some (⟨#[]⟩ : ByteArray)) else (if x1.size + x2.size ≤ 9223372036854775807 then ((spec_l05Text.f x0 (x1 ++ x2)).bind fun t766 => ((spec_l01Small.f t766).bind fun t767 => (some t767))) else (none))
def spec_JoinNormal.f (k : Nat) (a0 : Int) (a1 : ByteArray) (a2 : ByteArray) : Option (ByteArray) := (spec_IsNormal.f a0 a1).bind fun t764 => (if t764 = true then ((spec_IsNormal.f a0 a2).bind fun t765 => (spec_JoinNormal.j0 k a0 a1 a2 (!t765))) else (spec_JoinNormal.j0 k a0 a1 a2 true))
theorem spec_JoinNormal.mono_l : ∀ k, (∀ y0 y1 y2 y3, LeO (spec_JoinNormal.j0 k y0 y1 y2 y3) (spec_JoinNormal.j0 (k + 1) y0 y1 y2 y3))
 | 0 => fun _ _ _ _ r h => by simp [spec_JoinNormal.j0] at h
 | k + 1 => by
  have ih0 := spec_JoinNormal.mono_l k; intro y0 y1 y2 y3
  unfold spec_JoinNormal.j0
  repeat' first
  | (with_reducible exact ih0 _ _ _ _)
  | (with_reducible exact LeO.refl _)
  | (with_reducible exact LeO.none _)
  | (with_reducible refine LeO.ite ?_ ?_)
  | (with_reducible refine LeO.bind ?_ (fun _ => ?_))
  | exact ih0 _ _ _ _
  | exact LeO.none _
  | refine LeO.ite ?_ ?_
  | refine LeO.bind ?_ (fun _ => ?_)
theorem spec_JoinNormal.mono : ∀ a0 a1 a2 k, LeO (spec_JoinNormal.f k a0 a1 a2) (spec_JoinNormal.f (k + 1) a0 a1 a2) := by
 intro a0 a1 a2 k
 have ih0 := spec_JoinNormal.mono_l k
 unfold spec_JoinNormal.f
 repeat' first
   | (with_reducible exact ih0 _ _ _ _)
   | (with_reducible exact LeO.refl _)
   | (with_reducible exact LeO.none _)
   | (with_reducible refine LeO.ite ?_ ?_)
   | (with_reducible refine LeO.bind ?_ (fun _ => ?_))
   | exact ih0 _ _ _ _
   | exact LeO.none _
   | refine LeO.ite ?_ ?_
   | refine LeO.bind ?_ (fun _ => ?_)
set_option maxHeartbeats 8000000 in
set_option maxRecDepth 100000 in
theorem spec_JoinNormal.calls (k : Nat) (a0 : Int) (a1 : ByteArray) (a2 : ByteArray) (r : ByteArray) (w : World) (h : spec_JoinNormal.f k a0 a1 a2 = some r) :
  Calls Tryd.prog 56 #[.int .i64 a0, .string a1, .string a2] w fun e w' => e = .returned (.string r) ∧ Below w.heap.size w w' := by
 have HB := Aside0.mk (Below.refl w.heap.size w)
 have H : ((spec_IsNormal.f a0 a1).bind fun t764 => (if t764 = true then ((spec_IsNormal.f a0 a2).bind fun t765 => (spec_JoinNormal.j0 k a0 a1 a2 (!t765))) else (spec_JoinNormal.j0 k a0 a1 a2 true))) = some r := h
 clear h
 have HC4 := Aside0.mk H
 clear H
 go_enter Tryd.func56, Tryd.ntmps56
 go_upto_region 1 with (fail)
 go_cut [16] (fun v16 wc => ∃ (kq : Nat) (x16_3 : Bool), v16 = .bool x16_3 ∧ Aside0 (spec_JoinNormal.j0 kq a0 a1 a2 x16_3 = some r) ∧ Aside0 (kq ≤ k) ∧ Aside0 (Below w.heap.size w wc))
 case first =>
  have H := HC4.out; clear HC4; replace H := Option.bind_eq_some_iff.mp H; obtain ⟨t764, A50, H⟩ := H
  try dsimp only at H
  have A5 := Aside0.mk A50; clear A50
  by_cases c6 : t764 = true
  ·subst c6
   have H1 : ((spec_IsNormal.f a0 a2).bind fun t765 => (spec_JoinNormal.j0 k a0 a1 a2 (!t765))) = some r := by rw [if_pos rfl] at H; exact H
   clear H; have H := H1; clear H1; replace H := Option.bind_eq_some_iff.mp H; obtain ⟨t765, A70, H⟩ := H
   try dsimp only at H
   have A7 := Aside0.mk A70; clear A70; have H' := Aside0.mk H; clear H
   go_wp2_with (first | ((with_reducible refine gate_callee (f := 57) rfl ?_); refine goesL_ (some 9) rfl rfl Tryd.func57 (by kernel_rfl) rfl #[.int .i64 a0, .string a1] rfl (by (try simp only [List.map_toArray, List.map_cons, List.map_nil]); first | done | rfl) ?_; (with_reducible refine (spec_IsNormal.calls a0 a1 true _ A5.out).mono ?_); rintro e w8 ⟨rfl, hb⟩; refine ⟨_, rfl, ?_⟩; have n0_ := Aside0.mk (below_step (belowA) hb); clear HB; have HB := n0_; clear n0_; (try clear hb); (try clear hb2); (try clear hk); (try clear hi)) | (go_at_call 57; (with_reducible refine (spec_IsNormal.calls a0 a2 t765 _ A7.out).mono ?_); rintro e w9 ⟨rfl, hb⟩; have n0_ := Aside0.mk (below_step (belowA) hb); clear HB; have HB := n0_; clear n0_; (try clear hb); (try clear hb2); (try clear hk); (try clear hi)))
   go_meet
   case rel => exact ⟨_, (!t765), (by first | rfl | (simp; done) | (simp [*]; done)), H', ⟨by first | omega | exact Nat.le_refl _⟩, ⟨belowA⟩⟩
  replace c6 := Bool.eq_false_iff.mpr c6; subst c6
  have H1 : (spec_JoinNormal.j0 k a0 a1 a2 true) = some r := by rw [if_neg (show ¬ (false = true) by decide)] at H; exact H
  clear H; have H := H1; clear H1; have H' := Aside0.mk H; clear H
  go_wp2_with (first | ((with_reducible refine gate_callee (f := 57) rfl ?_); refine goesL_ (some 9) rfl rfl Tryd.func57 (by kernel_rfl) rfl #[.int .i64 a0, .string a1] rfl (by (try simp only [List.map_toArray, List.map_cons, List.map_nil]); first | done | rfl) ?_; (with_reducible refine (spec_IsNormal.calls a0 a1 false _ A5.out).mono ?_); rintro e w10 ⟨rfl, hb⟩; refine ⟨_, rfl, ?_⟩; have n0_ := Aside0.mk (below_step (belowA) hb); clear HB; have HB := n0_; clear n0_; (try clear hb); (try clear hb2); (try clear hk); (try clear hi)))
  go_meet
  case rel => exact ⟨_, (true), (by first | rfl | (simp; done) | (simp [*]; done)), H', ⟨by first | omega | exact Nat.le_refl _⟩, ⟨belowA⟩⟩
 case rest =>
  clear HC4
  try clear p2; try clear c5; try clear c6
  obtain ⟨kq, x16_3, rfl, HA, HJ3, HB⟩ := hcut
  cases kq with
  | zero => exact absurd HA.out (by simp [spec_JoinNormal.j0])
  | succ kj3 =>
   have H := HA.out; clear HA; simp only [spec_JoinNormal.j0] at H
   by_cases c11 : x16_3 = true
   ·subst c11
    have H1 : (some (⟨#[]⟩ : ByteArray)) = some r := by rw [if_pos rfl] at H; exact H
    clear H; have H := H1; clear H1; obtain rfl := Option.some.inj H
    go_wp2
    go_ret
    exact ⟨by first | rfl | (simp [errW_none, errW_some] <;> rfl) | (simp [*, errW_none, errW_some] <;> rfl), belowA⟩
   replace c11 := Bool.eq_false_iff.mpr c11; subst c11
   have H1 : (if a1.size + a2.size ≤ 9223372036854775807 then ((spec_l05Text.f a0 (a1 ++ a2)).bind fun t766 => ((spec_l01Small.f t766).bind fun t767 => (some t767))) else (none)) = some r := by rw [if_neg (show ¬ (false = true) by decide)] at H; exact H
   clear H; have H := H1; clear H1
   by_cases c12 : a1.size + a2.size ≤ 9223372036854775807
   ·rw [if_pos c12] at H
    have c12b0 := eq_true c12; have c12b1 : decide (a1.size + a2.size ≤ 9223372036854775807) = true := decide_eq_true c12
    try have c12b2 : (9223372036854775807 < a1.size + a2.size) = False := eq_false (Nat.not_lt.2 c12)
    replace H := Option.bind_eq_some_iff.mp H; obtain ⟨t766, A130, H⟩ := H
    try dsimp only at H
    have A13 := Aside0.mk A130; clear A130; replace H := Option.bind_eq_some_iff.mp H; obtain ⟨t767, A140, H⟩ := H
    try dsimp only at H
    have A14 := Aside0.mk A140; clear A140; obtain rfl := Option.some.inj H
    go_wp2_with (first | ((with_reducible refine gate_callee (f := 85) rfl ?_); refine goesL_ (some 21) rfl rfl Tryd.func85 (by kernel_rfl) rfl #[.int .i64 a0, .string (a1 ++ a2)] rfl (by (try simp only [List.map_toArray, List.map_cons, List.map_nil]); first | done | rfl) ?_; (with_reducible refine (spec_l05Text.calls a0 (a1 ++ a2) t766 _ A13.out).mono ?_); rintro e w15 ⟨rfl, hb⟩; refine ⟨_, rfl, ?_⟩; have n0_ := Aside0.mk (below_step (belowA) hb); clear HB; have HB := n0_; clear n0_; (try clear hb); (try clear hb2); (try clear hk); (try clear hi)) | ((with_reducible refine gate_callee (f := 84) rfl ?_); refine goesL_ (some 22) rfl rfl Tryd.func84 (by kernel_rfl) rfl #[.string t766] rfl (by (try simp only [List.map_toArray, List.map_cons, List.map_nil]); first | done | rfl) ?_; (with_reducible refine (spec_l01Small.calls t766 t767 _ A14.out).mono ?_); rintro e w' ⟨rfl, ⟨nd, rfl⟩⟩; refine ⟨_, rfl, ?_⟩))
    go_ret
    exact ⟨by first | rfl | (simp [errW_none, errW_some] <;> rfl) | (simp [*, errW_none, errW_some] <;> rfl), belowA⟩
   rw [if_neg c12] at H
   exact absurd H (by simp)

def W_spec_JoinNormal.f (f : Int) (a b : ByteArray) : Option ByteArray := if a.size ≤ 10000000 ∧ b.size ≤ 10000000 then some (YtiabgmddnddeiaaDoorNst.JN f a b) else none
theorem W_spec_JoinNormal.to {f : Int} {a b : ByteArray} {r : ByteArray} (h : W_spec_JoinNormal.f f a b = some r) : ∃ k, spec_JoinNormal.f k f a b = some r := by
  unfold W_spec_JoinNormal.f at h
  split at h
  · rename_i ht
    refine ⟨1, ?_⟩
    rw [← h]
    unfold spec_JoinNormal.f YtiabgmddnddeiaaDoorNst.JN
    rw [spec_IsNormal.eq (by omega), spec_IsNormal.eq (by omega)]
    simp only [Option.bind_some]
    cases ha : YtiabgmddnddeiaaDoorNst.IsN f a with
    | false =>
      rw [if_neg (by decide)]
      simp only [spec_JoinNormal.j0]
      rw [if_pos trivial, if_neg (by rintro ⟨z, _⟩; cases z)]
    | true =>
      rw [if_pos rfl]
      cases hb : YtiabgmddnddeiaaDoorNst.IsN f b with
      | false =>
        simp only [spec_JoinNormal.j0]
        rw [if_pos (by rfl), if_neg (by rintro ⟨_, z⟩; cases z)]
      | true =>
        have hf : 1 ≤ f ∧ f ≤ 4 := by
          unfold YtiabgmddnddeiaaDoorNst.IsN at ha
          split at ha
          · cases ha
          · rename_i c
            apply of_decide_eq_true
            cases ho : YtiabgmddnddeiaaDoorNst.ok f with
            | false => exact absurd (.inr ho) c
            | true => exact ho
        simp only [spec_JoinNormal.j0]
        rw [if_neg (by decide), if_pos (by omega), spec_l05Text.eq hf (by rw [ByteArray.size_append]; omega), if_pos (by simp)]
        simp only [Option.bind_some]
        unfold spec_l01Small.f YtiabgmddnddeiaaDoorNst.sh
        split <;> rfl
  · cases h
theorem W_spec_JoinNormal.calls (a0 : Int) (a1 : ByteArray) (a2 : ByteArray) (r : ByteArray) (w : World) (h : W_spec_JoinNormal.f a0 a1 a2 = some r) :
    Calls Tryd.prog 56 #[.int .i64 a0, .string a1, .string a2] w fun e w' => e = .returned (.string r) ∧ Below w.heap.size w w' := by
  obtain ⟨k, hk⟩ := W_spec_JoinNormal.to h
  exact spec_JoinNormal.calls k a0 a1 a2 r w hk

end Go.Proofs.YtiabgmddnddeiaaDoor.QFnJoinNormal
