/- The law FnStable: at every input the call answers true (this text: contracts on its way, by a program of this session's; no condition of ours). -/
import Derived.Test.YtiabgmddnddeiaaDoorQFnStablex0
import Derived.Test.YtiabgmddnddeiaaDoorQFnStablex1
import Derived.Test.YtiabgmddnddeiaaDoorQFnStablex2
import Derived.Test.YtiabgmddnddeiaaDoorQFnStablex4
namespace Go.Proofs.YtiabgmddnddeiaaDoor.QFnStable
open Go.RowKit Go.Proofs.YtiabgmddnddeiaaDoorW.PrintWords Go.Proofs.YtiabgmddnddeiaaDoorW.PrintLast Go.Proofs.YtiabgmddnddeiaaDoorW.PrintMore
attribute [local go_sem] max2_int min2_int max_two min_two max_three min_three max_four min_four   -- for this text's walks alone
set_option linter.unusedVariables false
set_option linter.unusedSimpArgs false

/-! ### spec_l01Src_partsText: function 78 -/
def spec_l01Src_partsText.l0 : Nat → List Int → Int → List Int → Int → Int → Int → Option (ByteArray × Int × Int × Int)
 | 0, _, _, _, _, _, _ => none
 | k + 1, x3, x4, x1000, x1001, x1002, x1003 => if x4 > 0 then ((spec_l01Src_part.f k x1000 x1001 x1002 x1003).bind fun bt504 => (if x3.length < 17592186044416 then (spec_l01Src_partsText.l0 k (x3 ++ [bt504.1]) (wrap64 (x4 - 1)) x1000 bt504.2.1 bt504.2.2.1 bt504.2.2.2) else (none))) else ((W_spec_l01Text.f x3).bind fun t511 => ((spec_l01Src_one.f x1000 x1001 x1002 x1003 15).bind fun bt512 => (if bt512.1 = true then ((spec_l01Src_spoil.f k x1000 bt512.2.1 bt512.2.2.1 bt512.2.2.2 t511).bind fun bt516 => (some (bt516.1, bt516.2.1, bt516.2.2.1, bt516.2.2.2))) else (some (t511, bt512.2.1, bt512.2.2.1, bt512.2.2.2)))))
def spec_l01Src_partsText.f (k : Nat) (s0_0 : List Int) (s0_1 : Int) (s0_2 : Int) (s0_3 : Int) : Option (ByteArray × Int × Int × Int) := (spec_l01Src_n.f s0_0 s0_1 s0_2 s0_3 (wrap64 (7 + (wrap64 (2 * s0_3))))).bind fun bt500 => (spec_l01Src_partsText.l0 k (([] : List Int)) bt500.1 s0_0 bt500.2.1 bt500.2.2.1 bt500.2.2.2)
theorem spec_l01Src_partsText.mono_l : ∀ k, (∀ y0 y1 y2 y3 y4 y5, LeO (spec_l01Src_partsText.l0 k y0 y1 y2 y3 y4 y5) (spec_l01Src_partsText.l0 (k + 1) y0 y1 y2 y3 y4 y5))
 | 0 => fun _ _ _ _ _ _ r h => by simp [spec_l01Src_partsText.l0] at h
 | k + 1 => by
  have ih0 := spec_l01Src_partsText.mono_l k; intro y0 y1 y2 y3 y4 y5
  unfold spec_l01Src_partsText.l0
  repeat' first
  | (with_reducible exact ih0 _ _ _ _ _ _)
  | (with_reducible exact spec_l01Src_part.mono _ _ _ _ _)
  | (with_reducible exact spec_l01Src_spoil.mono _ _ _ _ _ _)
  | (with_reducible exact LeO.refl _)
  | (with_reducible exact LeO.none _)
  | (with_reducible refine LeO.ite ?_ ?_)
  | (with_reducible refine LeO.bind ?_ (fun _ => ?_))
  | exact ih0 _ _ _ _ _ _
  | exact spec_l01Src_part.mono _ _ _ _ _
  | exact spec_l01Src_spoil.mono _ _ _ _ _ _
  | exact LeO.none _
  | refine LeO.ite ?_ ?_
  | refine LeO.bind ?_ (fun _ => ?_)
theorem spec_l01Src_partsText.mono : ∀ a0 a1 a2 a3 k, LeO (spec_l01Src_partsText.f k a0 a1 a2 a3) (spec_l01Src_partsText.f (k + 1) a0 a1 a2 a3) := by
 intro a0 a1 a2 a3 k
 have ih0 := spec_l01Src_partsText.mono_l k
 unfold spec_l01Src_partsText.f
 repeat' first
   | (with_reducible exact ih0 _ _ _ _ _ _)
   | (with_reducible exact spec_l01Src_part.mono _ _ _ _ _)
   | (with_reducible exact spec_l01Src_spoil.mono _ _ _ _ _ _)
   | (with_reducible exact LeO.refl _)
   | (with_reducible exact LeO.none _)
   | (with_reducible refine LeO.ite ?_ ?_)
   | (with_reducible refine LeO.bind ?_ (fun _ => ?_))
   | exact ih0 _ _ _ _ _ _
   | exact spec_l01Src_part.mono _ _ _ _ _
   | exact spec_l01Src_spoil.mono _ _ _ _ _ _
   | exact LeO.none _
   | refine LeO.ite ?_ ?_
   | refine LeO.bind ?_ (fun _ => ?_)
set_option maxHeartbeats 8000000 in
set_option maxRecDepth 100000 in
theorem spec_l01Src_partsText.calls (k : Nat) (g : Nat) (s0_0 : List Int) (s0_1 : Int) (s0_2 : Int) (s0_3 : Int) (r1 : ByteArray) (r2 : Int) (r3 : Int) (r4 : Int) (w0 w : World) (hI : IsS134 w0 w g s0_0 s0_1 s0_2 s0_3) (hB : Below w0.heap.size w0 w) (h : spec_l01Src_partsText.f k s0_0 s0_1 s0_2 s0_3 = some (r1, r2, r3, r4)) :
  Calls Tryd.prog 78 #[.pointer (some ⟨g, 0, none⟩)] w fun e w' => e = .returned (.string r1) ∧ IsS134 w0 w' g s0_0 r2 r3 r4 ∧ Below w0.heap.size w0 w' ∧ KeepBut w w' g none := by
 have HI0 := Aside0.mk hI
 have HK := Aside0.mk (KeepBut.refl w g none)
 have HL := Aside0.mk hB.size
 clear hI
 have HW0 := Aside0.mk hB.size
 have HB := Aside0.mk hB
 clear hB
 have H : ((spec_l01Src_n.f s0_0 s0_1 s0_2 s0_3 (wrap64 (7 + (wrap64 (2 * s0_3))))).bind fun bt500 => (spec_l01Src_partsText.l0 k (([] : List Int)) bt500.1 s0_0 bt500.2.1 bt500.2.2.1 bt500.2.2.2)) = some (r1, r2, r3, r4) := h
 clear h
 obtain ⟨y497, hy497⟩ : ∃ y_ : List Int, y_ = (([] : List Int)) := ⟨_, rfl⟩
 replace H : ((spec_l01Src_n.f s0_0 s0_1 s0_2 s0_3 (wrap64 (7 + (wrap64 (2 * s0_3))))).bind fun bt500 => (spec_l01Src_partsText.l0 k y497 bt500.1 s0_0 bt500.2.1 bt500.2.2.1 bt500.2.2.2)) = some (r1, r2, r3, r4) := by first | (rw [hy497]; with_reducible exact H) | (have H2_ := (Option.bind_some _ _).symm.trans H; rw [hy497]; with_reducible exact H2_) | (have H2_ := (Option.bind_some _ _).symm.trans H; with_reducible exact H2_) | with_reducible exact H | (rw [hy497]; exact H) | exact H
 have Ny497 := Aside0.mk hy497
 clear hy497
 replace H := Option.bind_eq_some_iff.mp H
 obtain ⟨⟨t500, t501, t502, t503⟩, A20, H⟩ := H
 try dsimp only at H
 have A2 := Aside0.mk A20
 clear A20
 have H' := Aside0.mk H
 clear H
 go_enter Tryd.func78, Tryd.ntmps78
 go_wp2_with (first | ((with_reducible refine gate_dst (N := 6) rfl ?_); refine Kd.R_lit (Kd.int .i64) _ 2 ?hg (N := 6) ?hd (xs := ([] : List Int)) (inner := []) (ok := fun _ => True) (okp := fun _ => True) ?hr ?hp (fun _ hk => hk) trivial (Below.refl _ _) (Nat.le_refl _) (by simp) ?_; (case hd => rfl); (case hg => rfl); (case hr => first | (go_simp; done) | (go_simp; rfl)); (case hp => exact (Reps.none _ _)); intro v498 w3 ho4 hb hg_ hnew_; clear hg_ hnew_; (first | rw [← Ny497.out] at ho4 | (simp only [Int.reduceToNat] at ho4; rw [← Ny497.out] at ho4)); have n0_ := Aside0.mk (Kd.R_lower ho4 (keep_size (w := w) (g := g) (row := none) (keepA))); have n1_ := Aside0.mk (IsS134.below (isA) hb); have n2_ := Aside0.mk (KeepBut.trans (keepA) (KeepBut.of_below hb g none) (.inl rfl)); have n3_ := Aside0.mk (below_step (belowI) hb); clear HI0; clear HK; clear HB; have HO499 := n0_; have HI0 := n1_; have HK := n2_; have HB := n3_; clear n0_ n1_ n2_ n3_; clear hb ho4; obtain ⟨ASz5_0, cSz5_0, HGz5, hgz5, HSz5_0⟩ := HI0.out; have hcz5_0 := cellS134_0 HGz5; have hcz5_1 := cellS134_1 HGz5; have hcz5_2 := cellS134_2 HGz5; have hcz5_3 := cellS134_3 HGz5; have hfz5_1 := blk_frozen HGz5 1; have hfz5_2 := blk_frozen HGz5 2; have hfz5_3 := blk_frozen HGz5 3; clear HGz5 hgz5) | ((with_reducible refine gate_callee (f := 82) rfl ?_); refine goesL_ (some 14) rfl rfl Tryd.func82 (by kernel_rfl) rfl #[.pointer (some ⟨g, 0, none⟩), .int .i64 (wrap64 (7 + (wrap64 (2 * s0_3))))] rfl (by (try simp only [List.map_toArray, List.map_cons, List.map_nil]); first | done | rfl) ?_; (with_reducible refine (spec_l01Src_n.calls g s0_0 s0_1 s0_2 s0_3 (wrap64 (7 + (wrap64 (2 * s0_3)))) t500 t501 t502 t503 w0 _ ?side1 ?side2 A2.out).mono ?_); (case side1 => exact isA); (case side2 => exact belowI); rintro e w6 ⟨rfl, hi, hb, hk⟩; refine ⟨_, rfl, ?_⟩; have n0_ := Aside0.mk (Kd.R_mono (Kd.R_keep (IsS134.apart (show IsS134 w0 _ g s0_0 s0_1 s0_2 s0_3 from isA) (by (with_reducible repeat (first | apply Kd.R_alloc | apply Kd.R_drewN | apply Kd.R_drew)); exact HO499.out) (by decide)) hk (fun _ h => h.2)) (fun _ h => h.1)); have n1_ := Aside0.mk (KeepBut.trans (keepA) hk (.inl rfl)); have n2_ := Aside0.mk (hb); have n3_ := Aside0.mk (hi); clear HO499; clear HK; clear HB; clear HI0; have HO499 := n0_; have HK := n1_; have HB := n2_; have HI0 := n3_; clear n0_ n1_ n2_ n3_; (try clear hb); (try clear hb2); (try clear hk); (try clear hi)))
 go_loopg [3, 4] k (fun kq v3 v4 w' => ∃ (x3_1 : List Int) (x4_1 : Int) (x1001_1 : Int) (x1002_1 : Int) (x1003_1 : Int), v4 = .int .i64 x4_1 ∧ Aside0 (spec_l01Src_partsText.l0 kq x3_1 x4_1 s0_0 x1001_1 x1002_1 x1003_1 = some (r1, r2, r3, r4)) ∧ Aside0 (kq ≤ k) ∧ Aside0 (Kd.R (Kd.int .i64) 2 w' w.heap.size (fun _ => True) v3 x3_1) ∧ Aside0 (IsS134 w0 w' g s0_0 x1001_1 x1002_1 x1003_1) ∧ Aside0 (KeepBut w w' g none) ∧ Aside0 (Below w0.heap.size w0 w'))
 case atStart => exact ⟨(y497), (t500), (t501), (t502), (t503), (by first | rfl | (simp; done) | (simp [*]; done)), H', ⟨Nat.le_refl _⟩, ⟨by (with_reducible repeat (first | apply Kd.R_alloc | apply Kd.R_drewN | apply Kd.R_drew)); exact HO499.out⟩, ⟨isA⟩, ⟨keepA⟩, ⟨belowI⟩⟩
 case round =>
  clear H'
  try clear p2; try clear p6; try clear hcz5_0; try clear hcz5_1; try clear hcz5_2; try clear hcz5_3; try clear hfz5_1; try clear hfz5_2; try clear hfz5_3
  obtain ⟨x3_1, x4_1, x1001_1, x1002_1, x1003_1, rfl, HA, HK1, HO_3, HI0, HK, HB⟩ := hrel
  cases gk with
  | zero => exact absurd HA.out (by simp [spec_l01Src_partsText.l0])
  | succ k1 =>
   have H := HA.out; clear HA; simp only [spec_l01Src_partsText.l0] at H
   by_cases c7 : x4_1 > 0
   ·rw [if_pos c7] at H
    have c7b0 : decide (0 < x4_1) = true := decide_eq_true c7; clear c7; replace H := Option.bind_eq_some_iff.mp H; obtain ⟨⟨t504, t505, t506, t507⟩, A80, H⟩ := H
    try dsimp only at H
    have A8 := Aside0.mk A80; clear A80
    by_cases c9 : x3_1.length < 17592186044416
    ·rw [if_pos c9] at H
     have LMc9 := Aside0.mk c9; clear c9; obtain ⟨y508, hy508⟩ : ∃ y_ : List Int, y_ = (x3_1 ++ [t504]) := ⟨_, rfl⟩
     replace H : (spec_l01Src_partsText.l0 k1 y508 (wrap64 (x4_1 - 1)) s0_0 t505 t506 t507) = some (r1, r2, r3, r4) := by first | (rw [hy508]; with_reducible exact H) | (have H2_ := (Option.bind_some _ _).symm.trans H; rw [hy508]; with_reducible exact H2_) | (have H2_ := (Option.bind_some _ _).symm.trans H; with_reducible exact H2_) | with_reducible exact H | (rw [hy508]; exact H) | exact H
     have Ny508 := Aside0.mk hy508; clear hy508; have H' := Aside0.mk H; clear H
     go_wp2_with (first | ((with_reducible refine gate_callee (f := 165) rfl ?_); refine goesL_ (some 21) rfl rfl Tryd.func165 (by kernel_rfl) rfl #[.pointer (some ⟨g, 0, none⟩)] rfl (by (try simp only [List.map_toArray, List.map_cons, List.map_nil]); first | done | rfl) ?_; (with_reducible refine (spec_l01Src_part.calls k1 g s0_0 x1001_1 x1002_1 x1003_1 t504 t505 t506 t507 w0 _ ?side1 ?side2 A8.out).mono ?_); (case side1 => exact isA); (case side2 => exact belowI); rintro e w10 ⟨rfl, hi, hb, hk⟩; refine ⟨_, rfl, ?_⟩; have n0_ := Aside0.mk (Kd.R_mono (Kd.R_keep (IsS134.apart (show IsS134 w0 _ g s0_0 x1001_1 x1002_1 x1003_1 from isA) (by (with_reducible repeat (first | apply Kd.R_alloc | apply Kd.R_drewN | apply Kd.R_drew)); exact HO_3.out) (by decide)) hk (fun _ h => h.2)) (fun _ h => h.1)); have n1_ := Aside0.mk (KeepBut.trans (keepA) hk (.inl rfl)); have n2_ := Aside0.mk (hb); have n3_ := Aside0.mk (hi); clear HO_3; clear HK; clear HB; clear HI0; have HO_3 := n0_; have HK := n1_; have HB := n2_; have HI0 := n3_; clear n0_ n1_ n2_ n3_; (try clear hb); (try clear hb2); (try clear hk); (try clear hi)) | ((with_reducible refine gate_builtin (b := .append) (xs := #[.tmp 19, .tmp 22]) rfl ?_); at_builtin; refine Kd.R_append (Kd.int .i64) w.heap.size rfl (.tmp 19) (.tmp 22) 28 2 (.int .i64 0) 8 rfl Tryd.underlying28 info2 rfl (by decide) (by omega) u3 x3_1 t504 [.int .i64 t504] (fun _ => True) (fun _ => False) rfl rfl ?aP (fun _ hk => hk.elim) ?aF ?aO (Below.refl _ _) ?aS ?aL ?_; (case aP => exact rfl); (case aF => exact (fun _ _ => trivial)); (case aO => exact (by (with_reducible repeat (first | apply Kd.R_alloc | apply Kd.R_drewN | apply Kd.R_drew)); exact HO_3.out)); (case aS => exact (keep_size (w := w) (g := g) (row := none) (keepA))); (case aL => have := LMc9.out; omega); intro v509 w11 ho hb hg hat; rw [← Ny508.out] at ho; have n0_ := Aside0.mk (IsS134.grown (isA) hg (IsS134.own_ne HI0.out HO_3.out (by decide))); have n1_ := Aside0.mk (below_weaken (belowI) HL.out hb); have n2_ := Aside0.mk (KeepBut.trans (keepA) (KeepBut.of_grown hg g) (Kd.R_base2 HO_3.out)); have n3_ := Aside0.mk (ho); clear HI0; clear HB; clear HK; clear HO_3; have HI0 := n0_; have HB := n1_; have HK := n2_; have HO510 := n3_; clear n0_ n1_ n2_ n3_; clear ho hb hg hat))
     go_roundg k1
     case measure => have := HK1.out; omega
     case rel => exact ⟨(y508), (wrap64 (x4_1 - 1)), (t505), (t506), (t507), (by first | rfl | (simp; done) | (simp [*]; done)), H', ⟨by have := HK1.out; omega⟩, ⟨by (with_reducible repeat (first | apply Kd.R_alloc | apply Kd.R_drewN | apply Kd.R_drew)); exact HO510.out⟩, ⟨isA⟩, ⟨keepA⟩, ⟨belowI⟩⟩
    rw [if_neg c9] at H
    exact absurd H (by simp)
   rw [if_neg c7] at H; have c7b0 : decide (0 < x4_1) = false := decide_eq_false c7; clear c7; replace H := Option.bind_eq_some_iff.mp H; obtain ⟨t511, A120, H⟩ := H
   try dsimp only at H
   have A12 := Aside0.mk A120; clear A120; replace H := Option.bind_eq_some_iff.mp H; obtain ⟨⟨t512, t513, t514, t515⟩, A130, H⟩ := H
   try dsimp only at H
   have A13 := Aside0.mk A130; clear A130
   by_cases c14 : t512 = true
   ·subst c14
    have H1 : ((spec_l01Src_spoil.f k1 s0_0 t513 t514 t515 t511).bind fun bt516 => (some (bt516.1, bt516.2.1, bt516.2.2.1, bt516.2.2.2))) = some (r1, r2, r3, r4) := by rw [if_pos rfl] at H; exact H
    clear H; have H := H1; clear H1; replace H := Option.bind_eq_some_iff.mp H; obtain ⟨⟨t516, t517, t518, t519⟩, A150, H⟩ := H
    try dsimp only at H
    have A15 := Aside0.mk A150; clear A150; simp only [Option.some.injEq, Prod.mk.injEq] at H; obtain ⟨rfl, rfl, rfl, rfl⟩ := H; obtain ⟨Ao16, co16, eo16⟩ := Kd.R_slice HO_3.out; subst eo16
    go_wp2_with (first | ((with_reducible refine gate_callee (f := 95) rfl ?_); refine goesL_ (some 25) rfl rfl Tryd.func95 (by kernel_rfl) rfl #[.slice Ao16 x3_1.length co16] rfl (by (try simp only [List.map_toArray, List.map_cons, List.map_nil]); first | done | rfl) ?_; (with_reducible refine (W_spec_l01Text.calls _ _ x3_1 t511 _ ?side1 ?side2 A12.out).mono ?_); (case side1 => repeat (first | exact (Kd.R_reads' HO_3.out).2.2 | (with_reducible refine Kd.C_alloc ?_ _) | (with_reducible refine Kd.C_drewN ?_ _) | (with_reducible refine Kd.C_drew ?_))); (case side2 => exact (Kd.R_reads' HO_3.out).2.1); rintro e w17 ⟨rfl, hb⟩; refine ⟨_, rfl, ?_⟩; have n0_ := Aside0.mk (Kd.R_below (by (with_reducible repeat (first | apply Kd.R_alloc | apply Kd.R_drewN | apply Kd.R_drew)); exact HO_3.out) hb); have n1_ := Aside0.mk (IsS134.below (isA) hb); have n2_ := Aside0.mk (KeepBut.trans (keepA) (KeepBut.of_below hb g none) (.inl rfl)); have n3_ := Aside0.mk (below_step (belowI) hb); clear HO_3; clear HI0; clear HK; clear HB; have HO_3 := n0_; have HI0 := n1_; have HK := n2_; have HB := n3_; clear n0_ n1_ n2_ n3_; (try clear hb); (try clear hb2); (try clear hk); (try clear hi)) | ((with_reducible refine gate_callee (f := 79) rfl ?_); refine goesL_ (some 27) rfl rfl Tryd.func79 (by kernel_rfl) rfl #[.pointer (some ⟨g, 0, none⟩), .int .i64 15] rfl (by (try simp only [List.map_toArray, List.map_cons, List.map_nil]); first | done | rfl) ?_; (with_reducible refine (spec_l01Src_one.calls g s0_0 x1001_1 x1002_1 x1003_1 15 true t513 t514 t515 w0 _ ?side1 ?side2 A13.out).mono ?_); (case side1 => exact isA); (case side2 => exact belowI); rintro e w18 ⟨rfl, hi, hb, hk⟩; refine ⟨_, rfl, ?_⟩; have n0_ := Aside0.mk (Kd.R_mono (Kd.R_keep (IsS134.apart (show IsS134 w0 _ g s0_0 x1001_1 x1002_1 x1003_1 from isA) (by (with_reducible repeat (first | apply Kd.R_alloc | apply Kd.R_drewN | apply Kd.R_drew)); exact HO_3.out) (by decide)) hk (fun _ h => h.2)) (fun _ h => h.1)); have n1_ := Aside0.mk (KeepBut.trans (keepA) hk (.inl rfl)); have n2_ := Aside0.mk (hb); have n3_ := Aside0.mk (hi); clear HO_3; clear HK; clear HB; clear HI0; have HO_3 := n0_; have HK := n1_; have HB := n2_; have HI0 := n3_; clear n0_ n1_ n2_ n3_; (try clear hb); (try clear hb2); (try clear hk); (try clear hi)) | ((with_reducible refine gate_callee (f := 166) rfl ?_); refine goesL_ (some 30) rfl rfl Tryd.func166 (by kernel_rfl) rfl #[.pointer (some ⟨g, 0, none⟩), .string t511] rfl (by (try simp only [List.map_toArray, List.map_cons, List.map_nil]); first | done | rfl) ?_; (with_reducible refine (spec_l01Src_spoil.calls k1 g s0_0 t513 t514 t515 t511 t516 t517 t518 t519 w0 _ ?side1 ?side2 A15.out).mono ?_); (case side1 => exact isA); (case side2 => exact belowI); rintro e w19 ⟨rfl, hi, hb, hk⟩; refine ⟨_, rfl, ?_⟩; have n0_ := Aside0.mk (Kd.R_mono (Kd.R_keep (IsS134.apart (show IsS134 w0 _ g s0_0 t513 t514 t515 from isA) (by (with_reducible repeat (first | apply Kd.R_alloc | apply Kd.R_drewN | apply Kd.R_drew)); exact HO_3.out) (by decide)) hk (fun _ h => h.2)) (fun _ h => h.1)); have n1_ := Aside0.mk (KeepBut.trans (keepA) hk (.inl rfl)); have n2_ := Aside0.mk (hb); have n3_ := Aside0.mk (hi); clear HO_3; clear HK; clear HB; clear HI0; have HO_3 := n0_; have HK := n1_; have HB := n2_; have HI0 := n3_; clear n0_ n1_ n2_ n3_; (try clear hb); (try clear hb2); (try clear hk); (try clear hi)))
    go_ret
    exact ⟨by first | rfl | (simp [errW_none, errW_some] <;> rfl) | (simp [*, errW_none, errW_some] <;> rfl), isA, belowI, keepA⟩
   replace c14 := Bool.eq_false_iff.mpr c14; subst c14
   have H1 : (some (t511, t513, t514, t515)) = some (r1, r2, r3, r4) := by rw [if_neg (show ¬ (false = true) by decide)] at H; exact H
   clear H; have H := H1; clear H1; simp only [Option.some.injEq, Prod.mk.injEq] at H; obtain ⟨rfl, rfl, rfl, rfl⟩ := H; obtain ⟨Ao20, co20, eo20⟩ := Kd.R_slice HO_3.out; subst eo20
   go_wp2_with (first | ((with_reducible refine gate_callee (f := 95) rfl ?_); refine goesL_ (some 25) rfl rfl Tryd.func95 (by kernel_rfl) rfl #[.slice Ao20 x3_1.length co20] rfl (by (try simp only [List.map_toArray, List.map_cons, List.map_nil]); first | done | rfl) ?_; (with_reducible refine (W_spec_l01Text.calls _ _ x3_1 t511 _ ?side1 ?side2 A12.out).mono ?_); (case side1 => repeat (first | exact (Kd.R_reads' HO_3.out).2.2 | (with_reducible refine Kd.C_alloc ?_ _) | (with_reducible refine Kd.C_drewN ?_ _) | (with_reducible refine Kd.C_drew ?_))); (case side2 => exact (Kd.R_reads' HO_3.out).2.1); rintro e w21 ⟨rfl, hb⟩; refine ⟨_, rfl, ?_⟩; have n0_ := Aside0.mk (Kd.R_below (by (with_reducible repeat (first | apply Kd.R_alloc | apply Kd.R_drewN | apply Kd.R_drew)); exact HO_3.out) hb); have n1_ := Aside0.mk (IsS134.below (isA) hb); have n2_ := Aside0.mk (KeepBut.trans (keepA) (KeepBut.of_below hb g none) (.inl rfl)); have n3_ := Aside0.mk (below_step (belowI) hb); clear HO_3; clear HI0; clear HK; clear HB; have HO_3 := n0_; have HI0 := n1_; have HK := n2_; have HB := n3_; clear n0_ n1_ n2_ n3_; (try clear hb); (try clear hb2); (try clear hk); (try clear hi)) | ((with_reducible refine gate_callee (f := 79) rfl ?_); refine goesL_ (some 27) rfl rfl Tryd.func79 (by kernel_rfl) rfl #[.pointer (some ⟨g, 0, none⟩), .int .i64 15] rfl (by (try simp only [List.map_toArray, List.map_cons, List.map_nil]); first | done | rfl) ?_; (with_reducible refine (spec_l01Src_one.calls g s0_0 x1001_1 x1002_1 x1003_1 15 false t513 t514 t515 w0 _ ?side1 ?side2 A13.out).mono ?_); (case side1 => exact isA); (case side2 => exact belowI); rintro e w22 ⟨rfl, hi, hb, hk⟩; refine ⟨_, rfl, ?_⟩; have n0_ := Aside0.mk (Kd.R_mono (Kd.R_keep (IsS134.apart (show IsS134 w0 _ g s0_0 x1001_1 x1002_1 x1003_1 from isA) (by (with_reducible repeat (first | apply Kd.R_alloc | apply Kd.R_drewN | apply Kd.R_drew)); exact HO_3.out) (by decide)) hk (fun _ h => h.2)) (fun _ h => h.1)); have n1_ := Aside0.mk (KeepBut.trans (keepA) hk (.inl rfl)); have n2_ := Aside0.mk (hb); have n3_ := Aside0.mk (hi); clear HO_3; clear HK; clear HB; clear HI0; have HO_3 := n0_; have HK := n1_; have HB := n2_; have HI0 := n3_; clear n0_ n1_ n2_ n3_; (try clear hb); (try clear hb2); (try clear hk); (try clear hi)))
   go_ret
   exact ⟨by first | rfl | (simp [errW_none, errW_some] <;> rfl) | (simp [*, errW_none, errW_some] <;> rfl), isA, belowI, keepA⟩

theorem spec_l01Src_partsText.run (l : List Int) (z : Int) (hl : l.length ≤ 140737488355328) (d : Nat) (hd : d ≤ 1000) : ∀ (k : Nat) (n : Int) (acc : List Int) (a m : Int), n = d → acc.length + d ≤ 1000 → d + 40 ≤ k → 0 ≤ a → a ≤ (l.length : Int) →
    YtiabgmddnddeiaaDoorPts.Tot (spec_l01Src_partsText.l0 k acc n l a m z) (fun r => r.1.size ≤ 4 * (acc.length + d) + 1 ∧ 0 ≤ r.2.1 ∧ r.2.1 ≤ (l.length : Int) ∧ r.2.2.2 = z) := by
  induction d with
  | zero =>
    intro k n acc a m hn ha hk h0 h1
    obtain ⟨k, rfl⟩ : ∃ j, k = j + 1 + 1 := ⟨k - 2, by omega⟩
    rw [spec_l01Src_partsText.l0]
    rw [if_neg (by omega)]
    unfold W_spec_l01Text.f
    rw [if_pos (by omega)]
    simp only [Option.bind_some]
    have hs := YtiabgmddnddeiaaDoorPts.encs_length acc
    have hz : (strOfNums (YtiabgmddnddeiaaDoorPts.encs acc)).size ≤ 4 * acc.length := by rw [strOfNums_size]; omega
    refine YtiabgmddnddeiaaDoorPts.Tot.bind (spec_l01Src_one.tot l a m z 15 hl h0 h1 (by decide)) ?_
    rintro ⟨b, a3, m3, z3⟩ ⟨h9, h10, h11⟩
    dsimp only at h9 h10 h11 ⊢
    subst h11
    refine YtiabgmddnddeiaaDoorPts.Tot.ite (fun _ => ?_) (fun _ => YtiabgmddnddeiaaDoorPts.Tot.mk ⟨by dsimp only; omega, h9, h10, rfl⟩)
    refine YtiabgmddnddeiaaDoorPts.Tot.bind (spec_l01Src_spoil.tot k l a3 m3 z3 _ hl h9 h10 (by omega)) ?_
    rintro ⟨t2, a4, m4, z4⟩ ⟨h12, h13, h14, h15⟩
    dsimp only at h12 h13 h14 h15 ⊢
    exact YtiabgmddnddeiaaDoorPts.Tot.mk ⟨by dsimp only; omega, h13, h14, h15⟩
  | succ d ih =>
    intro k n acc a m hn ha hk h0 h1
    obtain ⟨k, rfl⟩ : ∃ j, k = j + 10 + 1 := ⟨k - 11, by omega⟩
    have hw : wrap64 (n - 1) = ((d : Nat) : Int) := by unfold wrap64; omega
    rw [spec_l01Src_partsText.l0]
    rw [if_pos (by omega)]
    refine YtiabgmddnddeiaaDoorPts.Tot.bind (spec_l01Src_part.tot k l a m z hl h0 h1) ?_
    rintro ⟨p, a1, m1, z1⟩ ⟨h2, h3, h4⟩
    dsimp only at h2 h3 h4 ⊢
    subst h4
    rw [hw]
    clear hw
    rw [if_pos (by omega)]
    refine (ih (by omega) (k + 10) (d : Int) (acc ++ [p]) a1 m1 rfl (by rw [List.length_append]; simp only [List.length_cons, List.length_nil]; omega) (by omega) h2 h3).mono ?_
    rintro ⟨s, a2, m2, z2⟩ ⟨q1, q2, q3, q4⟩
    dsimp only at q1 q2 q3 q4 ⊢
    rw [List.length_append] at q1
    simp only [List.length_cons, List.length_nil] at q1
    exact ⟨by omega, q2, q3, q4⟩
theorem spec_l01Src_partsText.tot (k : Nat) (l : List Int) (a m z : Int) (hl : l.length ≤ 140737488355328) (h0 : 0 ≤ a) (h1 : a ≤ (l.length : Int)) (hz : 0 ≤ z) (hz2 : z ≤ 12) (hk : 200 ≤ k) :
    YtiabgmddnddeiaaDoorPts.Tot (spec_l01Src_partsText.f k l a m z) (fun r => r.1.size ≤ 200 ∧ 0 ≤ r.2.1 ∧ r.2.1 ≤ (l.length : Int) ∧ r.2.2.2 = z) := by
  unfold spec_l01Src_partsText.f
  have hw : wrap64 (7 + wrap64 (2 * z)) = 7 + 2 * z := by unfold wrap64; omega
  rw [hw]
  clear hw
  refine YtiabgmddnddeiaaDoorPts.Tot.bind (spec_l01Src_n.tot l a m z _ hl h0 h1 (by omega)) ?_
  rintro ⟨v, a1, m1, z1⟩ ⟨v1, v2, h2, h3, h4⟩
  dsimp only at v1 v2 h2 h3 h4 ⊢
  subst h4
  refine (spec_l01Src_partsText.run l z1 hl v.toNat (by omega) k v [] a1 m1 (by omega) (by simp; omega) (by omega) h2 h3).mono ?_
  rintro ⟨s, a2, m2, z2⟩ ⟨q1, q2, q3, q4⟩
  dsimp only at q1 q2 q3 q4 ⊢
  simp only [List.length_nil] at q1
  exact ⟨by omega, q2, q3, q4⟩

/-! ### spec_l01Src_long: function 80 -/
def spec_l01Src_long.l0 : Nat → ByteArray → Int → List Int → List Int → Int → Int → Int → Option (ByteArray × Int × Int × Int)
 | 0, _, _, _, _, _, _, _ => none
 | k + 1, x1, x2, x7, x1000, x1001, x1002, x1003 => if (x7.length : Int) < x2 then (if x7.length + x1.size < 140737488355328 then (spec_l01Src_long.l0 k x1 x2 (x7 ++ bytesOf x1) x1000 x1001 x1002 x1003) else (none)) else (if 0 ≤ x2 then (if x2 ≤ (x7.length : Int) then (some (strOfNums (x7.take (x2 : Int).toNat), x1001, x1002, x1003)) else (none)) else (none))
def spec_l01Src_long.f (k : Nat) (s0_0 : List Int) (s0_1 : Int) (s0_2 : Int) (s0_3 : Int) (a1 : ByteArray) (a2 : Int) : Option (ByteArray × Int × Int × Int) := spec_l01Src_long.l0 k a1 a2 (([] : List Int)) s0_0 s0_1 s0_2 s0_3
theorem spec_l01Src_long.mono_l : ∀ k, (∀ y0 y1 y2 y3 y4 y5 y6, LeO (spec_l01Src_long.l0 k y0 y1 y2 y3 y4 y5 y6) (spec_l01Src_long.l0 (k + 1) y0 y1 y2 y3 y4 y5 y6))
 | 0 => fun _ _ _ _ _ _ _ r h => by simp [spec_l01Src_long.l0] at h
 | k + 1 => by
  have ih0 := spec_l01Src_long.mono_l k; intro y0 y1 y2 y3 y4 y5 y6
  unfold spec_l01Src_long.l0
  repeat' first
  | (with_reducible exact ih0 _ _ _ _ _ _ _)
  | (with_reducible exact LeO.refl _)
  | (with_reducible exact LeO.none _)
  | (with_reducible refine LeO.ite ?_ ?_)
  | (with_reducible refine LeO.bind ?_ (fun _ => ?_))
  | exact ih0 _ _ _ _ _ _ _
  | exact LeO.none _
  | refine LeO.ite ?_ ?_
  | refine LeO.bind ?_ (fun _ => ?_)
theorem spec_l01Src_long.mono : ∀ a0 a1 a2 a3 a4 a5 k, LeO (spec_l01Src_long.f k a0 a1 a2 a3 a4 a5) (spec_l01Src_long.f (k + 1) a0 a1 a2 a3 a4 a5) := by
 intro a0 a1 a2 a3 a4 a5 k
 have ih0 := spec_l01Src_long.mono_l k
 unfold spec_l01Src_long.f
 repeat' first
   | (with_reducible exact ih0 _ _ _ _ _ _ _)
   | (with_reducible exact LeO.refl _)
   | (with_reducible exact LeO.none _)
   | (with_reducible refine LeO.ite ?_ ?_)
   | (with_reducible refine LeO.bind ?_ (fun _ => ?_))
   | exact ih0 _ _ _ _ _ _ _
   | exact LeO.none _
   | refine LeO.ite ?_ ?_
   | refine LeO.bind ?_ (fun _ => ?_)
set_option maxHeartbeats 8000000 in
set_option maxRecDepth 100000 in
theorem spec_l01Src_long.calls (k : Nat) (g : Nat) (s0_0 : List Int) (s0_1 : Int) (s0_2 : Int) (s0_3 : Int) (a1 : ByteArray) (a2 : Int) (r1 : ByteArray) (r2 : Int) (r3 : Int) (r4 : Int) (w0 w : World) (hI : IsS134 w0 w g s0_0 s0_1 s0_2 s0_3) (hB : Below w0.heap.size w0 w) (h : spec_l01Src_long.f k s0_0 s0_1 s0_2 s0_3 a1 a2 = some (r1, r2, r3, r4)) :
  Calls Tryd.prog 80 #[.pointer (some ⟨g, 0, none⟩), .string a1, .int .i64 a2] w fun e w' => e = .returned (.string r1) ∧ IsS134 w0 w' g s0_0 r2 r3 r4 ∧ Below w0.heap.size w0 w' ∧ KeepBut w w' g none := by
 have HI0 := Aside0.mk hI
 have HK := Aside0.mk (KeepBut.refl w g none)
 have HL := Aside0.mk hB.size
 clear hI
 have HW0 := Aside0.mk hB.size
 have HB := Aside0.mk hB
 clear hB
 have H : (spec_l01Src_long.l0 k a1 a2 (([] : List Int)) s0_0 s0_1 s0_2 s0_3) = some (r1, r2, r3, r4) := h
 clear h
 obtain ⟨y520, hy520⟩ : ∃ y_ : List Int, y_ = (([] : List Int)) := ⟨_, rfl⟩
 replace H : (spec_l01Src_long.l0 k a1 a2 y520 s0_0 s0_1 s0_2 s0_3) = some (r1, r2, r3, r4) := by first | (rw [hy520]; with_reducible exact H) | (have H2_ := (Option.bind_some _ _).symm.trans H; rw [hy520]; with_reducible exact H2_) | (have H2_ := (Option.bind_some _ _).symm.trans H; with_reducible exact H2_) | with_reducible exact H | (rw [hy520]; exact H) | exact H
 have Ny520 := Aside0.mk hy520
 clear hy520
 have H' := Aside0.mk H
 clear H
 go_enter Tryd.func80, Tryd.ntmps80
 go_wp2_with (first | ((with_reducible refine gate_dst (N := 8) rfl ?_); refine Kd.R_lit (Kd.int .u8) _ 5 ?hg (N := 8) ?hd (xs := ([] : List Int)) (inner := []) (ok := fun _ => True) (okp := fun _ => True) ?hr ?hp (fun _ hk => hk) trivial (Below.refl _ _) (Nat.le_refl _) (by simp) ?_; (case hd => rfl); (case hg => rfl); (case hr => first | (go_simp; done) | (go_simp; rfl)); (case hp => exact (Reps.none _ _)); intro v521 w4 ho5 hb hg_ hnew_; clear hg_ hnew_; (first | rw [← Ny520.out] at ho5 | (simp only [Int.reduceToNat] at ho5; rw [← Ny520.out] at ho5)); have n0_ := Aside0.mk (Kd.R_lower ho5 (keep_size (w := w) (g := g) (row := none) (by repeat (first | (with_reducible first | exact HK.out | apply KeepBut.set_ | apply keep_drewN | apply keep_drew | apply keep_alloc) | exact HK.out)))); have n1_ := Aside0.mk (IsS134.below (by repeat (first | (with_reducible first | exact HI0.out | apply IsS134.alloc | apply IsS134.drewN | apply IsS134.drew | apply IsS134.set_1 | apply IsS134.set_2 | apply IsS134.set_3) | exact HI0.out)) hb); have n2_ := Aside0.mk (KeepBut.trans (by repeat (first | (with_reducible first | exact HK.out | apply KeepBut.set_ | apply keep_drewN | apply keep_drew | apply keep_alloc) | exact HK.out)) (KeepBut.of_below hb g none) (.inl rfl)); have n3_ := Aside0.mk (below_step (by repeat (first | (with_reducible first | exact HB.out | apply below_alloc | apply pw_below_drewN | apply below_drew1 | refine below_set ?_ (IsS134.ge HI0.out)) | exact HB.out)) hb); clear HI0; clear HK; clear HB; have HO522 := n0_; have HI0 := n1_; have HK := n2_; have HB := n3_; clear n0_ n1_ n2_ n3_; clear hb ho5))
 go_loopg [7] k (fun kq v7 w' => ∃ (x7_1 : List Int), Aside0 (spec_l01Src_long.l0 kq a1 a2 x7_1 s0_0 s0_1 s0_2 s0_3 = some (r1, r2, r3, r4)) ∧ Aside0 (kq ≤ k) ∧ Aside0 (Kd.R (Kd.int .u8) 5 w' w.heap.size (fun _ => True) v7 x7_1) ∧ Aside0 (IsS134 w0 w' g s0_0 s0_1 s0_2 s0_3) ∧ Aside0 (KeepBut w w' g none) ∧ Aside0 (Below w0.heap.size w0 w'))
 case atStart => exact ⟨(y520), H', ⟨Nat.le_refl _⟩, ⟨by (with_reducible repeat (first | apply Kd.R_alloc | apply Kd.R_drewN | apply Kd.R_drew)); exact HO522.out⟩, ⟨by repeat (first | (with_reducible first | exact HI0.out | apply IsS134.alloc | apply IsS134.drewN | apply IsS134.drew | apply IsS134.set_1 | apply IsS134.set_2 | apply IsS134.set_3) | exact HI0.out)⟩, ⟨by repeat (first | (with_reducible first | exact HK.out | apply KeepBut.set_ | apply keep_drewN | apply keep_drew | apply keep_alloc) | exact HK.out)⟩, ⟨by repeat (first | (with_reducible first | exact HB.out | apply below_alloc | apply pw_below_drewN | apply below_drew1 | refine below_set ?_ (IsS134.ge HI0.out)) | exact HB.out)⟩⟩
 case round =>
  clear H'
  try clear p2
  obtain ⟨x7_1, HA, HK1, HO_7, HI0, HK, HB⟩ := hrel
  cases gk with
  | zero => exact absurd HA.out (by simp [spec_l01Src_long.l0])
  | succ k1 =>
   have H := HA.out; clear HA; simp only [spec_l01Src_long.l0] at H
   by_cases c6 : (x7_1.length : Int) < a2
   ·rw [if_pos c6] at H
    have c6b0 : decide ((x7_1.length : Int) < a2) = true := decide_eq_true c6; clear c6
    by_cases c7 : x7_1.length + a1.size < 140737488355328
    ·rw [if_pos c7] at H
     have LMc7 := Aside0.mk c7; clear c7; obtain ⟨y523, hy523⟩ : ∃ y_ : List Int, y_ = (x7_1 ++ bytesOf a1) := ⟨_, rfl⟩
     replace H : (spec_l01Src_long.l0 k1 a1 a2 y523 s0_0 s0_1 s0_2 s0_3) = some (r1, r2, r3, r4) := by first | (rw [hy523]; with_reducible exact H) | (have H2_ := (Option.bind_some _ _).symm.trans H; rw [hy523]; with_reducible exact H2_) | (have H2_ := (Option.bind_some _ _).symm.trans H; with_reducible exact H2_) | with_reducible exact H | (rw [hy523]; exact H) | exact H
     have Ny523 := Aside0.mk hy523; clear hy523; have H' := Aside0.mk H; clear H; obtain ⟨Ao8, co8, eo8⟩ := Kd.R_slice HO_7.out; subst eo8
     go_wp2_with (first | (at_builtin; refine print_append_str w.heap.size rfl (.tmp 13) _ 22 9 5 rfl Tryd.underlying22 Tryd.underlying9 info5 (.slice Ao8 x7_1.length co8) x7_1 a1 rfl rfl ?aO (Below.refl _ _) ?aS ?aL ?_; (case aO => exact (Kd.own_of_R (by (with_reducible repeat (first | apply Kd.R_alloc | apply Kd.R_drewN | apply Kd.R_drew)); exact HO_7.out))); (case aS => exact (keep_size (w := w) (g := g) (row := none) (by repeat (first | (with_reducible first | exact HK.out | apply KeepBut.set_ | apply keep_drewN | apply keep_drew | apply keep_alloc) | exact HK.out)))); (case aL => have := LMc7.out; omega); intro v524 w9 ho0 hb hg; have ho := Kd.R_of_own (h1 := fun _ => rfl) (ok := fun _ => True) ho0 (fun _ _ => trivial); clear ho0; have hat := True.intro; rw [← Ny523.out] at ho; change Kd.R (Kd.int .u8) 5 w9 w.heap.size (fun _ => True) v524 y523 at ho; have n0_ := Aside0.mk (IsS134.grown (by repeat (first | (with_reducible first | exact HI0.out | apply IsS134.alloc | apply IsS134.drewN | apply IsS134.drew | apply IsS134.set_1 | apply IsS134.set_2 | apply IsS134.set_3) | exact HI0.out)) hg (IsS134.own_ne HI0.out HO_7.out (by decide))); have n1_ := Aside0.mk (below_weaken (by repeat (first | (with_reducible first | exact HB.out | apply below_alloc | apply pw_below_drewN | apply below_drew1 | refine below_set ?_ (IsS134.ge HI0.out)) | exact HB.out)) HL.out hb); have n2_ := Aside0.mk (KeepBut.trans (by repeat (first | (with_reducible first | exact HK.out | apply KeepBut.set_ | apply keep_drewN | apply keep_drew | apply keep_alloc) | exact HK.out)) (KeepBut.of_grown hg g) (Kd.R_base2 HO_7.out)); have n3_ := Aside0.mk (ho); clear HI0; clear HB; clear HK; clear HO_7; have HI0 := n0_; have HB := n1_; have HK := n2_; have HO525 := n3_; clear n0_ n1_ n2_ n3_; clear ho hb hg hat))
     go_roundg k1
     case measure => have := HK1.out; omega
     case rel => exact ⟨(y523), H', ⟨by have := HK1.out; omega⟩, ⟨by (with_reducible repeat (first | apply Kd.R_alloc | apply Kd.R_drewN | apply Kd.R_drew)); exact HO525.out⟩, ⟨by repeat (first | (with_reducible first | exact HI0.out | apply IsS134.alloc | apply IsS134.drewN | apply IsS134.drew | apply IsS134.set_1 | apply IsS134.set_2 | apply IsS134.set_3) | exact HI0.out)⟩, ⟨by repeat (first | (with_reducible first | exact HK.out | apply KeepBut.set_ | apply keep_drewN | apply keep_drew | apply keep_alloc) | exact HK.out)⟩, ⟨by repeat (first | (with_reducible first | exact HB.out | apply below_alloc | apply pw_below_drewN | apply below_drew1 | refine below_set ?_ (IsS134.ge HI0.out)) | exact HB.out)⟩⟩
    rw [if_neg c7] at H
    exact absurd H (by simp)
   rw [if_neg c6] at H; have c6b0 : decide ((x7_1.length : Int) < a2) = false := decide_eq_false c6; clear c6
   by_cases c10 : 0 ≤ a2
   ·rw [if_pos c10] at H
    have c10b0 := eq_true c10; have c10b1 : decide (0 ≤ a2) = true := decide_eq_true c10; clear c10
    by_cases c11 : a2 ≤ (x7_1.length : Int)
    ·rw [if_pos c11] at H
     have c11b0 := eq_true c11; have c11b1 : decide (a2 ≤ (x7_1.length : Int)) = true := decide_eq_true c11; clear c11; obtain ⟨y526, hy526⟩ : ∃ y_ : List Int, y_ = (x7_1.take (a2 : Int).toNat) := ⟨_, rfl⟩
     replace H : (some (strOfNums y526, s0_1, s0_2, s0_3)) = some (r1, r2, r3, r4) := by first | (rw [hy526]; with_reducible exact H) | (have H2_ := (Option.bind_some _ _).symm.trans H; rw [hy526]; with_reducible exact H2_) | (have H2_ := (Option.bind_some _ _).symm.trans H; with_reducible exact H2_) | with_reducible exact H | (rw [hy526]; exact H) | exact H
     have Ny526 := Aside0.mk hy526; clear hy526; simp only [Option.some.injEq, Prod.mk.injEq] at H; obtain ⟨rfl, rfl, rfl, rfl⟩ := H; obtain ⟨Ao12, co12, eo12⟩ := Kd.R_slice HO_7.out; subst eo12
     have q13 : (a2 : Int) ≤ ((x7_1.length : Int) : Int) := of_decide_eq_true (by first | (with_reducible assumption) | assumption)
     obtain ⟨i013, hi013, _, hsz13, _⟩ := info_parts info5; have hroom13 : x7_1.length ≤ co12 := (Kd.R_reads' HO_7.out).2.1; have hC13 : Kd.C (Kd.int .u8) _ Ao12 x7_1.length x7_1 := (Kd.R_reads' HO_7.out).2.2
     have hcut13 := cut_to (P := Tryd.prog) 22 5 .i64 Tryd.underlying22 hi013 Ao12 x7_1.length co12 a2 (of_decide_eq_true (by first | (with_reducible assumption) | assumption)) q13 hroom13
     have hr13 := Kd.C_take (m := (a2 : Int).toNat) hC13 (by omega)
     have hy13 : y526.length = (a2 : Int).toNat := (by rw [Ny526.out, List.length_take]; omega)
     rw [← Ny526.out] at hr13; rw [← hy13] at hcut13; have HR529 := Aside0.mk hr13
     have HC529 := Aside0.mk (show y526.length ≤ co12 from by omega)
     clear hr13 hC13 hroom13 hi013 hsz13; have KY13 := Aside0.mk hy13; clear hy13
     have KL13 := Aside0.mk (show (a2 : Int).toNat ≤ x7_1.length from by omega)
     replace q13 := eq_true q13
     have hcv14 := Kd.C_string (P := Tryd.prog) (A := Ao12) (c := co12) Tryd.underlying22 Tryd.underlying5 Tryd.underlying9 (by repeat (first | (with_reducible exact HR529.out) | (with_reducible refine Kd.C_alloc ?_ _) | (with_reducible refine Kd.C_drewN ?_ _) | (with_reducible refine Kd.C_drew ?_) | exact HR529.out))
     go_wp2
     go_ret
     exact ⟨by first | rfl | (simp [errW_none, errW_some] <;> rfl) | (simp [*, errW_none, errW_some] <;> rfl), by repeat (first | (with_reducible first | exact HI0.out | apply IsS134.alloc | apply IsS134.drewN | apply IsS134.drew | apply IsS134.set_1 | apply IsS134.set_2 | apply IsS134.set_3) | exact HI0.out), by repeat (first | (with_reducible first | exact HB.out | apply below_alloc | apply pw_below_drewN | apply below_drew1 | refine below_set ?_ (IsS134.ge HI0.out)) | exact HB.out), by repeat (first | (with_reducible first | exact HK.out | apply KeepBut.set_ | apply keep_drewN | apply keep_drew | apply keep_alloc) | exact HK.out)⟩
    rw [if_neg c11] at H
    exact absurd H (by simp)
   rw [if_neg c10] at H
   exact absurd H (by simp)

theorem spec_l01Src_long.run (l : List Int) (c : ByteArray) (n a m z : Int) (hc : c.size = 2) (hn : 0 ≤ n) (hn2 : n ≤ 1000000) (d : Nat) : ∀ (k : Nat) (acc : List Int), n - acc.length ≤ d → acc.length ≤ 1000002 → d + 1 ≤ k →
    YtiabgmddnddeiaaDoorPts.Tot (spec_l01Src_long.l0 k c n acc l a m z) (fun r => (r.1.size : Int) = n ∧ r.2.1 = a ∧ r.2.2.2 = z) := by
  have fin : ∀ (k : Nat) (acc : List Int), n ≤ acc.length → YtiabgmddnddeiaaDoorPts.Tot (spec_l01Src_long.l0 (k + 1) c n acc l a m z) (fun r => (r.1.size : Int) = n ∧ r.2.1 = a ∧ r.2.2.2 = z) := by
    intro k acc h
    simp only [spec_l01Src_long.l0]
    rw [if_neg (by omega), if_pos hn, if_pos h]
    exact YtiabgmddnddeiaaDoorPts.Tot.mk ⟨by dsimp only; rw [strOfNums_size, List.length_take]; omega, rfl, rfl⟩
  induction d with
  | zero =>
    intro k acc h1 h2 h3
    obtain ⟨k, rfl⟩ : ∃ j, k = j + 1 := ⟨k - 1, by omega⟩
    exact fin k acc (by omega)
  | succ d ih =>
    intro k acc h1 h2 h3
    obtain ⟨k, rfl⟩ : ∃ j, k = j + 1 := ⟨k - 1, by omega⟩
    by_cases h : (acc.length : Int) < n
    · simp only [spec_l01Src_long.l0]
      rw [if_pos h, if_pos (by omega)]
      exact ih k _ (by rw [List.length_append, bytesOf_length, hc]; omega) (by rw [List.length_append, bytesOf_length, hc]; omega) (by omega)
    · exact fin k acc (by omega)
theorem spec_l01Src_long.run2 (l : List Int) (c : ByteArray) (n a m z : Int) (hc : c.size = 2) (hca : ∀ b ∈ bytesOf c, 0 ≤ b ∧ b < 128) (hn : 0 ≤ n) (hn2 : n ≤ 1000000) (d : Nat) : ∀ (k : Nat) (acc : List Int), n - acc.length ≤ d → acc.length ≤ 1000002 → d + 1 ≤ k → (∀ b ∈ acc, 0 ≤ b ∧ b < 128) →
    YtiabgmddnddeiaaDoorPts.Tot (spec_l01Src_long.l0 k c n acc l a m z) (fun r => ∀ b ∈ bytesOf r.1, b < 128) := by
  have fin : ∀ (k : Nat) (acc : List Int), n ≤ acc.length → (∀ b ∈ acc, 0 ≤ b ∧ b < 128) → YtiabgmddnddeiaaDoorPts.Tot (spec_l01Src_long.l0 (k + 1) c n acc l a m z) (fun r => ∀ b ∈ bytesOf r.1, b < 128) := by
    intro k acc h ha
    simp only [spec_l01Src_long.l0]
    rw [if_neg (by omega), if_pos hn, if_pos h]
    refine YtiabgmddnddeiaaDoorPts.Tot.mk ?_
    dsimp only
    rw [YtiabgmddnddeiaaDoorPts.bytesOf_strOfNums (fun b hb => by have := ha b (List.mem_of_mem_take hb); omega)]
    exact fun b hb => (ha b (List.mem_of_mem_take hb)).2
  induction d with
  | zero =>
    intro k acc h1 h2 h3 h4
    obtain ⟨k, rfl⟩ : ∃ j, k = j + 1 := ⟨k - 1, by omega⟩
    exact fin k acc (by omega) h4
  | succ d ih =>
    intro k acc h1 h2 h3 h4
    obtain ⟨k, rfl⟩ : ∃ j, k = j + 1 := ⟨k - 1, by omega⟩
    by_cases h : (acc.length : Int) < n
    · simp only [spec_l01Src_long.l0]
      rw [if_pos h, if_pos (by omega)]
      exact ih k _ (by rw [List.length_append, bytesOf_length, hc]; omega) (by rw [List.length_append, bytesOf_length, hc]; omega) (by omega) (fun b hb => by
        rcases List.mem_append.1 hb with g | g
        · exact h4 b g
        · exact hca b g)
    · exact fin k acc (by omega) h4

/-! ### spec_DrawNormalize: function 14 -/
def spec_DrawNormalize.f (k : Nat) (l0 : List Int) : Option (Int × ByteArray) := (spec_l01Source.f l0).bind fun bt530 => ((spec_l01Src_normForm.f bt530.1 bt530.2.1 bt530.2.2.1 bt530.2.2.2).bind fun bt535 => ((spec_l01Src_partsText.f k bt530.1 bt535.2.1 bt535.2.2.1 bt535.2.2.2).bind fun bt539 => ((spec_l01Src_one.f bt530.1 bt539.2.1 bt539.2.2.1 bt539.2.2.2 100).bind fun bt543 => (if bt543.1 = true then ((W_spec_l01Write.f 9216).bind fun t547 => ((spec_l01Src_n.f bt530.1 bt543.2.1 bt543.2.2.1 bt543.2.2.2 2).bind fun bt548 => ((spec_l01Src_long.f k bt530.1 bt548.2.1 bt548.2.2.1 bt548.2.2.2 t547 (wrap64 (65533 + (wrap64 (bt548.1 * 3))))).bind fun bt552 => (some (bt535.1, bt552.1))))) else (some (bt535.1, bt539.1))))))
theorem spec_DrawNormalize.mono : ∀ a0 k, LeO (spec_DrawNormalize.f k a0) (spec_DrawNormalize.f (k + 1) a0) := by
 intro a0 k
 unfold spec_DrawNormalize.f
 repeat' first
   | (with_reducible exact spec_l01Src_long.mono _ _ _ _ _ _ _)
   | (with_reducible exact spec_l01Src_partsText.mono _ _ _ _ _)
   | (with_reducible exact LeO.refl _)
   | (with_reducible exact LeO.none _)
   | (with_reducible refine LeO.ite ?_ ?_)
   | (with_reducible refine LeO.bind ?_ (fun _ => ?_))
   | exact spec_l01Src_long.mono _ _ _ _ _ _ _
   | exact spec_l01Src_partsText.mono _ _ _ _ _
   | exact LeO.none _
   | refine LeO.ite ?_ ?_
   | refine LeO.bind ?_ (fun _ => ?_)
set_option maxHeartbeats 8000000 in
set_option maxRecDepth 100000 in
theorem spec_DrawNormalize.calls (k : Nat) (A0 : Option Addr) (c0 : Nat) (l0 : List Int) (r1 : Int) (r2 : ByteArray) (w : World) (hr0 : Kd.C (Kd.int .u8) w A0 l0.length l0) (hc0 : l0.length ≤ c0) (h : spec_DrawNormalize.f k l0 = some (r1, r2)) :
  Calls Tryd.prog 14 #[.slice A0 l0.length c0] w fun e w' => e = .returned (.tuple #[.int .i64 r1, .string r2]) ∧ Below w.heap.size w w' := by
 have HR0 := Aside0.mk hr0
 have HC0 := Aside0.mk hc0
 clear hr0 hc0
 have HB := Aside0.mk (Below.refl w.heap.size w)
 have H : ((spec_l01Source.f l0).bind fun bt530 => ((spec_l01Src_normForm.f bt530.1 bt530.2.1 bt530.2.2.1 bt530.2.2.2).bind fun bt535 => ((spec_l01Src_partsText.f k bt530.1 bt535.2.1 bt535.2.2.1 bt535.2.2.2).bind fun bt539 => ((spec_l01Src_one.f bt530.1 bt539.2.1 bt539.2.2.1 bt539.2.2.2 100).bind fun bt543 => (if bt543.1 = true then ((W_spec_l01Write.f 9216).bind fun t547 => ((spec_l01Src_n.f bt530.1 bt543.2.1 bt543.2.2.1 bt543.2.2.2 2).bind fun bt548 => ((spec_l01Src_long.f k bt530.1 bt548.2.1 bt548.2.2.1 bt548.2.2.2 t547 (wrap64 (65533 + (wrap64 (bt548.1 * 3))))).bind fun bt552 => (some (bt535.1, bt552.1))))) else (some (bt535.1, bt539.1))))))) = some (r1, r2) := h
 clear h
 replace H := Option.bind_eq_some_iff.mp H
 obtain ⟨⟨t530, t531, t532, t533⟩, A20, H⟩ := H
 try dsimp only at H
 have A2 := Aside0.mk A20
 clear A20
 replace H := Option.bind_eq_some_iff.mp H
 obtain ⟨⟨t535, t536, t537, t538⟩, A30, H⟩ := H
 try dsimp only at H
 have A3 := Aside0.mk A30
 clear A30
 replace H := Option.bind_eq_some_iff.mp H
 obtain ⟨⟨t539, t540, t541, t542⟩, A40, H⟩ := H
 try dsimp only at H
 have A4 := Aside0.mk A40
 clear A40
 replace H := Option.bind_eq_some_iff.mp H
 obtain ⟨⟨t543, t544, t545, t546⟩, A50, H⟩ := H
 try dsimp only at H
 have A5 := Aside0.mk A50
 clear A50
 by_cases c6 : t543 = true
 ·subst c6
  have H1 : ((W_spec_l01Write.f 9216).bind fun t547 => ((spec_l01Src_n.f t530 t544 t545 t546 2).bind fun bt548 => ((spec_l01Src_long.f k t530 bt548.2.1 bt548.2.2.1 bt548.2.2.2 t547 (wrap64 (65533 + (wrap64 (bt548.1 * 3))))).bind fun bt552 => (some (t535, bt552.1))))) = some (r1, r2) := by rw [if_pos rfl] at H; exact H
  clear H; have H := H1; clear H1; replace H := Option.bind_eq_some_iff.mp H; obtain ⟨t547, A70, H⟩ := H
  try dsimp only at H
  have A7 := Aside0.mk A70; clear A70; replace H := Option.bind_eq_some_iff.mp H; obtain ⟨⟨t548, t549, t550, t551⟩, A80, H⟩ := H
  try dsimp only at H
  have A8 := Aside0.mk A80; clear A80; replace H := Option.bind_eq_some_iff.mp H; obtain ⟨⟨t552, t553, t554, t555⟩, A90, H⟩ := H
  try dsimp only at H
  have A9 := Aside0.mk A90; clear A90; simp only [Option.some.injEq, Prod.mk.injEq] at H; obtain ⟨rfl, rfl⟩ := H
  go_enter Tryd.func14, Tryd.ntmps14
  go_wp2_with (first | ((with_reducible refine gate_callee (f := 76) rfl ?_); refine goesL_ (some 8) rfl rfl Tryd.func76 (by kernel_rfl) rfl #[.slice A0 l0.length c0] rfl (by (try simp only [List.map_toArray, List.map_cons, List.map_nil]); first | done | rfl) ?_; (with_reducible refine (spec_l01Source.calls _ _ l0 t530 t531 t532 t533 w _ ?side1 ?side2 ?side3 A2.out).mono ?_); (case side1 => repeat (first | (with_reducible first | exact HB.out | apply below_alloc | apply pw_below_drewN | apply below_drew1) | exact HB.out)); (case side2 => exact HR0.out); (case side3 => exact HC0.out); rintro e w10 ⟨g534, rfl, hi, hb, hb2⟩; refine ⟨_, rfl, ?_⟩; have n0_ := Aside0.mk (hb); have n1_ := Aside0.mk (hi); clear HB; have HB := n0_; have HI534 := n1_; clear n0_ n1_; (try clear hb); (try clear hb2); (try clear hk); (try clear hi)) | ((with_reducible refine gate_callee (f := 77) rfl ?_); refine goesL_ (some 10) rfl rfl Tryd.func77 (by kernel_rfl) rfl #[.pointer (some ⟨g534, 0, none⟩)] rfl (by (try simp only [List.map_toArray, List.map_cons, List.map_nil]); first | done | rfl) ?_; (with_reducible refine (spec_l01Src_normForm.calls g534 t530 t531 t532 t533 t535 t536 t537 t538 w _ ?side1 ?side2 A3.out).mono ?_); (case side1 => repeat (first | (with_reducible first | exact HI534.out | apply IsS134.alloc | apply IsS134.drewN | apply IsS134.drew | apply IsS134.set_1 | apply IsS134.set_2 | apply IsS134.set_3) | exact HI534.out)); (case side2 => repeat (first | (with_reducible first | exact HB.out | apply below_alloc | apply pw_below_drewN | apply below_drew1 | refine below_set ?_ (IsS134.ge HI534.out)) | exact HB.out)); rintro e w11 ⟨rfl, hi, hb, hk⟩; refine ⟨_, rfl, ?_⟩; have n0_ := Aside0.mk (hb); have n1_ := Aside0.mk (hi); clear HB; clear HI534; have HB := n0_; have HI534 := n1_; clear n0_ n1_; (try clear hb); (try clear hb2); (try clear hk); (try clear hi)) | ((with_reducible refine gate_callee (f := 78) rfl ?_); refine goesL_ (some 12) rfl rfl Tryd.func78 (by kernel_rfl) rfl #[.pointer (some ⟨g534, 0, none⟩)] rfl (by (try simp only [List.map_toArray, List.map_cons, List.map_nil]); first | done | rfl) ?_; (with_reducible refine (spec_l01Src_partsText.calls k g534 t530 t536 t537 t538 t539 t540 t541 t542 w _ ?side1 ?side2 A4.out).mono ?_); (case side1 => repeat (first | (with_reducible first | exact HI534.out | apply IsS134.alloc | apply IsS134.drewN | apply IsS134.drew | apply IsS134.set_1 | apply IsS134.set_2 | apply IsS134.set_3) | exact HI534.out)); (case side2 => repeat (first | (with_reducible first | exact HB.out | apply below_alloc | apply pw_below_drewN | apply below_drew1 | refine below_set ?_ (IsS134.ge HI534.out)) | exact HB.out)); rintro e w12 ⟨rfl, hi, hb, hk⟩; refine ⟨_, rfl, ?_⟩; have n0_ := Aside0.mk (hb); have n1_ := Aside0.mk (hi); clear HB; clear HI534; have HB := n0_; have HI534 := n1_; clear n0_ n1_; (try clear hb); (try clear hb2); (try clear hk); (try clear hi)) | ((with_reducible refine gate_callee (f := 79) rfl ?_); refine goesL_ (some 14) rfl rfl Tryd.func79 (by kernel_rfl) rfl #[.pointer (some ⟨g534, 0, none⟩), .int .i64 100] rfl (by (try simp only [List.map_toArray, List.map_cons, List.map_nil]); first | done | rfl) ?_; (with_reducible refine (spec_l01Src_one.calls g534 t530 t540 t541 t542 100 true t544 t545 t546 w _ ?side1 ?side2 A5.out).mono ?_); (case side1 => repeat (first | (with_reducible first | exact HI534.out | apply IsS134.alloc | apply IsS134.drewN | apply IsS134.drew | apply IsS134.set_1 | apply IsS134.set_2 | apply IsS134.set_3) | exact HI534.out)); (case side2 => repeat (first | (with_reducible first | exact HB.out | apply below_alloc | apply pw_below_drewN | apply below_drew1 | refine below_set ?_ (IsS134.ge HI534.out)) | exact HB.out)); rintro e w13 ⟨rfl, hi, hb, hk⟩; refine ⟨_, rfl, ?_⟩; have n0_ := Aside0.mk (hb); have n1_ := Aside0.mk (hi); clear HB; clear HI534; have HB := n0_; have HI534 := n1_; clear n0_ n1_; (try clear hb); (try clear hb2); (try clear hk); (try clear hi)) | ((with_reducible refine gate_callee (f := 81) rfl ?_); refine goesL_ (some 16) rfl rfl Tryd.func81 (by kernel_rfl) rfl #[.int .i64 9216] rfl (by (try simp only [List.map_toArray, List.map_cons, List.map_nil]); first | done | rfl) ?_; (with_reducible refine (W_spec_l01Write.calls 9216 t547 _ A7.out).mono ?_); rintro e w14 ⟨rfl, hb⟩; refine ⟨_, rfl, ?_⟩; have n0_ := Aside0.mk (IsS134.below (by repeat (first | (with_reducible first | exact HI534.out | apply IsS134.alloc | apply IsS134.drewN | apply IsS134.drew | apply IsS134.set_1 | apply IsS134.set_2 | apply IsS134.set_3) | exact HI534.out)) hb); have n1_ := Aside0.mk (below_step (by repeat (first | (with_reducible first | exact HB.out | apply below_alloc | apply pw_below_drewN | apply below_drew1 | refine below_set ?_ (IsS134.ge HI534.out)) | exact HB.out)) hb); clear HI534; clear HB; have HI534 := n0_; have HB := n1_; clear n0_ n1_; (try clear hb); (try clear hb2); (try clear hk); (try clear hi)) | ((with_reducible refine gate_callee (f := 82) rfl ?_); refine goesL_ (some 18) rfl rfl Tryd.func82 (by kernel_rfl) rfl #[.pointer (some ⟨g534, 0, none⟩), .int .i64 2] rfl (by (try simp only [List.map_toArray, List.map_cons, List.map_nil]); first | done | rfl) ?_; (with_reducible refine (spec_l01Src_n.calls g534 t530 t544 t545 t546 2 t548 t549 t550 t551 w _ ?side1 ?side2 A8.out).mono ?_); (case side1 => repeat (first | (with_reducible first | exact HI534.out | apply IsS134.alloc | apply IsS134.drewN | apply IsS134.drew | apply IsS134.set_1 | apply IsS134.set_2 | apply IsS134.set_3) | exact HI534.out)); (case side2 => repeat (first | (with_reducible first | exact HB.out | apply below_alloc | apply pw_below_drewN | apply below_drew1 | refine below_set ?_ (IsS134.ge HI534.out)) | exact HB.out)); rintro e w15 ⟨rfl, hi, hb, hk⟩; refine ⟨_, rfl, ?_⟩; have n0_ := Aside0.mk (hb); have n1_ := Aside0.mk (hi); clear HB; clear HI534; have HB := n0_; have HI534 := n1_; clear n0_ n1_; (try clear hb); (try clear hb2); (try clear hk); (try clear hi)) | ((with_reducible refine gate_callee (f := 80) rfl ?_); refine goesL_ (some 21) rfl rfl Tryd.func80 (by kernel_rfl) rfl #[.pointer (some ⟨g534, 0, none⟩), .string t547, .int .i64 (wrap64 (65533 + (wrap64 (t548 * 3))))] rfl (by (try simp only [List.map_toArray, List.map_cons, List.map_nil]); first | done | rfl) ?_; (with_reducible refine (spec_l01Src_long.calls k g534 t530 t549 t550 t551 t547 (wrap64 (65533 + (wrap64 (t548 * 3)))) t552 t553 t554 t555 w _ ?side1 ?side2 A9.out).mono ?_); (case side1 => repeat (first | (with_reducible first | exact HI534.out | apply IsS134.alloc | apply IsS134.drewN | apply IsS134.drew | apply IsS134.set_1 | apply IsS134.set_2 | apply IsS134.set_3) | exact HI534.out)); (case side2 => repeat (first | (with_reducible first | exact HB.out | apply below_alloc | apply pw_below_drewN | apply below_drew1 | refine below_set ?_ (IsS134.ge HI534.out)) | exact HB.out)); rintro e w16 ⟨rfl, hi, hb, hk⟩; refine ⟨_, rfl, ?_⟩; have n0_ := Aside0.mk (hb); have n1_ := Aside0.mk (hi); clear HB; clear HI534; have HB := n0_; have HI534 := n1_; clear n0_ n1_; (try clear hb); (try clear hb2); (try clear hk); (try clear hi)))
  go_ret2
  exact ⟨by first | rfl | (simp [errW_none, errW_some] <;> rfl) | (simp [*, errW_none, errW_some] <;> rfl), by repeat (first | (with_reducible first | exact HB.out | apply below_alloc | apply pw_below_drewN | apply below_drew1 | refine below_set ?_ (IsS134.ge HI534.out)) | exact HB.out)⟩
 replace c6 := Bool.eq_false_iff.mpr c6
 subst c6
 have H1 : (some (t535, t539)) = some (r1, r2) := by rw [if_neg (show ¬ (false = true) by decide)] at H; exact H
 clear H
 have H := H1
 clear H1
 simp only [Option.some.injEq, Prod.mk.injEq] at H
 obtain ⟨rfl, rfl⟩ := H
 go_enter Tryd.func14, Tryd.ntmps14
 go_wp2_with (first | ((with_reducible refine gate_callee (f := 76) rfl ?_); refine goesL_ (some 8) rfl rfl Tryd.func76 (by kernel_rfl) rfl #[.slice A0 l0.length c0] rfl (by (try simp only [List.map_toArray, List.map_cons, List.map_nil]); first | done | rfl) ?_; (with_reducible refine (spec_l01Source.calls _ _ l0 t530 t531 t532 t533 w _ ?side1 ?side2 ?side3 A2.out).mono ?_); (case side1 => repeat (first | (with_reducible first | exact HB.out | apply below_alloc | apply pw_below_drewN | apply below_drew1) | exact HB.out)); (case side2 => exact HR0.out); (case side3 => exact HC0.out); rintro e w17 ⟨g534, rfl, hi, hb, hb2⟩; refine ⟨_, rfl, ?_⟩; have n0_ := Aside0.mk (hb); have n1_ := Aside0.mk (hi); clear HB; have HB := n0_; have HI534 := n1_; clear n0_ n1_; (try clear hb); (try clear hb2); (try clear hk); (try clear hi)) | ((with_reducible refine gate_callee (f := 77) rfl ?_); refine goesL_ (some 10) rfl rfl Tryd.func77 (by kernel_rfl) rfl #[.pointer (some ⟨g534, 0, none⟩)] rfl (by (try simp only [List.map_toArray, List.map_cons, List.map_nil]); first | done | rfl) ?_; (with_reducible refine (spec_l01Src_normForm.calls g534 t530 t531 t532 t533 t535 t536 t537 t538 w _ ?side1 ?side2 A3.out).mono ?_); (case side1 => repeat (first | (with_reducible first | exact HI534.out | apply IsS134.alloc | apply IsS134.drewN | apply IsS134.drew | apply IsS134.set_1 | apply IsS134.set_2 | apply IsS134.set_3) | exact HI534.out)); (case side2 => repeat (first | (with_reducible first | exact HB.out | apply below_alloc | apply pw_below_drewN | apply below_drew1 | refine below_set ?_ (IsS134.ge HI534.out)) | exact HB.out)); rintro e w18 ⟨rfl, hi, hb, hk⟩; refine ⟨_, rfl, ?_⟩; have n0_ := Aside0.mk (hb); have n1_ := Aside0.mk (hi); clear HB; clear HI534; have HB := n0_; have HI534 := n1_; clear n0_ n1_; (try clear hb); (try clear hb2); (try clear hk); (try clear hi)) | ((with_reducible refine gate_callee (f := 78) rfl ?_); refine goesL_ (some 12) rfl rfl Tryd.func78 (by kernel_rfl) rfl #[.pointer (some ⟨g534, 0, none⟩)] rfl (by (try simp only [List.map_toArray, List.map_cons, List.map_nil]); first | done | rfl) ?_; (with_reducible refine (spec_l01Src_partsText.calls k g534 t530 t536 t537 t538 t539 t540 t541 t542 w _ ?side1 ?side2 A4.out).mono ?_); (case side1 => repeat (first | (with_reducible first | exact HI534.out | apply IsS134.alloc | apply IsS134.drewN | apply IsS134.drew | apply IsS134.set_1 | apply IsS134.set_2 | apply IsS134.set_3) | exact HI534.out)); (case side2 => repeat (first | (with_reducible first | exact HB.out | apply below_alloc | apply pw_below_drewN | apply below_drew1 | refine below_set ?_ (IsS134.ge HI534.out)) | exact HB.out)); rintro e w19 ⟨rfl, hi, hb, hk⟩; refine ⟨_, rfl, ?_⟩; have n0_ := Aside0.mk (hb); have n1_ := Aside0.mk (hi); clear HB; clear HI534; have HB := n0_; have HI534 := n1_; clear n0_ n1_; (try clear hb); (try clear hb2); (try clear hk); (try clear hi)) | ((with_reducible refine gate_callee (f := 79) rfl ?_); refine goesL_ (some 14) rfl rfl Tryd.func79 (by kernel_rfl) rfl #[.pointer (some ⟨g534, 0, none⟩), .int .i64 100] rfl (by (try simp only [List.map_toArray, List.map_cons, List.map_nil]); first | done | rfl) ?_; (with_reducible refine (spec_l01Src_one.calls g534 t530 t540 t541 t542 100 false t544 t545 t546 w _ ?side1 ?side2 A5.out).mono ?_); (case side1 => repeat (first | (with_reducible first | exact HI534.out | apply IsS134.alloc | apply IsS134.drewN | apply IsS134.drew | apply IsS134.set_1 | apply IsS134.set_2 | apply IsS134.set_3) | exact HI534.out)); (case side2 => repeat (first | (with_reducible first | exact HB.out | apply below_alloc | apply pw_below_drewN | apply below_drew1 | refine below_set ?_ (IsS134.ge HI534.out)) | exact HB.out)); rintro e w20 ⟨rfl, hi, hb, hk⟩; refine ⟨_, rfl, ?_⟩; have n0_ := Aside0.mk (hb); have n1_ := Aside0.mk (hi); clear HB; clear HI534; have HB := n0_; have HI534 := n1_; clear n0_ n1_; (try clear hb); (try clear hb2); (try clear hk); (try clear hi)))
 go_ret2
 exact ⟨by first | rfl | (simp [errW_none, errW_some] <;> rfl) | (simp [*, errW_none, errW_some] <;> rfl), by repeat (first | (with_reducible first | exact HB.out | apply below_alloc | apply pw_below_drewN | apply below_drew1 | refine below_set ?_ (IsS134.ge HI534.out)) | exact HB.out)⟩

theorem spec_DrawNormalize.longs (l : List Int) (c : ByteArray) (n a m z : Int) (hc : 1 ≤ c.size) (hc2 : c.size ≤ 4) (hn : 0 ≤ n) (hn2 : n ≤ 1000000) (d : Nat) : ∀ (k : Nat) (acc : List Int), n - acc.length ≤ d → acc.length ≤ 1000004 → d + 1 ≤ k →
    YtiabgmddnddeiaaDoorPts.Tot (spec_l01Src_long.l0 k c n acc l a m z) (fun r => (r.1.size : Int) = n ∧ r.2.1 = a ∧ r.2.2.2 = z) := by
  have fin : ∀ (k : Nat) (acc : List Int), n ≤ acc.length → YtiabgmddnddeiaaDoorPts.Tot (spec_l01Src_long.l0 (k + 1) c n acc l a m z) (fun r => (r.1.size : Int) = n ∧ r.2.1 = a ∧ r.2.2.2 = z) := by
    intro k acc h
    simp only [spec_l01Src_long.l0]
    rw [if_neg (by omega), if_pos hn, if_pos h]
    exact YtiabgmddnddeiaaDoorPts.Tot.mk ⟨by dsimp only; rw [strOfNums_size, List.length_take]; omega, rfl, rfl⟩
  induction d with
  | zero =>
    intro k acc h1 h2 h3
    obtain ⟨k, rfl⟩ : ∃ j, k = j + 1 := ⟨k - 1, by omega⟩
    exact fin k acc (by omega)
  | succ d ih =>
    intro k acc h1 h2 h3
    obtain ⟨k, rfl⟩ : ∃ j, k = j + 1 := ⟨k - 1, by omega⟩
    by_cases h : (acc.length : Int) < n
    · simp only [spec_l01Src_long.l0]
      rw [if_pos h, if_pos (by omega)]
      exact ih k _ (by rw [List.length_append, bytesOf_length]; omega) (by rw [List.length_append, bytesOf_length]; omega) (by omega)
    · exact fin k acc (by omega)
theorem spec_DrawNormalize.tot (l : List Int) (hl : l.length ≤ 140737488355328) : YtiabgmddnddeiaaDoorPts.Tot (spec_DrawNormalize.f 100001 l) (fun r => (-1 ≤ r.1 ∧ r.1 ≤ 5) ∧ r.2.size ≤ 100000) := by
  unfold spec_DrawNormalize.f spec_l01Source.f
  rw [if_pos hl]
  simp only [Option.bind_some]
  refine YtiabgmddnddeiaaDoorPts.Tot.bind (spec_l01Src_normForm.tot l 0 _ _ hl (by omega) (by omega)) ?_
  rintro ⟨f, a1, m1, z1⟩ ⟨hf, h2, h3, h4⟩
  dsimp only at hf h2 h3 h4 ⊢
  refine YtiabgmddnddeiaaDoorPts.Tot.bind (spec_l01Src_partsText.tot 100001 l a1 m1 z1 hl h2 h3 (by rw [h4]; split <;> omega) (by rw [h4]; split <;> omega) (by omega)) ?_
  rintro ⟨t, a2, m2, z2⟩ ⟨ht, h5, h6, h7⟩
  dsimp only at ht h5 h6 h7 ⊢
  refine YtiabgmddnddeiaaDoorPts.Tot.bind (spec_l01Src_one.tot l a2 m2 z2 100 hl h5 h6 (by decide)) ?_
  rintro ⟨b, a3, m3, z3⟩ ⟨h8, h9, h10⟩
  dsimp only at h8 h9 h10 ⊢
  refine YtiabgmddnddeiaaDoorPts.Tot.ite (fun _ => ?_) (fun _ => YtiabgmddnddeiaaDoorPts.Tot.mk ⟨hf, by dsimp only; omega⟩)
  unfold W_spec_l01Write.f
  simp only [Option.bind_some]
  refine YtiabgmddnddeiaaDoorPts.Tot.bind (spec_l01Src_n.tot l a3 m3 z3 2 hl h8 h9 (by decide)) ?_
  rintro ⟨v, a4, m4, z4⟩ ⟨v1, v2, h11, h12, h13⟩
  dsimp only at v1 v2 h11 h12 h13 ⊢
  have hw : wrap64 (65533 + wrap64 (v * 3)) = 65533 + v * 3 := by unfold wrap64; omega
  rw [hw]
  clear hw
  unfold spec_l01Src_long.f
  have he := YtiabgmddnddeiaaDoorPts.enc_length 9216
  refine YtiabgmddnddeiaaDoorPts.Tot.bind (spec_DrawNormalize.longs l _ (65533 + v * 3) a4 m4 z4 (by rw [strOfNums_size]; exact he.1) (by rw [strOfNums_size]; exact he.2) (by omega) (by omega) 100000 100001 [] (by simp; omega) (by simp) (by omega)) ?_
  rintro ⟨s, a5, m5, z5⟩ ⟨q1, q2, q3⟩
  dsimp only at q1 q2 q3 ⊢
  exact YtiabgmddnddeiaaDoorPts.Tot.mk ⟨hf, by dsimp only; omega⟩
def W_spec_DrawNormalize.f (l0 : List Int) : Option (Int × ByteArray) := spec_DrawNormalize.f 100001 l0
theorem W_spec_DrawNormalize.to {l0 : List Int} {r : Int × ByteArray} (h : W_spec_DrawNormalize.f l0 = some r) : ∃ k, spec_DrawNormalize.f k l0 = some r := ⟨100001, h⟩
theorem W_spec_DrawNormalize.has {l : List Int} (hl : l.length ≤ 140737488355328) : ∃ f t, W_spec_DrawNormalize.f l = some (f, t) ∧ (-1 ≤ f ∧ f ≤ 5) ∧ t.size ≤ 100000 := by
  obtain ⟨⟨f, t⟩, h1, h2⟩ := spec_DrawNormalize.tot l hl
  exact ⟨f, t, h1, h2⟩
theorem W_spec_DrawNormalize.calls (A0 : Option Addr) (c0 : Nat) (l0 : List Int) (r1 : Int) (r2 : ByteArray) (w : World) (hr0 : Kd.C (Kd.int .u8) w A0 l0.length l0) (hc0 : l0.length ≤ c0) (h : W_spec_DrawNormalize.f l0 = some (r1, r2)) :
    Calls Tryd.prog 14 #[.slice A0 l0.length c0] w fun e w' => e = .returned (.tuple #[.int .i64 r1, .string r2]) ∧ Below w.heap.size w w' := by
  obtain ⟨k, hk⟩ := W_spec_DrawNormalize.to h
  exact spec_DrawNormalize.calls k A0 c0 l0 r1 r2 w hr0 hc0 hk

/-! ### spec_l05IsForm: function 83 -/
def spec_l05IsForm.f (a0 : Int) : Option (Bool) := if a0 ≥ 1 then (some (decide (a0 ≤ 4))) else (some false)
set_option maxHeartbeats 8000000 in
set_option maxRecDepth 100000 in
theorem spec_l05IsForm.calls (a0 : Int) (r : Bool) (w : World) (h : spec_l05IsForm.f a0 = some r) :
    Calls Tryd.prog 83 #[.int .i64 a0] w fun e w' => e = .returned (.bool r) ∧ Drawn0 w w' := by
  have H : (if a0 ≥ 1 then (some (decide (a0 ≤ 4))) else (some false)) = some r := h
  clear h
  by_cases c2 : a0 ≥ 1
  · rw [if_pos c2] at H
    have c2b0 : decide (1 ≤ a0) = true := decide_eq_true c2
    clear c2
    obtain rfl := Option.some.inj H
    go_enter Tryd.func83, Tryd.ntmps83
    go_wp2
    go_ret
    exact ⟨by first | rfl | (simp; done) | (simp [*]; done), by repeat (first | exact Drawn0.refl _ | apply Drawn0.step)⟩
  · rw [if_neg c2] at H
    have c2b0 : decide (1 ≤ a0) = false := decide_eq_false c2
    clear c2
    obtain rfl := Option.some.inj H
    go_enter Tryd.func83, Tryd.ntmps83
    go_wp2
    go_ret
    exact ⟨by first | rfl | (simp; done) | (simp [*]; done), by repeat (first | exact Drawn0.refl _ | apply Drawn0.step)⟩

theorem spec_l05IsForm.eq (f : Int) : spec_l05IsForm.f f = some (YtiabgmddnddeiaaDoorNst.ok f) := by
  unfold spec_l05IsForm.f YtiabgmddnddeiaaDoorNst.ok
  by_cases c : 1 ≤ f
  · rw [if_pos (show f ≥ 1 from c)]
    by_cases d : f ≤ 4
    · rw [decide_eq_true d, decide_eq_true ⟨c, d⟩]
    · rw [decide_eq_false d, decide_eq_false (fun z => d z.2)]
  · rw [if_neg (show ¬ f ≥ 1 from c), decide_eq_false (fun z => c z.1)]

/-! ### spec_l01Small: function 84 -/
def spec_l01Small.f (a0 : ByteArray) : Option (ByteArray) := if (a0.size : Int) > 65536 then (some (⟨#[]⟩ : ByteArray)) else (some a0)
set_option maxHeartbeats 8000000 in
set_option maxRecDepth 100000 in
theorem spec_l01Small.calls (a0 : ByteArray) (r : ByteArray) (w : World) (h : spec_l01Small.f a0 = some r) :
    Calls Tryd.prog 84 #[.string a0] w fun e w' => e = .returned (.string r) ∧ Drawn0 w w' := by
  have H : (if (a0.size : Int) > 65536 then (some (⟨#[]⟩ : ByteArray)) else (some a0)) = some r := h
  clear h
  by_cases c2 : (a0.size : Int) > 65536
  · rw [if_pos c2] at H
    have c2b0 : decide (65536 < (a0.size : Int)) = true := decide_eq_true c2
    have c2b1 : decide (65536 < a0.size) = true := decide_eq_true (by omega)
    clear c2
    obtain rfl := Option.some.inj H
    go_enter Tryd.func84, Tryd.ntmps84
    go_wp2
    go_ret
    exact ⟨by first | rfl | (simp; done) | (simp [*]; done), by repeat (first | exact Drawn0.refl _ | apply Drawn0.step)⟩
  · rw [if_neg c2] at H
    have c2b0 : decide (65536 < (a0.size : Int)) = false := decide_eq_false c2
    have c2b1 : decide (65536 < a0.size) = false := decide_eq_false (by omega)
    clear c2
    obtain rfl := Option.some.inj H
    go_enter Tryd.func84, Tryd.ntmps84
    go_wp2
    go_ret
    exact ⟨by first | rfl | (simp; done) | (simp [*]; done), by repeat (first | exact Drawn0.refl _ | apply Drawn0.step)⟩

end Go.Proofs.YtiabgmddnddeiaaDoor.QFnStable
