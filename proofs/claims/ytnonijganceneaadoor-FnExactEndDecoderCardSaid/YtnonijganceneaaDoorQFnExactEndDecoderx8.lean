/- The law FnExactEndDecoder: at every input the call answers true (this text: contracts on its way, by a program of this session's; no condition of ours). -/
import Derived.Test.YtnonijganceneaaDoorQFnExactEndDecoderx0
import Derived.Test.YtnonijganceneaaDoorQFnExactEndDecoderx3
import Derived.Test.YtnonijganceneaaDoorQFnExactEndDecoderx5
import Derived.Test.YtnonijganceneaaDoorQFnExactEndDecoderx6
import Derived.Test.YtnonijganceneaaDoorQFnExactEndDecoderx7
namespace Go.Proofs.YtnonijganceneaaDoor.QFnExactEndDecoder
open Go.RowKit Go.Proofs.YtnonijganceneaaDoorW.PrintWords Go.Proofs.YtnonijganceneaaDoorW.PrintLast Go.Proofs.YtnonijganceneaaDoorW.PrintMore
attribute [local go_sem] max2_int min2_int max_two min_two max_three min_three max_four min_four   -- for this text's walks alone
set_option linter.unusedVariables false
set_option linter.unusedSimpArgs false

/-! ### spec_l02Read_sixteen: function 184 -/
mutual
def spec_l02Read_sixteen.j0 : Nat → ByteArray → Bool → Bool → Int → Int → Bool → List Int → List Int → Int → Option (Bool × List Int × List Int × Int)
  | 0, _, _, _, _, _, _, _, _, _ => none
  | k + 1, x1, x2, x3, x9, x10, x69, x1000, x1001, x1002 => if x69 = true then ((spec_l02Read_point.f x1000 x1001 x1002 x10 2).bind fun bt145 => (some (true, bt145.1, bt145.2.1, bt145.2.2))) else (if x10 > 56319 then ((spec_l02Read_piece.f x1000 x1001 x1002 2).bind fun bt148 => (some (true, bt148.1, bt148.2.1, bt148.2.2))) else (if x9 < 4 then (if x3 = true then ((spec_l02Read_piece.f x1000 x1001 x1002 2).bind fun bt151 => (some (x3, bt151.1, bt151.2.1, bt151.2.2))) else (some (x3, x1000, x1001, x1002))) else (if 0 ≤ (wrap64 (x1002 + 2)) then (if (wrap64 (x1002 + 2)) ≤ (wrap64 (x1002 + 4)) then (if (wrap64 (x1002 + 4)) ≤ (x1.size : Int) then ((W_spec_l02Unit.f (x1.extract ((wrap64 (x1002 + 2)) : Int).toNat ((wrap64 (x1002 + 4)) : Int).toNat) x2).bind fun t154 => (if t154 < 56320 then (spec_l02Read_sixteen.j1 k x10 t154 true x1000 x1001 x1002) else (spec_l02Read_sixteen.j1 k x10 t154 (decide (t154 > 57343)) x1000 x1001 x1002))) else (none)) else (none)) else (none))))
def spec_l02Read_sixteen.j1 : Nat → Int → Int → Bool → List Int → List Int → Int → Option (Bool × List Int × List Int × Int)
  | 0, _, _, _, _, _, _ => none
  | k + 1, x10, x11, x57, x1000, x1001, x1002 => if x57 = true then ((spec_l02Read_piece.f x1000 x1001 x1002 2).bind fun bt155 => (some (true, bt155.1, bt155.2.1, bt155.2.2))) else ((spec_l02Read_point.f x1000 x1001 x1002 (wrap64 ((wrap64 ((wrap64 (65536 + (wrap64 ((wrap64 (x10 - 55296)) * 1024)))) + x11)) - 56320)) 4).bind fun bt158 => (some (true, bt158.1, bt158.2.1, bt158.2.2)))
end
def spec_l02Read_sixteen.f (k : Nat) (s0_0 : List Int) (s0_1 : List Int) (s0_2 : Int) (a1 : ByteArray) (a2 : Bool) (a3 : Bool) : Option (Bool × List Int × List Int × Int) := if (wrap64 ((a1.size : Int) - s0_2)) = 1 then (if a3 = true then ((spec_l02Read_piece.f s0_0 s0_1 s0_2 1).bind fun bt141 => (some (a3, bt141.1, bt141.2.1, bt141.2.2))) else (some (a3, s0_0, s0_1, s0_2))) else (if 0 ≤ s0_2 then (if s0_2 ≤ (wrap64 (s0_2 + 2)) then (if (wrap64 (s0_2 + 2)) ≤ (a1.size : Int) then ((W_spec_l02Unit.f (a1.extract (s0_2 : Int).toNat ((wrap64 (s0_2 + 2)) : Int).toNat) a2).bind fun t144 => (if t144 < 55296 then (spec_l02Read_sixteen.j0 k a1 a2 a3 (wrap64 ((a1.size : Int) - s0_2)) t144 true s0_0 s0_1 s0_2) else (spec_l02Read_sixteen.j0 k a1 a2 a3 (wrap64 ((a1.size : Int) - s0_2)) t144 (decide (t144 > 57343)) s0_0 s0_1 s0_2))) else (none)) else (none)) else (none))
theorem spec_l02Read_sixteen.mono_l : ∀ k, (∀ y0 y1 y2 y3 y4 y5 y6 y7 y8, LeO (spec_l02Read_sixteen.j0 k y0 y1 y2 y3 y4 y5 y6 y7 y8) (spec_l02Read_sixteen.j0 (k + 1) y0 y1 y2 y3 y4 y5 y6 y7 y8)) ∧ (∀ y0 y1 y2 y3 y4 y5, LeO (spec_l02Read_sixteen.j1 k y0 y1 y2 y3 y4 y5) (spec_l02Read_sixteen.j1 (k + 1) y0 y1 y2 y3 y4 y5))
  | 0 => ⟨fun _ _ _ _ _ _ _ _ _ r h => by simp [spec_l02Read_sixteen.j0] at h, fun _ _ _ _ _ _ r h => by simp [spec_l02Read_sixteen.j1] at h⟩
  | k + 1 => by
    obtain ⟨ih0, ih1⟩ := spec_l02Read_sixteen.mono_l k
    refine ⟨?_, ?_⟩
    · intro y0 y1 y2 y3 y4 y5 y6 y7 y8
      unfold spec_l02Read_sixteen.j0
      repeat' first
      | (with_reducible exact ih0 _ _ _ _ _ _ _ _ _)
      | (with_reducible exact ih1 _ _ _ _ _ _)
      | (with_reducible exact LeO.refl _)
      | (with_reducible exact LeO.none _)
      | (with_reducible refine LeO.ite ?_ ?_)
      | (with_reducible refine LeO.bind ?_ (fun _ => ?_))
      | exact ih0 _ _ _ _ _ _ _ _ _
      | exact ih1 _ _ _ _ _ _
      | exact LeO.none _
      | refine LeO.ite ?_ ?_
      | refine LeO.bind ?_ (fun _ => ?_)
    · intro y0 y1 y2 y3 y4 y5
      unfold spec_l02Read_sixteen.j1
      repeat' first
      | (with_reducible exact ih0 _ _ _ _ _ _ _ _ _)
      | (with_reducible exact ih1 _ _ _ _ _ _)
      | (with_reducible exact LeO.refl _)
      | (with_reducible exact LeO.none _)
      | (with_reducible refine LeO.ite ?_ ?_)
      | (with_reducible refine LeO.bind ?_ (fun _ => ?_))
      | exact ih0 _ _ _ _ _ _ _ _ _
      | exact ih1 _ _ _ _ _ _
      | exact LeO.none _
      | refine LeO.ite ?_ ?_
      | refine LeO.bind ?_ (fun _ => ?_)
theorem spec_l02Read_sixteen.mono : ∀ a0 a1 a2 a3 a4 a5 k, LeO (spec_l02Read_sixteen.f k a0 a1 a2 a3 a4 a5) (spec_l02Read_sixteen.f (k + 1) a0 a1 a2 a3 a4 a5) := by
  intro a0 a1 a2 a3 a4 a5 k
  obtain ⟨ih0, ih1⟩ := spec_l02Read_sixteen.mono_l k
  unfold spec_l02Read_sixteen.f
  repeat' first
      | (with_reducible exact ih0 _ _ _ _ _ _ _ _ _)
      | (with_reducible exact ih1 _ _ _ _ _ _)
      | (with_reducible exact LeO.refl _)
      | (with_reducible exact LeO.none _)
      | (with_reducible refine LeO.ite ?_ ?_)
      | (with_reducible refine LeO.bind ?_ (fun _ => ?_))
      | exact ih0 _ _ _ _ _ _ _ _ _
      | exact ih1 _ _ _ _ _ _
      | exact LeO.none _
      | refine LeO.ite ?_ ?_
      | refine LeO.bind ?_ (fun _ => ?_)
set_option maxHeartbeats 8000000 in
set_option maxRecDepth 100000 in
theorem spec_l02Read_sixteen.calls (k : Nat) (g : Nat) (s0_0 : List Int) (s0_1 : List Int) (s0_2 : Int) (a1 : ByteArray) (a2 : Bool) (a3 : Bool) (r1 : Bool) (r2 : List Int) (r3 : List Int) (r4 : Int) (w0 w : World) (hI : IsS100 w0 w g s0_0 s0_1 s0_2) (hB : Below w0.heap.size w0 w) (h : spec_l02Read_sixteen.f k s0_0 s0_1 s0_2 a1 a2 a3 = some (r1, r2, r3, r4)) :
    Calls Tryd.prog 184 #[.pointer (some ⟨g, 0, none⟩), .string a1, .bool a2, .bool a3] w fun e w' => e = .returned (.bool r1) ∧ IsS100 w0 w' g r2 r3 r4 ∧ Below w0.heap.size w0 w' ∧ KB100 w w' g none := by
  have HI0 := Aside0.mk hI
  have HK := Aside0.mk (KB100.refl w g none)
  have HL := Aside0.mk hB.size
  clear hI
  have HW0 := Aside0.mk hB.size
  have HB := Aside0.mk hB
  clear hB
  have H : (if (wrap64 ((a1.size : Int) - s0_2)) = 1 then (if a3 = true then ((spec_l02Read_piece.f s0_0 s0_1 s0_2 1).bind fun bt141 => (some (a3, bt141.1, bt141.2.1, bt141.2.2))) else (some (a3, s0_0, s0_1, s0_2))) else (if 0 ≤ s0_2 then (if s0_2 ≤ (wrap64 (s0_2 + 2)) then (if (wrap64 (s0_2 + 2)) ≤ (a1.size : Int) then ((W_spec_l02Unit.f (a1.extract (s0_2 : Int).toNat ((wrap64 (s0_2 + 2)) : Int).toNat) a2).bind fun t144 => (if t144 < 55296 then (spec_l02Read_sixteen.j0 k a1 a2 a3 (wrap64 ((a1.size : Int) - s0_2)) t144 true s0_0 s0_1 s0_2) else (spec_l02Read_sixteen.j0 k a1 a2 a3 (wrap64 ((a1.size : Int) - s0_2)) t144 (decide (t144 > 57343)) s0_0 s0_1 s0_2))) else (none)) else (none)) else (none))) = some (r1, r2, r3, r4) := h
  clear h
  by_cases c5 : (wrap64 ((a1.size : Int) - s0_2)) = 1
  · rw [if_pos c5] at H
    have c5b0 : ((wrap64 ((a1.size : Int) - s0_2)) == 1) = true := beq_iff_eq.mpr c5
    have c5b1 : ((wrap64 ((a1.size : Int) - s0_2)) != 1) = false := bne_eq_false_iff_eq.mpr c5
    clear c5
    by_cases c6 : a3 = true
    · subst c6
      have H1 : ((spec_l02Read_piece.f s0_0 s0_1 s0_2 1).bind fun bt141 => (some (true, bt141.1, bt141.2.1, bt141.2.2))) = some (r1, r2, r3, r4) := by rw [if_pos rfl] at H; exact H
      clear H
      have H := H1
      clear H1
      replace H := Option.bind_eq_some_iff.mp H
      obtain ⟨⟨t141, t142, t143⟩, A70, H⟩ := H
      replace H : (some (true, t141, t142, t143)) = some (r1, r2, r3, r4) := H
      have A7 := Aside0.mk A70
      clear A70
      simp only [Option.some.injEq, Prod.mk.injEq] at H
      obtain ⟨rfl, rfl, rfl, rfl⟩ := H
      obtain ⟨ASz8_0, cSz8_0, ASz8_1, cSz8_1, HGz8, hgz8, HSz8_0, HSz8_1⟩ := HI0.out
      have hcz8_0 := cellS100_0 HGz8
      have hcz8_1 := cellS100_1 HGz8
      have hcz8_2 := cellS100_2 HGz8
      have hfz8_0 := blk_frozen HGz8 0
      have hfz8_1 := blk_frozen HGz8 1
      have hfz8_2 := blk_frozen HGz8 2
      clear HGz8 hgz8
      go_enter Tryd.func184, Tryd.ntmps184
      go_wp2_with (first | (go_at_call 219; (with_reducible refine (spec_l02Read_piece.calls g s0_0 s0_1 s0_2 1 t141 t142 t143 w0 _ ?side1 ?side2 A7.out).mono ?_); (case side1 => repeat (first | (with_reducible first | exact HI0.out | apply IsS100.alloc | apply IsS100.drewN | apply IsS100.drew | apply IsS100.set_0 | apply IsS100.set_1 | apply IsS100.set_2) | exact HI0.out)); (case side2 => repeat (first | (with_reducible first | exact HB.out | apply below_alloc | apply pw_below_drewN | apply below_drew1 | refine below_set ?_ (IsS100.ge HI0.out)) | exact HB.out)); rintro e w9 ⟨rfl, hi, hb, hk⟩; have n0_ := Aside0.mk (KB100.trans (by repeat (first | (with_reducible first | exact HK.out | apply KB100.set_ | apply KB100.drewN | apply KB100.drew | apply KB100.alloc) | exact HK.out)) hk (.inl rfl)); have n1_ := Aside0.mk (hb); have n2_ := Aside0.mk (hi); clear HK; clear HB; clear HI0; have HK := n0_; have HB := n1_; have HI0 := n2_; clear n0_ n1_ n2_; (try clear hb); (try clear hb2); (try clear hk); (try clear hi)))
      repeat (go_quiet (first | (go_at_call 219; (with_reducible refine (spec_l02Read_piece.calls g s0_0 s0_1 s0_2 1 t141 t142 t143 w0 _ ?side1 ?side2 A7.out).mono ?_); (case side1 => repeat (first | (with_reducible first | exact HI0.out | apply IsS100.alloc | apply IsS100.drewN | apply IsS100.drew | apply IsS100.set_0 | apply IsS100.set_1 | apply IsS100.set_2) | exact HI0.out)); (case side2 => repeat (first | (with_reducible first | exact HB.out | apply below_alloc | apply pw_below_drewN | apply below_drew1 | refine below_set ?_ (IsS100.ge HI0.out)) | exact HB.out)); rintro e w9 ⟨rfl, hi, hb, hk⟩; have n0_ := Aside0.mk (KB100.trans (by repeat (first | (with_reducible first | exact HK.out | apply KB100.set_ | apply KB100.drewN | apply KB100.drew | apply KB100.alloc) | exact HK.out)) hk (.inl rfl)); have n1_ := Aside0.mk (hb); have n2_ := Aside0.mk (hi); clear HK; clear HB; clear HI0; have HK := n0_; have HB := n1_; have HI0 := n2_; clear n0_ n1_ n2_; (try clear hb); (try clear hb2); (try clear hk); (try clear hi))); try go_wp2_with (first | (go_at_call 219; (with_reducible refine (spec_l02Read_piece.calls g s0_0 s0_1 s0_2 1 t141 t142 t143 w0 _ ?side1 ?side2 A7.out).mono ?_); (case side1 => repeat (first | (with_reducible first | exact HI0.out | apply IsS100.alloc | apply IsS100.drewN | apply IsS100.drew | apply IsS100.set_0 | apply IsS100.set_1 | apply IsS100.set_2) | exact HI0.out)); (case side2 => repeat (first | (with_reducible first | exact HB.out | apply below_alloc | apply pw_below_drewN | apply below_drew1 | refine below_set ?_ (IsS100.ge HI0.out)) | exact HB.out)); rintro e w9 ⟨rfl, hi, hb, hk⟩; have n0_ := Aside0.mk (KB100.trans (by repeat (first | (with_reducible first | exact HK.out | apply KB100.set_ | apply KB100.drewN | apply KB100.drew | apply KB100.alloc) | exact HK.out)) hk (.inl rfl)); have n1_ := Aside0.mk (hb); have n2_ := Aside0.mk (hi); clear HK; clear HB; clear HI0; have HK := n0_; have HB := n1_; have HI0 := n2_; clear n0_ n1_ n2_; (try clear hb); (try clear hb2); (try clear hk); (try clear hi))))
      go_ret
      exact ⟨by first | rfl | (simp [errW_none, errW_some] <;> rfl) | (simp [*, errW_none, errW_some] <;> rfl), by repeat (first | (with_reducible first | exact HI0.out | apply IsS100.alloc | apply IsS100.drewN | apply IsS100.drew | apply IsS100.set_0 | apply IsS100.set_1 | apply IsS100.set_2) | exact HI0.out), by repeat (first | (with_reducible first | exact HB.out | apply below_alloc | apply pw_below_drewN | apply below_drew1 | refine below_set ?_ (IsS100.ge HI0.out)) | exact HB.out), by repeat (first | (with_reducible first | exact HK.out | apply KB100.set_ | apply KB100.drewN | apply KB100.drew | apply KB100.alloc) | exact HK.out)⟩
    · replace c6 := Bool.eq_false_iff.mpr c6
      subst c6
      have H1 : (some (false, s0_0, s0_1, s0_2)) = some (r1, r2, r3, r4) := by rw [if_neg (show ¬ (false = true) by decide)] at H; exact H
      clear H
      have H := H1
      clear H1
      simp only [Option.some.injEq, Prod.mk.injEq] at H
      obtain ⟨rfl, rfl, rfl, rfl⟩ := H
      obtain ⟨ASz10_0, cSz10_0, ASz10_1, cSz10_1, HGz10, hgz10, HSz10_0, HSz10_1⟩ := HI0.out
      have hcz10_0 := cellS100_0 HGz10
      have hcz10_1 := cellS100_1 HGz10
      have hcz10_2 := cellS100_2 HGz10
      have hfz10_0 := blk_frozen HGz10 0
      have hfz10_1 := blk_frozen HGz10 1
      have hfz10_2 := blk_frozen HGz10 2
      clear HGz10 hgz10
      go_enter Tryd.func184, Tryd.ntmps184
      go_wp2
      repeat (go_quiet (fail); try go_wp2)
      go_ret
      exact ⟨by first | rfl | (simp [errW_none, errW_some] <;> rfl) | (simp [*, errW_none, errW_some] <;> rfl), by repeat (first | (with_reducible first | exact HI0.out | apply IsS100.alloc | apply IsS100.drewN | apply IsS100.drew | apply IsS100.set_0 | apply IsS100.set_1 | apply IsS100.set_2) | exact HI0.out), by repeat (first | (with_reducible first | exact HB.out | apply below_alloc | apply pw_below_drewN | apply below_drew1 | refine below_set ?_ (IsS100.ge HI0.out)) | exact HB.out), by repeat (first | (with_reducible first | exact HK.out | apply KB100.set_ | apply KB100.drewN | apply KB100.drew | apply KB100.alloc) | exact HK.out)⟩
  · rw [if_neg c5] at H
    have c5b0 : ((wrap64 ((a1.size : Int) - s0_2)) == 1) = false := beq_eq_false_iff_ne.mpr c5
    have c5b1 : ((wrap64 ((a1.size : Int) - s0_2)) != 1) = true := bne_iff_ne.mpr c5
    by_cases c11 : 0 ≤ s0_2
    · rw [if_pos c11] at H
      have c11b0 := eq_true c11
      have c11b1 : decide (0 ≤ s0_2) = true := decide_eq_true c11
      clear c11
      by_cases c12 : s0_2 ≤ (wrap64 (s0_2 + 2))
      · rw [if_pos c12] at H
        have c12b0 := eq_true c12
        have c12b1 : decide (s0_2 ≤ (wrap64 (s0_2 + 2))) = true := decide_eq_true c12
        by_cases c13 : (wrap64 (s0_2 + 2)) ≤ (a1.size : Int)
        · rw [if_pos c13] at H
          have c13b0 := eq_true c13
          have c13b1 : decide ((wrap64 (s0_2 + 2)) ≤ (a1.size : Int)) = true := decide_eq_true c13
          replace H := Option.bind_eq_some_iff.mp H
          obtain ⟨t144, A140, H⟩ := H
          replace H : (if t144 < 55296 then (spec_l02Read_sixteen.j0 k a1 a2 a3 (wrap64 ((a1.size : Int) - s0_2)) t144 true s0_0 s0_1 s0_2) else (spec_l02Read_sixteen.j0 k a1 a2 a3 (wrap64 ((a1.size : Int) - s0_2)) t144 (decide (t144 > 57343)) s0_0 s0_1 s0_2)) = some (r1, r2, r3, r4) := H
          have A14 := Aside0.mk A140
          clear A140
          have HC15 := Aside0.mk H
          clear H
          obtain ⟨ASz16_0, cSz16_0, ASz16_1, cSz16_1, HGz16, hgz16, HSz16_0, HSz16_1⟩ := HI0.out
          have hcz16_0 := cellS100_0 HGz16
          have hcz16_1 := cellS100_1 HGz16
          have hcz16_2 := cellS100_2 HGz16
          have hfz16_0 := blk_frozen HGz16 0
          have hfz16_1 := blk_frozen HGz16 1
          have hfz16_2 := blk_frozen HGz16 2
          clear HGz16 hgz16
          go_enter Tryd.func184, Tryd.ntmps184
          go_upto_region 11 with (first | (go_at_call 220; (with_reducible refine (W_spec_l02Unit.calls (a1.extract (s0_2 : Int).toNat ((wrap64 (s0_2 + 2)) : Int).toNat) a2 t144 _ A14.out).mono ?_); rintro e w' ⟨rfl, ⟨nd, rfl⟩⟩; (try first | exact ⟨rfl, _, World.drewN_drewN _ _ _⟩ | exact ⟨rfl, _, Eq.trans (World.drewN_drewN _ _ _) (congrArg (World.drewN _) (Nat.add_assoc _ _ _))⟩)))
          repeat (go_quiet (first | (go_at_call 220; (with_reducible refine (W_spec_l02Unit.calls (a1.extract (s0_2 : Int).toNat ((wrap64 (s0_2 + 2)) : Int).toNat) a2 t144 _ A14.out).mono ?_); rintro e w' ⟨rfl, ⟨nd, rfl⟩⟩; (try first | exact ⟨rfl, _, World.drewN_drewN _ _ _⟩ | exact ⟨rfl, _, Eq.trans (World.drewN_drewN _ _ _) (congrArg (World.drewN _) (Nat.add_assoc _ _ _))⟩))); go_upto_region 11 with (first | (go_at_call 220; (with_reducible refine (W_spec_l02Unit.calls (a1.extract (s0_2 : Int).toNat ((wrap64 (s0_2 + 2)) : Int).toNat) a2 t144 _ A14.out).mono ?_); rintro e w' ⟨rfl, ⟨nd, rfl⟩⟩; (try first | exact ⟨rfl, _, World.drewN_drewN _ _ _⟩ | exact ⟨rfl, _, Eq.trans (World.drewN_drewN _ _ _) (congrArg (World.drewN _) (Nat.add_assoc _ _ _))⟩))))
          (try simp only [Act.put, List.setIfInBounds_toArray, List.set_cons_zero, List.set_cons_succ])
          go_cut [69] (fun v69 wc => ∃ (kq : Nat) (x69_14 : Bool), v69 = .bool x69_14 ∧ Aside0 (spec_l02Read_sixteen.j0 kq a1 a2 a3 (wrap64 ((a1.size : Int) - s0_2)) t144 x69_14 s0_0 s0_1 s0_2 = some (r1, r2, r3, r4)) ∧ Aside0 (kq ≤ k) ∧ Aside0 (IsS100 w0 wc g s0_0 s0_1 s0_2) ∧ Aside0 (KB100 w wc g none) ∧ Aside0 (Below w0.heap.size w0 wc))
          case first =>
            have H := HC15.out
            clear HC15
            by_cases c17 : t144 < 55296
            · rw [if_pos c17] at H
              have c17b0 : decide (t144 < 55296) = true := decide_eq_true c17
              clear c17
              (first | rw [c17b0] | (simp only [i64_w, i32_w]; rw [c17b0]) | skip)
              have H' := Aside0.mk H
              clear H
              go_wp2
              repeat (go_quiet (fail); try go_wp2)
              go_meet
              case rel => exact ⟨_, (true), (by first | rfl | (simp; done) | (simp [*]; done)), H', ⟨by first | omega | exact Nat.le_refl _⟩, ⟨by repeat (first | (with_reducible first | exact HI0.out | apply IsS100.alloc | apply IsS100.drewN | apply IsS100.drew | apply IsS100.set_0 | apply IsS100.set_1 | apply IsS100.set_2) | exact HI0.out)⟩, ⟨by repeat (first | (with_reducible first | exact HK.out | apply KB100.set_ | apply KB100.drewN | apply KB100.drew | apply KB100.alloc) | exact HK.out)⟩, ⟨by repeat (first | (with_reducible first | exact HB.out | apply below_alloc | apply pw_below_drewN | apply below_drew1 | refine below_set ?_ (IsS100.ge HI0.out)) | exact HB.out)⟩⟩
            · rw [if_neg c17] at H
              have c17b0 : decide (t144 < 55296) = false := decide_eq_false c17
              clear c17
              (first | rw [c17b0] | (simp only [i64_w, i32_w]; rw [c17b0]) | skip)
              have H' := Aside0.mk H
              clear H
              go_wp2
              repeat (go_quiet (fail); try go_wp2)
              go_meet
              case rel => exact ⟨_, (decide (t144 > 57343)), (by first | rfl | (simp; done) | (simp [*]; done)), H', ⟨by first | omega | exact Nat.le_refl _⟩, ⟨by repeat (first | (with_reducible first | exact HI0.out | apply IsS100.alloc | apply IsS100.drewN | apply IsS100.drew | apply IsS100.set_0 | apply IsS100.set_1 | apply IsS100.set_2) | exact HI0.out)⟩, ⟨by repeat (first | (with_reducible first | exact HK.out | apply KB100.set_ | apply KB100.drewN | apply KB100.drew | apply KB100.alloc) | exact HK.out)⟩, ⟨by repeat (first | (with_reducible first | exact HB.out | apply below_alloc | apply pw_below_drewN | apply below_drew1 | refine below_set ?_ (IsS100.ge HI0.out)) | exact HB.out)⟩⟩
          case rest =>
            clear HC15
            try clear c1
            try clear p2
            try clear c5
            try clear c5b0
            try clear c5b1
            try clear c6
            try clear p6
            try clear c11
            try clear c11b0
            try clear c11b1
            try clear c12
            try clear c12b0
            try clear c12b1
            try clear c13
            try clear c13b0
            try clear c13b1
            try clear c17
            try clear c17b0
            try clear hcz10_0
            try clear hcz10_1
            try clear hcz10_2
            try clear hcz16_0
            try clear hcz16_1
            try clear hcz16_2
            try clear hcz8_0
            try clear hcz8_1
            try clear hcz8_2
            try clear hfz10_0
            try clear hfz10_1
            try clear hfz10_2
            try clear hfz16_0
            try clear hfz16_1
            try clear hfz16_2
            try clear hfz8_0
            try clear hfz8_1
            try clear hfz8_2
            obtain ⟨kq, x69_14, rfl, HA, HJ14, HI0, HK, HB⟩ := hcut
            cases kq with
            | zero => exact absurd HA.out (by simp [spec_l02Read_sixteen.j0])
            | succ kj14 =>
              have H := HA.out
              clear HA
              simp only [spec_l02Read_sixteen.j0] at H
              by_cases c18 : x69_14 = true
              · subst c18
                have H1 : ((spec_l02Read_point.f s0_0 s0_1 s0_2 t144 2).bind fun bt145 => (some (true, bt145.1, bt145.2.1, bt145.2.2))) = some (r1, r2, r3, r4) := by rw [if_pos rfl] at H; exact H
                clear H
                have H := H1
                clear H1
                replace H := Option.bind_eq_some_iff.mp H
                obtain ⟨⟨t145, t146, t147⟩, A190, H⟩ := H
                replace H : (some (true, t145, t146, t147)) = some (r1, r2, r3, r4) := H
                have A19 := Aside0.mk A190
                clear A190
                simp only [Option.some.injEq, Prod.mk.injEq] at H
                obtain ⟨rfl, rfl, rfl, rfl⟩ := H
                go_wp2_with (first | (go_at_call 217; (with_reducible refine (spec_l02Read_point.calls g s0_0 s0_1 s0_2 t144 2 t145 t146 t147 w0 _ ?side1 ?side2 A19.out).mono ?_); (case side1 => repeat (first | (with_reducible first | exact HI0.out | apply IsS100.alloc | apply IsS100.drewN | apply IsS100.drew | apply IsS100.set_0 | apply IsS100.set_1 | apply IsS100.set_2) | exact HI0.out)); (case side2 => repeat (first | (with_reducible first | exact HB.out | apply below_alloc | apply pw_below_drewN | apply below_drew1 | refine below_set ?_ (IsS100.ge HI0.out)) | exact HB.out)); rintro e w20 ⟨rfl, hi, hb, hk⟩; have n0_ := Aside0.mk (KB100.trans (by repeat (first | (with_reducible first | exact HK.out | apply KB100.set_ | apply KB100.drewN | apply KB100.drew | apply KB100.alloc) | exact HK.out)) hk (.inl rfl)); have n1_ := Aside0.mk (hb); have n2_ := Aside0.mk (hi); clear HK; clear HB; clear HI0; have HK := n0_; have HB := n1_; have HI0 := n2_; clear n0_ n1_ n2_; (try clear hb); (try clear hb2); (try clear hk); (try clear hi)))
                repeat (go_quiet (first | (go_at_call 217; (with_reducible refine (spec_l02Read_point.calls g s0_0 s0_1 s0_2 t144 2 t145 t146 t147 w0 _ ?side1 ?side2 A19.out).mono ?_); (case side1 => repeat (first | (with_reducible first | exact HI0.out | apply IsS100.alloc | apply IsS100.drewN | apply IsS100.drew | apply IsS100.set_0 | apply IsS100.set_1 | apply IsS100.set_2) | exact HI0.out)); (case side2 => repeat (first | (with_reducible first | exact HB.out | apply below_alloc | apply pw_below_drewN | apply below_drew1 | refine below_set ?_ (IsS100.ge HI0.out)) | exact HB.out)); rintro e w20 ⟨rfl, hi, hb, hk⟩; have n0_ := Aside0.mk (KB100.trans (by repeat (first | (with_reducible first | exact HK.out | apply KB100.set_ | apply KB100.drewN | apply KB100.drew | apply KB100.alloc) | exact HK.out)) hk (.inl rfl)); have n1_ := Aside0.mk (hb); have n2_ := Aside0.mk (hi); clear HK; clear HB; clear HI0; have HK := n0_; have HB := n1_; have HI0 := n2_; clear n0_ n1_ n2_; (try clear hb); (try clear hb2); (try clear hk); (try clear hi))); try go_wp2_with (first | (go_at_call 217; (with_reducible refine (spec_l02Read_point.calls g s0_0 s0_1 s0_2 t144 2 t145 t146 t147 w0 _ ?side1 ?side2 A19.out).mono ?_); (case side1 => repeat (first | (with_reducible first | exact HI0.out | apply IsS100.alloc | apply IsS100.drewN | apply IsS100.drew | apply IsS100.set_0 | apply IsS100.set_1 | apply IsS100.set_2) | exact HI0.out)); (case side2 => repeat (first | (with_reducible first | exact HB.out | apply below_alloc | apply pw_below_drewN | apply below_drew1 | refine below_set ?_ (IsS100.ge HI0.out)) | exact HB.out)); rintro e w20 ⟨rfl, hi, hb, hk⟩; have n0_ := Aside0.mk (KB100.trans (by repeat (first | (with_reducible first | exact HK.out | apply KB100.set_ | apply KB100.drewN | apply KB100.drew | apply KB100.alloc) | exact HK.out)) hk (.inl rfl)); have n1_ := Aside0.mk (hb); have n2_ := Aside0.mk (hi); clear HK; clear HB; clear HI0; have HK := n0_; have HB := n1_; have HI0 := n2_; clear n0_ n1_ n2_; (try clear hb); (try clear hb2); (try clear hk); (try clear hi))))
                go_ret
                exact ⟨by first | rfl | (simp [errW_none, errW_some] <;> rfl) | (simp [*, errW_none, errW_some] <;> rfl), by repeat (first | (with_reducible first | exact HI0.out | apply IsS100.alloc | apply IsS100.drewN | apply IsS100.drew | apply IsS100.set_0 | apply IsS100.set_1 | apply IsS100.set_2) | exact HI0.out), by repeat (first | (with_reducible first | exact HB.out | apply below_alloc | apply pw_below_drewN | apply below_drew1 | refine below_set ?_ (IsS100.ge HI0.out)) | exact HB.out), by repeat (first | (with_reducible first | exact HK.out | apply KB100.set_ | apply KB100.drewN | apply KB100.drew | apply KB100.alloc) | exact HK.out)⟩
              · replace c18 := Bool.eq_false_iff.mpr c18
                subst c18
                have H1 : (if t144 > 56319 then ((spec_l02Read_piece.f s0_0 s0_1 s0_2 2).bind fun bt148 => (some (true, bt148.1, bt148.2.1, bt148.2.2))) else (if (wrap64 ((a1.size : Int) - s0_2)) < 4 then (if a3 = true then ((spec_l02Read_piece.f s0_0 s0_1 s0_2 2).bind fun bt151 => (some (a3, bt151.1, bt151.2.1, bt151.2.2))) else (some (a3, s0_0, s0_1, s0_2))) else (if 0 ≤ (wrap64 (s0_2 + 2)) then (if (wrap64 (s0_2 + 2)) ≤ (wrap64 (s0_2 + 4)) then (if (wrap64 (s0_2 + 4)) ≤ (a1.size : Int) then ((W_spec_l02Unit.f (a1.extract ((wrap64 (s0_2 + 2)) : Int).toNat ((wrap64 (s0_2 + 4)) : Int).toNat) a2).bind fun t154 => (if t154 < 56320 then (spec_l02Read_sixteen.j1 kj14 t144 t154 true s0_0 s0_1 s0_2) else (spec_l02Read_sixteen.j1 kj14 t144 t154 (decide (t154 > 57343)) s0_0 s0_1 s0_2))) else (none)) else (none)) else (none)))) = some (r1, r2, r3, r4) := by rw [if_neg (show ¬ (false = true) by decide)] at H; exact H
                clear H
                have H := H1
                clear H1
                by_cases c21 : t144 > 56319
                · rw [if_pos c21] at H
                  have c21b0 : decide (56319 < t144) = true := decide_eq_true c21
                  clear c21
                  replace H := Option.bind_eq_some_iff.mp H
                  obtain ⟨⟨t148, t149, t150⟩, A220, H⟩ := H
                  replace H : (some (true, t148, t149, t150)) = some (r1, r2, r3, r4) := H
                  have A22 := Aside0.mk A220
                  clear A220
                  simp only [Option.some.injEq, Prod.mk.injEq] at H
                  obtain ⟨rfl, rfl, rfl, rfl⟩ := H
                  go_wp2_with (first | (go_at_call 219; (with_reducible refine (spec_l02Read_piece.calls g s0_0 s0_1 s0_2 2 t148 t149 t150 w0 _ ?side1 ?side2 A22.out).mono ?_); (case side1 => repeat (first | (with_reducible first | exact HI0.out | apply IsS100.alloc | apply IsS100.drewN | apply IsS100.drew | apply IsS100.set_0 | apply IsS100.set_1 | apply IsS100.set_2) | exact HI0.out)); (case side2 => repeat (first | (with_reducible first | exact HB.out | apply below_alloc | apply pw_below_drewN | apply below_drew1 | refine below_set ?_ (IsS100.ge HI0.out)) | exact HB.out)); rintro e w23 ⟨rfl, hi, hb, hk⟩; have n0_ := Aside0.mk (KB100.trans (by repeat (first | (with_reducible first | exact HK.out | apply KB100.set_ | apply KB100.drewN | apply KB100.drew | apply KB100.alloc) | exact HK.out)) hk (.inl rfl)); have n1_ := Aside0.mk (hb); have n2_ := Aside0.mk (hi); clear HK; clear HB; clear HI0; have HK := n0_; have HB := n1_; have HI0 := n2_; clear n0_ n1_ n2_; (try clear hb); (try clear hb2); (try clear hk); (try clear hi)))
                  repeat (go_quiet (first | (go_at_call 219; (with_reducible refine (spec_l02Read_piece.calls g s0_0 s0_1 s0_2 2 t148 t149 t150 w0 _ ?side1 ?side2 A22.out).mono ?_); (case side1 => repeat (first | (with_reducible first | exact HI0.out | apply IsS100.alloc | apply IsS100.drewN | apply IsS100.drew | apply IsS100.set_0 | apply IsS100.set_1 | apply IsS100.set_2) | exact HI0.out)); (case side2 => repeat (first | (with_reducible first | exact HB.out | apply below_alloc | apply pw_below_drewN | apply below_drew1 | refine below_set ?_ (IsS100.ge HI0.out)) | exact HB.out)); rintro e w23 ⟨rfl, hi, hb, hk⟩; have n0_ := Aside0.mk (KB100.trans (by repeat (first | (with_reducible first | exact HK.out | apply KB100.set_ | apply KB100.drewN | apply KB100.drew | apply KB100.alloc) | exact HK.out)) hk (.inl rfl)); have n1_ := Aside0.mk (hb); have n2_ := Aside0.mk (hi); clear HK; clear HB; clear HI0; have HK := n0_; have HB := n1_; have HI0 := n2_; clear n0_ n1_ n2_; (try clear hb); (try clear hb2); (try clear hk); (try clear hi))); try go_wp2_with (first | (go_at_call 219; (with_reducible refine (spec_l02Read_piece.calls g s0_0 s0_1 s0_2 2 t148 t149 t150 w0 _ ?side1 ?side2 A22.out).mono ?_); (case side1 => repeat (first | (with_reducible first | exact HI0.out | apply IsS100.alloc | apply IsS100.drewN | apply IsS100.drew | apply IsS100.set_0 | apply IsS100.set_1 | apply IsS100.set_2) | exact HI0.out)); (case side2 => repeat (first | (with_reducible first | exact HB.out | apply below_alloc | apply pw_below_drewN | apply below_drew1 | refine below_set ?_ (IsS100.ge HI0.out)) | exact HB.out)); rintro e w23 ⟨rfl, hi, hb, hk⟩; have n0_ := Aside0.mk (KB100.trans (by repeat (first | (with_reducible first | exact HK.out | apply KB100.set_ | apply KB100.drewN | apply KB100.drew | apply KB100.alloc) | exact HK.out)) hk (.inl rfl)); have n1_ := Aside0.mk (hb); have n2_ := Aside0.mk (hi); clear HK; clear HB; clear HI0; have HK := n0_; have HB := n1_; have HI0 := n2_; clear n0_ n1_ n2_; (try clear hb); (try clear hb2); (try clear hk); (try clear hi))))
                  go_ret
                  exact ⟨by first | rfl | (simp [errW_none, errW_some] <;> rfl) | (simp [*, errW_none, errW_some] <;> rfl), by repeat (first | (with_reducible first | exact HI0.out | apply IsS100.alloc | apply IsS100.drewN | apply IsS100.drew | apply IsS100.set_0 | apply IsS100.set_1 | apply IsS100.set_2) | exact HI0.out), by repeat (first | (with_reducible first | exact HB.out | apply below_alloc | apply pw_below_drewN | apply below_drew1 | refine below_set ?_ (IsS100.ge HI0.out)) | exact HB.out), by repeat (first | (with_reducible first | exact HK.out | apply KB100.set_ | apply KB100.drewN | apply KB100.drew | apply KB100.alloc) | exact HK.out)⟩
                · rw [if_neg c21] at H
                  have c21b0 : decide (56319 < t144) = false := decide_eq_false c21
                  clear c21
                  by_cases c24 : (wrap64 ((a1.size : Int) - s0_2)) < 4
                  · rw [if_pos c24] at H
                    have c24b0 : decide ((wrap64 ((a1.size : Int) - s0_2)) < 4) = true := decide_eq_true c24
                    clear c24
                    by_cases c25 : a3 = true
                    · subst c25
                      have H1 : ((spec_l02Read_piece.f s0_0 s0_1 s0_2 2).bind fun bt151 => (some (true, bt151.1, bt151.2.1, bt151.2.2))) = some (r1, r2, r3, r4) := by rw [if_pos rfl] at H; exact H
                      clear H
                      have H := H1
                      clear H1
                      replace H := Option.bind_eq_some_iff.mp H
                      obtain ⟨⟨t151, t152, t153⟩, A260, H⟩ := H
                      replace H : (some (true, t151, t152, t153)) = some (r1, r2, r3, r4) := H
                      have A26 := Aside0.mk A260
                      clear A260
                      simp only [Option.some.injEq, Prod.mk.injEq] at H
                      obtain ⟨rfl, rfl, rfl, rfl⟩ := H
                      go_wp2_with (first | (go_at_call 219; (with_reducible refine (spec_l02Read_piece.calls g s0_0 s0_1 s0_2 2 t151 t152 t153 w0 _ ?side1 ?side2 A26.out).mono ?_); (case side1 => repeat (first | (with_reducible first | exact HI0.out | apply IsS100.alloc | apply IsS100.drewN | apply IsS100.drew | apply IsS100.set_0 | apply IsS100.set_1 | apply IsS100.set_2) | exact HI0.out)); (case side2 => repeat (first | (with_reducible first | exact HB.out | apply below_alloc | apply pw_below_drewN | apply below_drew1 | refine below_set ?_ (IsS100.ge HI0.out)) | exact HB.out)); rintro e w27 ⟨rfl, hi, hb, hk⟩; have n0_ := Aside0.mk (KB100.trans (by repeat (first | (with_reducible first | exact HK.out | apply KB100.set_ | apply KB100.drewN | apply KB100.drew | apply KB100.alloc) | exact HK.out)) hk (.inl rfl)); have n1_ := Aside0.mk (hb); have n2_ := Aside0.mk (hi); clear HK; clear HB; clear HI0; have HK := n0_; have HB := n1_; have HI0 := n2_; clear n0_ n1_ n2_; (try clear hb); (try clear hb2); (try clear hk); (try clear hi)))
                      repeat (go_quiet (first | (go_at_call 219; (with_reducible refine (spec_l02Read_piece.calls g s0_0 s0_1 s0_2 2 t151 t152 t153 w0 _ ?side1 ?side2 A26.out).mono ?_); (case side1 => repeat (first | (with_reducible first | exact HI0.out | apply IsS100.alloc | apply IsS100.drewN | apply IsS100.drew | apply IsS100.set_0 | apply IsS100.set_1 | apply IsS100.set_2) | exact HI0.out)); (case side2 => repeat (first | (with_reducible first | exact HB.out | apply below_alloc | apply pw_below_drewN | apply below_drew1 | refine below_set ?_ (IsS100.ge HI0.out)) | exact HB.out)); rintro e w27 ⟨rfl, hi, hb, hk⟩; have n0_ := Aside0.mk (KB100.trans (by repeat (first | (with_reducible first | exact HK.out | apply KB100.set_ | apply KB100.drewN | apply KB100.drew | apply KB100.alloc) | exact HK.out)) hk (.inl rfl)); have n1_ := Aside0.mk (hb); have n2_ := Aside0.mk (hi); clear HK; clear HB; clear HI0; have HK := n0_; have HB := n1_; have HI0 := n2_; clear n0_ n1_ n2_; (try clear hb); (try clear hb2); (try clear hk); (try clear hi))); try go_wp2_with (first | (go_at_call 219; (with_reducible refine (spec_l02Read_piece.calls g s0_0 s0_1 s0_2 2 t151 t152 t153 w0 _ ?side1 ?side2 A26.out).mono ?_); (case side1 => repeat (first | (with_reducible first | exact HI0.out | apply IsS100.alloc | apply IsS100.drewN | apply IsS100.drew | apply IsS100.set_0 | apply IsS100.set_1 | apply IsS100.set_2) | exact HI0.out)); (case side2 => repeat (first | (with_reducible first | exact HB.out | apply below_alloc | apply pw_below_drewN | apply below_drew1 | refine below_set ?_ (IsS100.ge HI0.out)) | exact HB.out)); rintro e w27 ⟨rfl, hi, hb, hk⟩; have n0_ := Aside0.mk (KB100.trans (by repeat (first | (with_reducible first | exact HK.out | apply KB100.set_ | apply KB100.drewN | apply KB100.drew | apply KB100.alloc) | exact HK.out)) hk (.inl rfl)); have n1_ := Aside0.mk (hb); have n2_ := Aside0.mk (hi); clear HK; clear HB; clear HI0; have HK := n0_; have HB := n1_; have HI0 := n2_; clear n0_ n1_ n2_; (try clear hb); (try clear hb2); (try clear hk); (try clear hi))))
                      go_ret
                      exact ⟨by first | rfl | (simp [errW_none, errW_some] <;> rfl) | (simp [*, errW_none, errW_some] <;> rfl), by repeat (first | (with_reducible first | exact HI0.out | apply IsS100.alloc | apply IsS100.drewN | apply IsS100.drew | apply IsS100.set_0 | apply IsS100.set_1 | apply IsS100.set_2) | exact HI0.out), by repeat (first | (with_reducible first | exact HB.out | apply below_alloc | apply pw_below_drewN | apply below_drew1 | refine below_set ?_ (IsS100.ge HI0.out)) | exact HB.out), by repeat (first | (with_reducible first | exact HK.out | apply KB100.set_ | apply KB100.drewN | apply KB100.drew | apply KB100.alloc) | exact HK.out)⟩
                    · replace c25 := Bool.eq_false_iff.mpr c25
                      subst c25
                      have H1 : (some (false, s0_0, s0_1, s0_2)) = some (r1, r2, r3, r4) := by rw [if_neg (show ¬ (false = true) by decide)] at H; exact H
                      clear H
                      have H := H1
                      clear H1
                      simp only [Option.some.injEq, Prod.mk.injEq] at H
                      obtain ⟨rfl, rfl, rfl, rfl⟩ := H
                      go_wp2
                      repeat (go_quiet (fail); try go_wp2)
                      go_ret
                      exact ⟨by first | rfl | (simp [errW_none, errW_some] <;> rfl) | (simp [*, errW_none, errW_some] <;> rfl), by repeat (first | (with_reducible first | exact HI0.out | apply IsS100.alloc | apply IsS100.drewN | apply IsS100.drew | apply IsS100.set_0 | apply IsS100.set_1 | apply IsS100.set_2) | exact HI0.out), by repeat (first | (with_reducible first | exact HB.out | apply below_alloc | apply pw_below_drewN | apply below_drew1 | refine below_set ?_ (IsS100.ge HI0.out)) | exact HB.out), by repeat (first | (with_reducible first | exact HK.out | apply KB100.set_ | apply KB100.drewN | apply KB100.drew | apply KB100.alloc) | exact HK.out)⟩
                  · rw [if_neg c24] at H
                    have c24b0 : decide ((wrap64 ((a1.size : Int) - s0_2)) < 4) = false := decide_eq_false c24
                    clear c24
                    obtain ⟨ji28, hji28⟩ : ∃ j_ : Int, (wrap64 (s0_2 + 2)) = j_ := ⟨_, rfl⟩
                    replace H : (if 0 ≤ (ji28) then (if (ji28) ≤ (wrap64 (s0_2 + 4)) then (if (wrap64 (s0_2 + 4)) ≤ (a1.size : Int) then ((W_spec_l02Unit.f (a1.extract ((ji28) : Int).toNat ((wrap64 (s0_2 + 4)) : Int).toNat) a2).bind fun t154 => (if t154 < 56320 then (spec_l02Read_sixteen.j1 kj14 t144 t154 true s0_0 s0_1 s0_2) else (spec_l02Read_sixteen.j1 kj14 t144 t154 (decide (t154 > 57343)) s0_0 s0_1 s0_2))) else (none)) else (none)) else (none)) = some (r1, r2, r3, r4) := by first | (rw [hji28] at H; exact H) | (simp only [hji28] at H ⊢; exact H)
                    (try rw [hji28] at c12b0)
                    (try rw [hji28] at c12b1)
                    (try rw [hji28] at c12)
                    (try rw [hji28] at c13b0)
                    (try rw [hji28] at c13b1)
                    (try rw [hji28] at c13)
                    have hji28w : (IntKind.i64.wrap (s0_2 + 2)) = ji28 := (i64_w _).trans hji28
                    by_cases c29 : 0 ≤ (ji28)
                    · rw [if_pos c29] at H
                      have c29b0 := eq_true c29
                      have c29b1 : decide (0 ≤ (ji28)) = true := decide_eq_true c29
                      clear c29
                      by_cases c30 : (ji28) ≤ (wrap64 (s0_2 + 4))
                      · rw [if_pos c30] at H
                        have c30b0 := eq_true c30
                        have c30b1 : decide ((ji28) ≤ (wrap64 (s0_2 + 4))) = true := decide_eq_true c30
                        by_cases c31 : (wrap64 (s0_2 + 4)) ≤ (a1.size : Int)
                        · rw [if_pos c31] at H
                          have c31b0 := eq_true c31
                          have c31b1 : decide ((wrap64 (s0_2 + 4)) ≤ (a1.size : Int)) = true := decide_eq_true c31
                          replace H := Option.bind_eq_some_iff.mp H
                          obtain ⟨t154, A320, H⟩ := H
                          replace H : (if t154 < 56320 then (spec_l02Read_sixteen.j1 kj14 t144 t154 true s0_0 s0_1 s0_2) else (spec_l02Read_sixteen.j1 kj14 t144 t154 (decide (t154 > 57343)) s0_0 s0_1 s0_2)) = some (r1, r2, r3, r4) := H
                          have A32 := Aside0.mk A320
                          clear A320
                          have HC33 := Aside0.mk H
                          clear H
                          obtain ⟨ASz34_0, cSz34_0, ASz34_1, cSz34_1, HGz34, hgz34, HSz34_0, HSz34_1⟩ := HI0.out
                          have hcz34_0 := cellS100_0 HGz34
                          have hcz34_1 := cellS100_1 HGz34
                          have hcz34_2 := cellS100_2 HGz34
                          have hfz34_0 := blk_frozen HGz34 0
                          have hfz34_1 := blk_frozen HGz34 1
                          have hfz34_2 := blk_frozen HGz34 2
                          clear HGz34 hgz34
                          go_upto_region 8 with (first | (go_at_call 220; (with_reducible refine (W_spec_l02Unit.calls (a1.extract ((ji28) : Int).toNat ((wrap64 (s0_2 + 4)) : Int).toNat) a2 t154 _ A32.out).mono ?_); rintro e w' ⟨rfl, ⟨nd, rfl⟩⟩; (try first | exact ⟨rfl, _, World.drewN_drewN _ _ _⟩ | exact ⟨rfl, _, Eq.trans (World.drewN_drewN _ _ _) (congrArg (World.drewN _) (Nat.add_assoc _ _ _))⟩)))
                          repeat (go_quiet (first | (go_at_call 220; (with_reducible refine (W_spec_l02Unit.calls (a1.extract ((ji28) : Int).toNat ((wrap64 (s0_2 + 4)) : Int).toNat) a2 t154 _ A32.out).mono ?_); rintro e w' ⟨rfl, ⟨nd, rfl⟩⟩; (try first | exact ⟨rfl, _, World.drewN_drewN _ _ _⟩ | exact ⟨rfl, _, Eq.trans (World.drewN_drewN _ _ _) (congrArg (World.drewN _) (Nat.add_assoc _ _ _))⟩))); go_upto_region 8 with (first | (go_at_call 220; (with_reducible refine (W_spec_l02Unit.calls (a1.extract ((ji28) : Int).toNat ((wrap64 (s0_2 + 4)) : Int).toNat) a2 t154 _ A32.out).mono ?_); rintro e w' ⟨rfl, ⟨nd, rfl⟩⟩; (try first | exact ⟨rfl, _, World.drewN_drewN _ _ _⟩ | exact ⟨rfl, _, Eq.trans (World.drewN_drewN _ _ _) (congrArg (World.drewN _) (Nat.add_assoc _ _ _))⟩))))
                          (try simp only [Act.put, List.setIfInBounds_toArray, List.set_cons_zero, List.set_cons_succ])
                          go_cut [57] (fun v57 wc => ∃ (kq : Nat) (x57_32 : Bool), v57 = .bool x57_32 ∧ Aside0 (spec_l02Read_sixteen.j1 kq t144 t154 x57_32 s0_0 s0_1 s0_2 = some (r1, r2, r3, r4)) ∧ Aside0 (kq ≤ kj14) ∧ Aside0 (IsS100 w0 wc g s0_0 s0_1 s0_2) ∧ Aside0 (KB100 w wc g none) ∧ Aside0 (Below w0.heap.size w0 wc))
                          case first =>
                            have H := HC33.out
                            clear HC33
                            by_cases c35 : t154 < 56320
                            · rw [if_pos c35] at H
                              have c35b0 : decide (t154 < 56320) = true := decide_eq_true c35
                              clear c35
                              (first | rw [c35b0] | (simp only [i64_w, i32_w]; rw [c35b0]) | skip)
                              have H' := Aside0.mk H
                              clear H
                              go_wp2
                              repeat (go_quiet (fail); try go_wp2)
                              go_meet
                              case rel => exact ⟨_, (true), (by first | rfl | (simp; done) | (simp [*]; done)), H', ⟨by have := HJ14.out; first | omega | exact Nat.le_refl _⟩, ⟨by repeat (first | (with_reducible first | exact HI0.out | apply IsS100.alloc | apply IsS100.drewN | apply IsS100.drew | apply IsS100.set_0 | apply IsS100.set_1 | apply IsS100.set_2) | exact HI0.out)⟩, ⟨by repeat (first | (with_reducible first | exact HK.out | apply KB100.set_ | apply KB100.drewN | apply KB100.drew | apply KB100.alloc) | exact HK.out)⟩, ⟨by repeat (first | (with_reducible first | exact HB.out | apply below_alloc | apply pw_below_drewN | apply below_drew1 | refine below_set ?_ (IsS100.ge HI0.out)) | exact HB.out)⟩⟩
                            · rw [if_neg c35] at H
                              have c35b0 : decide (t154 < 56320) = false := decide_eq_false c35
                              clear c35
                              (first | rw [c35b0] | (simp only [i64_w, i32_w]; rw [c35b0]) | skip)
                              have H' := Aside0.mk H
                              clear H
                              go_wp2
                              repeat (go_quiet (fail); try go_wp2)
                              go_meet
                              case rel => exact ⟨_, (decide (t154 > 57343)), (by first | rfl | (simp; done) | (simp [*]; done)), H', ⟨by have := HJ14.out; first | omega | exact Nat.le_refl _⟩, ⟨by repeat (first | (with_reducible first | exact HI0.out | apply IsS100.alloc | apply IsS100.drewN | apply IsS100.drew | apply IsS100.set_0 | apply IsS100.set_1 | apply IsS100.set_2) | exact HI0.out)⟩, ⟨by repeat (first | (with_reducible first | exact HK.out | apply KB100.set_ | apply KB100.drewN | apply KB100.drew | apply KB100.alloc) | exact HK.out)⟩, ⟨by repeat (first | (with_reducible first | exact HB.out | apply below_alloc | apply pw_below_drewN | apply below_drew1 | refine below_set ?_ (IsS100.ge HI0.out)) | exact HB.out)⟩⟩
                          case rest =>
                            clear HC33
                            try clear c1
                            try clear c2
                            try clear p2
                            try clear c3
                            try clear c5
                            try clear c5b0
                            try clear c5b1
                            try clear c6
                            try clear p6
                            try clear c11
                            try clear c11b0
                            try clear c11b1
                            try clear c12
                            try clear c12b0
                            try clear c12b1
                            try clear c13
                            try clear c13b0
                            try clear c13b1
                            try clear c17
                            try clear c17b0
                            try clear c18
                            try clear c21
                            try clear c21b0
                            try clear c24
                            try clear c24b0
                            try clear c25
                            try clear c29
                            try clear c29b0
                            try clear c29b1
                            try clear c30
                            try clear c30b0
                            try clear c30b1
                            try clear c31
                            try clear c31b0
                            try clear c31b1
                            try clear c35
                            try clear c35b0
                            try clear hcz10_0
                            try clear hcz10_1
                            try clear hcz10_2
                            try clear hcz16_0
                            try clear hcz16_1
                            try clear hcz16_2
                            try clear hcz34_0
                            try clear hcz34_1
                            try clear hcz34_2
                            try clear hcz8_0
                            try clear hcz8_1
                            try clear hcz8_2
                            try clear hfz10_0
                            try clear hfz10_1
                            try clear hfz10_2
                            try clear hfz16_0
                            try clear hfz16_1
                            try clear hfz16_2
                            try clear hfz34_0
                            try clear hfz34_1
                            try clear hfz34_2
                            try clear hfz8_0
                            try clear hfz8_1
                            try clear hfz8_2
                            try clear p2
                            try clear p6
                            obtain ⟨kq, x57_32, rfl, HA, HJ32, HI0, HK, HB⟩ := hcut
                            cases kq with
                            | zero => exact absurd HA.out (by simp [spec_l02Read_sixteen.j1])
                            | succ kj32 =>
                              have H := HA.out
                              clear HA
                              simp only [spec_l02Read_sixteen.j1] at H
                              by_cases c36 : x57_32 = true
                              · subst c36
                                have H1 : ((spec_l02Read_piece.f s0_0 s0_1 s0_2 2).bind fun bt155 => (some (true, bt155.1, bt155.2.1, bt155.2.2))) = some (r1, r2, r3, r4) := by rw [if_pos rfl] at H; exact H
                                clear H
                                have H := H1
                                clear H1
                                replace H := Option.bind_eq_some_iff.mp H
                                obtain ⟨⟨t155, t156, t157⟩, A370, H⟩ := H
                                replace H : (some (true, t155, t156, t157)) = some (r1, r2, r3, r4) := H
                                have A37 := Aside0.mk A370
                                clear A370
                                simp only [Option.some.injEq, Prod.mk.injEq] at H
                                obtain ⟨rfl, rfl, rfl, rfl⟩ := H
                                go_wp2_with (first | (go_at_call 219; (with_reducible refine (spec_l02Read_piece.calls g s0_0 s0_1 s0_2 2 t155 t156 t157 w0 _ ?side1 ?side2 A37.out).mono ?_); (case side1 => repeat (first | (with_reducible first | exact HI0.out | apply IsS100.alloc | apply IsS100.drewN | apply IsS100.drew | apply IsS100.set_0 | apply IsS100.set_1 | apply IsS100.set_2) | exact HI0.out)); (case side2 => repeat (first | (with_reducible first | exact HB.out | apply below_alloc | apply pw_below_drewN | apply below_drew1 | refine below_set ?_ (IsS100.ge HI0.out)) | exact HB.out)); rintro e w38 ⟨rfl, hi, hb, hk⟩; have n0_ := Aside0.mk (KB100.trans (by repeat (first | (with_reducible first | exact HK.out | apply KB100.set_ | apply KB100.drewN | apply KB100.drew | apply KB100.alloc) | exact HK.out)) hk (.inl rfl)); have n1_ := Aside0.mk (hb); have n2_ := Aside0.mk (hi); clear HK; clear HB; clear HI0; have HK := n0_; have HB := n1_; have HI0 := n2_; clear n0_ n1_ n2_; (try clear hb); (try clear hb2); (try clear hk); (try clear hi)))
                                repeat (go_quiet (first | (go_at_call 219; (with_reducible refine (spec_l02Read_piece.calls g s0_0 s0_1 s0_2 2 t155 t156 t157 w0 _ ?side1 ?side2 A37.out).mono ?_); (case side1 => repeat (first | (with_reducible first | exact HI0.out | apply IsS100.alloc | apply IsS100.drewN | apply IsS100.drew | apply IsS100.set_0 | apply IsS100.set_1 | apply IsS100.set_2) | exact HI0.out)); (case side2 => repeat (first | (with_reducible first | exact HB.out | apply below_alloc | apply pw_below_drewN | apply below_drew1 | refine below_set ?_ (IsS100.ge HI0.out)) | exact HB.out)); rintro e w38 ⟨rfl, hi, hb, hk⟩; have n0_ := Aside0.mk (KB100.trans (by repeat (first | (with_reducible first | exact HK.out | apply KB100.set_ | apply KB100.drewN | apply KB100.drew | apply KB100.alloc) | exact HK.out)) hk (.inl rfl)); have n1_ := Aside0.mk (hb); have n2_ := Aside0.mk (hi); clear HK; clear HB; clear HI0; have HK := n0_; have HB := n1_; have HI0 := n2_; clear n0_ n1_ n2_; (try clear hb); (try clear hb2); (try clear hk); (try clear hi))); try go_wp2_with (first | (go_at_call 219; (with_reducible refine (spec_l02Read_piece.calls g s0_0 s0_1 s0_2 2 t155 t156 t157 w0 _ ?side1 ?side2 A37.out).mono ?_); (case side1 => repeat (first | (with_reducible first | exact HI0.out | apply IsS100.alloc | apply IsS100.drewN | apply IsS100.drew | apply IsS100.set_0 | apply IsS100.set_1 | apply IsS100.set_2) | exact HI0.out)); (case side2 => repeat (first | (with_reducible first | exact HB.out | apply below_alloc | apply pw_below_drewN | apply below_drew1 | refine below_set ?_ (IsS100.ge HI0.out)) | exact HB.out)); rintro e w38 ⟨rfl, hi, hb, hk⟩; have n0_ := Aside0.mk (KB100.trans (by repeat (first | (with_reducible first | exact HK.out | apply KB100.set_ | apply KB100.drewN | apply KB100.drew | apply KB100.alloc) | exact HK.out)) hk (.inl rfl)); have n1_ := Aside0.mk (hb); have n2_ := Aside0.mk (hi); clear HK; clear HB; clear HI0; have HK := n0_; have HB := n1_; have HI0 := n2_; clear n0_ n1_ n2_; (try clear hb); (try clear hb2); (try clear hk); (try clear hi))))
                                go_ret
                                exact ⟨by first | rfl | (simp [errW_none, errW_some] <;> rfl) | (simp only [← hji28]; first | rfl | (simp [errW_none, errW_some] <;> rfl)) | (simp [*, errW_none, errW_some] <;> rfl), by repeat (first | (with_reducible first | exact HI0.out | apply IsS100.alloc | apply IsS100.drewN | apply IsS100.drew | apply IsS100.set_0 | apply IsS100.set_1 | apply IsS100.set_2) | exact HI0.out), by repeat (first | (with_reducible first | exact HB.out | apply below_alloc | apply pw_below_drewN | apply below_drew1 | refine below_set ?_ (IsS100.ge HI0.out)) | exact HB.out), by repeat (first | (with_reducible first | exact HK.out | apply KB100.set_ | apply KB100.drewN | apply KB100.drew | apply KB100.alloc) | exact HK.out)⟩
                              · replace c36 := Bool.eq_false_iff.mpr c36
                                subst c36
                                have H1 : ((spec_l02Read_point.f s0_0 s0_1 s0_2 (wrap64 ((wrap64 ((wrap64 (65536 + (wrap64 ((wrap64 (t144 - 55296)) * 1024)))) + t154)) - 56320)) 4).bind fun bt158 => (some (true, bt158.1, bt158.2.1, bt158.2.2))) = some (r1, r2, r3, r4) := by rw [if_neg (show ¬ (false = true) by decide)] at H; exact H
                                clear H
                                have H := H1
                                clear H1
                                replace H := Option.bind_eq_some_iff.mp H
                                obtain ⟨⟨t158, t159, t160⟩, A390, H⟩ := H
                                replace H : (some (true, t158, t159, t160)) = some (r1, r2, r3, r4) := H
                                have A39 := Aside0.mk A390
                                clear A390
                                simp only [Option.some.injEq, Prod.mk.injEq] at H
                                obtain ⟨rfl, rfl, rfl, rfl⟩ := H
                                go_wp2_with (first | (go_at_call 217; (with_reducible refine (spec_l02Read_point.calls g s0_0 s0_1 s0_2 (wrap64 ((wrap64 ((wrap64 (65536 + (wrap64 ((wrap64 (t144 - 55296)) * 1024)))) + t154)) - 56320)) 4 t158 t159 t160 w0 _ ?side1 ?side2 A39.out).mono ?_); (case side1 => repeat (first | (with_reducible first | exact HI0.out | apply IsS100.alloc | apply IsS100.drewN | apply IsS100.drew | apply IsS100.set_0 | apply IsS100.set_1 | apply IsS100.set_2) | exact HI0.out)); (case side2 => repeat (first | (with_reducible first | exact HB.out | apply below_alloc | apply pw_below_drewN | apply below_drew1 | refine below_set ?_ (IsS100.ge HI0.out)) | exact HB.out)); rintro e w40 ⟨rfl, hi, hb, hk⟩; have n0_ := Aside0.mk (KB100.trans (by repeat (first | (with_reducible first | exact HK.out | apply KB100.set_ | apply KB100.drewN | apply KB100.drew | apply KB100.alloc) | exact HK.out)) hk (.inl rfl)); have n1_ := Aside0.mk (hb); have n2_ := Aside0.mk (hi); clear HK; clear HB; clear HI0; have HK := n0_; have HB := n1_; have HI0 := n2_; clear n0_ n1_ n2_; (try clear hb); (try clear hb2); (try clear hk); (try clear hi)))
                                repeat (go_quiet (first | (go_at_call 217; (with_reducible refine (spec_l02Read_point.calls g s0_0 s0_1 s0_2 (wrap64 ((wrap64 ((wrap64 (65536 + (wrap64 ((wrap64 (t144 - 55296)) * 1024)))) + t154)) - 56320)) 4 t158 t159 t160 w0 _ ?side1 ?side2 A39.out).mono ?_); (case side1 => repeat (first | (with_reducible first | exact HI0.out | apply IsS100.alloc | apply IsS100.drewN | apply IsS100.drew | apply IsS100.set_0 | apply IsS100.set_1 | apply IsS100.set_2) | exact HI0.out)); (case side2 => repeat (first | (with_reducible first | exact HB.out | apply below_alloc | apply pw_below_drewN | apply below_drew1 | refine below_set ?_ (IsS100.ge HI0.out)) | exact HB.out)); rintro e w40 ⟨rfl, hi, hb, hk⟩; have n0_ := Aside0.mk (KB100.trans (by repeat (first | (with_reducible first | exact HK.out | apply KB100.set_ | apply KB100.drewN | apply KB100.drew | apply KB100.alloc) | exact HK.out)) hk (.inl rfl)); have n1_ := Aside0.mk (hb); have n2_ := Aside0.mk (hi); clear HK; clear HB; clear HI0; have HK := n0_; have HB := n1_; have HI0 := n2_; clear n0_ n1_ n2_; (try clear hb); (try clear hb2); (try clear hk); (try clear hi))); try go_wp2_with (first | (go_at_call 217; (with_reducible refine (spec_l02Read_point.calls g s0_0 s0_1 s0_2 (wrap64 ((wrap64 ((wrap64 (65536 + (wrap64 ((wrap64 (t144 - 55296)) * 1024)))) + t154)) - 56320)) 4 t158 t159 t160 w0 _ ?side1 ?side2 A39.out).mono ?_); (case side1 => repeat (first | (with_reducible first | exact HI0.out | apply IsS100.alloc | apply IsS100.drewN | apply IsS100.drew | apply IsS100.set_0 | apply IsS100.set_1 | apply IsS100.set_2) | exact HI0.out)); (case side2 => repeat (first | (with_reducible first | exact HB.out | apply below_alloc | apply pw_below_drewN | apply below_drew1 | refine below_set ?_ (IsS100.ge HI0.out)) | exact HB.out)); rintro e w40 ⟨rfl, hi, hb, hk⟩; have n0_ := Aside0.mk (KB100.trans (by repeat (first | (with_reducible first | exact HK.out | apply KB100.set_ | apply KB100.drewN | apply KB100.drew | apply KB100.alloc) | exact HK.out)) hk (.inl rfl)); have n1_ := Aside0.mk (hb); have n2_ := Aside0.mk (hi); clear HK; clear HB; clear HI0; have HK := n0_; have HB := n1_; have HI0 := n2_; clear n0_ n1_ n2_; (try clear hb); (try clear hb2); (try clear hk); (try clear hi))))
                                go_ret
                                exact ⟨by first | rfl | (simp [errW_none, errW_some] <;> rfl) | (simp only [← hji28]; first | rfl | (simp [errW_none, errW_some] <;> rfl)) | (simp [*, errW_none, errW_some] <;> rfl), by repeat (first | (with_reducible first | exact HI0.out | apply IsS100.alloc | apply IsS100.drewN | apply IsS100.drew | apply IsS100.set_0 | apply IsS100.set_1 | apply IsS100.set_2) | exact HI0.out), by repeat (first | (with_reducible first | exact HB.out | apply below_alloc | apply pw_below_drewN | apply below_drew1 | refine below_set ?_ (IsS100.ge HI0.out)) | exact HB.out), by repeat (first | (with_reducible first | exact HK.out | apply KB100.set_ | apply KB100.drewN | apply KB100.drew | apply KB100.alloc) | exact HK.out)⟩
                        · rw [if_neg c31] at H
                          exact absurd H (by simp)
                      · rw [if_neg c30] at H
                        exact absurd H (by simp)
                    · rw [if_neg c29] at H
                      exact absurd H (by simp)
        · rw [if_neg c13] at H
          exact absurd H (by simp)
      · rw [if_neg c12] at H
        exact absurd H (by simp)
    · rw [if_neg c11] at H
      exact absurd H (by simp)

def W_spec_l02Read_sixteen.f (p b : List Int) (u : Int) (a1 : ByteArray) (a2 a3 : Bool) : Option (Bool × List Int × List Int × Int) := if 0 ≤ u ∧ u < (a1.size : Int) ∧ a1.size ≤ 1099511627776 ∧ p.length ≤ 1099511627776 ∧ b.length ≤ 1099511627776 then some (YtnonijganceneaaDoorDec.step (YtnonijganceneaaDoorDec.piece16 a2 ((bytesOf a1).drop u.toNat)) a3 p b u) else none
theorem spec_l02Read_sixteen.gate {α : Type} (v : Int) (F : Bool → α) (R : α) (h : ∀ g, (g = true ↔ (v < 55296 ∨ 57343 < v)) → F g = R) : (if v < 55296 then F true else F (decide (v > 57343))) = R := by
  by_cases q : v < 55296
  · rw [if_pos q]; exact h true ⟨fun _ => .inl q, fun _ => rfl⟩
  · rw [if_neg q]; exact h _ (by rw [decide_eq_true_eq]; omega)
theorem spec_l02Read_sixteen.unit_range (b : Bool) {L : List Int} (hb : ∀ x ∈ L, 0 ≤ x ∧ x < 256) : 0 ≤ YtnonijganceneaaDoorDec.unit2 b L ∧ YtnonijganceneaaDoorDec.unit2 b L ≤ 65535 := by
  obtain ⟨c0, e0, l0⟩ := YtnonijganceneaaDoorDec.getD_nat hb 0
  obtain ⟨c1, e1, l1⟩ := YtnonijganceneaaDoorDec.getD_nat hb 1
  unfold YtnonijganceneaaDoorDec.unit2
  rw [e0, e1]
  split <;> omega
theorem W_spec_l02Read_sixteen.to {p b : List Int} {u : Int} {a1 : ByteArray} {a2 a3 : Bool} {r : Bool × List Int × List Int × Int} (h : W_spec_l02Read_sixteen.f p b u a1 a2 a3 = some r) : ∃ k, spec_l02Read_sixteen.f k p b u a1 a2 a3 = some r := by
  unfold W_spec_l02Read_sixteen.f at h
  split at h
  · rename_i hc
    obtain ⟨h0, h1, h2, h3, h4⟩ := hc
    obtain ⟨u, rfl⟩ : ∃ n : Nat, u = n := ⟨u.toNat, by omega⟩
    refine ⟨3, ?_⟩
    rw [← h]
    have hlen : ((bytesOf a1).drop u).length = a1.size - u := by rw [List.length_drop, bytesOf_length]
    have w1 : wrap64 ((a1.size : Int) - (u : Int)) = ((a1.size - u : Nat) : Int) := by unfold wrap64; omega
    have w2 : wrap64 ((u : Int) + 4) = ((u + 4 : Nat) : Int) := by unfold wrap64; omega
    have w3 : wrap64 ((u : Int) + 2) = ((u + 2 : Nat) : Int) := by unfold wrap64; omega
    have hpc : ∀ n : Nat, n ≤ 1099511627776 → spec_l02Read_piece.f p b (u : Int) (n : Int) = some (p ++ [65533], b ++ [(u : Int)], (u : Int) + (n : Int)) := by
      intro n hn
      have hw : wrap64 ((u : Int) + (n : Int)) = (u : Int) + (n : Int) := by unfold wrap64; omega
      unfold spec_l02Read_piece.f
      rw [if_pos ⟨h3, h4⟩, hw]
    have hpt : ∀ (v : Int) (n : Nat), n ≤ 1099511627776 → spec_l02Read_point.f p b (u : Int) v (n : Int) = some (p ++ [v], b, (u : Int) + (n : Int)) := by
      intro v n hn
      have hw : wrap64 ((u : Int) + (n : Int)) = (u : Int) + (n : Int) := by unfold wrap64; omega
      unfold spec_l02Read_point.f
      rw [if_pos h3, hw]
    unfold spec_l02Read_sixteen.f
    simp only [Int.toNat_natCast]
    rw [w1, w3]
    by_cases c : a1.size - u = 1
    · have e : YtnonijganceneaaDoorDec.piece16 a2 ((bytesOf a1).drop u) = (65533, 1, true, true) := by
        unfold YtnonijganceneaaDoorDec.piece16; rw [hlen, if_pos (show a1.size - u < 2 by omega), c]
      rw [e, if_pos (show ((a1.size - u : Nat) : Int) = 1 by omega), show (1 : Int) = ((1 : Nat) : Int) from rfl, hpc 1 (by omega)]
      cases a3 <;> rfl
    · unfold YtnonijganceneaaDoorDec.step YtnonijganceneaaDoorDec.piece16
      rw [hlen, if_neg (show ¬ ((a1.size - u : Nat) : Int) = 1 by omega), if_pos h0, if_pos (show (u : Int) ≤ ((u + 2 : Nat) : Int) by omega), if_pos (show ((u + 2 : Nat) : Int) ≤ (a1.size : Int) by omega), if_neg (show ¬ a1.size - u < 2 by omega)]
      have hx : ∀ j : Nat, u + j + 2 ≤ a1.size → W_spec_l02Unit.f (a1.extract (u + j) (u + j + 2)) a2 = some (YtnonijganceneaaDoorDec.unit2 a2 (((bytesOf a1).drop u).drop j)) := by
        intro j hj
        have hz : (a1.extract (u + j) (u + j + 2)).size = 2 := by simp; omega
        unfold W_spec_l02Unit.f
        rw [if_pos hz, spec_l02Read_eight.extract, show u + j + 2 - (u + j) = 2 by omega, spec_l02Read_wide.take2 _ _ 2 (by omega), List.drop_drop]
      simp only [Int.toNat_natCast]
      have hx0 := hx 0 (by omega)
      simp only [Nat.add_zero, List.drop_zero] at hx0
      rw [hx0]
      simp only [Option.bind_some]
      have hr := spec_l02Read_sixteen.unit_range a2 (spec_l02Read_eight.drop_bytes a1 u)
      have hr2 := spec_l02Read_sixteen.unit_range a2 (L := ((bytesOf a1).drop u).drop 2) (fun x hx => spec_l02Read_eight.drop_bytes a1 u x (List.mem_of_mem_drop hx))
      obtain ⟨L, hL⟩ : ∃ L, (bytesOf a1).drop u = L := ⟨_, rfl⟩
      rw [hL] at hr hr2 hx ⊢
      obtain ⟨v, hv⟩ : ∃ v, YtnonijganceneaaDoorDec.unit2 a2 L = v := ⟨_, rfl⟩
      rw [hv] at hr ⊢
      refine spec_l02Read_sixteen.gate v (fun g => spec_l02Read_sixteen.j0 3 a1 a2 a3 ((a1.size - u : Nat) : Int) v g p b (u : Int)) _ ?_
      · intro g hg
        show spec_l02Read_sixteen.j0 3 a1 a2 a3 ((a1.size - u : Nat) : Int) v g p b (u : Int) = _
        rw [spec_l02Read_sixteen.j0, w3, w2, show (2 : Int) = ((2 : Nat) : Int) from rfl, hpt v 2 (by omega), hpc 2 (by omega)]
        by_cases q : v < 55296 ∨ 57343 < v
        · rw [if_pos (hg.2 q), if_pos q]
          rfl
        · rw [if_neg (fun z => q (hg.1 z)), if_neg q]
          · by_cases q2 : 56320 ≤ v
            · rw [if_pos (by omega), if_pos q2]; rfl
            · rw [if_neg (by omega), if_neg q2]
              by_cases q3 : a1.size - u < 4
              · rw [if_pos (by omega), if_pos q3]
                cases a3 <;> rfl
              · rw [if_neg (by omega), if_neg q3, if_pos (by omega), if_pos (by omega), if_pos (by omega)]
                simp only [Int.toNat_natCast]
                rw [show u + 4 = u + 2 + 2 from rfl, hx 2 (by omega)]
                simp only [Option.bind_some]
                obtain ⟨y, hy⟩ : ∃ y, YtnonijganceneaaDoorDec.unit2 a2 (L.drop 2) = y := ⟨_, rfl⟩
                rw [hy] at hr2 ⊢
                have w5 : wrap64 ((wrap64 ((wrap64 (65536 + (wrap64 ((wrap64 (v - 55296)) * 1024)))) + y)) - 56320) = 65536 + (v - 55296) * 1024 + y - 56320 := by
                  have a1 : wrap64 (v - 55296) = v - 55296 := by unfold wrap64; omega
                  have a2 : wrap64 ((v - 55296) * 1024) = (v - 55296) * 1024 := by unfold wrap64; omega
                  have a3 : wrap64 (65536 + (v - 55296) * 1024) = 65536 + (v - 55296) * 1024 := by unfold wrap64; omega
                  have a4 : wrap64 (65536 + (v - 55296) * 1024 + y) = 65536 + (v - 55296) * 1024 + y := by unfold wrap64; omega
                  rw [a1, a2, a3, a4]; unfold wrap64; omega
                have hj1 : ∀ e : Bool, (e = false ↔ (56320 ≤ y ∧ y ≤ 57343)) → spec_l02Read_sixteen.j1 2 v y e p b (u : Int) = some (if 56320 ≤ y ∧ y ≤ 57343 then (true, p ++ [65536 + (v - 55296) * 1024 + y - 56320], b, (u : Int) + ((4 : Nat) : Int)) else (true, p ++ [65533], b ++ [(u : Int)], (u : Int) + ((2 : Nat) : Int))) := by
                  intro e he
                  rw [spec_l02Read_sixteen.j1, w5, show (2 : Int) = ((2 : Nat) : Int) from rfl, show (4 : Int) = ((4 : Nat) : Int) from rfl, hpt _ 4 (by omega), hpc 2 (by omega)]
                  by_cases q : 56320 ≤ y ∧ y ≤ 57343
                  · rw [if_neg (by rw [he.2 q]; decide), if_pos q]; rfl
                  · rw [if_pos (by cases e with | true => rfl | false => exact absurd (he.1 rfl) q), if_neg q]; rfl
                by_cases q4 : y < 56320
                · rw [if_pos q4, hj1 true ⟨(fun z => by cases z), fun z => absurd z.1 (by omega)⟩, if_neg (show ¬ (56320 ≤ y ∧ y ≤ 57343) by omega), if_neg (show ¬ (56320 ≤ y ∧ y ≤ 57343) by omega)]; rfl
                · rw [if_neg q4, hj1 (decide (y > 57343)) (by rw [decide_eq_false_iff_not]; constructor <;> (intro _; omega))]
                  by_cases q5 : y ≤ 57343
                  · rw [if_pos (show 56320 ≤ y ∧ y ≤ 57343 from ⟨by omega, q5⟩), if_pos (show 56320 ≤ y ∧ y ≤ 57343 from ⟨by omega, q5⟩)]; rfl
                  · rw [if_neg (show ¬ (56320 ≤ y ∧ y ≤ 57343) from fun z => q5 z.2), if_neg (show ¬ (56320 ≤ y ∧ y ≤ 57343) from fun z => q5 z.2)]; rfl
  · cases h
theorem W_spec_l02Read_sixteen.calls (g : Nat) (s0_0 : List Int) (s0_1 : List Int) (s0_2 : Int) (a1 : ByteArray) (a2 : Bool) (a3 : Bool) (r1 : Bool) (r2 : List Int) (r3 : List Int) (r4 : Int) (w0 w : World) (hI : IsS100 w0 w g s0_0 s0_1 s0_2) (hB : Below w0.heap.size w0 w) (h : W_spec_l02Read_sixteen.f s0_0 s0_1 s0_2 a1 a2 a3 = some (r1, r2, r3, r4)) :
    Calls Tryd.prog 184 #[.pointer (some ⟨g, 0, none⟩), .string a1, .bool a2, .bool a3] w fun e w' => e = .returned (.bool r1) ∧ IsS100 w0 w' g r2 r3 r4 ∧ Below w0.heap.size w0 w' ∧ KB100 w w' g none := by
  obtain ⟨k, hk⟩ := W_spec_l02Read_sixteen.to h
  exact spec_l02Read_sixteen.calls k g s0_0 s0_1 s0_2 a1 a2 a3 r1 r2 r3 r4 w0 w hI hB hk

end Go.Proofs.YtnonijganceneaaDoor.QFnExactEndDecoder
