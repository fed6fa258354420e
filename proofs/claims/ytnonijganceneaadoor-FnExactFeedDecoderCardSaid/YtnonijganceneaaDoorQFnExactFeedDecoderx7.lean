/- The law FnExactFeedDecoder: at every input the call answers true (this text: contracts on its way, by a program of this session's; no condition of ours). -/
import Derived.Test.YtnonijganceneaaDoorQFnExactFeedDecoderx0
import Derived.Test.YtnonijganceneaaDoorQFnExactFeedDecoderx3
import Derived.Test.YtnonijganceneaaDoorQFnExactFeedDecoderx4
import Derived.Test.YtnonijganceneaaDoorQFnExactFeedDecoderx5
import Derived.Test.YtnonijganceneaaDoorQFnExactFeedDecoderx6
namespace Go.Proofs.YtnonijganceneaaDoor.QFnExactFeedDecoder
open Go.RowKit Go.Proofs.YtnonijganceneaaDoorW.PrintWords Go.Proofs.YtnonijganceneaaDoorW.PrintLast Go.Proofs.YtnonijganceneaaDoorW.PrintMore
attribute [local go_sem] max2_int min2_int max_two min_two max_three min_three max_four min_four   -- for this text's walks alone
set_option linter.unusedVariables false
set_option linter.unusedSimpArgs false

/-! ### spec_l02Read_eight: function 182 -/
mutual
def spec_l02Read_eight.j1 : Nat → ByteArray → Bool → Int → List Int → List Int → Int → Option (Bool × List Int × List Int × Int)
  | 0, _, _, _, _, _, _ => none
  | k + 1, x1, x2, x8, x1000, x1001, x1002 => if (wrap64 (x1002 + x8)) = (x1.size : Int) then (spec_l02Read_eight.j2 k x8 (!x2) x1000 x1001 x1002) else (spec_l02Read_eight.j2 k x8 false x1000 x1001 x1002)
def spec_l02Read_eight.j2 : Nat → Int → Bool → List Int → List Int → Int → Option (Bool × List Int × List Int × Int)
  | 0, _, _, _, _, _ => none
  | k + 1, x8, x64, x1000, x1001, x1002 => if x64 = true then (some (false, x1000, x1001, x1002)) else (if x8 = 0 then ((spec_l02Read_piece.f x1000 x1001 x1002 1).bind fun bt142 => (some (true, bt142.1, bt142.2.1, bt142.2.2))) else ((spec_l02Read_piece.f x1000 x1001 x1002 x8).bind fun bt145 => (some (true, bt145.1, bt145.2.1, bt145.2.2))))
def spec_l02Read_eight.l0 : Nat → ByteArray → Bool → Int → List Int → List Int → Int → Option (Bool × List Int × List Int × Int)
  | 0, _, _, _, _, _, _ => none
  | k + 1, x1, x2, x8, x1000, x1001, x1002 => if (wrap64 (x1002 + x8)) < (x1.size : Int) then (if 0 ≤ x1002 then (if x1002 ≤ (wrap64 ((wrap64 (x1002 + x8)) + 1)) then (if (wrap64 ((wrap64 (x1002 + x8)) + 1)) ≤ (x1.size : Int) then ((W_spec_l02Begins.f (x1.extract (x1002 : Int).toNat ((wrap64 ((wrap64 (x1002 + x8)) + 1)) : Int).toNat)).bind fun t141 => (if t141 = true then (spec_l02Read_eight.l0 k x1 x2 (wrap64 (x8 + 1)) x1000 x1001 x1002) else (spec_l02Read_eight.j1 k x1 x2 x8 x1000 x1001 x1002))) else (none)) else (none)) else (none)) else (spec_l02Read_eight.j1 k x1 x2 x8 x1000 x1001 x1002)
end
def spec_l02Read_eight.f (k : Nat) (s0_0 : List Int) (s0_1 : List Int) (s0_2 : Int) (a1 : ByteArray) (a2 : Bool) : Option (Bool × List Int × List Int × Int) := (W_spec_l01Next.f a1 s0_2).bind fun bt135 => (if bt135.2.2 = true then ((spec_l02Read_point.f s0_0 s0_1 s0_2 bt135.1 bt135.2.1).bind fun bt138 => (some (true, bt138.1, bt138.2.1, bt138.2.2))) else (spec_l02Read_eight.l0 k a1 a2 0 s0_0 s0_1 s0_2))
theorem spec_l02Read_eight.mono_l : ∀ k, (∀ y0 y1 y2 y3 y4 y5, LeO (spec_l02Read_eight.j1 k y0 y1 y2 y3 y4 y5) (spec_l02Read_eight.j1 (k + 1) y0 y1 y2 y3 y4 y5)) ∧ (∀ y0 y1 y2 y3 y4, LeO (spec_l02Read_eight.j2 k y0 y1 y2 y3 y4) (spec_l02Read_eight.j2 (k + 1) y0 y1 y2 y3 y4)) ∧ (∀ y0 y1 y2 y3 y4 y5, LeO (spec_l02Read_eight.l0 k y0 y1 y2 y3 y4 y5) (spec_l02Read_eight.l0 (k + 1) y0 y1 y2 y3 y4 y5))
  | 0 => ⟨fun _ _ _ _ _ _ r h => by simp [spec_l02Read_eight.j1] at h, fun _ _ _ _ _ r h => by simp [spec_l02Read_eight.j2] at h, fun _ _ _ _ _ _ r h => by simp [spec_l02Read_eight.l0] at h⟩
  | k + 1 => by
    obtain ⟨ih0, ih1, ih2⟩ := spec_l02Read_eight.mono_l k
    refine ⟨?_, ?_, ?_⟩
    · intro y0 y1 y2 y3 y4 y5
      unfold spec_l02Read_eight.j1
      repeat' first
      | (with_reducible exact ih0 _ _ _ _ _ _)
      | (with_reducible exact ih1 _ _ _ _ _)
      | (with_reducible exact ih2 _ _ _ _ _ _)
      | (with_reducible exact LeO.refl _)
      | (with_reducible exact LeO.none _)
      | (with_reducible refine LeO.ite ?_ ?_)
      | (with_reducible refine LeO.bind ?_ (fun _ => ?_))
      | exact ih0 _ _ _ _ _ _
      | exact ih1 _ _ _ _ _
      | exact ih2 _ _ _ _ _ _
      | exact LeO.none _
      | refine LeO.ite ?_ ?_
      | refine LeO.bind ?_ (fun _ => ?_)
    · intro y0 y1 y2 y3 y4
      unfold spec_l02Read_eight.j2
      repeat' first
      | (with_reducible exact ih0 _ _ _ _ _ _)
      | (with_reducible exact ih1 _ _ _ _ _)
      | (with_reducible exact ih2 _ _ _ _ _ _)
      | (with_reducible exact LeO.refl _)
      | (with_reducible exact LeO.none _)
      | (with_reducible refine LeO.ite ?_ ?_)
      | (with_reducible refine LeO.bind ?_ (fun _ => ?_))
      | exact ih0 _ _ _ _ _ _
      | exact ih1 _ _ _ _ _
      | exact ih2 _ _ _ _ _ _
      | exact LeO.none _
      | refine LeO.ite ?_ ?_
      | refine LeO.bind ?_ (fun _ => ?_)
    · intro y0 y1 y2 y3 y4 y5
      unfold spec_l02Read_eight.l0
      repeat' first
      | (with_reducible exact ih0 _ _ _ _ _ _)
      | (with_reducible exact ih1 _ _ _ _ _)
      | (with_reducible exact ih2 _ _ _ _ _ _)
      | (with_reducible exact LeO.refl _)
      | (with_reducible exact LeO.none _)
      | (with_reducible refine LeO.ite ?_ ?_)
      | (with_reducible refine LeO.bind ?_ (fun _ => ?_))
      | exact ih0 _ _ _ _ _ _
      | exact ih1 _ _ _ _ _
      | exact ih2 _ _ _ _ _ _
      | exact LeO.none _
      | refine LeO.ite ?_ ?_
      | refine LeO.bind ?_ (fun _ => ?_)
theorem spec_l02Read_eight.mono : ∀ a0 a1 a2 a3 a4 k, LeO (spec_l02Read_eight.f k a0 a1 a2 a3 a4) (spec_l02Read_eight.f (k + 1) a0 a1 a2 a3 a4) := by
  intro a0 a1 a2 a3 a4 k
  obtain ⟨ih0, ih1, ih2⟩ := spec_l02Read_eight.mono_l k
  unfold spec_l02Read_eight.f
  repeat' first
      | (with_reducible exact ih0 _ _ _ _ _ _)
      | (with_reducible exact ih1 _ _ _ _ _)
      | (with_reducible exact ih2 _ _ _ _ _ _)
      | (with_reducible exact LeO.refl _)
      | (with_reducible exact LeO.none _)
      | (with_reducible refine LeO.ite ?_ ?_)
      | (with_reducible refine LeO.bind ?_ (fun _ => ?_))
      | exact ih0 _ _ _ _ _ _
      | exact ih1 _ _ _ _ _
      | exact ih2 _ _ _ _ _ _
      | exact LeO.none _
      | refine LeO.ite ?_ ?_
      | refine LeO.bind ?_ (fun _ => ?_)
set_option maxHeartbeats 8000000 in
set_option maxRecDepth 100000 in
theorem spec_l02Read_eight.calls (k : Nat) (g : Nat) (s0_0 : List Int) (s0_1 : List Int) (s0_2 : Int) (a1 : ByteArray) (a2 : Bool) (r1 : Bool) (r2 : List Int) (r3 : List Int) (r4 : Int) (w0 w : World) (hI : IsS100 w0 w g s0_0 s0_1 s0_2) (hB : Below w0.heap.size w0 w) (h : spec_l02Read_eight.f k s0_0 s0_1 s0_2 a1 a2 = some (r1, r2, r3, r4)) :
    Calls Tryd.prog 182 #[.pointer (some ⟨g, 0, none⟩), .string a1, .bool a2] w fun e w' => e = .returned (.bool r1) ∧ IsS100 w0 w' g r2 r3 r4 ∧ Below w0.heap.size w0 w' ∧ KB100 w w' g none := by
  have HI0 := Aside0.mk hI
  have HK := Aside0.mk (KB100.refl w g none)
  have HL := Aside0.mk hB.size
  clear hI
  have HW0 := Aside0.mk hB.size
  have HB := Aside0.mk hB
  clear hB
  have H : ((W_spec_l01Next.f a1 s0_2).bind fun bt135 => (if bt135.2.2 = true then ((spec_l02Read_point.f s0_0 s0_1 s0_2 bt135.1 bt135.2.1).bind fun bt138 => (some (true, bt138.1, bt138.2.1, bt138.2.2))) else (spec_l02Read_eight.l0 k a1 a2 0 s0_0 s0_1 s0_2))) = some (r1, r2, r3, r4) := h
  clear h
  replace H := Option.bind_eq_some_iff.mp H
  obtain ⟨⟨t135, t136, t137⟩, A40, H⟩ := H
  replace H : (if t137 = true then ((spec_l02Read_point.f s0_0 s0_1 s0_2 t135 t136).bind fun bt138 => (some (true, bt138.1, bt138.2.1, bt138.2.2))) else (spec_l02Read_eight.l0 k a1 a2 0 s0_0 s0_1 s0_2)) = some (r1, r2, r3, r4) := H
  have A4 := Aside0.mk A40
  clear A40
  by_cases c5 : t137 = true
  · subst c5
    have H1 : ((spec_l02Read_point.f s0_0 s0_1 s0_2 t135 t136).bind fun bt138 => (some (true, bt138.1, bt138.2.1, bt138.2.2))) = some (r1, r2, r3, r4) := by rw [if_pos rfl] at H; exact H
    clear H
    have H := H1
    clear H1
    replace H := Option.bind_eq_some_iff.mp H
    obtain ⟨⟨t138, t139, t140⟩, A60, H⟩ := H
    replace H : (some (true, t138, t139, t140)) = some (r1, r2, r3, r4) := H
    have A6 := Aside0.mk A60
    clear A60
    simp only [Option.some.injEq, Prod.mk.injEq] at H
    obtain ⟨rfl, rfl, rfl, rfl⟩ := H
    obtain ⟨ASz7_0, cSz7_0, ASz7_1, cSz7_1, HGz7, hgz7, HSz7_0, HSz7_1⟩ := HI0.out
    have hcz7_0 := cellS100_0 HGz7
    have hcz7_1 := cellS100_1 HGz7
    have hcz7_2 := cellS100_2 HGz7
    have hfz7_0 := blk_frozen HGz7 0
    have hfz7_1 := blk_frozen HGz7 1
    have hfz7_2 := blk_frozen HGz7 2
    clear HGz7 hgz7
    go_enter Tryd.func182, Tryd.ntmps182
    go_wp2_with (first | (go_at_call 163; (with_reducible refine (W_spec_l01Next.calls a1 s0_2 t135 t136 true _ A4.out).mono ?_); rintro e w8 ⟨rfl, hb⟩; have n0_ := Aside0.mk (IsS100.below (by repeat (first | (with_reducible first | exact HI0.out | apply IsS100.alloc | apply IsS100.drewN | apply IsS100.drew | apply IsS100.set_0 | apply IsS100.set_1 | apply IsS100.set_2) | exact HI0.out)) hb); have n1_ := Aside0.mk (KB100.trans (by repeat (first | (with_reducible first | exact HK.out | apply KB100.set_ | apply KB100.drewN | apply KB100.drew | apply KB100.alloc) | exact HK.out)) (KB100.of_below hb g none) (.inl rfl)); have n2_ := Aside0.mk (below_step (by repeat (first | (with_reducible first | exact HB.out | apply below_alloc | apply pw_below_drewN | apply below_drew1 | refine below_set ?_ (IsS100.ge HI0.out)) | exact HB.out)) hb); clear HI0; clear HK; clear HB; have HI0 := n0_; have HK := n1_; have HB := n2_; clear n0_ n1_ n2_; (try clear hb); (try clear hb2); (try clear hk); (try clear hi)) | (go_at_call 217; (with_reducible refine (spec_l02Read_point.calls g s0_0 s0_1 s0_2 t135 t136 t138 t139 t140 w0 _ ?side1 ?side2 A6.out).mono ?_); (case side1 => repeat (first | (with_reducible first | exact HI0.out | apply IsS100.alloc | apply IsS100.drewN | apply IsS100.drew | apply IsS100.set_0 | apply IsS100.set_1 | apply IsS100.set_2) | exact HI0.out)); (case side2 => repeat (first | (with_reducible first | exact HB.out | apply below_alloc | apply pw_below_drewN | apply below_drew1 | refine below_set ?_ (IsS100.ge HI0.out)) | exact HB.out)); rintro e w9 ⟨rfl, hi, hb, hk⟩; have n0_ := Aside0.mk (KB100.trans (by repeat (first | (with_reducible first | exact HK.out | apply KB100.set_ | apply KB100.drewN | apply KB100.drew | apply KB100.alloc) | exact HK.out)) hk (.inl rfl)); have n1_ := Aside0.mk (hb); have n2_ := Aside0.mk (hi); clear HK; clear HB; clear HI0; have HK := n0_; have HB := n1_; have HI0 := n2_; clear n0_ n1_ n2_; (try clear hb); (try clear hb2); (try clear hk); (try clear hi)))
    repeat (go_quiet (first | (go_at_call 163; (with_reducible refine (W_spec_l01Next.calls a1 s0_2 t135 t136 true _ A4.out).mono ?_); rintro e w8 ⟨rfl, hb⟩; have n0_ := Aside0.mk (IsS100.below (by repeat (first | (with_reducible first | exact HI0.out | apply IsS100.alloc | apply IsS100.drewN | apply IsS100.drew | apply IsS100.set_0 | apply IsS100.set_1 | apply IsS100.set_2) | exact HI0.out)) hb); have n1_ := Aside0.mk (KB100.trans (by repeat (first | (with_reducible first | exact HK.out | apply KB100.set_ | apply KB100.drewN | apply KB100.drew | apply KB100.alloc) | exact HK.out)) (KB100.of_below hb g none) (.inl rfl)); have n2_ := Aside0.mk (below_step (by repeat (first | (with_reducible first | exact HB.out | apply below_alloc | apply pw_below_drewN | apply below_drew1 | refine below_set ?_ (IsS100.ge HI0.out)) | exact HB.out)) hb); clear HI0; clear HK; clear HB; have HI0 := n0_; have HK := n1_; have HB := n2_; clear n0_ n1_ n2_; (try clear hb); (try clear hb2); (try clear hk); (try clear hi)) | (go_at_call 217; (with_reducible refine (spec_l02Read_point.calls g s0_0 s0_1 s0_2 t135 t136 t138 t139 t140 w0 _ ?side1 ?side2 A6.out).mono ?_); (case side1 => repeat (first | (with_reducible first | exact HI0.out | apply IsS100.alloc | apply IsS100.drewN | apply IsS100.drew | apply IsS100.set_0 | apply IsS100.set_1 | apply IsS100.set_2) | exact HI0.out)); (case side2 => repeat (first | (with_reducible first | exact HB.out | apply below_alloc | apply pw_below_drewN | apply below_drew1 | refine below_set ?_ (IsS100.ge HI0.out)) | exact HB.out)); rintro e w9 ⟨rfl, hi, hb, hk⟩; have n0_ := Aside0.mk (KB100.trans (by repeat (first | (with_reducible first | exact HK.out | apply KB100.set_ | apply KB100.drewN | apply KB100.drew | apply KB100.alloc) | exact HK.out)) hk (.inl rfl)); have n1_ := Aside0.mk (hb); have n2_ := Aside0.mk (hi); clear HK; clear HB; clear HI0; have HK := n0_; have HB := n1_; have HI0 := n2_; clear n0_ n1_ n2_; (try clear hb); (try clear hb2); (try clear hk); (try clear hi))); try go_wp2_with (first | (go_at_call 163; (with_reducible refine (W_spec_l01Next.calls a1 s0_2 t135 t136 true _ A4.out).mono ?_); rintro e w8 ⟨rfl, hb⟩; have n0_ := Aside0.mk (IsS100.below (by repeat (first | (with_reducible first | exact HI0.out | apply IsS100.alloc | apply IsS100.drewN | apply IsS100.drew | apply IsS100.set_0 | apply IsS100.set_1 | apply IsS100.set_2) | exact HI0.out)) hb); have n1_ := Aside0.mk (KB100.trans (by repeat (first | (with_reducible first | exact HK.out | apply KB100.set_ | apply KB100.drewN | apply KB100.drew | apply KB100.alloc) | exact HK.out)) (KB100.of_below hb g none) (.inl rfl)); have n2_ := Aside0.mk (below_step (by repeat (first | (with_reducible first | exact HB.out | apply below_alloc | apply pw_below_drewN | apply below_drew1 | refine below_set ?_ (IsS100.ge HI0.out)) | exact HB.out)) hb); clear HI0; clear HK; clear HB; have HI0 := n0_; have HK := n1_; have HB := n2_; clear n0_ n1_ n2_; (try clear hb); (try clear hb2); (try clear hk); (try clear hi)) | (go_at_call 217; (with_reducible refine (spec_l02Read_point.calls g s0_0 s0_1 s0_2 t135 t136 t138 t139 t140 w0 _ ?side1 ?side2 A6.out).mono ?_); (case side1 => repeat (first | (with_reducible first | exact HI0.out | apply IsS100.alloc | apply IsS100.drewN | apply IsS100.drew | apply IsS100.set_0 | apply IsS100.set_1 | apply IsS100.set_2) | exact HI0.out)); (case side2 => repeat (first | (with_reducible first | exact HB.out | apply below_alloc | apply pw_below_drewN | apply below_drew1 | refine below_set ?_ (IsS100.ge HI0.out)) | exact HB.out)); rintro e w9 ⟨rfl, hi, hb, hk⟩; have n0_ := Aside0.mk (KB100.trans (by repeat (first | (with_reducible first | exact HK.out | apply KB100.set_ | apply KB100.drewN | apply KB100.drew | apply KB100.alloc) | exact HK.out)) hk (.inl rfl)); have n1_ := Aside0.mk (hb); have n2_ := Aside0.mk (hi); clear HK; clear HB; clear HI0; have HK := n0_; have HB := n1_; have HI0 := n2_; clear n0_ n1_ n2_; (try clear hb); (try clear hb2); (try clear hk); (try clear hi))))
    go_ret
    exact ⟨by first | rfl | (simp [errW_none, errW_some] <;> rfl) | (simp [*, errW_none, errW_some] <;> rfl), by repeat (first | (with_reducible first | exact HI0.out | apply IsS100.alloc | apply IsS100.drewN | apply IsS100.drew | apply IsS100.set_0 | apply IsS100.set_1 | apply IsS100.set_2) | exact HI0.out), by repeat (first | (with_reducible first | exact HB.out | apply below_alloc | apply pw_below_drewN | apply below_drew1 | refine below_set ?_ (IsS100.ge HI0.out)) | exact HB.out), by repeat (first | (with_reducible first | exact HK.out | apply KB100.set_ | apply KB100.drewN | apply KB100.drew | apply KB100.alloc) | exact HK.out)⟩
  · replace c5 := Bool.eq_false_iff.mpr c5
    subst c5
    have H1 : (spec_l02Read_eight.l0 k a1 a2 0 s0_0 s0_1 s0_2) = some (r1, r2, r3, r4) := by rw [if_neg (show ¬ (false = true) by decide)] at H; exact H
    clear H
    have H := H1
    clear H1
    have HC10 := Aside0.mk H
    clear H
    obtain ⟨ASz11_0, cSz11_0, ASz11_1, cSz11_1, HGz11, hgz11, HSz11_0, HSz11_1⟩ := HI0.out
    have hcz11_0 := cellS100_0 HGz11
    have hcz11_1 := cellS100_1 HGz11
    have hcz11_2 := cellS100_2 HGz11
    have hfz11_0 := blk_frozen HGz11 0
    have hfz11_1 := blk_frozen HGz11 1
    have hfz11_2 := blk_frozen HGz11 2
    clear HGz11 hgz11
    go_enter Tryd.func182, Tryd.ntmps182
    go_upto_block 0 with (first | (go_at_call 163; (with_reducible refine (W_spec_l01Next.calls a1 s0_2 t135 t136 false _ A4.out).mono ?_); rintro e w12 ⟨rfl, hb⟩; have n0_ := Aside0.mk (IsS100.below (by repeat (first | (with_reducible first | exact HI0.out | apply IsS100.alloc | apply IsS100.drewN | apply IsS100.drew | apply IsS100.set_0 | apply IsS100.set_1 | apply IsS100.set_2) | exact HI0.out)) hb); have n1_ := Aside0.mk (KB100.trans (by repeat (first | (with_reducible first | exact HK.out | apply KB100.set_ | apply KB100.drewN | apply KB100.drew | apply KB100.alloc) | exact HK.out)) (KB100.of_below hb g none) (.inl rfl)); have n2_ := Aside0.mk (below_step (by repeat (first | (with_reducible first | exact HB.out | apply below_alloc | apply pw_below_drewN | apply below_drew1 | refine below_set ?_ (IsS100.ge HI0.out)) | exact HB.out)) hb); clear HI0; clear HK; clear HB; have HI0 := n0_; have HK := n1_; have HB := n2_; clear n0_ n1_ n2_; (try clear hb); (try clear hb2); (try clear hk); (try clear hi)))
    repeat (go_quiet (first | (go_at_call 163; (with_reducible refine (W_spec_l01Next.calls a1 s0_2 t135 t136 false _ A4.out).mono ?_); rintro e w12 ⟨rfl, hb⟩; have n0_ := Aside0.mk (IsS100.below (by repeat (first | (with_reducible first | exact HI0.out | apply IsS100.alloc | apply IsS100.drewN | apply IsS100.drew | apply IsS100.set_0 | apply IsS100.set_1 | apply IsS100.set_2) | exact HI0.out)) hb); have n1_ := Aside0.mk (KB100.trans (by repeat (first | (with_reducible first | exact HK.out | apply KB100.set_ | apply KB100.drewN | apply KB100.drew | apply KB100.alloc) | exact HK.out)) (KB100.of_below hb g none) (.inl rfl)); have n2_ := Aside0.mk (below_step (by repeat (first | (with_reducible first | exact HB.out | apply below_alloc | apply pw_below_drewN | apply below_drew1 | refine below_set ?_ (IsS100.ge HI0.out)) | exact HB.out)) hb); clear HI0; clear HK; clear HB; have HI0 := n0_; have HK := n1_; have HB := n2_; clear n0_ n1_ n2_; (try clear hb); (try clear hb2); (try clear hk); (try clear hi))); go_upto_block 0 with (first | (go_at_call 163; (with_reducible refine (W_spec_l01Next.calls a1 s0_2 t135 t136 false _ A4.out).mono ?_); rintro e w12 ⟨rfl, hb⟩; have n0_ := Aside0.mk (IsS100.below (by repeat (first | (with_reducible first | exact HI0.out | apply IsS100.alloc | apply IsS100.drewN | apply IsS100.drew | apply IsS100.set_0 | apply IsS100.set_1 | apply IsS100.set_2) | exact HI0.out)) hb); have n1_ := Aside0.mk (KB100.trans (by repeat (first | (with_reducible first | exact HK.out | apply KB100.set_ | apply KB100.drewN | apply KB100.drew | apply KB100.alloc) | exact HK.out)) (KB100.of_below hb g none) (.inl rfl)); have n2_ := Aside0.mk (below_step (by repeat (first | (with_reducible first | exact HB.out | apply below_alloc | apply pw_below_drewN | apply below_drew1 | refine below_set ?_ (IsS100.ge HI0.out)) | exact HB.out)) hb); clear HI0; clear HK; clear HB; have HI0 := n0_; have HK := n1_; have HB := n2_; clear n0_ n1_ n2_; (try clear hb); (try clear hb2); (try clear hk); (try clear hi))))
    (try simp only [Act.put, List.setIfInBounds_toArray, List.set_cons_zero, List.set_cons_succ])
    go_cut [8] (fun v8 wc => ∃ (kq : Nat) (x8_9 : Int), v8 = .int .i64 x8_9 ∧ Aside0 (spec_l02Read_eight.j1 kq a1 a2 x8_9 s0_0 s0_1 s0_2 = some (r1, r2, r3, r4)) ∧ Aside0 (kq ≤ k) ∧ Aside0 (IsS100 w0 wc g s0_0 s0_1 s0_2) ∧ Aside0 (KB100 w wc g none) ∧ Aside0 (Below w0.heap.size w0 wc))
    case first =>
      have H := HC10.out
      clear HC10
      have H' := Aside0.mk H
      clear H
      go_wp2
      repeat (go_quiet (fail); try go_wp2)
      go_loopg [8] k (fun kq v8 w' => ∃ (x8_1 : Int), v8 = .int .i64 x8_1 ∧ Aside0 (spec_l02Read_eight.l0 kq a1 a2 x8_1 s0_0 s0_1 s0_2 = some (r1, r2, r3, r4)) ∧ Aside0 (kq ≤ k) ∧ Aside0 (IsS100 w0 w' g s0_0 s0_1 s0_2) ∧ Aside0 (KB100 w w' g none) ∧ Aside0 (Below w0.heap.size w0 w'))
      case atStart => exact ⟨(0), (by first | rfl | (simp; done) | (simp [*]; done)), H', ⟨Nat.le_refl _⟩, ⟨by repeat (first | (with_reducible first | exact HI0.out | apply IsS100.alloc | apply IsS100.drewN | apply IsS100.drew | apply IsS100.set_0 | apply IsS100.set_1 | apply IsS100.set_2) | exact HI0.out)⟩, ⟨by repeat (first | (with_reducible first | exact HK.out | apply KB100.set_ | apply KB100.drewN | apply KB100.drew | apply KB100.alloc) | exact HK.out)⟩, ⟨by repeat (first | (with_reducible first | exact HB.out | apply below_alloc | apply pw_below_drewN | apply below_drew1 | refine below_set ?_ (IsS100.ge HI0.out)) | exact HB.out)⟩⟩
      case round =>
        clear H'
        try clear c1
        try clear p2
        try clear c5
        try clear hcz11_0
        try clear hcz11_1
        try clear hcz11_2
        try clear hcz7_0
        try clear hcz7_1
        try clear hcz7_2
        try clear hfz11_0
        try clear hfz11_1
        try clear hfz11_2
        try clear hfz7_0
        try clear hfz7_1
        try clear hfz7_2
        obtain ⟨x8_1, rfl, HA, HK1, HI0, HK, HB⟩ := hrel
        cases gk with
        | zero => exact absurd HA.out (by simp [spec_l02Read_eight.l0])
        | succ k1 =>
          have H := HA.out
          clear HA
          simp only [spec_l02Read_eight.l0] at H
          by_cases c13 : (wrap64 (s0_2 + x8_1)) < (a1.size : Int)
          · rw [if_pos c13] at H
            have c13b0 : decide ((wrap64 (s0_2 + x8_1)) < (a1.size : Int)) = true := decide_eq_true c13
            clear c13
            (first | rw [c13b0] | (simp only [i64_w, i32_w]; rw [c13b0]) | skip)
            by_cases c14 : 0 ≤ s0_2
            · rw [if_pos c14] at H
              have c14b0 := eq_true c14
              have c14b1 : decide (0 ≤ s0_2) = true := decide_eq_true c14
              clear c14
              by_cases c15 : s0_2 ≤ (wrap64 ((wrap64 (s0_2 + x8_1)) + 1))
              · rw [if_pos c15] at H
                have c15b0 := eq_true c15
                have c15b1 : decide (s0_2 ≤ (wrap64 ((wrap64 (s0_2 + x8_1)) + 1))) = true := decide_eq_true c15
                by_cases c16 : (wrap64 ((wrap64 (s0_2 + x8_1)) + 1)) ≤ (a1.size : Int)
                · rw [if_pos c16] at H
                  have c16b0 := eq_true c16
                  have c16b1 : decide ((wrap64 ((wrap64 (s0_2 + x8_1)) + 1)) ≤ (a1.size : Int)) = true := decide_eq_true c16
                  replace H := Option.bind_eq_some_iff.mp H
                  obtain ⟨t141, A170, H⟩ := H
                  replace H : (if t141 = true then (spec_l02Read_eight.l0 k1 a1 a2 (wrap64 (x8_1 + 1)) s0_0 s0_1 s0_2) else (spec_l02Read_eight.j1 k1 a1 a2 x8_1 s0_0 s0_1 s0_2)) = some (r1, r2, r3, r4) := H
                  have A17 := Aside0.mk A170
                  clear A170
                  by_cases c18 : t141 = true
                  · subst c18
                    have H1 : (spec_l02Read_eight.l0 k1 a1 a2 (wrap64 (x8_1 + 1)) s0_0 s0_1 s0_2) = some (r1, r2, r3, r4) := by rw [if_pos rfl] at H; exact H
                    clear H
                    have H := H1
                    clear H1
                    have H' := Aside0.mk H
                    clear H
                    obtain ⟨ASz19_0, cSz19_0, ASz19_1, cSz19_1, HGz19, hgz19, HSz19_0, HSz19_1⟩ := HI0.out
                    have hcz19_0 := cellS100_0 HGz19
                    have hcz19_1 := cellS100_1 HGz19
                    have hcz19_2 := cellS100_2 HGz19
                    have hfz19_0 := blk_frozen HGz19 0
                    have hfz19_1 := blk_frozen HGz19 1
                    have hfz19_2 := blk_frozen HGz19 2
                    clear HGz19 hgz19
                    go_wp2_with (first | (go_at_call 218; (with_reducible refine (W_spec_l02Begins.calls (a1.extract (s0_2 : Int).toNat ((wrap64 ((wrap64 (s0_2 + x8_1)) + 1)) : Int).toNat) true _ A17.out).mono ?_); rintro e w' ⟨rfl, ⟨nd, rfl⟩⟩; (try first | exact ⟨rfl, _, World.drewN_drewN _ _ _⟩ | exact ⟨rfl, _, Eq.trans (World.drewN_drewN _ _ _) (congrArg (World.drewN _) (Nat.add_assoc _ _ _))⟩)))
                    repeat (go_quiet (first | (go_at_call 218; (with_reducible refine (W_spec_l02Begins.calls (a1.extract (s0_2 : Int).toNat ((wrap64 ((wrap64 (s0_2 + x8_1)) + 1)) : Int).toNat) true _ A17.out).mono ?_); rintro e w' ⟨rfl, ⟨nd, rfl⟩⟩; (try first | exact ⟨rfl, _, World.drewN_drewN _ _ _⟩ | exact ⟨rfl, _, Eq.trans (World.drewN_drewN _ _ _) (congrArg (World.drewN _) (Nat.add_assoc _ _ _))⟩))); try go_wp2_with (first | (go_at_call 218; (with_reducible refine (W_spec_l02Begins.calls (a1.extract (s0_2 : Int).toNat ((wrap64 ((wrap64 (s0_2 + x8_1)) + 1)) : Int).toNat) true _ A17.out).mono ?_); rintro e w' ⟨rfl, ⟨nd, rfl⟩⟩; (try first | exact ⟨rfl, _, World.drewN_drewN _ _ _⟩ | exact ⟨rfl, _, Eq.trans (World.drewN_drewN _ _ _) (congrArg (World.drewN _) (Nat.add_assoc _ _ _))⟩))))
                    go_roundg k1
                    case measure => have := HK1.out; omega
                    case rel => exact ⟨(wrap64 (x8_1 + 1)), (by first | rfl | (simp; done) | (simp [*]; done)), H', ⟨by have := HK1.out; omega⟩, ⟨by repeat (first | (with_reducible first | exact HI0.out | apply IsS100.alloc | apply IsS100.drewN | apply IsS100.drew | apply IsS100.set_0 | apply IsS100.set_1 | apply IsS100.set_2) | exact HI0.out)⟩, ⟨by repeat (first | (with_reducible first | exact HK.out | apply KB100.set_ | apply KB100.drewN | apply KB100.drew | apply KB100.alloc) | exact HK.out)⟩, ⟨by repeat (first | (with_reducible first | exact HB.out | apply below_alloc | apply pw_below_drewN | apply below_drew1 | refine below_set ?_ (IsS100.ge HI0.out)) | exact HB.out)⟩⟩
                  · replace c18 := Bool.eq_false_iff.mpr c18
                    subst c18
                    have H1 : (spec_l02Read_eight.j1 k1 a1 a2 x8_1 s0_0 s0_1 s0_2) = some (r1, r2, r3, r4) := by rw [if_neg (show ¬ (false = true) by decide)] at H; exact H
                    clear H
                    have H := H1
                    clear H1
                    have H' := Aside0.mk H
                    clear H
                    obtain ⟨ASz20_0, cSz20_0, ASz20_1, cSz20_1, HGz20, hgz20, HSz20_0, HSz20_1⟩ := HI0.out
                    have hcz20_0 := cellS100_0 HGz20
                    have hcz20_1 := cellS100_1 HGz20
                    have hcz20_2 := cellS100_2 HGz20
                    have hfz20_0 := blk_frozen HGz20 0
                    have hfz20_1 := blk_frozen HGz20 1
                    have hfz20_2 := blk_frozen HGz20 2
                    clear HGz20 hgz20
                    go_wp2_with (first | (go_at_call 218; (with_reducible refine (W_spec_l02Begins.calls (a1.extract (s0_2 : Int).toNat ((wrap64 ((wrap64 (s0_2 + x8_1)) + 1)) : Int).toNat) false _ A17.out).mono ?_); rintro e w' ⟨rfl, ⟨nd, rfl⟩⟩; (try first | exact ⟨rfl, _, World.drewN_drewN _ _ _⟩ | exact ⟨rfl, _, Eq.trans (World.drewN_drewN _ _ _) (congrArg (World.drewN _) (Nat.add_assoc _ _ _))⟩)))
                    repeat (go_quiet (first | (go_at_call 218; (with_reducible refine (W_spec_l02Begins.calls (a1.extract (s0_2 : Int).toNat ((wrap64 ((wrap64 (s0_2 + x8_1)) + 1)) : Int).toNat) false _ A17.out).mono ?_); rintro e w' ⟨rfl, ⟨nd, rfl⟩⟩; (try first | exact ⟨rfl, _, World.drewN_drewN _ _ _⟩ | exact ⟨rfl, _, Eq.trans (World.drewN_drewN _ _ _) (congrArg (World.drewN _) (Nat.add_assoc _ _ _))⟩))); try go_wp2_with (first | (go_at_call 218; (with_reducible refine (W_spec_l02Begins.calls (a1.extract (s0_2 : Int).toNat ((wrap64 ((wrap64 (s0_2 + x8_1)) + 1)) : Int).toNat) false _ A17.out).mono ?_); rintro e w' ⟨rfl, ⟨nd, rfl⟩⟩; (try first | exact ⟨rfl, _, World.drewN_drewN _ _ _⟩ | exact ⟨rfl, _, Eq.trans (World.drewN_drewN _ _ _) (congrArg (World.drewN _) (Nat.add_assoc _ _ _))⟩))))
                    go_meet
                    case rel => exact ⟨_, (x8_1), (by first | rfl | (simp; done) | (simp [*]; done)), H', ⟨by have := HK1.out; first | omega | exact Nat.le_refl _⟩, ⟨by repeat (first | (with_reducible first | exact HI0.out | apply IsS100.alloc | apply IsS100.drewN | apply IsS100.drew | apply IsS100.set_0 | apply IsS100.set_1 | apply IsS100.set_2) | exact HI0.out)⟩, ⟨by repeat (first | (with_reducible first | exact HK.out | apply KB100.set_ | apply KB100.drewN | apply KB100.drew | apply KB100.alloc) | exact HK.out)⟩, ⟨by repeat (first | (with_reducible first | exact HB.out | apply below_alloc | apply pw_below_drewN | apply below_drew1 | refine below_set ?_ (IsS100.ge HI0.out)) | exact HB.out)⟩⟩
                · rw [if_neg c16] at H
                  exact absurd H (by simp)
              · rw [if_neg c15] at H
                exact absurd H (by simp)
            · rw [if_neg c14] at H
              exact absurd H (by simp)
          · rw [if_neg c13] at H
            have c13b0 : decide ((wrap64 (s0_2 + x8_1)) < (a1.size : Int)) = false := decide_eq_false c13
            clear c13
            (first | rw [c13b0] | (simp only [i64_w, i32_w]; rw [c13b0]) | skip)
            have H' := Aside0.mk H
            clear H
            obtain ⟨ASz21_0, cSz21_0, ASz21_1, cSz21_1, HGz21, hgz21, HSz21_0, HSz21_1⟩ := HI0.out
            have hcz21_0 := cellS100_0 HGz21
            have hcz21_1 := cellS100_1 HGz21
            have hcz21_2 := cellS100_2 HGz21
            have hfz21_0 := blk_frozen HGz21 0
            have hfz21_1 := blk_frozen HGz21 1
            have hfz21_2 := blk_frozen HGz21 2
            clear HGz21 hgz21
            go_wp2
            repeat (go_quiet (fail); try go_wp2)
            go_meet
            case rel => exact ⟨_, (x8_1), (by first | rfl | (simp; done) | (simp [*]; done)), H', ⟨by have := HK1.out; first | omega | exact Nat.le_refl _⟩, ⟨by repeat (first | (with_reducible first | exact HI0.out | apply IsS100.alloc | apply IsS100.drewN | apply IsS100.drew | apply IsS100.set_0 | apply IsS100.set_1 | apply IsS100.set_2) | exact HI0.out)⟩, ⟨by repeat (first | (with_reducible first | exact HK.out | apply KB100.set_ | apply KB100.drewN | apply KB100.drew | apply KB100.alloc) | exact HK.out)⟩, ⟨by repeat (first | (with_reducible first | exact HB.out | apply below_alloc | apply pw_below_drewN | apply below_drew1 | refine below_set ?_ (IsS100.ge HI0.out)) | exact HB.out)⟩⟩
    case rest =>
      clear HC10
      try clear c1
      try clear p2
      try clear c5
      try clear p6
      try clear c13
      try clear c13b0
      try clear c14
      try clear c14b0
      try clear c14b1
      try clear c15
      try clear c15b0
      try clear c15b1
      try clear c16
      try clear c16b0
      try clear c16b1
      try clear c18
      try clear hcz11_0
      try clear hcz11_1
      try clear hcz11_2
      try clear hcz19_0
      try clear hcz19_1
      try clear hcz19_2
      try clear hcz20_0
      try clear hcz20_1
      try clear hcz20_2
      try clear hcz21_0
      try clear hcz21_1
      try clear hcz21_2
      try clear hcz7_0
      try clear hcz7_1
      try clear hcz7_2
      try clear hfz11_0
      try clear hfz11_1
      try clear hfz11_2
      try clear hfz19_0
      try clear hfz19_1
      try clear hfz19_2
      try clear hfz20_0
      try clear hfz20_1
      try clear hfz20_2
      try clear hfz21_0
      try clear hfz21_1
      try clear hfz21_2
      try clear hfz7_0
      try clear hfz7_1
      try clear hfz7_2
      try clear p2
      obtain ⟨kq, x8_9, rfl, HA, HJ9, HI0, HK, HB⟩ := hcut
      cases kq with
      | zero => exact absurd HA.out (by simp [spec_l02Read_eight.j1])
      | succ kj9 =>
        have H := HA.out
        clear HA
        simp only [spec_l02Read_eight.j1] at H
        have HC22 := Aside0.mk H
        clear H
        go_upto_region 8 with (fail)
        repeat (go_quiet (fail); go_upto_region 8 with (fail))
        go_cut [64] (fun v64 wc => ∃ (kq : Nat) (x64_21 : Bool), v64 = .bool x64_21 ∧ Aside0 (spec_l02Read_eight.j2 kq x8_9 x64_21 s0_0 s0_1 s0_2 = some (r1, r2, r3, r4)) ∧ Aside0 (kq ≤ kj9) ∧ Aside0 (IsS100 w0 wc g s0_0 s0_1 s0_2) ∧ Aside0 (KB100 w wc g none) ∧ Aside0 (Below w0.heap.size w0 wc))
        case first =>
          have H := HC22.out
          clear HC22
          by_cases c23 : (wrap64 (s0_2 + x8_9)) = (a1.size : Int)
          · rw [if_pos c23] at H
            have c23b0 : ((wrap64 (s0_2 + x8_9)) == (a1.size : Int)) = true := beq_iff_eq.mpr c23
            have c23b1 : ((wrap64 (s0_2 + x8_9)) != (a1.size : Int)) = false := bne_eq_false_iff_eq.mpr c23
            clear c23
            (first | rw [c23b0] | (simp only [i64_w, i32_w]; rw [c23b0]) | skip)
            have H' := Aside0.mk H
            clear H
            obtain ⟨ASz24_0, cSz24_0, ASz24_1, cSz24_1, HGz24, hgz24, HSz24_0, HSz24_1⟩ := HI0.out
            have hcz24_0 := cellS100_0 HGz24
            have hcz24_1 := cellS100_1 HGz24
            have hcz24_2 := cellS100_2 HGz24
            have hfz24_0 := blk_frozen HGz24 0
            have hfz24_1 := blk_frozen HGz24 1
            have hfz24_2 := blk_frozen HGz24 2
            clear HGz24 hgz24
            go_wp2
            repeat (go_quiet (fail); try go_wp2)
            go_meet
            case rel => exact ⟨_, (!a2), (by first | rfl | (simp; done) | (simp [*]; done)), H', ⟨by have := HJ9.out; first | omega | exact Nat.le_refl _⟩, ⟨by repeat (first | (with_reducible first | exact HI0.out | apply IsS100.alloc | apply IsS100.drewN | apply IsS100.drew | apply IsS100.set_0 | apply IsS100.set_1 | apply IsS100.set_2) | exact HI0.out)⟩, ⟨by repeat (first | (with_reducible first | exact HK.out | apply KB100.set_ | apply KB100.drewN | apply KB100.drew | apply KB100.alloc) | exact HK.out)⟩, ⟨by repeat (first | (with_reducible first | exact HB.out | apply below_alloc | apply pw_below_drewN | apply below_drew1 | refine below_set ?_ (IsS100.ge HI0.out)) | exact HB.out)⟩⟩
          · rw [if_neg c23] at H
            have c23b0 : ((wrap64 (s0_2 + x8_9)) == (a1.size : Int)) = false := beq_eq_false_iff_ne.mpr c23
            have c23b1 : ((wrap64 (s0_2 + x8_9)) != (a1.size : Int)) = true := bne_iff_ne.mpr c23
            (first | rw [c23b0] | (simp only [i64_w, i32_w]; rw [c23b0]) | skip)
            have H' := Aside0.mk H
            clear H
            obtain ⟨ASz25_0, cSz25_0, ASz25_1, cSz25_1, HGz25, hgz25, HSz25_0, HSz25_1⟩ := HI0.out
            have hcz25_0 := cellS100_0 HGz25
            have hcz25_1 := cellS100_1 HGz25
            have hcz25_2 := cellS100_2 HGz25
            have hfz25_0 := blk_frozen HGz25 0
            have hfz25_1 := blk_frozen HGz25 1
            have hfz25_2 := blk_frozen HGz25 2
            clear HGz25 hgz25
            go_wp2
            repeat (go_quiet (fail); try go_wp2)
            go_meet
            case rel => exact ⟨_, (false), (by first | rfl | (simp; done) | (simp [*]; done)), H', ⟨by have := HJ9.out; first | omega | exact Nat.le_refl _⟩, ⟨by repeat (first | (with_reducible first | exact HI0.out | apply IsS100.alloc | apply IsS100.drewN | apply IsS100.drew | apply IsS100.set_0 | apply IsS100.set_1 | apply IsS100.set_2) | exact HI0.out)⟩, ⟨by repeat (first | (with_reducible first | exact HK.out | apply KB100.set_ | apply KB100.drewN | apply KB100.drew | apply KB100.alloc) | exact HK.out)⟩, ⟨by repeat (first | (with_reducible first | exact HB.out | apply below_alloc | apply pw_below_drewN | apply below_drew1 | refine below_set ?_ (IsS100.ge HI0.out)) | exact HB.out)⟩⟩
        case rest =>
          clear HC22
          try clear c1
          try clear c2
          try clear p2
          try clear c5
          try clear p6
          try clear c13
          try clear c13b0
          try clear c14
          try clear c14b0
          try clear c14b1
          try clear c15
          try clear c15b0
          try clear c15b1
          try clear c16
          try clear c16b0
          try clear c16b1
          try clear c18
          try clear c23
          try clear c23b0
          try clear c23b1
          try clear hcz11_0
          try clear hcz11_1
          try clear hcz11_2
          try clear hcz19_0
          try clear hcz19_1
          try clear hcz19_2
          try clear hcz20_0
          try clear hcz20_1
          try clear hcz20_2
          try clear hcz21_0
          try clear hcz21_1
          try clear hcz21_2
          try clear hcz24_0
          try clear hcz24_1
          try clear hcz24_2
          try clear hcz25_0
          try clear hcz25_1
          try clear hcz25_2
          try clear hcz7_0
          try clear hcz7_1
          try clear hcz7_2
          try clear hfz11_0
          try clear hfz11_1
          try clear hfz11_2
          try clear hfz19_0
          try clear hfz19_1
          try clear hfz19_2
          try clear hfz20_0
          try clear hfz20_1
          try clear hfz20_2
          try clear hfz21_0
          try clear hfz21_1
          try clear hfz21_2
          try clear hfz24_0
          try clear hfz24_1
          try clear hfz24_2
          try clear hfz25_0
          try clear hfz25_1
          try clear hfz25_2
          try clear hfz7_0
          try clear hfz7_1
          try clear hfz7_2
          try clear p2
          try clear p6
          obtain ⟨kq, x64_21, rfl, HA, HJ21, HI0, HK, HB⟩ := hcut
          cases kq with
          | zero => exact absurd HA.out (by simp [spec_l02Read_eight.j2])
          | succ kj21 =>
            have H := HA.out
            clear HA
            simp only [spec_l02Read_eight.j2] at H
            by_cases c26 : x64_21 = true
            · subst c26
              have H1 : (some (false, s0_0, s0_1, s0_2)) = some (r1, r2, r3, r4) := by rw [if_pos rfl] at H; exact H
              clear H
              have H := H1
              clear H1
              simp only [Option.some.injEq, Prod.mk.injEq] at H
              obtain ⟨rfl, rfl, rfl, rfl⟩ := H
              go_wp2
              repeat (go_quiet (fail); try go_wp2)
              go_ret
              exact ⟨by first | rfl | (simp [errW_none, errW_some] <;> rfl) | (simp [*, errW_none, errW_some] <;> rfl), by repeat (first | (with_reducible first | exact HI0.out | apply IsS100.alloc | apply IsS100.drewN | apply IsS100.drew | apply IsS100.set_0 | apply IsS100.set_1 | apply IsS100.set_2) | exact HI0.out), by repeat (first | (with_reducible first | exact HB.out | apply below_alloc | apply pw_below_drewN | apply below_drew1 | refine below_set ?_ (IsS100.ge HI0.out)) | exact HB.out), by repeat (first | (with_reducible first | exact HK.out | apply KB100.set_ | apply KB100.drewN | apply KB100.drew | apply KB100.alloc) | exact HK.out)⟩
            · replace c26 := Bool.eq_false_iff.mpr c26
              subst c26
              have H1 : (if x8_9 = 0 then ((spec_l02Read_piece.f s0_0 s0_1 s0_2 1).bind fun bt142 => (some (true, bt142.1, bt142.2.1, bt142.2.2))) else ((spec_l02Read_piece.f s0_0 s0_1 s0_2 x8_9).bind fun bt145 => (some (true, bt145.1, bt145.2.1, bt145.2.2)))) = some (r1, r2, r3, r4) := by rw [if_neg (show ¬ (false = true) by decide)] at H; exact H
              clear H
              have H := H1
              clear H1
              by_cases c27 : x8_9 = 0
              · rw [if_pos c27] at H
                have c27b0 : (x8_9 == 0) = true := beq_iff_eq.mpr c27
                have c27b1 : (x8_9 != 0) = false := bne_eq_false_iff_eq.mpr c27
                clear c27
                replace H := Option.bind_eq_some_iff.mp H
                obtain ⟨⟨t142, t143, t144⟩, A280, H⟩ := H
                replace H : (some (true, t142, t143, t144)) = some (r1, r2, r3, r4) := H
                have A28 := Aside0.mk A280
                clear A280
                simp only [Option.some.injEq, Prod.mk.injEq] at H
                obtain ⟨rfl, rfl, rfl, rfl⟩ := H
                go_wp2_with (first | (go_at_call 219; (with_reducible refine (spec_l02Read_piece.calls g s0_0 s0_1 s0_2 1 t142 t143 t144 w0 _ ?side1 ?side2 A28.out).mono ?_); (case side1 => repeat (first | (with_reducible first | exact HI0.out | apply IsS100.alloc | apply IsS100.drewN | apply IsS100.drew | apply IsS100.set_0 | apply IsS100.set_1 | apply IsS100.set_2) | exact HI0.out)); (case side2 => repeat (first | (with_reducible first | exact HB.out | apply below_alloc | apply pw_below_drewN | apply below_drew1 | refine below_set ?_ (IsS100.ge HI0.out)) | exact HB.out)); rintro e w29 ⟨rfl, hi, hb, hk⟩; have n0_ := Aside0.mk (KB100.trans (by repeat (first | (with_reducible first | exact HK.out | apply KB100.set_ | apply KB100.drewN | apply KB100.drew | apply KB100.alloc) | exact HK.out)) hk (.inl rfl)); have n1_ := Aside0.mk (hb); have n2_ := Aside0.mk (hi); clear HK; clear HB; clear HI0; have HK := n0_; have HB := n1_; have HI0 := n2_; clear n0_ n1_ n2_; (try clear hb); (try clear hb2); (try clear hk); (try clear hi)))
                repeat (go_quiet (first | (go_at_call 219; (with_reducible refine (spec_l02Read_piece.calls g s0_0 s0_1 s0_2 1 t142 t143 t144 w0 _ ?side1 ?side2 A28.out).mono ?_); (case side1 => repeat (first | (with_reducible first | exact HI0.out | apply IsS100.alloc | apply IsS100.drewN | apply IsS100.drew | apply IsS100.set_0 | apply IsS100.set_1 | apply IsS100.set_2) | exact HI0.out)); (case side2 => repeat (first | (with_reducible first | exact HB.out | apply below_alloc | apply pw_below_drewN | apply below_drew1 | refine below_set ?_ (IsS100.ge HI0.out)) | exact HB.out)); rintro e w29 ⟨rfl, hi, hb, hk⟩; have n0_ := Aside0.mk (KB100.trans (by repeat (first | (with_reducible first | exact HK.out | apply KB100.set_ | apply KB100.drewN | apply KB100.drew | apply KB100.alloc) | exact HK.out)) hk (.inl rfl)); have n1_ := Aside0.mk (hb); have n2_ := Aside0.mk (hi); clear HK; clear HB; clear HI0; have HK := n0_; have HB := n1_; have HI0 := n2_; clear n0_ n1_ n2_; (try clear hb); (try clear hb2); (try clear hk); (try clear hi))); try go_wp2_with (first | (go_at_call 219; (with_reducible refine (spec_l02Read_piece.calls g s0_0 s0_1 s0_2 1 t142 t143 t144 w0 _ ?side1 ?side2 A28.out).mono ?_); (case side1 => repeat (first | (with_reducible first | exact HI0.out | apply IsS100.alloc | apply IsS100.drewN | apply IsS100.drew | apply IsS100.set_0 | apply IsS100.set_1 | apply IsS100.set_2) | exact HI0.out)); (case side2 => repeat (first | (with_reducible first | exact HB.out | apply below_alloc | apply pw_below_drewN | apply below_drew1 | refine below_set ?_ (IsS100.ge HI0.out)) | exact HB.out)); rintro e w29 ⟨rfl, hi, hb, hk⟩; have n0_ := Aside0.mk (KB100.trans (by repeat (first | (with_reducible first | exact HK.out | apply KB100.set_ | apply KB100.drewN | apply KB100.drew | apply KB100.alloc) | exact HK.out)) hk (.inl rfl)); have n1_ := Aside0.mk (hb); have n2_ := Aside0.mk (hi); clear HK; clear HB; clear HI0; have HK := n0_; have HB := n1_; have HI0 := n2_; clear n0_ n1_ n2_; (try clear hb); (try clear hb2); (try clear hk); (try clear hi))))
                go_ret
                exact ⟨by first | rfl | (simp [errW_none, errW_some] <;> rfl) | (simp [*, errW_none, errW_some] <;> rfl), by repeat (first | (with_reducible first | exact HI0.out | apply IsS100.alloc | apply IsS100.drewN | apply IsS100.drew | apply IsS100.set_0 | apply IsS100.set_1 | apply IsS100.set_2) | exact HI0.out), by repeat (first | (with_reducible first | exact HB.out | apply below_alloc | apply pw_below_drewN | apply below_drew1 | refine below_set ?_ (IsS100.ge HI0.out)) | exact HB.out), by repeat (first | (with_reducible first | exact HK.out | apply KB100.set_ | apply KB100.drewN | apply KB100.drew | apply KB100.alloc) | exact HK.out)⟩
              · rw [if_neg c27] at H
                have c27b0 : (x8_9 == 0) = false := beq_eq_false_iff_ne.mpr c27
                have c27b1 : (x8_9 != 0) = true := bne_iff_ne.mpr c27
                replace H := Option.bind_eq_some_iff.mp H
                obtain ⟨⟨t145, t146, t147⟩, A300, H⟩ := H
                replace H : (some (true, t145, t146, t147)) = some (r1, r2, r3, r4) := H
                have A30 := Aside0.mk A300
                clear A300
                simp only [Option.some.injEq, Prod.mk.injEq] at H
                obtain ⟨rfl, rfl, rfl, rfl⟩ := H
                go_wp2_with (first | (go_at_call 219; (with_reducible refine (spec_l02Read_piece.calls g s0_0 s0_1 s0_2 x8_9 t145 t146 t147 w0 _ ?side1 ?side2 A30.out).mono ?_); (case side1 => repeat (first | (with_reducible first | exact HI0.out | apply IsS100.alloc | apply IsS100.drewN | apply IsS100.drew | apply IsS100.set_0 | apply IsS100.set_1 | apply IsS100.set_2) | exact HI0.out)); (case side2 => repeat (first | (with_reducible first | exact HB.out | apply below_alloc | apply pw_below_drewN | apply below_drew1 | refine below_set ?_ (IsS100.ge HI0.out)) | exact HB.out)); rintro e w31 ⟨rfl, hi, hb, hk⟩; have n0_ := Aside0.mk (KB100.trans (by repeat (first | (with_reducible first | exact HK.out | apply KB100.set_ | apply KB100.drewN | apply KB100.drew | apply KB100.alloc) | exact HK.out)) hk (.inl rfl)); have n1_ := Aside0.mk (hb); have n2_ := Aside0.mk (hi); clear HK; clear HB; clear HI0; have HK := n0_; have HB := n1_; have HI0 := n2_; clear n0_ n1_ n2_; (try clear hb); (try clear hb2); (try clear hk); (try clear hi)))
                repeat (go_quiet (first | (go_at_call 219; (with_reducible refine (spec_l02Read_piece.calls g s0_0 s0_1 s0_2 x8_9 t145 t146 t147 w0 _ ?side1 ?side2 A30.out).mono ?_); (case side1 => repeat (first | (with_reducible first | exact HI0.out | apply IsS100.alloc | apply IsS100.drewN | apply IsS100.drew | apply IsS100.set_0 | apply IsS100.set_1 | apply IsS100.set_2) | exact HI0.out)); (case side2 => repeat (first | (with_reducible first | exact HB.out | apply below_alloc | apply pw_below_drewN | apply below_drew1 | refine below_set ?_ (IsS100.ge HI0.out)) | exact HB.out)); rintro e w31 ⟨rfl, hi, hb, hk⟩; have n0_ := Aside0.mk (KB100.trans (by repeat (first | (with_reducible first | exact HK.out | apply KB100.set_ | apply KB100.drewN | apply KB100.drew | apply KB100.alloc) | exact HK.out)) hk (.inl rfl)); have n1_ := Aside0.mk (hb); have n2_ := Aside0.mk (hi); clear HK; clear HB; clear HI0; have HK := n0_; have HB := n1_; have HI0 := n2_; clear n0_ n1_ n2_; (try clear hb); (try clear hb2); (try clear hk); (try clear hi))); try go_wp2_with (first | (go_at_call 219; (with_reducible refine (spec_l02Read_piece.calls g s0_0 s0_1 s0_2 x8_9 t145 t146 t147 w0 _ ?side1 ?side2 A30.out).mono ?_); (case side1 => repeat (first | (with_reducible first | exact HI0.out | apply IsS100.alloc | apply IsS100.drewN | apply IsS100.drew | apply IsS100.set_0 | apply IsS100.set_1 | apply IsS100.set_2) | exact HI0.out)); (case side2 => repeat (first | (with_reducible first | exact HB.out | apply below_alloc | apply pw_below_drewN | apply below_drew1 | refine below_set ?_ (IsS100.ge HI0.out)) | exact HB.out)); rintro e w31 ⟨rfl, hi, hb, hk⟩; have n0_ := Aside0.mk (KB100.trans (by repeat (first | (with_reducible first | exact HK.out | apply KB100.set_ | apply KB100.drewN | apply KB100.drew | apply KB100.alloc) | exact HK.out)) hk (.inl rfl)); have n1_ := Aside0.mk (hb); have n2_ := Aside0.mk (hi); clear HK; clear HB; clear HI0; have HK := n0_; have HB := n1_; have HI0 := n2_; clear n0_ n1_ n2_; (try clear hb); (try clear hb2); (try clear hk); (try clear hi))))
                go_ret
                exact ⟨by first | rfl | (simp [errW_none, errW_some] <;> rfl) | (simp [*, errW_none, errW_some] <;> rfl), by repeat (first | (with_reducible first | exact HI0.out | apply IsS100.alloc | apply IsS100.drewN | apply IsS100.drew | apply IsS100.set_0 | apply IsS100.set_1 | apply IsS100.set_2) | exact HI0.out), by repeat (first | (with_reducible first | exact HB.out | apply below_alloc | apply pw_below_drewN | apply below_drew1 | refine below_set ?_ (IsS100.ge HI0.out)) | exact HB.out), by repeat (first | (with_reducible first | exact HK.out | apply KB100.set_ | apply KB100.drewN | apply KB100.drew | apply KB100.alloc) | exact HK.out)⟩

def W_spec_l02Read_eight.f (p b : List Int) (u : Int) (a1 : ByteArray) (a2 : Bool) : Option (Bool × List Int × List Int × Int) := if 0 ≤ u ∧ u < (a1.size : Int) ∧ a1.size ≤ 1099511627776 ∧ p.length ≤ 1099511627776 ∧ b.length ≤ 1099511627776 then some (YtnonijganceneaaDoorDec.step (YtnonijganceneaaDoorDec.piece8 ((bytesOf a1).drop u.toNat)) a2 p b u) else none
theorem spec_l02Read_eight.drop_ne (s : ByteArray) (u : Nat) (h : u < s.size) : (bytesOf s).drop u ≠ [] := by
  intro e; have := congrArg List.length e; rw [List.length_drop, bytesOf_length] at this; simp at this; omega
theorem spec_l02Read_eight.drop_bytes (s : ByteArray) (u : Nat) : ∀ b ∈ (bytesOf s).drop u, 0 ≤ b ∧ b < 256 := fun b h => YtnonijganceneaaDoorPts.bytes_range s b (List.mem_of_mem_drop h)
theorem spec_l02Read_eight.extract (s : ByteArray) (i j : Nat) : bytesOf (s.extract i j) = ((bytesOf s).drop i).take (j - i) := by
  unfold bytesOf
  rw [← List.map_drop, ← List.map_take]
  congr 1
  simp only [ByteArray.data_extract, Array.toList_extract, List.extract_eq_take_drop]
theorem spec_l02Read_eight.beg (s : ByteArray) (u j : Nat) (hu : u + j < s.size) (hs : s.size ≤ 1099511627776) :
    W_spec_l02Begins.f (s.extract u (u + j + 1)) = some (YtnonijganceneaaDoorDec.beginsN (j + 1) (((bytesOf s).drop u).getD 0 0) (((bytesOf s).drop u).getD 1 0) (((bytesOf s).drop u).getD 2 0)) := by
  have hz : (s.extract u (u + j + 1)).size = j + 1 := by simp; omega
  unfold W_spec_l02Begins.f
  rw [if_pos (by omega)]
  unfold YtnonijganceneaaDoorDec.begins
  rw [spec_l02Read_eight.extract, show u + j + 1 - u = j + 1 by omega]
  have hl : (((bytesOf s).drop u).take (j + 1)).length = j + 1 := by rw [List.length_take, List.length_drop, bytesOf_length]; omega
  rw [hl]
  obtain ⟨L, hL⟩ : ∃ L, (bytesOf s).drop u = L := ⟨_, rfl⟩
  rw [hL]
  have g : ∀ i, i < j + 1 → (L.take (j + 1)).getD i 0 = L.getD i 0 := by
    intro i hi
    simp [List.getD, List.getElem?_take, hi]
  rw [g 0 (by omega)]
  by_cases c1 : j = 0
  · subst c1
    unfold YtnonijganceneaaDoorDec.beginsN
    simp
  · rw [g 1 (by omega)]
    by_cases c2 : j = 1
    · subst c2
      unfold YtnonijganceneaaDoorDec.beginsN
      simp
    · rw [g 2 (by omega)]
theorem spec_l02Read_eight.fin (k : Nat) (s : ByteArray) (last : Bool) (p b : List Int) (u : Nat) (n : Nat) (hu : u < s.size) (hs : s.size ≤ 1099511627776) (hp : p.length ≤ 1099511627776) (hb : b.length ≤ 1099511627776) (hn : n ≤ 4) :
    spec_l02Read_eight.j1 (k + 2) s last (n : Int) p b (u : Int) = some (if (decide (u + n = s.size) && !last) = true then (false, p, b, (u : Int)) else (true, p ++ [65533], b ++ [(u : Int)], (u : Int) + ((if n = 0 then 1 else n : Nat) : Int))) := by
  have hj : ∀ c : Bool, spec_l02Read_eight.j2 (k + 1) (n : Int) c p b (u : Int) = some (if c = true then (false, p, b, (u : Int)) else (true, p ++ [65533], b ++ [(u : Int)], (u : Int) + ((if n = 0 then 1 else n : Nat) : Int))) := by
    intro c
    rw [spec_l02Read_eight.j2]
    cases c
    · simp only [Bool.false_eq_true, if_false]
      have hpc : ∀ m : Int, spec_l02Read_piece.f p b (u : Int) m = some (p ++ [65533], b ++ [(u : Int)], wrap64 ((u : Int) + m)) := by
        intro m
        unfold spec_l02Read_piece.f
        rw [if_pos ⟨hp, hb⟩]
      rw [hpc, hpc]
      simp only [Option.bind_some]
      by_cases z : n = 0
      · subst z
        have : wrap64 ((u : Int) + 1) = (u : Int) + ((1 : Nat) : Int) := by unfold wrap64; omega
        rw [if_pos (by simp), this]
        rfl
      · have : wrap64 ((u : Int) + (n : Int)) = (u : Int) + (n : Int) := by unfold wrap64; omega
        rw [if_neg (by omega), if_neg z, this]
    · rw [if_pos rfl, if_pos rfl]
  have hw : wrap64 ((u : Int) + (n : Int)) = (u : Int) + (n : Int) := by unfold wrap64; omega
  rw [spec_l02Read_eight.j1, hw]
  by_cases c : u + n = s.size
  · rw [if_pos (by omega), hj, decide_eq_true c, Bool.true_and]
  · rw [if_neg (by omega), hj, decide_eq_false c, Bool.false_and]
theorem spec_l02Read_eight.loop (s : ByteArray) (last : Bool) (p b : List Int) (u : Nat) (hu : u < s.size) (hs : s.size ≤ 1099511627776) (hp : p.length ≤ 1099511627776) (hb : b.length ≤ 1099511627776) (n : Nat)
    (hn : n = YtnonijganceneaaDoorDec.preN (s.size - u) (((bytesOf s).drop u).getD 0 0) (((bytesOf s).drop u).getD 1 0) (((bytesOf s).drop u).getD 2 0)) (k : Nat) :
    spec_l02Read_eight.l0 (k + 6) s last 0 p b (u : Int) = spec_l02Read_eight.j1 (k + 5 - n) s last (n : Int) p b (u : Int) := by
  have hst := YtnonijganceneaaDoorDec.begins_steps (len := s.size - u) (c0 := ((bytesOf s).drop u).getD 0 0) (c1 := ((bytesOf s).drop u).getD 1 0) (c2 := ((bytesOf s).drop u).getD 2 0)
  rw [← hn] at hst
  have hg := fun j hj => spec_l02Read_eight.beg s u j hj hs
  have hr : ∀ (k j : Nat), j < 4 → u + j < s.size → spec_l02Read_eight.l0 (k + 1) s last (j : Int) p b (u : Int) = if YtnonijganceneaaDoorDec.beginsN (j + 1) (((bytesOf s).drop u).getD 0 0) (((bytesOf s).drop u).getD 1 0) (((bytesOf s).drop u).getD 2 0) = true then spec_l02Read_eight.l0 k s last ((j + 1 : Nat) : Int) p b (u : Int) else spec_l02Read_eight.j1 k s last (j : Int) p b (u : Int) := by
    intro k j hj hlt
    have w1 : wrap64 ((u : Int) + (j : Int)) = ((u + j : Nat) : Int) := by unfold wrap64; omega
    have w2 : wrap64 (((u + j : Nat) : Int) + 1) = ((u + j + 1 : Nat) : Int) := by unfold wrap64; omega
    have w3 : wrap64 ((j : Int) + 1) = ((j + 1 : Nat) : Int) := by unfold wrap64; omega
    rw [spec_l02Read_eight.l0, w1, w2, w3, if_pos (by omega), if_pos (by omega), if_pos (by omega), if_pos (by omega)]
    simp only [Int.toNat_natCast]
    rw [hg j hlt]
    rfl
  have hend : ∀ (k j : Nat), j < 5 → s.size ≤ u + j → spec_l02Read_eight.l0 (k + 1) s last (j : Int) p b (u : Int) = spec_l02Read_eight.j1 k s last (j : Int) p b (u : Int) := by
    intro k j hj hle
    have w1 : wrap64 ((u : Int) + (j : Int)) = ((u + j : Nat) : Int) := by unfold wrap64; omega
    rw [spec_l02Read_eight.l0, w1, if_neg (by omega)]
  clear hg
  obtain ⟨c0, e0⟩ : ∃ c, ((bytesOf s).drop u).getD 0 0 = c := ⟨_, rfl⟩
  obtain ⟨c1, e1⟩ : ∃ c, ((bytesOf s).drop u).getD 1 0 = c := ⟨_, rfl⟩
  obtain ⟨c2, e2⟩ : ∃ c, ((bytesOf s).drop u).getD 2 0 = c := ⟨_, rfl⟩
  rw [e0, e1, e2] at hst
  rw [e0, e1, e2] at hr
  obtain ⟨s1, s2, s3, s4, s5, s6, s7⟩ := hst
  clear hn e0 e1 e2
  have no : ∀ j, (¬ YtnonijganceneaaDoorDec.beginsN j c0 c1 c2 = true) → YtnonijganceneaaDoorDec.beginsN j c0 c1 c2 = false := fun j h => by simpa using h
  rw [show (0 : Int) = ((0 : Nat) : Int) from rfl, hr (k + 5) 0 (by omega) (by omega)]
  by_cases g1 : YtnonijganceneaaDoorDec.beginsN 1 c0 c1 c2 = true
  · rw [if_pos g1]
    have n1 := s1.1 g1
    by_cases z1 : u + 1 < s.size
    · rw [hr (k + 4) 1 (by omega) z1]
      by_cases g2 : YtnonijganceneaaDoorDec.beginsN 2 c0 c1 c2 = true
      · rw [if_pos g2]
        have n2 := (s2 (by omega) n1).1 g2
        by_cases z2 : u + 2 < s.size
        · rw [hr (k + 3) 2 (by omega) z2]
          by_cases g3 : YtnonijganceneaaDoorDec.beginsN 3 c0 c1 c2 = true
          · rw [if_pos g3]
            have n3 := (s4 (by omega) n2).1 g3
            obtain rfl : n = 3 := by omega
            by_cases z3 : u + 3 < s.size
            · rw [hr (k + 2) 3 (by omega) z3, if_neg (by rw [s6]; decide)]; rfl
            · rw [hend (k + 2) 3 (by omega) (by omega)]; rfl
          · rw [if_neg g3]
            obtain rfl : n = 2 := by
              have : ¬ 3 ≤ n := fun z => g3 ((s4 (by omega) n2).2 z)
              omega
            rfl
        · rw [hend (k + 3) 2 (by omega) (by omega)]
          obtain rfl : n = 2 := by have := s5 (by omega); omega
          rfl
      · rw [if_neg g2]
        obtain rfl : n = 1 := by
          have : ¬ 2 ≤ n := fun z => g2 ((s2 (by omega) n1).2 z)
          omega
        rfl
    · rw [hend (k + 4) 1 (by omega) (by omega)]
      obtain rfl : n = 1 := by have := s3 (by omega); omega
      rfl
  · rw [if_neg g1]
    obtain rfl : n = 0 := by
      have : ¬ 1 ≤ n := fun z => g1 (s1.2 z)
      omega
    rfl
theorem W_spec_l02Read_eight.to {p b : List Int} {u : Int} {a1 : ByteArray} {a2 : Bool} {r : Bool × List Int × List Int × Int} (h : W_spec_l02Read_eight.f p b u a1 a2 = some r) : ∃ k, spec_l02Read_eight.f k p b u a1 a2 = some r := by
  unfold W_spec_l02Read_eight.f at h
  split at h
  · rename_i hc
    obtain ⟨h0, h1, h2, h3, h4⟩ := hc
    obtain ⟨u, rfl⟩ : ∃ n : Nat, u = n := ⟨u.toNat, by omega⟩
    refine ⟨9, ?_⟩
    rw [← h]
    unfold spec_l02Read_eight.f W_spec_l01Next.f
    rw [if_pos ⟨h0, h1, h2⟩]
    simp only [Option.bind_some, Int.toNat_natCast]
    have hd : spec_l01Next.d a1 (u : Int) = YtnonijganceneaaDoorPts.dec ((bytesOf a1).drop u) := rfl
    have hbt : bt a1 (u : Int) = ((bytesOf a1).drop u).getD 0 0 := by
      rw [← rd_bytesOf]; simp [rd, List.getD, List.getElem?_drop]
    have hlen : ((bytesOf a1).drop u).length = a1.size - u := by rw [List.length_drop, bytesOf_length]
    have hcd := YtnonijganceneaaDoorDec.could_dec (spec_l02Read_eight.drop_ne a1 u (by omega)) (spec_l02Read_eight.drop_bytes a1 u)
    have hpos := @YtnonijganceneaaDoorDec.could_pos ((bytesOf a1).drop u)
    have hpre := @YtnonijganceneaaDoorDec.pre_could ((bytesOf a1).drop u).length (((bytesOf a1).drop u).getD 0 0) (((bytesOf a1).drop u).getD 1 0) (((bytesOf a1).drop u).getD 2 0) (((bytesOf a1).drop u).getD 3 0)
    have hlp := fun n hn => spec_l02Read_eight.loop a1 a2 p b u (by omega) h2 h3 h4 n hn 3
    rw [hd, hbt]
    rw [hlen] at hcd hpre
    have hpre : (YtnonijganceneaaDoorDec.could ((bytesOf a1).drop u)).2 = false → (YtnonijganceneaaDoorDec.could ((bytesOf a1).drop u)).1 = YtnonijganceneaaDoorDec.preN (a1.size - u) (((bytesOf a1).drop u).getD 0 0) (((bytesOf a1).drop u).getD 1 0) (((bytesOf a1).drop u).getD 2 0) := by
      have e : YtnonijganceneaaDoorDec.could ((bytesOf a1).drop u) = YtnonijganceneaaDoorDec.couldN (a1.size - u) (((bytesOf a1).drop u).getD 0 0) (((bytesOf a1).drop u).getD 1 0) (((bytesOf a1).drop u).getD 2 0) (((bytesOf a1).drop u).getD 3 0) := by unfold YtnonijganceneaaDoorDec.could; rw [hlen]
      rw [e]; exact hpre
    obtain ⟨L, hL⟩ : ∃ L, (bytesOf a1).drop u = L := ⟨_, rfl⟩
    rw [hL] at hcd hpos hpre hlp hlen ⊢
    by_cases c : (YtnonijganceneaaDoorDec.could L).2 = true
    · obtain ⟨d1, d2⟩ := hcd.2.2.1 c
      have hp1 := hpos c
      have e8 : YtnonijganceneaaDoorDec.piece8 L = ((YtnonijganceneaaDoorPts.dec L).1, (YtnonijganceneaaDoorDec.could L).1, false, false) := by
        unfold YtnonijganceneaaDoorDec.piece8; rw [if_neg (by omega), if_pos c]
      rw [e8, if_pos (decide_eq_true d2), d1]
      unfold spec_l02Read_point.f
      rw [if_pos h3]
      simp only [Option.bind_some]
      have hw : wrap64 ((u : Int) + ((YtnonijganceneaaDoorDec.could L).1 : Int)) = (u : Int) + ((YtnonijganceneaaDoorDec.could L).1 : Int) := by unfold wrap64; omega
      rw [hw]
      rfl
    · have c := Bool.eq_false_iff.mpr c
      obtain ⟨d1, d2⟩ := hcd.2.2.2 c
      have e := hpre c
      rw [if_neg (by rw [d1]; simpa using d2), hlp _ e]
      have e8 : YtnonijganceneaaDoorDec.piece8 L = if (YtnonijganceneaaDoorDec.could L).1 = 0 then (65533, 1, true, false) else (65533, (YtnonijganceneaaDoorDec.could L).1, true, decide ((YtnonijganceneaaDoorDec.could L).1 = L.length)) := by
        unfold YtnonijganceneaaDoorDec.piece8
        by_cases z : (YtnonijganceneaaDoorDec.could L).1 = 0
        · rw [if_pos z, if_pos z]
        · rw [if_neg z, if_neg z, if_neg (by rw [c]; decide)]
      rw [e8]
      obtain ⟨n, hn⟩ : ∃ n, (YtnonijganceneaaDoorDec.could L).1 = n := ⟨_, rfl⟩
      rw [hn] at hcd ⊢
      obtain ⟨m, hm⟩ : ∃ m, 3 + 5 - n = m + 2 := ⟨6 - n, by omega⟩
      rw [hm, spec_l02Read_eight.fin m a1 a2 p b u n (by omega) h2 h3 h4 (by omega)]
      by_cases z : n = 0
      · subst z
        rw [decide_eq_false (by omega)]
        rfl
      · rw [if_neg z, if_neg z, hlen]
        have : decide (u + n = a1.size) = decide (n = a1.size - u) := decide_eq_decide.2 ⟨fun _ => by omega, fun _ => by omega⟩
        rw [this]
        rfl
  · cases h
theorem W_spec_l02Read_eight.calls (g : Nat) (s0_0 : List Int) (s0_1 : List Int) (s0_2 : Int) (a1 : ByteArray) (a2 : Bool) (r1 : Bool) (r2 : List Int) (r3 : List Int) (r4 : Int) (w0 w : World) (hI : IsS100 w0 w g s0_0 s0_1 s0_2) (hB : Below w0.heap.size w0 w) (h : W_spec_l02Read_eight.f s0_0 s0_1 s0_2 a1 a2 = some (r1, r2, r3, r4)) :
    Calls Tryd.prog 182 #[.pointer (some ⟨g, 0, none⟩), .string a1, .bool a2] w fun e w' => e = .returned (.bool r1) ∧ IsS100 w0 w' g r2 r3 r4 ∧ Below w0.heap.size w0 w' ∧ KB100 w w' g none := by
  obtain ⟨k, hk⟩ := W_spec_l02Read_eight.to h
  exact spec_l02Read_eight.calls k g s0_0 s0_1 s0_2 a1 a2 r1 r2 r3 r4 w0 w hI hB hk

end Go.Proofs.YtnonijganceneaaDoor.QFnExactFeedDecoder
