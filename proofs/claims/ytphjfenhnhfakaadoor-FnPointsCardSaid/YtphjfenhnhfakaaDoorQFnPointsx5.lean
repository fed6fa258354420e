/- The law FnPoints: at every input the call answers true (this text: contracts on its way, by a program of this session's; no condition of ours). -/
import Derived.Test.YtphjfenhnhfakaaDoorQFnPointsx0
import Derived.Test.YtphjfenhnhfakaaDoorQFnPointsx1
import Derived.Test.YtphjfenhnhfakaaDoorQFnPointsx2
import Derived.Test.YtphjfenhnhfakaaDoorQFnPointsx4
namespace Go.Proofs.YtphjfenhnhfakaaDoor.QFnPoints
open Go.RowKit Go.Proofs.YtphjfenhnhfakaaDoorW.PrintWords Go.Proofs.YtphjfenhnhfakaaDoorW.PrintLast Go.Proofs.YtphjfenhnhfakaaDoorW.PrintMore
attribute [local go_sem] max2_int min2_int max_two min_two max_three min_three max_four min_four   -- for this text's walks alone
set_option linter.unusedVariables false
set_option linter.unusedSimpArgs false

/-! ### spec_l01Src_text: function 36 -/
def spec_l01Src_text.j0 : Nat → ByteArray → List Int → Int → Int → Int → Option (ByteArray × Int × Int × Int)
  | 0, _, _, _, _, _ => none
  | k + 1, x3, x1000, x1001, x1002, x1003 => (spec_l01Src_one.f x1000 x1001 x1002 x1003 200).bind fun bt394 => (if bt394.1 = true then ((spec_l01Src_n.f x1000 bt394.2.1 bt394.2.2.1 bt394.2.2.2 3).bind fun bt398 => ((spec_l01Src_long.f k x1000 bt398.2.1 bt398.2.2.1 bt398.2.2.2 (⟨#[97, 98]⟩ : ByteArray) (wrap64 (65535 + bt398.1))).bind fun bt402 => (some (bt402.1, bt402.2.1, bt402.2.2.1, bt402.2.2.2)))) else (some (x3, bt394.2.1, bt394.2.2.1, bt394.2.2.2)))
def spec_l01Src_text.f (k : Nat) (s0_0 : List Int) (s0_1 : Int) (s0_2 : Int) (s0_3 : Int) : Option (ByteArray × Int × Int × Int) := (spec_l01Src_n.f s0_0 s0_1 s0_2 s0_3 (wrap64 (8 + (wrap64 (2 * s0_3))))).bind fun bt378 => ((spec_l01Src_textOf.f k s0_0 bt378.2.1 bt378.2.2.1 bt378.2.2.2 bt378.1).bind fun bt382 => ((spec_l01Src_one.f s0_0 bt382.2.1 bt382.2.2.1 bt382.2.2.2 12).bind fun bt386 => (if bt386.1 = true then ((spec_l01Src_spoil.f k s0_0 bt386.2.1 bt386.2.2.1 bt386.2.2.2 bt382.1).bind fun bt390 => (spec_l01Src_text.j0 k bt390.1 s0_0 bt390.2.1 bt390.2.2.1 bt390.2.2.2)) else (spec_l01Src_text.j0 k bt382.1 s0_0 bt386.2.1 bt386.2.2.1 bt386.2.2.2))))
theorem spec_l01Src_text.mono_l : ∀ k, (∀ y0 y1 y2 y3 y4, LeO (spec_l01Src_text.j0 k y0 y1 y2 y3 y4) (spec_l01Src_text.j0 (k + 1) y0 y1 y2 y3 y4))
  | 0 => fun _ _ _ _ _ r h => by simp [spec_l01Src_text.j0] at h
  | k + 1 => by
    have ih0 := spec_l01Src_text.mono_l k
    · intro y0 y1 y2 y3 y4
      unfold spec_l01Src_text.j0
      repeat' first
      | (with_reducible exact ih0 _ _ _ _ _)
      | (with_reducible exact spec_l01Src_long.mono _ _ _ _ _ _ _)
      | (with_reducible exact spec_l01Src_spoil.mono _ _ _ _ _ _)
      | (with_reducible exact spec_l01Src_textOf.mono _ _ _ _ _ _)
      | (with_reducible exact LeO.refl _)
      | (with_reducible exact LeO.none _)
      | (with_reducible refine LeO.ite ?_ ?_)
      | (with_reducible refine LeO.bind ?_ (fun _ => ?_))
      | exact ih0 _ _ _ _ _
      | exact spec_l01Src_long.mono _ _ _ _ _ _ _
      | exact spec_l01Src_spoil.mono _ _ _ _ _ _
      | exact spec_l01Src_textOf.mono _ _ _ _ _ _
      | exact LeO.none _
      | refine LeO.ite ?_ ?_
      | refine LeO.bind ?_ (fun _ => ?_)
theorem spec_l01Src_text.mono : ∀ a0 a1 a2 a3 k, LeO (spec_l01Src_text.f k a0 a1 a2 a3) (spec_l01Src_text.f (k + 1) a0 a1 a2 a3) := by
  intro a0 a1 a2 a3 k
  have ih0 := spec_l01Src_text.mono_l k
  unfold spec_l01Src_text.f
  repeat' first
      | (with_reducible exact ih0 _ _ _ _ _)
      | (with_reducible exact spec_l01Src_long.mono _ _ _ _ _ _ _)
      | (with_reducible exact spec_l01Src_spoil.mono _ _ _ _ _ _)
      | (with_reducible exact spec_l01Src_textOf.mono _ _ _ _ _ _)
      | (with_reducible exact LeO.refl _)
      | (with_reducible exact LeO.none _)
      | (with_reducible refine LeO.ite ?_ ?_)
      | (with_reducible refine LeO.bind ?_ (fun _ => ?_))
      | exact ih0 _ _ _ _ _
      | exact spec_l01Src_long.mono _ _ _ _ _ _ _
      | exact spec_l01Src_spoil.mono _ _ _ _ _ _
      | exact spec_l01Src_textOf.mono _ _ _ _ _ _
      | exact LeO.none _
      | refine LeO.ite ?_ ?_
      | refine LeO.bind ?_ (fun _ => ?_)
set_option maxHeartbeats 8000000 in
set_option maxRecDepth 100000 in
theorem spec_l01Src_text.calls (k : Nat) (g : Nat) (s0_0 : List Int) (s0_1 : Int) (s0_2 : Int) (s0_3 : Int) (r1 : ByteArray) (r2 : Int) (r3 : Int) (r4 : Int) (w0 w : World) (hI : IsS84 w0 w g s0_0 s0_1 s0_2 s0_3) (hB : Below w0.heap.size w0 w) (h : spec_l01Src_text.f k s0_0 s0_1 s0_2 s0_3 = some (r1, r2, r3, r4)) :
    Calls Tryd.prog 36 #[.pointer (some ⟨g, 0, none⟩)] w fun e w' => e = .returned (.string r1) ∧ IsS84 w0 w' g s0_0 r2 r3 r4 ∧ Below w0.heap.size w0 w' ∧ KeepBut w w' g none := by
  have HI0 := Aside0.mk hI
  have HK := Aside0.mk (KeepBut.refl w g none)
  have HL := Aside0.mk hB.size
  clear hI
  have HW0 := Aside0.mk hB.size
  have HB := Aside0.mk hB
  clear hB
  have H : ((spec_l01Src_n.f s0_0 s0_1 s0_2 s0_3 (wrap64 (8 + (wrap64 (2 * s0_3))))).bind fun bt378 => ((spec_l01Src_textOf.f k s0_0 bt378.2.1 bt378.2.2.1 bt378.2.2.2 bt378.1).bind fun bt382 => ((spec_l01Src_one.f s0_0 bt382.2.1 bt382.2.2.1 bt382.2.2.2 12).bind fun bt386 => (if bt386.1 = true then ((spec_l01Src_spoil.f k s0_0 bt386.2.1 bt386.2.2.1 bt386.2.2.2 bt382.1).bind fun bt390 => (spec_l01Src_text.j0 k bt390.1 s0_0 bt390.2.1 bt390.2.2.1 bt390.2.2.2)) else (spec_l01Src_text.j0 k bt382.1 s0_0 bt386.2.1 bt386.2.2.1 bt386.2.2.2))))) = some (r1, r2, r3, r4) := h
  clear h
  replace H := Option.bind_eq_some_iff.mp H
  obtain ⟨⟨t378, t379, t380, t381⟩, A20, H⟩ := H
  replace H : ((spec_l01Src_textOf.f k s0_0 t379 t380 t381 t378).bind fun bt382 => ((spec_l01Src_one.f s0_0 bt382.2.1 bt382.2.2.1 bt382.2.2.2 12).bind fun bt386 => (if bt386.1 = true then ((spec_l01Src_spoil.f k s0_0 bt386.2.1 bt386.2.2.1 bt386.2.2.2 bt382.1).bind fun bt390 => (spec_l01Src_text.j0 k bt390.1 s0_0 bt390.2.1 bt390.2.2.1 bt390.2.2.2)) else (spec_l01Src_text.j0 k bt382.1 s0_0 bt386.2.1 bt386.2.2.1 bt386.2.2.2)))) = some (r1, r2, r3, r4) := H
  have A2 := Aside0.mk A20
  clear A20
  replace H := Option.bind_eq_some_iff.mp H
  obtain ⟨⟨t382, t383, t384, t385⟩, A30, H⟩ := H
  replace H : ((spec_l01Src_one.f s0_0 t383 t384 t385 12).bind fun bt386 => (if bt386.1 = true then ((spec_l01Src_spoil.f k s0_0 bt386.2.1 bt386.2.2.1 bt386.2.2.2 t382).bind fun bt390 => (spec_l01Src_text.j0 k bt390.1 s0_0 bt390.2.1 bt390.2.2.1 bt390.2.2.2)) else (spec_l01Src_text.j0 k t382 s0_0 bt386.2.1 bt386.2.2.1 bt386.2.2.2))) = some (r1, r2, r3, r4) := H
  have A3 := Aside0.mk A30
  clear A30
  replace H := Option.bind_eq_some_iff.mp H
  obtain ⟨⟨t386, t387, t388, t389⟩, A40, H⟩ := H
  replace H : (if t386 = true then ((spec_l01Src_spoil.f k s0_0 t387 t388 t389 t382).bind fun bt390 => (spec_l01Src_text.j0 k bt390.1 s0_0 bt390.2.1 bt390.2.2.1 bt390.2.2.2)) else (spec_l01Src_text.j0 k t382 s0_0 t387 t388 t389)) = some (r1, r2, r3, r4) := H
  have A4 := Aside0.mk A40
  clear A40
  have HC5 := Aside0.mk H
  clear H
  obtain ⟨ASz6_0, cSz6_0, HGz6, hgz6, HSz6_0⟩ := HI0.out
  have hcz6_0 := cellS84_0 HGz6
  have hcz6_1 := cellS84_1 HGz6
  have hcz6_2 := cellS84_2 HGz6
  have hcz6_3 := cellS84_3 HGz6
  have hfz6_1 := blk_frozen HGz6 1
  have hfz6_2 := blk_frozen HGz6 2
  have hfz6_3 := blk_frozen HGz6 3
  clear HGz6 hgz6
  go_enter Tryd.func36, Tryd.ntmps36
  go_upto_if 15 with (first | ((with_reducible refine gate_callee (f := 67) rfl ?_); refine goesL_ (some 12) rfl rfl Tryd.func67 (by kernel_rfl) rfl #[.pointer (some ⟨g, 0, none⟩), .int .i64 (wrap64 (8 + (wrap64 (2 * s0_3))))] rfl (by (try simp only [List.map_toArray, List.map_cons, List.map_nil]); first | done | rfl | (simp only [List.length_drop, List.length_take]; rfl)) ?_; (with_reducible refine (spec_l01Src_n.calls g s0_0 s0_1 s0_2 s0_3 (wrap64 (8 + (wrap64 (2 * s0_3)))) t378 t379 t380 t381 w0 _ ?side1 ?side2 A2.out).mono ?_); (case side1 => repeat (first | (with_reducible first | exact HI0.out | apply IsS84.alloc | apply IsS84.drewN | apply IsS84.drew | apply IsS84.set_1 | apply IsS84.set_2 | apply IsS84.set_3) | exact HI0.out)); (case side2 => repeat (first | (with_reducible first | exact HB.out | apply below_alloc | apply pw_below_drewN | apply below_drew1 | refine below_set ?_ (IsS84.ge HI0.out)) | exact HB.out)); rintro e w7 ⟨rfl, hi, hb, hk⟩; refine ⟨_, rfl, ?_⟩; have n0_ := Aside0.mk (KeepBut.trans (by repeat (first | (with_reducible first | exact HK.out | apply KeepBut.set_ | apply keep_drewN | apply keep_drew | apply keep_alloc) | exact HK.out)) hk (.inl rfl)); have n1_ := Aside0.mk (hb); have n2_ := Aside0.mk (hi); clear HK; clear HB; clear HI0; have HK := n0_; have HB := n1_; have HI0 := n2_; clear n0_ n1_ n2_; (try clear hb); (try clear hb2); (try clear hk); (try clear hi)) | ((with_reducible refine gate_callee (f := 66) rfl ?_); refine goesL_ (some 13) rfl rfl Tryd.func66 (by kernel_rfl) rfl #[.pointer (some ⟨g, 0, none⟩), .int .i64 t378] rfl (by (try simp only [List.map_toArray, List.map_cons, List.map_nil]); first | done | rfl | (simp only [List.length_drop, List.length_take]; rfl)) ?_; (with_reducible refine (spec_l01Src_textOf.calls k g s0_0 t379 t380 t381 t378 t382 t383 t384 t385 w0 _ ?side1 ?side2 A3.out).mono ?_); (case side1 => repeat (first | (with_reducible first | exact HI0.out | apply IsS84.alloc | apply IsS84.drewN | apply IsS84.drew | apply IsS84.set_1 | apply IsS84.set_2 | apply IsS84.set_3) | exact HI0.out)); (case side2 => repeat (first | (with_reducible first | exact HB.out | apply below_alloc | apply pw_below_drewN | apply below_drew1 | refine below_set ?_ (IsS84.ge HI0.out)) | exact HB.out)); rintro e w8 ⟨rfl, hi, hb, hk⟩; refine ⟨_, rfl, ?_⟩; have n0_ := Aside0.mk (KeepBut.trans (by repeat (first | (with_reducible first | exact HK.out | apply KeepBut.set_ | apply keep_drewN | apply keep_drew | apply keep_alloc) | exact HK.out)) hk (.inl rfl)); have n1_ := Aside0.mk (hb); have n2_ := Aside0.mk (hi); clear HK; clear HB; clear HI0; have HK := n0_; have HB := n1_; have HI0 := n2_; clear n0_ n1_ n2_; (try clear hb); (try clear hb2); (try clear hk); (try clear hi)) | ((with_reducible refine gate_callee (f := 68) rfl ?_); refine goesL_ (some 15) rfl rfl Tryd.func68 (by kernel_rfl) rfl #[.pointer (some ⟨g, 0, none⟩), .int .i64 12] rfl (by (try simp only [List.map_toArray, List.map_cons, List.map_nil]); first | done | rfl | (simp only [List.length_drop, List.length_take]; rfl)) ?_; (with_reducible refine (spec_l01Src_one.calls g s0_0 t383 t384 t385 12 t386 t387 t388 t389 w0 _ ?side1 ?side2 A4.out).mono ?_); (case side1 => repeat (first | (with_reducible first | exact HI0.out | apply IsS84.alloc | apply IsS84.drewN | apply IsS84.drew | apply IsS84.set_1 | apply IsS84.set_2 | apply IsS84.set_3) | exact HI0.out)); (case side2 => repeat (first | (with_reducible first | exact HB.out | apply below_alloc | apply pw_below_drewN | apply below_drew1 | refine below_set ?_ (IsS84.ge HI0.out)) | exact HB.out)); rintro e w9 ⟨rfl, hi, hb, hk⟩; refine ⟨_, rfl, ?_⟩; have n0_ := Aside0.mk (KeepBut.trans (by repeat (first | (with_reducible first | exact HK.out | apply KeepBut.set_ | apply keep_drewN | apply keep_drew | apply keep_alloc) | exact HK.out)) hk (.inl rfl)); have n1_ := Aside0.mk (hb); have n2_ := Aside0.mk (hi); clear HK; clear HB; clear HI0; have HK := n0_; have HB := n1_; have HI0 := n2_; clear n0_ n1_ n2_; (try clear hb); (try clear hb2); (try clear hk); (try clear hi)))
  (try simp only [Act.put, List.setIfInBounds_toArray, List.set_cons_zero, List.set_cons_succ])
  go_cut [3] (fun v3 wc => ∃ (kq : Nat) (x3_4 : ByteArray) (x1001_4 : Int) (x1002_4 : Int) (x1003_4 : Int), v3 = .string x3_4 ∧ Aside0 (spec_l01Src_text.j0 kq x3_4 s0_0 x1001_4 x1002_4 x1003_4 = some (r1, r2, r3, r4)) ∧ Aside0 (kq ≤ k) ∧ Aside0 (IsS84 w0 wc g s0_0 x1001_4 x1002_4 x1003_4) ∧ Aside0 (KeepBut w wc g none) ∧ Aside0 (Below w0.heap.size w0 wc))
  case first =>
    have H := HC5.out
    clear HC5
    by_cases c10 : t386 = true
    · subst c10
      have H1 : ((spec_l01Src_spoil.f k s0_0 t387 t388 t389 t382).bind fun bt390 => (spec_l01Src_text.j0 k bt390.1 s0_0 bt390.2.1 bt390.2.2.1 bt390.2.2.2)) = some (r1, r2, r3, r4) := by rw [if_pos rfl] at H; exact H
      clear H
      have H := H1
      clear H1
      replace H := Option.bind_eq_some_iff.mp H
      obtain ⟨⟨t390, t391, t392, t393⟩, A110, H⟩ := H
      replace H : (spec_l01Src_text.j0 k t390 s0_0 t391 t392 t393) = some (r1, r2, r3, r4) := H
      have A11 := Aside0.mk A110
      clear A110
      have H' := Aside0.mk H
      clear H
      go_wp2_with (first | ((with_reducible refine gate_callee (f := 69) rfl ?_); refine goesL_ (some 18) rfl rfl Tryd.func69 (by kernel_rfl) rfl #[.pointer (some ⟨g, 0, none⟩), .string t382] rfl (by (try simp only [List.map_toArray, List.map_cons, List.map_nil]); first | done | rfl | (simp only [List.length_drop, List.length_take]; rfl)) ?_; (with_reducible refine (spec_l01Src_spoil.calls k g s0_0 t387 t388 t389 t382 t390 t391 t392 t393 w0 _ ?side1 ?side2 A11.out).mono ?_); (case side1 => repeat (first | (with_reducible first | exact HI0.out | apply IsS84.alloc | apply IsS84.drewN | apply IsS84.drew | apply IsS84.set_1 | apply IsS84.set_2 | apply IsS84.set_3) | exact HI0.out)); (case side2 => repeat (first | (with_reducible first | exact HB.out | apply below_alloc | apply pw_below_drewN | apply below_drew1 | refine below_set ?_ (IsS84.ge HI0.out)) | exact HB.out)); rintro e w12 ⟨rfl, hi, hb, hk⟩; refine ⟨_, rfl, ?_⟩; have n0_ := Aside0.mk (KeepBut.trans (by repeat (first | (with_reducible first | exact HK.out | apply KeepBut.set_ | apply keep_drewN | apply keep_drew | apply keep_alloc) | exact HK.out)) hk (.inl rfl)); have n1_ := Aside0.mk (hb); have n2_ := Aside0.mk (hi); clear HK; clear HB; clear HI0; have HK := n0_; have HB := n1_; have HI0 := n2_; clear n0_ n1_ n2_; (try clear hb); (try clear hb2); (try clear hk); (try clear hi)))
      go_meet
      case rel => exact ⟨_, (t390), (t391), (t392), (t393), (by first | rfl | (simp; done) | (simp [*]; done)), H', ⟨by first | omega | exact Nat.le_refl _⟩, ⟨by repeat (first | (with_reducible first | exact HI0.out | apply IsS84.alloc | apply IsS84.drewN | apply IsS84.drew | apply IsS84.set_1 | apply IsS84.set_2 | apply IsS84.set_3) | exact HI0.out)⟩, ⟨by repeat (first | (with_reducible first | exact HK.out | apply KeepBut.set_ | apply keep_drewN | apply keep_drew | apply keep_alloc) | exact HK.out)⟩, ⟨by repeat (first | (with_reducible first | exact HB.out | apply below_alloc | apply pw_below_drewN | apply below_drew1 | refine below_set ?_ (IsS84.ge HI0.out)) | exact HB.out)⟩⟩
    · replace c10 := Bool.eq_false_iff.mpr c10
      subst c10
      have H1 : (spec_l01Src_text.j0 k t382 s0_0 t387 t388 t389) = some (r1, r2, r3, r4) := by rw [if_neg (show ¬ (false = true) by decide)] at H; exact H
      clear H
      have H := H1
      clear H1
      have H' := Aside0.mk H
      clear H
      go_wp2
      go_meet
      case rel => exact ⟨_, (t382), (t387), (t388), (t389), (by first | rfl | (simp; done) | (simp [*]; done)), H', ⟨by first | omega | exact Nat.le_refl _⟩, ⟨by repeat (first | (with_reducible first | exact HI0.out | apply IsS84.alloc | apply IsS84.drewN | apply IsS84.drew | apply IsS84.set_1 | apply IsS84.set_2 | apply IsS84.set_3) | exact HI0.out)⟩, ⟨by repeat (first | (with_reducible first | exact HK.out | apply KeepBut.set_ | apply keep_drewN | apply keep_drew | apply keep_alloc) | exact HK.out)⟩, ⟨by repeat (first | (with_reducible first | exact HB.out | apply below_alloc | apply pw_below_drewN | apply below_drew1 | refine below_set ?_ (IsS84.ge HI0.out)) | exact HB.out)⟩⟩
  case rest =>
    clear HC5
    try clear c1
    try clear p2
    try clear c3
    try clear c6
    try clear p6
    try clear c10
    try clear hcz6_0
    try clear hcz6_1
    try clear hcz6_2
    try clear hcz6_3
    try clear hfz6_1
    try clear hfz6_2
    try clear hfz6_3
    obtain ⟨kq, x3_4, x1001_4, x1002_4, x1003_4, rfl, HA, HJ4, HI0, HK, HB⟩ := hcut
    cases kq with
    | zero => exact absurd HA.out (by simp [spec_l01Src_text.j0])
    | succ kj4 =>
      have H := HA.out
      clear HA
      simp only [spec_l01Src_text.j0] at H
      replace H := Option.bind_eq_some_iff.mp H
      obtain ⟨⟨t394, t395, t396, t397⟩, A130, H⟩ := H
      replace H : (if t394 = true then ((spec_l01Src_n.f s0_0 t395 t396 t397 3).bind fun bt398 => ((spec_l01Src_long.f kj4 s0_0 bt398.2.1 bt398.2.2.1 bt398.2.2.2 (⟨#[97, 98]⟩ : ByteArray) (wrap64 (65535 + bt398.1))).bind fun bt402 => (some (bt402.1, bt402.2.1, bt402.2.2.1, bt402.2.2.2)))) else (some (x3_4, t395, t396, t397))) = some (r1, r2, r3, r4) := H
      have A13 := Aside0.mk A130
      clear A130
      by_cases c14 : t394 = true
      · subst c14
        have H1 : ((spec_l01Src_n.f s0_0 t395 t396 t397 3).bind fun bt398 => ((spec_l01Src_long.f kj4 s0_0 bt398.2.1 bt398.2.2.1 bt398.2.2.2 (⟨#[97, 98]⟩ : ByteArray) (wrap64 (65535 + bt398.1))).bind fun bt402 => (some (bt402.1, bt402.2.1, bt402.2.2.1, bt402.2.2.2)))) = some (r1, r2, r3, r4) := by rw [if_pos rfl] at H; exact H
        clear H
        have H := H1
        clear H1
        replace H := Option.bind_eq_some_iff.mp H
        obtain ⟨⟨t398, t399, t400, t401⟩, A150, H⟩ := H
        replace H : ((spec_l01Src_long.f kj4 s0_0 t399 t400 t401 (⟨#[97, 98]⟩ : ByteArray) (wrap64 (65535 + t398))).bind fun bt402 => (some (bt402.1, bt402.2.1, bt402.2.2.1, bt402.2.2.2))) = some (r1, r2, r3, r4) := H
        have A15 := Aside0.mk A150
        clear A150
        replace H := Option.bind_eq_some_iff.mp H
        obtain ⟨⟨t402, t403, t404, t405⟩, A160, H⟩ := H
        replace H : (some (t402, t403, t404, t405)) = some (r1, r2, r3, r4) := H
        have A16 := Aside0.mk A160
        clear A160
        simp only [Option.some.injEq, Prod.mk.injEq] at H
        obtain ⟨rfl, rfl, rfl, rfl⟩ := H
        go_wp2_with (first | ((with_reducible refine gate_callee (f := 68) rfl ?_); refine goesL_ (some 20) rfl rfl Tryd.func68 (by kernel_rfl) rfl #[.pointer (some ⟨g, 0, none⟩), .int .i64 200] rfl (by (try simp only [List.map_toArray, List.map_cons, List.map_nil]); first | done | rfl | (simp only [List.length_drop, List.length_take]; rfl)) ?_; (with_reducible refine (spec_l01Src_one.calls g s0_0 x1001_4 x1002_4 x1003_4 200 true t395 t396 t397 w0 _ ?side1 ?side2 A13.out).mono ?_); (case side1 => repeat (first | (with_reducible first | exact HI0.out | apply IsS84.alloc | apply IsS84.drewN | apply IsS84.drew | apply IsS84.set_1 | apply IsS84.set_2 | apply IsS84.set_3) | exact HI0.out)); (case side2 => repeat (first | (with_reducible first | exact HB.out | apply below_alloc | apply pw_below_drewN | apply below_drew1 | refine below_set ?_ (IsS84.ge HI0.out)) | exact HB.out)); rintro e w17 ⟨rfl, hi, hb, hk⟩; refine ⟨_, rfl, ?_⟩; have n0_ := Aside0.mk (KeepBut.trans (by repeat (first | (with_reducible first | exact HK.out | apply KeepBut.set_ | apply keep_drewN | apply keep_drew | apply keep_alloc) | exact HK.out)) hk (.inl rfl)); have n1_ := Aside0.mk (hb); have n2_ := Aside0.mk (hi); clear HK; clear HB; clear HI0; have HK := n0_; have HB := n1_; have HI0 := n2_; clear n0_ n1_ n2_; (try clear hb); (try clear hb2); (try clear hk); (try clear hi)) | ((with_reducible refine gate_callee (f := 67) rfl ?_); refine goesL_ (some 23) rfl rfl Tryd.func67 (by kernel_rfl) rfl #[.pointer (some ⟨g, 0, none⟩), .int .i64 3] rfl (by (try simp only [List.map_toArray, List.map_cons, List.map_nil]); first | done | rfl | (simp only [List.length_drop, List.length_take]; rfl)) ?_; (with_reducible refine (spec_l01Src_n.calls g s0_0 t395 t396 t397 3 t398 t399 t400 t401 w0 _ ?side1 ?side2 A15.out).mono ?_); (case side1 => repeat (first | (with_reducible first | exact HI0.out | apply IsS84.alloc | apply IsS84.drewN | apply IsS84.drew | apply IsS84.set_1 | apply IsS84.set_2 | apply IsS84.set_3) | exact HI0.out)); (case side2 => repeat (first | (with_reducible first | exact HB.out | apply below_alloc | apply pw_below_drewN | apply below_drew1 | refine below_set ?_ (IsS84.ge HI0.out)) | exact HB.out)); rintro e w18 ⟨rfl, hi, hb, hk⟩; refine ⟨_, rfl, ?_⟩; have n0_ := Aside0.mk (KeepBut.trans (by repeat (first | (with_reducible first | exact HK.out | apply KeepBut.set_ | apply keep_drewN | apply keep_drew | apply keep_alloc) | exact HK.out)) hk (.inl rfl)); have n1_ := Aside0.mk (hb); have n2_ := Aside0.mk (hi); clear HK; clear HB; clear HI0; have HK := n0_; have HB := n1_; have HI0 := n2_; clear n0_ n1_ n2_; (try clear hb); (try clear hb2); (try clear hk); (try clear hi)) | ((with_reducible refine gate_callee (f := 70) rfl ?_); refine goesL_ (some 25) rfl rfl Tryd.func70 (by kernel_rfl) rfl #[.pointer (some ⟨g, 0, none⟩), .string (⟨#[97, 98]⟩ : ByteArray), .int .i64 (wrap64 (65535 + t398))] rfl (by (try simp only [List.map_toArray, List.map_cons, List.map_nil]); first | done | rfl | (simp only [List.length_drop, List.length_take]; rfl)) ?_; (with_reducible refine (spec_l01Src_long.calls kj4 g s0_0 t399 t400 t401 (⟨#[97, 98]⟩ : ByteArray) (wrap64 (65535 + t398)) t402 t403 t404 t405 w0 _ ?side1 ?side2 A16.out).mono ?_); (case side1 => repeat (first | (with_reducible first | exact HI0.out | apply IsS84.alloc | apply IsS84.drewN | apply IsS84.drew | apply IsS84.set_1 | apply IsS84.set_2 | apply IsS84.set_3) | exact HI0.out)); (case side2 => repeat (first | (with_reducible first | exact HB.out | apply below_alloc | apply pw_below_drewN | apply below_drew1 | refine below_set ?_ (IsS84.ge HI0.out)) | exact HB.out)); rintro e w19 ⟨rfl, hi, hb, hk⟩; refine ⟨_, rfl, ?_⟩; have n0_ := Aside0.mk (KeepBut.trans (by repeat (first | (with_reducible first | exact HK.out | apply KeepBut.set_ | apply keep_drewN | apply keep_drew | apply keep_alloc) | exact HK.out)) hk (.inl rfl)); have n1_ := Aside0.mk (hb); have n2_ := Aside0.mk (hi); clear HK; clear HB; clear HI0; have HK := n0_; have HB := n1_; have HI0 := n2_; clear n0_ n1_ n2_; (try clear hb); (try clear hb2); (try clear hk); (try clear hi)))
        go_ret
        exact ⟨by first | rfl | (simp [errW_none, errW_some] <;> rfl) | (simp [*, errW_none, errW_some] <;> rfl), by repeat (first | (with_reducible first | exact HI0.out | apply IsS84.alloc | apply IsS84.drewN | apply IsS84.drew | apply IsS84.set_1 | apply IsS84.set_2 | apply IsS84.set_3) | exact HI0.out), by repeat (first | (with_reducible first | exact HB.out | apply below_alloc | apply pw_below_drewN | apply below_drew1 | refine below_set ?_ (IsS84.ge HI0.out)) | exact HB.out), by repeat (first | (with_reducible first | exact HK.out | apply KeepBut.set_ | apply keep_drewN | apply keep_drew | apply keep_alloc) | exact HK.out)⟩
      · replace c14 := Bool.eq_false_iff.mpr c14
        subst c14
        have H1 : (some (x3_4, t395, t396, t397)) = some (r1, r2, r3, r4) := by rw [if_neg (show ¬ (false = true) by decide)] at H; exact H
        clear H
        have H := H1
        clear H1
        simp only [Option.some.injEq, Prod.mk.injEq] at H
        obtain ⟨rfl, rfl, rfl, rfl⟩ := H
        go_wp2_with (first | ((with_reducible refine gate_callee (f := 68) rfl ?_); refine goesL_ (some 20) rfl rfl Tryd.func68 (by kernel_rfl) rfl #[.pointer (some ⟨g, 0, none⟩), .int .i64 200] rfl (by (try simp only [List.map_toArray, List.map_cons, List.map_nil]); first | done | rfl | (simp only [List.length_drop, List.length_take]; rfl)) ?_; (with_reducible refine (spec_l01Src_one.calls g s0_0 x1001_4 x1002_4 x1003_4 200 false t395 t396 t397 w0 _ ?side1 ?side2 A13.out).mono ?_); (case side1 => repeat (first | (with_reducible first | exact HI0.out | apply IsS84.alloc | apply IsS84.drewN | apply IsS84.drew | apply IsS84.set_1 | apply IsS84.set_2 | apply IsS84.set_3) | exact HI0.out)); (case side2 => repeat (first | (with_reducible first | exact HB.out | apply below_alloc | apply pw_below_drewN | apply below_drew1 | refine below_set ?_ (IsS84.ge HI0.out)) | exact HB.out)); rintro e w20 ⟨rfl, hi, hb, hk⟩; refine ⟨_, rfl, ?_⟩; have n0_ := Aside0.mk (KeepBut.trans (by repeat (first | (with_reducible first | exact HK.out | apply KeepBut.set_ | apply keep_drewN | apply keep_drew | apply keep_alloc) | exact HK.out)) hk (.inl rfl)); have n1_ := Aside0.mk (hb); have n2_ := Aside0.mk (hi); clear HK; clear HB; clear HI0; have HK := n0_; have HB := n1_; have HI0 := n2_; clear n0_ n1_ n2_; (try clear hb); (try clear hb2); (try clear hk); (try clear hi)))
        go_ret
        exact ⟨by first | rfl | (simp [errW_none, errW_some] <;> rfl) | (simp [*, errW_none, errW_some] <;> rfl), by repeat (first | (with_reducible first | exact HI0.out | apply IsS84.alloc | apply IsS84.drewN | apply IsS84.drew | apply IsS84.set_1 | apply IsS84.set_2 | apply IsS84.set_3) | exact HI0.out), by repeat (first | (with_reducible first | exact HB.out | apply below_alloc | apply pw_below_drewN | apply below_drew1 | refine below_set ?_ (IsS84.ge HI0.out)) | exact HB.out), by repeat (first | (with_reducible first | exact HK.out | apply KeepBut.set_ | apply keep_drewN | apply keep_drew | apply keep_alloc) | exact HK.out)⟩

theorem spec_l01Src_text.join (k : Nat) (l : List Int) (t : ByteArray) (a m z : Int) (hl : l.length ≤ 140737488355328) (h0 : 0 ≤ a) (h1 : a ≤ (l.length : Int)) (ht : t.size ≤ 100000) (hk : 100000 ≤ k) :
    YtphjfenhnhfakaaDoorPts.Tot (spec_l01Src_text.j0 (k + 1) t l a m z) (fun r => r.1.size ≤ 100000 ∧ 0 ≤ r.2.1 ∧ r.2.1 ≤ (l.length : Int) ∧ r.2.2.2 = z) := by
  simp only [spec_l01Src_text.j0]
  refine YtphjfenhnhfakaaDoorPts.Tot.bind (spec_l01Src_one.tot l a m z 200 hl h0 h1 (by decide)) ?_
  rintro ⟨b, a1, m1, z1⟩ ⟨h2, h3, h4⟩
  dsimp only at h2 h3 h4 ⊢
  subst h4
  refine YtphjfenhnhfakaaDoorPts.Tot.ite (fun _ => ?_) (fun _ => YtphjfenhnhfakaaDoorPts.Tot.mk ⟨ht, h2, h3, rfl⟩)
  refine YtphjfenhnhfakaaDoorPts.Tot.bind (spec_l01Src_n.tot l a1 m1 z1 3 hl h2 h3 (by decide)) ?_
  rintro ⟨v, a2, m2, z2⟩ ⟨v1, v2, h5, h6, h7⟩
  dsimp only at v1 v2 h5 h6 h7 ⊢
  subst h7
  have hw : wrap64 (65535 + v) = 65535 + v := by unfold wrap64; omega
  rw [hw]
  clear hw
  unfold spec_l01Src_long.f
  refine YtphjfenhnhfakaaDoorPts.Tot.bind (spec_l01Src_long.run l _ (65535 + v) a2 m2 z2 rfl (by omega) (by omega) 65537 k [] (by simp; omega) (by simp) (by omega)) ?_
  rintro ⟨s, a3, m3, z3⟩ ⟨q1, q2, q3⟩
  dsimp only at q1 q2 q3 ⊢
  subst q2 q3
  exact YtphjfenhnhfakaaDoorPts.Tot.mk ⟨by dsimp only; omega, h5, h6, rfl⟩
theorem spec_l01Src_text.tot (k : Nat) (l : List Int) (a m z : Int) (hl : l.length ≤ 140737488355328) (h0 : 0 ≤ a) (h1 : a ≤ (l.length : Int)) (hz : 0 ≤ z) (hz2 : z ≤ 12) (hk : 100001 ≤ k) :
    YtphjfenhnhfakaaDoorPts.Tot (spec_l01Src_text.f k l a m z) (fun r => r.1.size ≤ 100000 ∧ 0 ≤ r.2.1 ∧ r.2.1 ≤ (l.length : Int) ∧ r.2.2.2 = z) := by
  obtain ⟨k, rfl⟩ : ∃ j, k = j + 1 := ⟨k - 1, by omega⟩
  unfold spec_l01Src_text.f
  have hw : wrap64 (8 + wrap64 (2 * z)) = 8 + 2 * z := by unfold wrap64; omega
  rw [hw]
  clear hw
  refine YtphjfenhnhfakaaDoorPts.Tot.bind (spec_l01Src_n.tot l a m z _ hl h0 h1 (by omega)) ?_
  rintro ⟨v, a1, m1, z1⟩ ⟨v1, v2, h2, h3, h4⟩
  dsimp only at v1 v2 h2 h3 h4 ⊢
  subst h4
  refine YtphjfenhnhfakaaDoorPts.Tot.bind (spec_l01Src_textOf.tot (k + 1) l a1 m1 z1 v hl h2 h3 v1 (by omega) (by omega)) ?_
  rintro ⟨t, a2, m2, z2⟩ ⟨h5, h6, h7, h8⟩
  dsimp only at h5 h6 h7 h8 ⊢
  subst h8
  refine YtphjfenhnhfakaaDoorPts.Tot.bind (spec_l01Src_one.tot l a2 m2 z2 12 hl h6 h7 (by decide)) ?_
  rintro ⟨b, a3, m3, z3⟩ ⟨h9, h10, h11⟩
  dsimp only at h9 h10 h11 ⊢
  subst h11
  refine YtphjfenhnhfakaaDoorPts.Tot.ite (fun _ => ?_) (fun _ => spec_l01Src_text.join k l t a3 m3 z3 hl h9 h10 (by omega) (by omega))
  refine YtphjfenhnhfakaaDoorPts.Tot.bind (spec_l01Src_spoil.tot k l a3 m3 z3 t hl h9 h10 (by omega)) ?_
  rintro ⟨t2, a4, m4, z4⟩ ⟨h12, h13, h14, h15⟩
  dsimp only at h12 h13 h14 h15 ⊢
  subst h15
  exact spec_l01Src_text.join k l t2 a4 m4 z4 hl h13 h14 (by omega) (by omega)

/-! ### spec_DrawPointsOf: function 11 -/
def spec_DrawPointsOf.f (k : Nat) (l0 : List Int) : Option (ByteArray) := (spec_l01Source.f l0).bind fun bt406 => ((spec_l01Src_text.f k bt406.1 bt406.2.1 bt406.2.2.1 bt406.2.2.2).bind fun bt411 => (some bt411.1))
theorem spec_DrawPointsOf.mono : ∀ a0 k, LeO (spec_DrawPointsOf.f k a0) (spec_DrawPointsOf.f (k + 1) a0) := by
  intro a0 k
  unfold spec_DrawPointsOf.f
  repeat' first
      | (with_reducible exact spec_l01Src_text.mono _ _ _ _ _)
      | (with_reducible exact LeO.refl _)
      | (with_reducible exact LeO.none _)
      | (with_reducible refine LeO.ite ?_ ?_)
      | (with_reducible refine LeO.bind ?_ (fun _ => ?_))
      | exact spec_l01Src_text.mono _ _ _ _ _
      | exact LeO.none _
      | refine LeO.ite ?_ ?_
      | refine LeO.bind ?_ (fun _ => ?_)
set_option maxHeartbeats 8000000 in
set_option maxRecDepth 100000 in
theorem spec_DrawPointsOf.calls (k : Nat) (A0 : Option Addr) (c0 : Nat) (l0 : List Int) (r : ByteArray) (w : World) (hr0 : Kd.C (Kd.int .u8) w A0 l0.length l0) (hc0 : l0.length ≤ c0) (h : spec_DrawPointsOf.f k l0 = some r) :
    Calls Tryd.prog 11 #[.slice A0 l0.length c0] w fun e w' => e = .returned (.string r) ∧ Below w.heap.size w w' := by
  have HR0 := Aside0.mk hr0
  have HC0 := Aside0.mk hc0
  clear hr0 hc0
  have HB := Aside0.mk (Below.refl w.heap.size w)
  have H : ((spec_l01Source.f l0).bind fun bt406 => ((spec_l01Src_text.f k bt406.1 bt406.2.1 bt406.2.2.1 bt406.2.2.2).bind fun bt411 => (some bt411.1))) = some r := h
  clear h
  replace H := Option.bind_eq_some_iff.mp H
  obtain ⟨⟨t406, t407, t408, t409⟩, A20, H⟩ := H
  replace H : ((spec_l01Src_text.f k t406 t407 t408 t409).bind fun bt411 => (some bt411.1)) = some r := H
  have A2 := Aside0.mk A20
  clear A20
  replace H := Option.bind_eq_some_iff.mp H
  obtain ⟨⟨t411, t412, t413, t414⟩, A30, H⟩ := H
  replace H : (some t411) = some r := H
  have A3 := Aside0.mk A30
  clear A30
  obtain rfl := Option.some.inj H
  go_enter Tryd.func11, Tryd.ntmps11
  go_wp2_with (first | ((with_reducible refine gate_callee (f := 35) rfl ?_); refine goesL_ (some 4) rfl rfl Tryd.func35 (by kernel_rfl) rfl #[.slice A0 l0.length c0] rfl (by (try simp only [List.map_toArray, List.map_cons, List.map_nil]); first | done | rfl | (simp only [List.length_drop, List.length_take]; rfl)) ?_; (with_reducible refine (spec_l01Source.calls _ _ l0 t406 t407 t408 t409 w _ ?side1 ?side2 ?side3 A2.out).mono ?_); (case side1 => repeat (first | (with_reducible first | exact HB.out | apply below_alloc | apply pw_below_drewN | apply below_drew1) | exact HB.out)); (case side2 => exact HR0.out); (case side3 => exact HC0.out); rintro e w4 ⟨g410, rfl, hi, hb, hb2⟩; refine ⟨_, rfl, ?_⟩; have n0_ := Aside0.mk (hb); have n1_ := Aside0.mk (hi); clear HB; have HB := n0_; have HI410 := n1_; clear n0_ n1_; (try clear hb); (try clear hb2); (try clear hk); (try clear hi)) | ((with_reducible refine gate_callee (f := 36) rfl ?_); refine goesL_ (some 5) rfl rfl Tryd.func36 (by kernel_rfl) rfl #[.pointer (some ⟨g410, 0, none⟩)] rfl (by (try simp only [List.map_toArray, List.map_cons, List.map_nil]); first | done | rfl | (simp only [List.length_drop, List.length_take]; rfl)) ?_; (with_reducible refine (spec_l01Src_text.calls k g410 t406 t407 t408 t409 t411 t412 t413 t414 w _ ?side1 ?side2 A3.out).mono ?_); (case side1 => repeat (first | (with_reducible first | exact HI410.out | apply IsS84.alloc | apply IsS84.drewN | apply IsS84.drew | apply IsS84.set_1 | apply IsS84.set_2 | apply IsS84.set_3) | exact HI410.out)); (case side2 => repeat (first | (with_reducible first | exact HB.out | apply below_alloc | apply pw_below_drewN | apply below_drew1 | refine below_set ?_ (IsS84.ge HI410.out)) | exact HB.out)); rintro e w5 ⟨rfl, hi, hb, hk⟩; refine ⟨_, rfl, ?_⟩; have n0_ := Aside0.mk (hb); have n1_ := Aside0.mk (hi); clear HB; clear HI410; have HB := n0_; have HI410 := n1_; clear n0_ n1_; (try clear hb); (try clear hb2); (try clear hk); (try clear hi)))
  go_ret
  exact ⟨by first | rfl | (simp [errW_none, errW_some] <;> rfl) | (simp [*, errW_none, errW_some] <;> rfl), by repeat (first | (with_reducible first | exact HB.out | apply below_alloc | apply pw_below_drewN | apply below_drew1 | refine below_set ?_ (IsS84.ge HI410.out)) | exact HB.out)⟩

theorem spec_DrawPointsOf.tot (l : List Int) (hl : l.length ≤ 140737488355328) : ∃ t, spec_DrawPointsOf.f 100001 l = some t ∧ t.size ≤ 100000 := by
  have h : YtphjfenhnhfakaaDoorPts.Tot (spec_DrawPointsOf.f 100001 l) (fun t => t.size ≤ 100000) := by
    unfold spec_DrawPointsOf.f spec_l01Source.f
    rw [if_pos hl]
    simp only [Option.bind_some]
    refine YtphjfenhnhfakaaDoorPts.Tot.bind (spec_l01Src_text.tot 100001 l 0 _ _ hl (by omega) (by omega) (by split <;> omega) (by split <;> omega) (by omega)) ?_
    rintro ⟨t, a, m, z⟩ ⟨h, _⟩
    exact YtphjfenhnhfakaaDoorPts.Tot.mk h
  exact h
def W_spec_DrawPointsOf.f (l0 : List Int) : Option (ByteArray) := spec_DrawPointsOf.f 100001 l0
theorem W_spec_DrawPointsOf.to {l0 : List Int} {r : ByteArray} (h : W_spec_DrawPointsOf.f l0 = some r) : ∃ k, spec_DrawPointsOf.f k l0 = some r := ⟨100001, h⟩
theorem W_spec_DrawPointsOf.has {l : List Int} (hl : l.length ≤ 140737488355328) : ∃ t, W_spec_DrawPointsOf.f l = some t ∧ t.size ≤ 100000 := spec_DrawPointsOf.tot l hl
theorem W_spec_DrawPointsOf.calls (A0 : Option Addr) (c0 : Nat) (l0 : List Int) (r : ByteArray) (w : World) (hr0 : Kd.C (Kd.int .u8) w A0 l0.length l0) (hc0 : l0.length ≤ c0) (h : W_spec_DrawPointsOf.f l0 = some r) :
    Calls Tryd.prog 11 #[.slice A0 l0.length c0] w fun e w' => e = .returned (.string r) ∧ Below w.heap.size w w' := by
  obtain ⟨k, hk⟩ := W_spec_DrawPointsOf.to h
  exact spec_DrawPointsOf.calls k A0 c0 l0 r w hr0 hc0 hk

/-! ### impl_long: function 37 -/
def impl_long.f (a0 : ByteArray) : Option (Bool) := some (decide ((a0.size : Int) > 65536))
set_option maxHeartbeats 8000000 in
set_option maxRecDepth 100000 in
theorem impl_long.calls (a0 : ByteArray) (r : Bool) (w : World) (h : impl_long.f a0 = some r) :
    Calls Tryd.prog 37 #[.string a0] w fun e w' => e = .returned (.bool r) ∧ Drawn0 w w' := by
  have H : (some (decide ((a0.size : Int) > 65536))) = some r := h
  clear h
  obtain rfl := Option.some.inj H
  go_enter Tryd.func37, Tryd.ntmps37
  go_wp2
  go_ret
  exact ⟨by first | rfl | (simp; done) | (simp [*]; done), by repeat (first | exact Drawn0.refl _ | apply Drawn0.step)⟩

/-- The tables of unicode/utf8 lie in this world as start-up lays them. -/
def GT (w : World) : Prop := Lib.Utf8Tabs 0 1 w
theorem GT.below {w w' : World} (h : GT w) (hb : Below w.heap.size w w') : GT w' := by
  obtain ⟨h1, h2⟩ := h
  refine ⟨fun c hc => ?_, fun i hi => ⟨?_, ?_⟩⟩
  · exact (hb.cell (World.block_lt_of_cell? w _ (h1 c hc))).trans (h1 c hc)
  · exact (hb.cell (World.block_lt_of_cell? w _ (h2 i hi).1)).trans (h2 i hi).1
  · exact (hb.cell (World.block_lt_of_cell? w _ (h2 i hi).2)).trans (h2 i hi).2

/-! ### utf8_DecodeRuneInString: function 107 (by hand) -/
def utf8_DecodeRuneInString.f (a0 : ByteArray) : Option (Int × Int) := some (((Lib.decodeGo a0).1 : Int), ((Lib.decodeGo a0).2 : Int))
theorem utf8_DecodeRuneInString.calls (a0 : ByteArray) (r1 : Int) (r2 : Int) (w : World) (h : utf8_DecodeRuneInString.f a0 = some (r1, r2)) (hG : GT w) :
    Calls Tryd.prog 107 #[.string a0] w fun e w' => e = .returned (.tuple #[.int .i32 r1, .int .i64 r2]) ∧ Below w.heap.size w w' := by
  have h := Option.some.inj h
  obtain ⟨rfl, rfl⟩ := Prod.mk.inj h
  exact Tryd.utf8_DecodeRuneInString a0 w hG

/-! ### impl_read: function 80 -/
def impl_read.l0 : Nat → ByteArray → List (S96) → Int → Option ((List (S96)))
  | 0, _, _, _ => none
  | k + 1, x0, x3, x4 => if x4 < (x0.size : Int) then (if 0 ≤ x4 then (if x4 ≤ (x0.size : Int) then ((utf8_DecodeRuneInString.f (x0.extract (x4 : Int).toNat x0.size)).bind fun bt415 => (if bt415.1 = 65533 then (if x3.length < 4398046511104 then (impl_read.l0 k x0 (x3 ++ [(⟨wrap64 (bt415.1), x4, wrap64 (x4 + bt415.2), (bt415.2 == 1)⟩ : S96)]) (wrap64 (x4 + bt415.2))) else (none)) else (if x3.length < 4398046511104 then (impl_read.l0 k x0 (x3 ++ [(⟨wrap64 (bt415.1), x4, wrap64 (x4 + bt415.2), false⟩ : S96)]) (wrap64 (x4 + bt415.2))) else (none)))) else (none)) else (none)) else (some x3)
def impl_read.f (k : Nat) (a0 : ByteArray) : Option ((List (S96))) := impl_read.l0 k a0 ([] : List (S96)) 0
theorem impl_read.mono_l : ∀ k, (∀ y0 y1 y2, LeO (impl_read.l0 k y0 y1 y2) (impl_read.l0 (k + 1) y0 y1 y2))
  | 0 => fun _ _ _ r h => by simp [impl_read.l0] at h
  | k + 1 => by
    have ih0 := impl_read.mono_l k
    · intro y0 y1 y2
      unfold impl_read.l0
      repeat' first
      | (with_reducible exact ih0 _ _ _)
      | (with_reducible exact LeO.refl _)
      | (with_reducible exact LeO.none _)
      | (with_reducible refine LeO.ite ?_ ?_)
      | (with_reducible refine LeO.bind ?_ (fun _ => ?_))
      | exact ih0 _ _ _
      | exact LeO.none _
      | refine LeO.ite ?_ ?_
      | refine LeO.bind ?_ (fun _ => ?_)
theorem impl_read.mono : ∀ a0 k, LeO (impl_read.f k a0) (impl_read.f (k + 1) a0) := by
  intro a0 k
  have ih0 := impl_read.mono_l k
  unfold impl_read.f
  repeat' first
      | (with_reducible exact ih0 _ _ _)
      | (with_reducible exact LeO.refl _)
      | (with_reducible exact LeO.none _)
      | (with_reducible refine LeO.ite ?_ ?_)
      | (with_reducible refine LeO.bind ?_ (fun _ => ?_))
      | exact ih0 _ _ _
      | exact LeO.none _
      | refine LeO.ite ?_ ?_
      | refine LeO.bind ?_ (fun _ => ?_)
set_option maxHeartbeats 8000000 in
set_option maxRecDepth 100000 in
theorem impl_read.calls (k : Nat) (a0 : ByteArray) (r : List (S96)) (w : World) (h : impl_read.f k a0 = some r) (hG : GT w) :
    Calls Tryd.prog 80 #[.string a0] w fun e w' => ∃ v0_ : Value, e = .returned (v0_) ∧ Kd.R k96 96 w' w.heap.size (fun _ => True) v0_ r ∧ Below w.heap.size w w' := by
  have HG := Aside0.mk hG
  clear hG
  have hu96 := Tryd.underlying96
  have HB := Aside0.mk (Below.refl w.heap.size w)
  have H : (impl_read.l0 k a0 ([] : List (S96)) 0) = some r := h
  clear h
  have H' := Aside0.mk H
  clear H
  go_enter Tryd.func80, Tryd.ntmps80
  go_wp2
  go_loopg [3, 4] k (fun kq v3 v4 w' => ∃ (x3_1 : List (S96)) (x4_1 : Int), v4 = .int .i64 x4_1 ∧ Aside0 (impl_read.l0 kq a0 x3_1 x4_1 = some r) ∧ Aside0 (kq ≤ k) ∧ Aside0 (Kd.R k96 96 w' w.heap.size (fun _ => True) v3 x3_1) ∧ Aside0 (Below w.heap.size w w'))
  case atStart => exact ⟨(([] : List (S96))), (0), (by first | rfl | (simp; done) | (simp [*]; done)), H', ⟨Nat.le_refl _⟩, ⟨by first | exact Kd.R_nil _ _ _ _ _ | exact Kd.N_nil _ _ _ _ _ | exact Kd.V_nil _ _ _ _ _ | exact Kd.Q_nil _ _ _ _ _ | exact Kd.S_nil _ _ _ _ _⟩, ⟨by repeat (first | (with_reducible first | exact HB.out | apply below_alloc | apply pw_below_drewN | apply below_drew1) | exact HB.out)⟩⟩
  case round =>
    clear H'
    obtain ⟨x3_1, x4_1, rfl, HA, HK1, HO_3, HB⟩ := hrel
    cases gk with
    | zero => exact absurd HA.out (by simp [impl_read.l0])
    | succ k1 =>
      have H := HA.out
      clear HA
      simp only [impl_read.l0] at H
      by_cases c2 : x4_1 < (a0.size : Int)
      · rw [if_pos c2] at H
        have c2b0 : decide (x4_1 < (a0.size : Int)) = true := decide_eq_true c2
        clear c2
        by_cases c3 : 0 ≤ x4_1
        · rw [if_pos c3] at H
          have c3b0 := eq_true c3
          have c3b1 : decide (0 ≤ x4_1) = true := decide_eq_true c3
          clear c3
          by_cases c4 : x4_1 ≤ (a0.size : Int)
          · rw [if_pos c4] at H
            have c4b0 := eq_true c4
            have c4b1 : decide (x4_1 ≤ (a0.size : Int)) = true := decide_eq_true c4
            clear c4
            replace H := Option.bind_eq_some_iff.mp H
            obtain ⟨⟨t415, t416⟩, A50, H⟩ := H
            replace H : (if t415 = 65533 then (if x3_1.length < 4398046511104 then (impl_read.l0 k1 a0 (x3_1 ++ [(⟨wrap64 (t415), x4_1, wrap64 (x4_1 + t416), (t416 == 1)⟩ : S96)]) (wrap64 (x4_1 + t416))) else (none)) else (if x3_1.length < 4398046511104 then (impl_read.l0 k1 a0 (x3_1 ++ [(⟨wrap64 (t415), x4_1, wrap64 (x4_1 + t416), false⟩ : S96)]) (wrap64 (x4_1 + t416))) else (none))) = some r := H
            have A5 := Aside0.mk A50
            clear A50
            by_cases c6 : t415 = 65533
            · rw [if_pos c6] at H
              have c6b0 : (t415 == 65533) = true := beq_iff_eq.mpr c6
              have c6b1 : (t415 != 65533) = false := bne_eq_false_iff_eq.mpr c6
              clear c6
              by_cases c7 : x3_1.length < 4398046511104
              · rw [if_pos c7] at H
                have LMc7 := Aside0.mk c7
                clear c7
                obtain ⟨y417, hy417⟩ : ∃ y_ : List (S96), y_ = (x3_1 ++ [(⟨wrap64 (t415), x4_1, wrap64 (x4_1 + t416), (t416 == 1)⟩ : S96)]) := ⟨_, rfl⟩
                replace H : (impl_read.l0 k1 a0 y417 (wrap64 (x4_1 + t416))) = some r := by first | (rw [hy417]; with_reducible exact H) | (have H2_ := (Option.bind_some _ _).symm.trans H; rw [hy417]; with_reducible exact H2_) | (have H2_ := (Option.bind_some _ _).symm.trans H; with_reducible exact H2_) | with_reducible exact H | (rw [hy417]; exact H) | exact H
                have Ny417 := Aside0.mk hy417
                clear hy417
                have H' := Aside0.mk H
                clear H
                go_wp2_with (first | ((with_reducible refine gate_callee (f := 107) rfl ?_); refine goesL_ (some 16) rfl rfl Tryd.func107 (by kernel_rfl) rfl #[.string (a0.extract (x4_1 : Int).toNat a0.size)] rfl (by (try simp only [List.map_toArray, List.map_cons, List.map_nil]); first | done | rfl | (simp only [List.length_drop, List.length_take]; rfl)) ?_; (with_reducible refine (utf8_DecodeRuneInString.calls (a0.extract (x4_1 : Int).toNat a0.size) t415 t416 _ A5.out (by first | exact HG.out | exact GT.below HG.out (by first | exact HB.out | (repeat (first | (with_reducible first | exact HB.out | apply below_alloc | apply pw_below_drewN | apply below_drew1) | exact HB.out))) | exact GT.below HG.out (HB.out))).mono ?_); rintro e w8 ⟨rfl, hb⟩; refine ⟨_, rfl, ?_⟩; have n0_ := Aside0.mk (Kd.R_below (by (with_reducible repeat (first | apply Kd.R_alloc | apply Kd.R_drewN | apply Kd.R_drew)); exact HO_3.out) hb); have n1_ := Aside0.mk (below_step (by repeat (first | (with_reducible first | exact HB.out | apply below_alloc | apply pw_below_drewN | apply below_drew1) | exact HB.out)) hb); clear HO_3; clear HB; have HO_3 := n0_; have HB := n1_; clear n0_ n1_; (try clear hb); (try clear hb2); (try clear hk); (try clear hi)) | ((with_reducible refine gate_builtin (b := .append) (xs := #[.tmp 25, .tmp 34]) rfl ?_); at_builtin; refine Kd.R_append k96 (w0 := w) w.heap.size rfl (.tmp 25) (.tmp 34) 93 96 (.agg #[(.int .i64 0), (.int .i64 0), (.int .i64 0), (.bool false)]) 32 rfl Tryd.underlying93 info96 rfl (by decide) (by omega) u3 x3_1 (⟨wrap64 (t415), x4_1, wrap64 (x4_1 + t416), (t416 == 1)⟩ : S96) [.int .i64 (wrap64 (t415)), .int .i64 x4_1, .int .i64 (wrap64 (x4_1 + t416)), .bool (t416 == 1)] (fun _ => True) (fun _ => False) rfl rfl ?aP (fun _ hk => hk.elim) ?aF ?aO ?aB ?aS ?aL ?_; (case aP => exact k96_mkM _ _ _ (⟨wrap64 (t415), x4_1, wrap64 (x4_1 + t416), (t416 == 1)⟩ : S96)); (case aB => exact (by repeat (first | (with_reducible first | exact HB.out | apply below_alloc | apply pw_below_drewN | apply below_drew1) | exact HB.out))); (case aF => exact (fun _ _ => trivial)); (case aO => exact (by (with_reducible repeat (first | apply Kd.R_alloc | apply Kd.R_drewN | apply Kd.R_drew)); exact HO_3.out)); (case aS => exact (below_size (by repeat (first | (with_reducible first | exact HB.out | apply below_alloc | apply pw_below_drewN | apply below_drew1) | exact HB.out)))); (case aL => have := LMc7.out; omega); intro v418 w9 ho hb hg hat; rw [← Ny417.out] at ho; have n0_ := Aside0.mk (hb); have n1_ := Aside0.mk (ho); clear HB; clear HO_3; have HB := n0_; have HO419 := n1_; clear n0_ n1_; clear ho hb hg hat))
                go_roundg k1
                case measure => have := HK1.out; omega
                case rel => exact ⟨(y417), (wrap64 (x4_1 + t416)), (by first | rfl | (simp; done) | (simp [*]; done)), H', ⟨by have := HK1.out; omega⟩, ⟨by (with_reducible repeat (first | apply Kd.R_alloc | apply Kd.R_drewN | apply Kd.R_drew)); exact HO419.out⟩, ⟨by repeat (first | (with_reducible first | exact HB.out | apply below_alloc | apply pw_below_drewN | apply below_drew1) | exact HB.out)⟩⟩
              · rw [if_neg c7] at H
                exact absurd H (by simp)
            · rw [if_neg c6] at H
              have c6b0 : (t415 == 65533) = false := beq_eq_false_iff_ne.mpr c6
              have c6b1 : (t415 != 65533) = true := bne_iff_ne.mpr c6
              by_cases c10 : x3_1.length < 4398046511104
              · rw [if_pos c10] at H
                have LMc10 := Aside0.mk c10
                clear c10
                obtain ⟨y420, hy420⟩ : ∃ y_ : List (S96), y_ = (x3_1 ++ [(⟨wrap64 (t415), x4_1, wrap64 (x4_1 + t416), false⟩ : S96)]) := ⟨_, rfl⟩
                replace H : (impl_read.l0 k1 a0 y420 (wrap64 (x4_1 + t416))) = some r := by first | (rw [hy420]; with_reducible exact H) | (have H2_ := (Option.bind_some _ _).symm.trans H; rw [hy420]; with_reducible exact H2_) | (have H2_ := (Option.bind_some _ _).symm.trans H; with_reducible exact H2_) | with_reducible exact H | (rw [hy420]; exact H) | exact H
                have Ny420 := Aside0.mk hy420
                clear hy420
                have H' := Aside0.mk H
                clear H
                go_wp2_with (first | ((with_reducible refine gate_callee (f := 107) rfl ?_); refine goesL_ (some 16) rfl rfl Tryd.func107 (by kernel_rfl) rfl #[.string (a0.extract (x4_1 : Int).toNat a0.size)] rfl (by (try simp only [List.map_toArray, List.map_cons, List.map_nil]); first | done | rfl | (simp only [List.length_drop, List.length_take]; rfl)) ?_; (with_reducible refine (utf8_DecodeRuneInString.calls (a0.extract (x4_1 : Int).toNat a0.size) t415 t416 _ A5.out (by first | exact HG.out | exact GT.below HG.out (by first | exact HB.out | (repeat (first | (with_reducible first | exact HB.out | apply below_alloc | apply pw_below_drewN | apply below_drew1) | exact HB.out))) | exact GT.below HG.out (HB.out))).mono ?_); rintro e w11 ⟨rfl, hb⟩; refine ⟨_, rfl, ?_⟩; have n0_ := Aside0.mk (Kd.R_below (by (with_reducible repeat (first | apply Kd.R_alloc | apply Kd.R_drewN | apply Kd.R_drew)); exact HO_3.out) hb); have n1_ := Aside0.mk (below_step (by repeat (first | (with_reducible first | exact HB.out | apply below_alloc | apply pw_below_drewN | apply below_drew1) | exact HB.out)) hb); clear HO_3; clear HB; have HO_3 := n0_; have HB := n1_; clear n0_ n1_; (try clear hb); (try clear hb2); (try clear hk); (try clear hi)) | ((with_reducible refine gate_builtin (b := .append) (xs := #[.tmp 25, .tmp 34]) rfl ?_); at_builtin; refine Kd.R_append k96 (w0 := w) w.heap.size rfl (.tmp 25) (.tmp 34) 93 96 (.agg #[(.int .i64 0), (.int .i64 0), (.int .i64 0), (.bool false)]) 32 rfl Tryd.underlying93 info96 rfl (by decide) (by omega) u3 x3_1 (⟨wrap64 (t415), x4_1, wrap64 (x4_1 + t416), false⟩ : S96) [.int .i64 (wrap64 (t415)), .int .i64 x4_1, .int .i64 (wrap64 (x4_1 + t416)), .bool false] (fun _ => True) (fun _ => False) rfl rfl ?aP (fun _ hk => hk.elim) ?aF ?aO ?aB ?aS ?aL ?_; (case aP => exact k96_mkM _ _ _ (⟨wrap64 (t415), x4_1, wrap64 (x4_1 + t416), false⟩ : S96)); (case aB => exact (by repeat (first | (with_reducible first | exact HB.out | apply below_alloc | apply pw_below_drewN | apply below_drew1) | exact HB.out))); (case aF => exact (fun _ _ => trivial)); (case aO => exact (by (with_reducible repeat (first | apply Kd.R_alloc | apply Kd.R_drewN | apply Kd.R_drew)); exact HO_3.out)); (case aS => exact (below_size (by repeat (first | (with_reducible first | exact HB.out | apply below_alloc | apply pw_below_drewN | apply below_drew1) | exact HB.out)))); (case aL => have := LMc10.out; omega); intro v421 w12 ho hb hg hat; rw [← Ny420.out] at ho; have n0_ := Aside0.mk (hb); have n1_ := Aside0.mk (ho); clear HB; clear HO_3; have HB := n0_; have HO422 := n1_; clear n0_ n1_; clear ho hb hg hat))
                go_roundg k1
                case measure => have := HK1.out; omega
                case rel => exact ⟨(y420), (wrap64 (x4_1 + t416)), (by first | rfl | (simp; done) | (simp [*]; done)), H', ⟨by have := HK1.out; omega⟩, ⟨by (with_reducible repeat (first | apply Kd.R_alloc | apply Kd.R_drewN | apply Kd.R_drew)); exact HO422.out⟩, ⟨by repeat (first | (with_reducible first | exact HB.out | apply below_alloc | apply pw_below_drewN | apply below_drew1) | exact HB.out)⟩⟩
              · rw [if_neg c10] at H
                exact absurd H (by simp)
          · rw [if_neg c4] at H
            exact absurd H (by simp)
        · rw [if_neg c3] at H
          exact absurd H (by simp)
      · rw [if_neg c2] at H
        have c2b0 : decide (x4_1 < (a0.size : Int)) = false := decide_eq_false c2
        clear c2
        obtain rfl := Option.some.inj H
        go_wp2
        go_ret
        exact ⟨_, by first | rfl | (simp [errW_none, errW_some] <;> rfl) | (simp [*, errW_none, errW_some] <;> rfl), by (with_reducible repeat (first | apply Kd.R_alloc | apply Kd.R_drewN | apply Kd.R_drew)); exact HO_3.out, by repeat (first | (with_reducible first | exact HB.out | apply below_alloc | apply pw_below_drewN | apply below_drew1) | exact HB.out)⟩

/-! ### impl_points: function 47 -/
def impl_points.l0 : Nat → List Int → List (S96) → Int → Int → Option (List Int)
  | 0, _, _, _, _ => none
  | k + 1, x3, x7, x8, x9 => if x9 < x8 then (if 0 ≤ x9 then (if x9 < (x7.length : Int) then (if x3.length < 17592186044416 then (impl_points.l0 k (x3 ++ [(rd_T96 x7 x9).f0]) x7 x8 (wrap64 (x9 + 1))) else (none)) else (none)) else (none)) else (some x3)
def impl_points.f (k : Nat) (a0 : ByteArray) : Option (List Int) := (impl_read.f k a0).bind fun t423 => (impl_points.l0 k ([] : List Int) t423 (t423.length : Int) 0)
theorem impl_points.mono_l : ∀ k, (∀ y0 y1 y2 y3, LeO (impl_points.l0 k y0 y1 y2 y3) (impl_points.l0 (k + 1) y0 y1 y2 y3))
  | 0 => fun _ _ _ _ r h => by simp [impl_points.l0] at h
  | k + 1 => by
    have ih0 := impl_points.mono_l k
    · intro y0 y1 y2 y3
      unfold impl_points.l0
      repeat' first
      | (with_reducible exact ih0 _ _ _ _)
      | (with_reducible exact impl_read.mono _ _)
      | (with_reducible exact LeO.refl _)
      | (with_reducible exact LeO.none _)
      | (with_reducible refine LeO.ite ?_ ?_)
      | (with_reducible refine LeO.bind ?_ (fun _ => ?_))
      | exact ih0 _ _ _ _
      | exact impl_read.mono _ _
      | exact LeO.none _
      | refine LeO.ite ?_ ?_
      | refine LeO.bind ?_ (fun _ => ?_)
theorem impl_points.mono : ∀ a0 k, LeO (impl_points.f k a0) (impl_points.f (k + 1) a0) := by
  intro a0 k
  have ih0 := impl_points.mono_l k
  unfold impl_points.f
  repeat' first
      | (with_reducible exact ih0 _ _ _ _)
      | (with_reducible exact impl_read.mono _ _)
      | (with_reducible exact LeO.refl _)
      | (with_reducible exact LeO.none _)
      | (with_reducible refine LeO.ite ?_ ?_)
      | (with_reducible refine LeO.bind ?_ (fun _ => ?_))
      | exact ih0 _ _ _ _
      | exact impl_read.mono _ _
      | exact LeO.none _
      | refine LeO.ite ?_ ?_
      | refine LeO.bind ?_ (fun _ => ?_)
set_option maxHeartbeats 8000000 in
set_option maxRecDepth 100000 in
theorem impl_points.calls (k : Nat) (a0 : ByteArray) (r : List Int) (w : World) (h : impl_points.f k a0 = some r) (hG : GT w) :
    Calls Tryd.prog 47 #[.string a0] w fun e w' => ∃ v0_ : Value, e = .returned (v0_) ∧ Kd.R (Kd.int .i64) 2 w' w.heap.size (fun _ => True) v0_ r ∧ Below w.heap.size w w' := by
  have HG := Aside0.mk hG
  clear hG
  have hu96 := Tryd.underlying96
  have HB := Aside0.mk (Below.refl w.heap.size w)
  have H : ((impl_read.f k a0).bind fun t423 => (impl_points.l0 k ([] : List Int) t423 (t423.length : Int) 0)) = some r := h
  clear h
  replace H := Option.bind_eq_some_iff.mp H
  obtain ⟨t423, A20, H⟩ := H
  replace H : (impl_points.l0 k ([] : List Int) t423 (t423.length : Int) 0) = some r := H
  have A2 := Aside0.mk A20
  clear A20
  have H' := Aside0.mk H
  clear H
  go_enter Tryd.func47, Tryd.ntmps47
  go_wp2_with (first | ((with_reducible refine gate_callee (f := 80) rfl ?_); refine goesL_ (some 7) rfl rfl Tryd.func80 (by kernel_rfl) rfl #[.string a0] rfl (by (try simp only [List.map_toArray, List.map_cons, List.map_nil]); first | done | rfl | (simp only [List.length_drop, List.length_take]; rfl)) ?_; (with_reducible refine (impl_read.calls k a0 t423 _ A2.out (by first | exact HG.out | exact GT.below HG.out (by first | exact HB.out | (repeat (first | (with_reducible first | exact HB.out | apply below_alloc | apply pw_below_drewN | apply below_drew1) | exact HB.out))) | exact GT.below HG.out (HB.out))).mono ?_); rintro e w3 ⟨v424, rfl, ho0, hb⟩; refine ⟨_, rfl, ?_⟩; have n0_ := Aside0.mk (Kd.R_lower ho0 (below_size (by repeat (first | (with_reducible first | exact HB.out | apply below_alloc | apply pw_below_drewN | apply below_drew1) | exact HB.out)))); have n1_ := Aside0.mk (below_step (by repeat (first | (with_reducible first | exact HB.out | apply below_alloc | apply pw_below_drewN | apply below_drew1) | exact HB.out)) hb); clear HB; have HO425 := n0_; have HB := n1_; clear n0_ n1_; (try clear hb); (try clear hb2); (try clear hk); (try clear hi); (try clear ho0); obtain ⟨Ao4, co4, eo4⟩ := Kd.R_slice HO425.out; subst eo4))
  go_loopg [3, 9] k (fun kq v3 v9 w' => ∃ (x3_1 : List Int) (x9_1 : Int), v9 = .int .i64 x9_1 ∧ Aside0 (impl_points.l0 kq x3_1 t423 (t423.length : Int) x9_1 = some r) ∧ Aside0 (kq ≤ k) ∧ Aside0 (Kd.R (Kd.int .i64) 2 w' w.heap.size (fun _ => True) v3 x3_1) ∧ Aside0 (Kd.R k96 96 w' w.heap.size (fun _ => True) (.slice Ao4 t423.length co4) t423) ∧ Aside0 (Below w.heap.size w w'))
  case atStart => exact ⟨(([] : List Int)), (0), (by first | rfl | (simp; done) | (simp [*]; done)), H', ⟨Nat.le_refl _⟩, ⟨by first | exact Kd.R_nil _ _ _ _ _ | exact Kd.N_nil _ _ _ _ _ | exact Kd.V_nil _ _ _ _ _ | exact Kd.Q_nil _ _ _ _ _ | exact Kd.S_nil _ _ _ _ _⟩, ⟨by (with_reducible repeat (first | apply Kd.R_alloc | apply Kd.R_drewN | apply Kd.R_drew)); exact HO425.out⟩, ⟨by repeat (first | (with_reducible first | exact HB.out | apply below_alloc | apply pw_below_drewN | apply below_drew1) | exact HB.out)⟩⟩
  case round =>
    clear H'
    try clear p2
    try clear c4
    obtain ⟨x3_1, x9_1, rfl, HA, HK1, HO_3, HO_7, HB⟩ := hrel
    cases gk with
    | zero => exact absurd HA.out (by simp [impl_points.l0])
    | succ k1 =>
      have H := HA.out
      clear HA
      simp only [impl_points.l0] at H
      by_cases c5 : x9_1 < (t423.length : Int)
      · rw [if_pos c5] at H
        have c5b0 : decide (x9_1 < (t423.length : Int)) = true := decide_eq_true c5
        clear c5
        by_cases c6 : 0 ≤ x9_1
        · rw [if_pos c6] at H
          have c6b0 : decide (0 ≤ x9_1) = true := decide_eq_true c6
          clear c6
          by_cases c7 : x9_1 < (t423.length : Int)
          · rw [if_pos c7] at H
            have c7b0 : decide (x9_1 < (t423.length : Int)) = true := decide_eq_true c7
            clear c7
            by_cases c8 : x3_1.length < 17592186044416
            · rw [if_pos c8] at H
              have LMc8 := Aside0.mk c8
              clear c8
              obtain ⟨y428, hy428⟩ : ∃ y_ : List Int, y_ = (x3_1 ++ [(rd_T96 t423 x9_1).f0]) := ⟨_, rfl⟩
              replace H : (impl_points.l0 k1 y428 t423 (t423.length : Int) (wrap64 (x9_1 + 1))) = some r := by first | (rw [hy428]; with_reducible exact H) | (have H2_ := (Option.bind_some _ _).symm.trans H; rw [hy428]; with_reducible exact H2_) | (have H2_ := (Option.bind_some _ _).symm.trans H; with_reducible exact H2_) | with_reducible exact H | (rw [hy428]; exact H) | exact H
              have Ny428 := Aside0.mk hy428
              clear hy428
              have H' := Aside0.mk H
              clear H
              have p426 : 0 ≤ (x9_1 : Int) := of_decide_eq_true (by first | (with_reducible assumption) | assumption)
              have q426 : x9_1 < (t423.length : Int) := of_decide_eq_true (by first | (with_reducible assumption) | assumption)
              obtain ⟨ad426, e426, hx426_0, hx426_1, hx426_2, hx426_3⟩ := at_T96 (Kd.R_reads' HO_7.out).2.2 x9_1 p426 q426
              cases e426
              replace p426 := eq_true p426
              replace q426 := eq_true q426
              go_wp2_with (first | ((with_reducible refine gate_dst (N := 5) rfl ?_); refine box_event ?hg (N := 5) ?hd (cs := #[.int .i64 0, .int .i64 0, .int .i64 0, .bool false]) (t := 96) ?hr ?_; (case hd => rfl); (case hg => rfl); (case hr => first | (go_simp; done) | (go_simp; rfl)); intro gb427 hg w9 hbox hb; have n0_ := Aside0.mk (Kd.R_below (by (with_reducible repeat (first | apply Kd.R_alloc | apply Kd.R_drewN | apply Kd.R_drew)); exact HO_3.out) hb); have n1_ := Aside0.mk (Kd.R_below (Kd.R_elderB (by (with_reducible repeat (first | apply Kd.R_alloc | apply Kd.R_drewN | apply Kd.R_drew)); exact HO_7.out) gb427 (Nat.le_of_eq hg.symm)) hb); have n2_ := Aside0.mk (below_step (by repeat (first | (with_reducible first | exact HB.out | apply below_alloc | apply pw_below_drewN | apply below_drew1) | exact HB.out)) hb); have n3_ := Aside0.mk (hbox); have n4_ := Aside0.mk ((by rw [hg]; exact (below_size (by repeat (first | (with_reducible first | exact HB.out | apply below_alloc | apply pw_below_drewN | apply below_drew1) | exact HB.out))) : w.heap.size ≤ gb427)); have n5_ := Aside0.mk ((by rw [hg]; exact (below_size (by repeat (first | (with_reducible first | exact HB.out | apply below_alloc | apply pw_below_drewN | apply below_drew1) | exact HB.out))) : w.heap.size ≤ gb427)); clear HO_3; clear HO_7; clear HB; have HO_3 := n0_; have HO_7 := n1_; have HB := n2_; have BK427 := n3_; have GW427 := n4_; have GE427 := n5_; clear n0_ n1_ n2_ n3_ n4_ n5_; clear hb hbox hg; have hcz10_0 : w9.cell? ⟨gb427, 0, none⟩ = some (.int .i64 0) := (blk_cell BK427.out 0).trans rfl; have hcz10_1 : w9.cell? ⟨gb427, 1, none⟩ = some (.int .i64 0) := (blk_cell BK427.out 1).trans rfl; have hcz10_2 : w9.cell? ⟨gb427, 2, none⟩ = some (.int .i64 0) := (blk_cell BK427.out 2).trans rfl; have hcz10_3 : w9.cell? ⟨gb427, 3, none⟩ = some (.bool false) := (blk_cell BK427.out 3).trans rfl; have hfz10_0 := blk_frozen BK427.out 0; have hfz10_1 := blk_frozen BK427.out 1; have hfz10_2 := blk_frozen BK427.out 2; have hfz10_3 := blk_frozen BK427.out 3) | ((with_reducible refine gate_builtin (b := .append) (xs := #[.tmp 13, .tmp 16]) rfl ?_); at_builtin; refine Kd.R_append (Kd.int .i64) (w0 := w) w.heap.size rfl (.tmp 13) (.tmp 16) 28 2 (.int .i64 0) 8 rfl Tryd.underlying28 info2 rfl (by decide) (by omega) u3 x3_1 ((rd_T96 t423 x9_1).f0) [.int .i64 ((rd_T96 t423 x9_1).f0)] (fun _ => True) (fun _ => False) rfl (by first | (go_simp; done) | (go_simp; rfl)) ?aP (fun _ hk => hk.elim) ?aF ?aO ?aB ?aS ?aL ?_; (case aP => exact rfl); (case aB => exact (by repeat (first | (with_reducible first | exact HB.out | apply below_alloc | apply pw_below_drewN | apply below_drew1 | refine below_set ?_ GE427.out) | exact HB.out))); (case aF => exact (fun _ _ => trivial)); (case aO => exact (by (with_reducible repeat (first | apply Kd.R_alloc | apply Kd.R_drewN | apply Kd.R_drew)); exact Kd.R_mono (Kd.R_far (p := ⟨gb427, 3, none⟩) (Kd.R_far (p := ⟨gb427, 2, none⟩) (Kd.R_far (p := ⟨gb427, 1, none⟩) (Kd.R_far (p := ⟨gb427, 0, none⟩) (Kd.R_types HO_3.out BK427.out (by decide)) (fun _ hk => hk.2) (.int .i64 ((rd_T96 t423 x9_1).f0))) (fun _ hk => hk.2) (.int .i64 ((rd_T96 t423 x9_1).f1))) (fun _ hk => hk.2) (.int .i64 ((rd_T96 t423 x9_1).f2))) (fun _ hk => hk.2) (.bool ((rd_T96 t423 x9_1).f3))) (fun _ hk => trivial))); (case aS => exact (below_size (by repeat (first | (with_reducible first | exact HB.out | apply below_alloc | apply pw_below_drewN | apply below_drew1 | refine below_set ?_ GE427.out) | exact HB.out)))); (case aL => have := LMc8.out; omega); intro v429 w11 ho hb hg hat; rw [← Ny428.out] at ho; have n0_ := Aside0.mk (Kd.R_over' (by (with_reducible repeat (first | apply Kd.R_alloc | apply Kd.R_drewN | apply Kd.R_drew)); exact (Kd.R_mono (Kd.R_far (p := ⟨gb427, 3, none⟩) (Kd.R_far (p := ⟨gb427, 2, none⟩) (Kd.R_far (p := ⟨gb427, 1, none⟩) (Kd.R_far (p := ⟨gb427, 0, none⟩) (Kd.R_mono HO_7.out (fun k_ hk => (⟨hk, hk.2⟩ : _ ∧ k_ ≠ gb427))) (fun _ hk => hk.2) (.int .i64 ((rd_T96 t423 x9_1).f0))) (fun _ hk => hk.2) (.int .i64 ((rd_T96 t423 x9_1).f1))) (fun _ hk => hk.2) (.int .i64 ((rd_T96 t423 x9_1).f2))) (fun _ hk => hk.2) (.bool ((rd_T96 t423 x9_1).f3))) (fun _ h_ => h_.1))) (Kd.R_typed (by (with_reducible repeat (first | apply Kd.R_alloc | apply Kd.R_drewN | apply Kd.R_drew)); exact (Kd.R_mono (Kd.R_far (p := ⟨gb427, 3, none⟩) (Kd.R_far (p := ⟨gb427, 2, none⟩) (Kd.R_far (p := ⟨gb427, 1, none⟩) (Kd.R_far (p := ⟨gb427, 0, none⟩) (Kd.R_types HO_3.out BK427.out (by decide)) (fun _ hk => hk.2) (.int .i64 ((rd_T96 t423 x9_1).f0))) (fun _ hk => hk.2) (.int .i64 ((rd_T96 t423 x9_1).f1))) (fun _ hk => hk.2) (.int .i64 ((rd_T96 t423 x9_1).f2))) (fun _ hk => hk.2) (.bool ((rd_T96 t423 x9_1).f3))) (fun _ h_ => h_.1)))) (by decide) hg); have n1_ := Aside0.mk (blk_grown (g := gb427) (o := .cells #[.int .i64 ((rd_T96 t423 x9_1).f0), .int .i64 ((rd_T96 t423 x9_1).f1), .int .i64 ((rd_T96 t423 x9_1).f2), .bool ((rd_T96 t423 x9_1).f3)] 96 (0, 0)) (by (with_reducible repeat (first | refine blk_drewN ?_ _ | refine blk_drew ?_ | refine blk_alloc ?_ _)); refine blk_put (cs := #[.int .i64 ((rd_T96 t423 x9_1).f0), .int .i64 ((rd_T96 t423 x9_1).f1), .int .i64 ((rd_T96 t423 x9_1).f2), .bool false]) ?_ 3 _ rfl; (with_reducible repeat (first | refine blk_drewN ?_ _ | refine blk_drew ?_ | refine blk_alloc ?_ _)); refine blk_put (cs := #[.int .i64 ((rd_T96 t423 x9_1).f0), .int .i64 ((rd_T96 t423 x9_1).f1), .int .i64 0, .bool false]) ?_ 2 _ rfl; (with_reducible repeat (first | refine blk_drewN ?_ _ | refine blk_drew ?_ | refine blk_alloc ?_ _)); refine blk_put (cs := #[.int .i64 ((rd_T96 t423 x9_1).f0), .int .i64 0, .int .i64 0, .bool false]) ?_ 1 _ rfl; (with_reducible repeat (first | refine blk_drewN ?_ _ | refine blk_drew ?_ | refine blk_alloc ?_ _)); refine blk_put (cs := #[.int .i64 0, .int .i64 0, .int .i64 0, .bool false]) ?_ 0 _ rfl; (with_reducible repeat (first | refine blk_drewN ?_ _ | refine blk_drew ?_ | refine blk_alloc ?_ _)); exact BK427.out) hg (Kd.R_ne HO_3.out BK427.out (by decide))); have n2_ := Aside0.mk (hb); have n3_ := Aside0.mk (ho); clear HO_7; clear BK427; clear HB; clear HO_3; have HO_7 := n0_; have BK427 := n1_; have HB := n2_; have HO430 := n3_; clear n0_ n1_ n2_ n3_; clear ho hb hg hat))
              go_roundg k1
              case measure => have := HK1.out; omega
              case rel => exact ⟨(y428), (wrap64 (x9_1 + 1)), (by first | rfl | (simp; done) | (simp [*]; done)), H', ⟨by have := HK1.out; omega⟩, ⟨by (with_reducible repeat (first | apply Kd.R_alloc | apply Kd.R_drewN | apply Kd.R_drew)); exact HO430.out⟩, ⟨by (with_reducible repeat (first | apply Kd.R_alloc | apply Kd.R_drewN | apply Kd.R_drew)); exact Kd.R_mono HO_7.out (fun _ hk => trivial)⟩, ⟨by repeat (first | (with_reducible first | exact HB.out | apply below_alloc | apply pw_below_drewN | apply below_drew1 | refine below_set ?_ GE427.out) | exact HB.out)⟩⟩
            · rw [if_neg c8] at H
              exact absurd H (by simp)
          · rw [if_neg c7] at H
            exact absurd H (by simp)
        · rw [if_neg c6] at H
          exact absurd H (by simp)
      · rw [if_neg c5] at H
        have c5b0 : decide (x9_1 < (t423.length : Int)) = false := decide_eq_false c5
        clear c5
        obtain rfl := Option.some.inj H
        go_wp2
        go_ret
        exact ⟨_, by first | rfl | (simp [errW_none, errW_some] <;> rfl) | (simp [*, errW_none, errW_some] <;> rfl), by (with_reducible repeat (first | apply Kd.R_alloc | apply Kd.R_drewN | apply Kd.R_drew)); exact HO_3.out, by repeat (first | (with_reducible first | exact HB.out | apply below_alloc | apply pw_below_drewN | apply below_drew1) | exact HB.out)⟩

def W_impl_points.f (a0 : ByteArray) : Option (List Int) := if a0.size ≤ 1099511627776 then some (YtphjfenhnhfakaaDoorPts.pts (bytesOf a0)) else none
theorem impl_points.decodeGo (s : ByteArray) (i : Nat) (h : i < s.size) : (((Lib.decodeGo (s.extract i s.size)).1 : Int), (Lib.decodeGo (s.extract i s.size)).2) = YtphjfenhnhfakaaDoorPts.dec ((bytesOf s).drop i) := by
  have hz : (s.extract i s.size).size = s.size - i := by simp
  unfold Lib.decodeGo
  rw [if_neg (by omega), YtphjfenhnhfakaaDoorPts.decode_dec, List.drop_zero]
  have e : bytesOf (s.extract i s.size) = (bytesOf s).drop i := by
    unfold bytesOf
    rw [← List.map_drop]
    congr 1
    simp only [ByteArray.data_extract, Array.toList_extract, List.extract_eq_take_drop]
    exact List.take_of_length_le (by rw [List.length_drop, data_length]; omega)
  rw [e]
theorem impl_points.read (s : ByteArray) (hs : s.size ≤ 1099511627776) (d : Nat) : ∀ (k i : Nat) (acc : List (S96)), i ≤ s.size → s.size - i ≤ d → d < k → acc.length + (s.size - i) ≤ 1099511627776 →
    ∃ l, impl_read.l0 k s acc (i : Int) = some l ∧ l.length ≤ acc.length + (s.size - i) ∧ l.map (fun x => x.f0) = acc.map (fun x => x.f0) ++ YtphjfenhnhfakaaDoorPts.pts ((bytesOf s).drop i) := by
  induction d with
  | zero =>
    intro k i acc h1 h2 h3 h4
    obtain ⟨k, rfl⟩ : ∃ m, k = m + 1 := ⟨k - 1, by omega⟩
    simp only [impl_read.l0]
    rw [if_neg (by omega), List.drop_eq_nil_of_le (by rw [bytesOf_length]; omega)]
    exact ⟨acc, rfl, by omega, by simp [YtphjfenhnhfakaaDoorPts.pts_nil]⟩
  | succ d ih =>
    intro k i acc h1 h2 h3 h4
    obtain ⟨k, rfl⟩ : ∃ m, k = m + 1 := ⟨k - 1, by omega⟩
    simp only [impl_read.l0]
    by_cases hlt : i < s.size
    · rw [if_pos (by omega), if_pos (by omega), if_pos (by omega)]
      unfold utf8_DecodeRuneInString.f
      simp only [Option.bind_some, Int.toNat_natCast]
      have hne : (bytesOf s).drop i ≠ [] := by intro h; have := congrArg List.length h; rw [List.length_drop, bytesOf_length] at this; simp at this; omega
      have hb := YtphjfenhnhfakaaDoorPts.dec_bound hne
      rw [List.length_drop, bytesOf_length] at hb
      have hg := impl_points.decodeGo s i hlt
      have e1 := congrArg Prod.fst hg
      have e2 := congrArg Prod.snd hg
      simp only [] at e1 e2
      obtain ⟨q, hq⟩ : ∃ q, YtphjfenhnhfakaaDoorPts.dec ((bytesOf s).drop i) = q := ⟨_, rfl⟩
      have hcons := YtphjfenhnhfakaaDoorPts.pts_cons hne
      rw [hq] at e1 e2 hb hcons
      rw [e1, e2]
      have hp := hb.2.2.2
      have hw0 : wrap64 q.1 = q.1 := by unfold YtphjfenhnhfakaaDoorPts.isP at hp; unfold wrap64; omega
      have hw1 : wrap64 ((i : Int) + (q.2 : Int)) = ((i + q.2 : Nat) : Int) := by unfold wrap64; omega
      rw [hw0, hw1]
      clear hw0 hw1
      have go : ∀ b : Bool, ∃ l, impl_read.l0 k s (acc ++ [(⟨q.1, (i : Int), ((i + q.2 : Nat) : Int), b⟩ : S96)]) ((i + q.2 : Nat) : Int) = some l ∧ l.length ≤ acc.length + (s.size - i) ∧ l.map (fun x => x.f0) = acc.map (fun x => x.f0) ++ YtphjfenhnhfakaaDoorPts.pts ((bytesOf s).drop i) := by
        intro b
        obtain ⟨l, hl1, hl2, hl3⟩ := ih k (i + q.2) (acc ++ [(⟨q.1, (i : Int), ((i + q.2 : Nat) : Int), b⟩ : S96)]) (by omega) (by omega) (by omega) (by rw [List.length_append]; simp only [List.length_cons, List.length_nil]; omega)
        refine ⟨l, hl1, ?_, ?_⟩
        · rw [List.length_append] at hl2; simp only [List.length_cons, List.length_nil] at hl2; omega
        · rw [hl3, hcons, List.drop_drop]; simp
      split
      · rw [if_pos (by omega)]; exact go _
      · rw [if_pos (by omega)]; exact go _
    · rw [if_neg (by omega), List.drop_eq_nil_of_le (by rw [bytesOf_length]; omega)]
      exact ⟨acc, rfl, by omega, by simp [YtphjfenhnhfakaaDoorPts.pts_nil]⟩
theorem impl_points.run (l : List (S96)) (hl : l.length ≤ 1099511627776) (d : Nat) : ∀ (k i : Nat), i ≤ l.length → l.length - i = d → d < k →
    impl_points.l0 k ((l.take i).map fun x => x.f0) l (l.length : Int) (i : Int) = some (l.map fun x => x.f0) := by
  induction d with
  | zero =>
    intro k i h1 h2 h3
    obtain ⟨k, rfl⟩ : ∃ m, k = m + 1 := ⟨k - 1, by omega⟩
    simp only [impl_points.l0]
    rw [if_neg (by omega), List.take_of_length_le (by omega)]
  | succ d ih =>
    intro k i h1 h2 h3
    obtain ⟨k, rfl⟩ : ∃ m, k = m + 1 := ⟨k - 1, by omega⟩
    have hlt : i < l.length := by omega
    simp only [impl_points.l0]
    rw [if_pos (by omega), if_pos (by omega), if_pos (by omega), if_pos (by rw [List.length_map, List.length_take]; omega)]
    have hw : wrap64 ((i : Int) + 1) = ((i + 1 : Nat) : Int) := by unfold wrap64; omega
    have hr : rd_T96 l (i : Int) = l[i] := by simp [rd_T96, List.getD, hlt]
    have ht : (l.take (i + 1)).map (fun x => x.f0) = (l.take i).map (fun x => x.f0) ++ [l[i].f0] := by
      rw [List.take_succ_eq_append_getElem hlt, List.map_append]; rfl
    rw [hr, hw, ← ht]
    exact ih k (i + 1) (by omega) (by omega) (by omega)
theorem W_impl_points.to {a0 : ByteArray} {r : List Int} (h : W_impl_points.f a0 = some r) : ∃ k, impl_points.f k a0 = some r := by
  unfold W_impl_points.f at h
  split at h
  · rename_i hs
    obtain ⟨l, h1, h2, h3⟩ := impl_points.read a0 hs a0.size (a0.size + 1 + a0.size) 0 [] (by omega) (by omega) (by omega) (by simp; omega)
    refine ⟨a0.size + 1 + a0.size, ?_⟩
    rw [← h]
    unfold impl_points.f impl_read.f
    rw [show ((0 : Int)) = ((0 : Nat) : Int) from rfl, h1]
    simp only [Option.bind_some]
    have h4 := impl_points.run l (by simp at h2; omega) l.length (a0.size + 1 + a0.size) 0 (by omega) (by omega) (by simp at h2; omega)
    simp only [List.take_zero, List.map_nil] at h4
    rw [h4, h3]
    simp
  · cases h
theorem W_impl_points.calls (a0 : ByteArray) (r : List Int) (w : World) (h : W_impl_points.f a0 = some r) (hG : GT w) :
    Calls Tryd.prog 47 #[.string a0] w fun e w' => ∃ v0_ : Value, e = .returned (v0_) ∧ Kd.R (Kd.int .i64) 2 w' w.heap.size (fun _ => True) v0_ r ∧ Below w.heap.size w w' := by
  obtain ⟨k, hk⟩ := W_impl_points.to h
  exact impl_points.calls k a0 r w hk hG

/-! ### impl_PointsOf: function 15 -/
def impl_PointsOf.f (a0 : ByteArray) : Option (List Int) := (impl_long.f a0).bind fun t431 => (if t431 = true then (some ([] : List Int)) else ((W_impl_points.f a0).bind fun t432 => (some t432)))
set_option maxHeartbeats 8000000 in
set_option maxRecDepth 100000 in
theorem impl_PointsOf.calls (a0 : ByteArray) (r : List Int) (w : World) (h : impl_PointsOf.f a0 = some r) (hG : GT w) :
    Calls Tryd.prog 15 #[.string a0] w fun e w' => ∃ v0_ : Value, e = .returned (v0_) ∧ Kd.R (Kd.int .i64) 2 w' w.heap.size (fun _ => True) v0_ r ∧ Below w.heap.size w w' := by
  have HG := Aside0.mk hG
  clear hG
  have HB := Aside0.mk (Below.refl w.heap.size w)
  have H : ((impl_long.f a0).bind fun t431 => (if t431 = true then (some ([] : List Int)) else ((W_impl_points.f a0).bind fun t432 => (some t432)))) = some r := h
  clear h
  replace H := Option.bind_eq_some_iff.mp H
  obtain ⟨t431, A20, H⟩ := H
  replace H : (if t431 = true then (some ([] : List Int)) else ((W_impl_points.f a0).bind fun t432 => (some t432))) = some r := H
  have A2 := Aside0.mk A20
  clear A20
  by_cases c3 : t431 = true
  · subst c3
    have H1 : (some ([] : List Int)) = some r := by rw [if_pos rfl] at H; exact H
    clear H
    have H := H1
    clear H1
    obtain rfl := Option.some.inj H
    go_enter Tryd.func15, Tryd.ntmps15
    go_wp2_with (first | ((with_reducible refine gate_callee (f := 37) rfl ?_); refine goesL_ (some 4) rfl rfl Tryd.func37 (by kernel_rfl) rfl #[.string a0] rfl (by (try simp only [List.map_toArray, List.map_cons, List.map_nil]); first | done | rfl | (simp only [List.length_drop, List.length_take]; rfl)) ?_; (with_reducible refine (impl_long.calls a0 true _ A2.out).mono ?_); rintro e w' ⟨rfl, ⟨nd, rfl⟩⟩; refine ⟨_, rfl, ?_⟩))
    go_ret
    exact ⟨_, by first | rfl | (simp [errW_none, errW_some] <;> rfl) | (simp [*, errW_none, errW_some] <;> rfl), by first | exact Kd.R_nil _ _ _ _ _ | exact Kd.N_nil _ _ _ _ _ | exact Kd.V_nil _ _ _ _ _ | exact Kd.Q_nil _ _ _ _ _ | exact Kd.S_nil _ _ _ _ _, by repeat (first | (with_reducible first | exact HB.out | apply below_alloc | apply pw_below_drewN | apply below_drew1) | exact HB.out)⟩
  · replace c3 := Bool.eq_false_iff.mpr c3
    subst c3
    have H1 : ((W_impl_points.f a0).bind fun t432 => (some t432)) = some r := by rw [if_neg (show ¬ (false = true) by decide)] at H; exact H
    clear H
    have H := H1
    clear H1
    replace H := Option.bind_eq_some_iff.mp H
    obtain ⟨t432, A40, H⟩ := H
    replace H : (some t432) = some r := H
    have A4 := Aside0.mk A40
    clear A40
    obtain rfl := Option.some.inj H
    go_enter Tryd.func15, Tryd.ntmps15
    go_wp2_with (first | ((with_reducible refine gate_callee (f := 37) rfl ?_); refine goesL_ (some 4) rfl rfl Tryd.func37 (by kernel_rfl) rfl #[.string a0] rfl (by (try simp only [List.map_toArray, List.map_cons, List.map_nil]); first | done | rfl | (simp only [List.length_drop, List.length_take]; rfl)) ?_; (with_reducible refine (impl_long.calls a0 false _ A2.out).mono ?_); rintro e w' ⟨rfl, ⟨nd, rfl⟩⟩; refine ⟨_, rfl, ?_⟩) | ((with_reducible refine gate_callee (f := 47) rfl ?_); refine goesL_ (some 6) rfl rfl Tryd.func47 (by kernel_rfl) rfl #[.string a0] rfl (by (try simp only [List.map_toArray, List.map_cons, List.map_nil]); first | done | rfl | (simp only [List.length_drop, List.length_take]; rfl)) ?_; (with_reducible refine (W_impl_points.calls a0 t432 _ A4.out (by first | exact HG.out | exact GT.below HG.out (by first | exact HB.out | (repeat (first | (with_reducible first | exact HB.out | apply below_alloc | apply pw_below_drewN | apply below_drew1) | exact HB.out))) | exact GT.below HG.out (HB.out))).mono ?_); rintro e w5 ⟨v433, rfl, ho0, hb⟩; refine ⟨_, rfl, ?_⟩; have n0_ := Aside0.mk (Kd.R_lower ho0 (below_size (by repeat (first | (with_reducible first | exact HB.out | apply below_alloc | apply pw_below_drewN | apply below_drew1) | exact HB.out)))); have n1_ := Aside0.mk (below_step (by repeat (first | (with_reducible first | exact HB.out | apply below_alloc | apply pw_below_drewN | apply below_drew1) | exact HB.out)) hb); clear HB; have HO434 := n0_; have HB := n1_; clear n0_ n1_; (try clear hb); (try clear hb2); (try clear hk); (try clear hi); (try clear ho0)))
    go_ret
    exact ⟨_, by first | rfl | (simp [errW_none, errW_some] <;> rfl) | (simp [*, errW_none, errW_some] <;> rfl), by (with_reducible repeat (first | apply Kd.R_alloc | apply Kd.R_drewN | apply Kd.R_drew)); exact HO434.out, by repeat (first | (with_reducible first | exact HB.out | apply below_alloc | apply pw_below_drewN | apply below_drew1) | exact HB.out)⟩

end Go.Proofs.YtphjfenhnhfakaaDoor.QFnPoints
