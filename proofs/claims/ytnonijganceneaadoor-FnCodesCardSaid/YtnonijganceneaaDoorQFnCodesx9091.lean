/- The law FnCodes: at every input the call answers true (this text: contracts on its way, by a program of this session's; no condition of ours). -/
import Derived.Test.YtnonijganceneaaDoorQFnCodesx0
import Derived.Test.YtnonijganceneaaDoorQFnCodesx6
import Derived.Test.YtnonijganceneaaDoorQFnCodesx9090
namespace Go.Proofs.YtnonijganceneaaDoor.QFnCodes
open Go.RowKit Go.Proofs.YtnonijganceneaaDoorW.PrintWords Go.Proofs.YtnonijganceneaaDoorW.PrintLast Go.Proofs.YtnonijganceneaaDoorW.PrintMore
attribute [local go_sem] max2_int min2_int max_two min_two max_three min_three max_four min_four   -- for this text's walks alone
set_option linter.unusedVariables false
set_option linter.unusedSimpArgs false
set_option maxHeartbeats 8000000 in
set_option maxRecDepth 100000 in
theorem spec_l01Src_point.calls_1 (k : Nat) (g : Nat) (s0_0 : List Int) (s0_1 : Int) (s0_2 : Int) (s0_3 : Int) (r1 : Int) (r2 : Int) (r3 : Int) (r4 : Int) (w0 w : World) (hI : IsS145 w0 w g s0_0 s0_1 s0_2 s0_3) (hB : Below w0.heap.size w0 w) (h : spec_l01Src_point.f k s0_0 s0_1 s0_2 s0_3 = some (r1, r2, r3, r4)) (hv_ : ∀ x_ y_, spec_l01Src_n.f s0_0 s0_1 s0_2 s0_3 24 = some (x_, y_) → 7 ≤ x_ ∧ x_ < 17) :
    Calls Tryd.prog 154 #[.pointer (some ⟨g, 0, none⟩)] w fun e w' => e = .returned (.int .i64 r1) ∧ IsS145 w0 w' g s0_0 r2 r3 r4 ∧ Below w0.heap.size w0 w' ∧ KeepBut w w' g none := by
  have HI0 := Aside0.mk hI
  have HK := Aside0.mk (KeepBut.refl w g none)
  have HL := Aside0.mk hB.size
  clear hI
  have HW0 := Aside0.mk hB.size
  have HB := Aside0.mk hB
  clear hB
  have H : ((spec_l01Src_n.f s0_0 s0_1 s0_2 s0_3 24).bind fun bt244 => (if bt244.1 = 0 then (spec_l01Src_point.j0 k bt244.1 (bt244.1 == 0) s0_0 bt244.2.1 bt244.2.2.1 bt244.2.2.2) else (if bt244.1 = 1 then (spec_l01Src_point.j0 k bt244.1 (bt244.1 == 1) s0_0 bt244.2.1 bt244.2.2.1 bt244.2.2.2) else (spec_l01Src_point.j0 k bt244.1 (bt244.1 == 2) s0_0 bt244.2.1 bt244.2.2.1 bt244.2.2.2)))) = some (r1, r2, r3, r4) := h
  clear h
  replace H := Option.bind_eq_some_iff.mp H
  obtain ⟨⟨t244, t245, t246, t247⟩, A20, H⟩ := H
  have HV := Aside0.mk (hv_ _ _ A20)
  clear hv_
  replace H : (if t244 = 0 then (spec_l01Src_point.j0 k t244 (t244 == 0) s0_0 t245 t246 t247) else (if t244 = 1 then (spec_l01Src_point.j0 k t244 (t244 == 1) s0_0 t245 t246 t247) else (spec_l01Src_point.j0 k t244 (t244 == 2) s0_0 t245 t246 t247))) = some (r1, r2, r3, r4) := H
  have A2 := Aside0.mk A20
  clear A20
  have HC3 := Aside0.mk H
  clear H
  go_enter Tryd.func154, Tryd.ntmps154
  go_upto_if 5 with (first | ((with_reducible refine gate_callee (f := 94) rfl ?_); refine goesL_ (some 4) rfl rfl Tryd.func94 (by kernel_rfl) rfl #[.pointer (some ⟨g, 0, none⟩), .int .i64 24] rfl (by (try simp only [List.map_toArray, List.map_cons, List.map_nil]); first | done | rfl | (simp only [List.length_drop, List.length_take]; rfl)) ?_; (with_reducible refine (spec_l01Src_n.calls g s0_0 s0_1 s0_2 s0_3 24 t244 t245 t246 t247 w0 _ ?side1 ?side2 A2.out).mono ?_); (case side1 => repeat (first | (with_reducible first | exact HI0.out | apply IsS145.alloc | apply IsS145.drewN | apply IsS145.drew | apply IsS145.set_1 | apply IsS145.set_2 | apply IsS145.set_3) | exact HI0.out)); (case side2 => repeat (first | (with_reducible first | exact HB.out | apply below_alloc | apply pw_below_drewN | apply below_drew1 | refine below_set ?_ (IsS145.ge HI0.out)) | exact HB.out)); rintro e w4 ⟨rfl, hi, hb, hk⟩; refine ⟨_, rfl, ?_⟩; have n0_ := Aside0.mk (KeepBut.trans (by repeat (first | (with_reducible first | exact HK.out | apply KeepBut.set_ | apply keep_drewN | apply keep_drew | apply keep_alloc) | exact HK.out)) hk (.inl rfl)); have n1_ := Aside0.mk (hb); have n2_ := Aside0.mk (hi); clear HK; clear HB; clear HI0; have HK := n0_; have HB := n1_; have HI0 := n2_; clear n0_ n1_ n2_; (try clear hb); (try clear hb2); (try clear hk); (try clear hi)))
  (try simp only [Act.put, List.setIfInBounds_toArray, List.set_cons_zero, List.set_cons_succ])
  go_cut [5] (fun v5 wc => ∃ (kq : Nat) (x5_2 : Bool), v5 = .bool x5_2 ∧ Aside0 (spec_l01Src_point.j0 kq t244 x5_2 s0_0 t245 t246 t247 = some (r1, r2, r3, r4)) ∧ Aside0 (kq ≤ k) ∧ Aside0 (IsS145 w0 wc g s0_0 t245 t246 t247) ∧ Aside0 (KeepBut w wc g none) ∧ Aside0 (Below w0.heap.size w0 wc))
  case first =>
    have H := HC3.out
    clear HC3
    by_cases c5 : t244 = 0
    · exfalso
      have h_ := HV.out
      rw [c5] at h_
      exact absurd h_ (by decide)
    · rw [if_neg c5] at H
      have c5b0 : (t244 == 0) = false := beq_eq_false_iff_ne.mpr c5
      have c5b1 : (t244 != 0) = true := bne_iff_ne.mpr c5
      (first | rw [c5b0] | (simp only [i64_w, i32_w]; rw [c5b0]) | skip)
      by_cases c6 : t244 = 1
      · exfalso
        have h_ := HV.out
        rw [c6] at h_
        exact absurd h_ (by decide)
      · rw [if_neg c6] at H
        have c6b0 : (t244 == 1) = false := beq_eq_false_iff_ne.mpr c6
        have c6b1 : (t244 != 1) = true := bne_iff_ne.mpr c6
        have H' := Aside0.mk H
        clear H
        go_wp2
        go_meet
        case rel => exact ⟨_, ((t244 == 2)), (by first | rfl | (simp; done) | (simp [*]; done)), H', ⟨by first | omega | exact Nat.le_refl _⟩, ⟨by repeat (first | (with_reducible first | exact HI0.out | apply IsS145.alloc | apply IsS145.drewN | apply IsS145.drew | apply IsS145.set_1 | apply IsS145.set_2 | apply IsS145.set_3) | exact HI0.out)⟩, ⟨by repeat (first | (with_reducible first | exact HK.out | apply KeepBut.set_ | apply keep_drewN | apply keep_drew | apply keep_alloc) | exact HK.out)⟩, ⟨by repeat (first | (with_reducible first | exact HB.out | apply below_alloc | apply pw_below_drewN | apply below_drew1 | refine below_set ?_ (IsS145.ge HI0.out)) | exact HB.out)⟩⟩
  case rest =>
    clear HC3
    try clear c1
    try clear p2
    try clear c5
    try clear c5b0
    try clear c5b1
    try clear c6
    try clear c6b0
    try clear c6b1
    obtain ⟨kq, x5_2, rfl, HA, HJ2, HI0, HK, HB⟩ := hcut
    cases kq with
    | zero => exact absurd HA.out (by simp [spec_l01Src_point.j0])
    | succ kj2 =>
      have H := HA.out
      clear HA
      simp only [spec_l01Src_point.j0] at H
      by_cases c7 : x5_2 = true
      · subst c7
        have H1 : ((spec_l01Src_n.f s0_0 t245 t246 t247 26).bind fun bt248 => (some (wrap64 (97 + bt248.1), bt248.2.1, bt248.2.2.1, bt248.2.2.2))) = some (r1, r2, r3, r4) := by rw [if_pos rfl] at H; exact H
        clear H
        have H := H1
        clear H1
        replace H := Option.bind_eq_some_iff.mp H
        obtain ⟨⟨t248, t249, t250, t251⟩, A80, H⟩ := H
        replace H : (some (wrap64 (97 + t248), t249, t250, t251)) = some (r1, r2, r3, r4) := H
        have A8 := Aside0.mk A80
        clear A80
        simp only [Option.some.injEq, Prod.mk.injEq] at H
        obtain ⟨rfl, rfl, rfl, rfl⟩ := H
        go_wp2_with (first | ((with_reducible refine gate_callee (f := 94) rfl ?_); refine goesL_ (some 10) rfl rfl Tryd.func94 (by kernel_rfl) rfl #[.pointer (some ⟨g, 0, none⟩), .int .i64 26] rfl (by (try simp only [List.map_toArray, List.map_cons, List.map_nil]); first | done | rfl | (simp only [List.length_drop, List.length_take]; rfl)) ?_; (with_reducible refine (spec_l01Src_n.calls g s0_0 t245 t246 t247 26 t248 t249 t250 t251 w0 _ ?side1 ?side2 A8.out).mono ?_); (case side1 => repeat (first | (with_reducible first | exact HI0.out | apply IsS145.alloc | apply IsS145.drewN | apply IsS145.drew | apply IsS145.set_1 | apply IsS145.set_2 | apply IsS145.set_3) | exact HI0.out)); (case side2 => repeat (first | (with_reducible first | exact HB.out | apply below_alloc | apply pw_below_drewN | apply below_drew1 | refine below_set ?_ (IsS145.ge HI0.out)) | exact HB.out)); rintro e w9 ⟨rfl, hi, hb, hk⟩; refine ⟨_, rfl, ?_⟩; have n0_ := Aside0.mk (KeepBut.trans (by repeat (first | (with_reducible first | exact HK.out | apply KeepBut.set_ | apply keep_drewN | apply keep_drew | apply keep_alloc) | exact HK.out)) hk (.inl rfl)); have n1_ := Aside0.mk (hb); have n2_ := Aside0.mk (hi); clear HK; clear HB; clear HI0; have HK := n0_; have HB := n1_; have HI0 := n2_; clear n0_ n1_ n2_; (try clear hb); (try clear hb2); (try clear hk); (try clear hi)))
        go_ret
        exact ⟨by first | rfl | (simp [errW_none, errW_some] <;> rfl) | (simp [*, errW_none, errW_some] <;> rfl), by repeat (first | (with_reducible first | exact HI0.out | apply IsS145.alloc | apply IsS145.drewN | apply IsS145.drew | apply IsS145.set_1 | apply IsS145.set_2 | apply IsS145.set_3) | exact HI0.out), by repeat (first | (with_reducible first | exact HB.out | apply below_alloc | apply pw_below_drewN | apply below_drew1 | refine below_set ?_ (IsS145.ge HI0.out)) | exact HB.out), by repeat (first | (with_reducible first | exact HK.out | apply KeepBut.set_ | apply keep_drewN | apply keep_drew | apply keep_alloc) | exact HK.out)⟩
      · replace c7 := Bool.eq_false_iff.mpr c7
        subst c7
        have H1 : (if t244 = 3 then ((spec_l01Src_n.f s0_0 t245 t246 t247 26).bind fun bt252 => (some (wrap64 (65 + bt252.1), bt252.2.1, bt252.2.2.1, bt252.2.2.2))) else (if t244 = 4 then ((some (([32, 32, 160, 10, 9, 13, 8064, 173] : List Int) : List Int)).bind fun y256 => ((spec_l01Src_n.f s0_0 t245 t246 t247 8).bind fun bt259 => (if 0 ≤ bt259.1 then (if bt259.1 < (y256.length : Int) then (some (rd y256 bt259.1, bt259.2.1, bt259.2.2.1, bt259.2.2.2)) else (none)) else (none)))) else (if t244 = 5 then ((spec_l01Src_n.f s0_0 t245 t246 t247 10).bind fun bt264 => ((spec_l01Src_n.f s0_0 bt264.2.1 bt264.2.2.1 bt264.2.2.2 10).bind fun bt268 => ((spec_l01Src_n.f s0_0 bt268.2.1 bt268.2.2.1 bt268.2.2.2 10).bind fun bt272 => ((spec_l01Src_n.f s0_0 bt272.2.1 bt272.2.2.1 bt272.2.2.2 10).bind fun bt276 => ((some (([wrap64 (48 + bt264.1), wrap64 (592 + bt268.1), wrap64 (1360 + bt272.1), wrap64 (10016 + bt276.1)] : List Int) : List Int)).bind fun y280 => ((spec_l01Src_n.f s0_0 bt276.2.1 bt276.2.2.1 bt276.2.2.2 4).bind fun bt283 => (if 0 ≤ bt283.1 then (if bt283.1 < (y280.length : Int) then (some (rd y280 bt283.1, bt283.2.1, bt283.2.2.1, bt283.2.2.2)) else (none)) else (none)))))))) else (if t244 = 6 then ((some (([46, 44, 33, 63, 39, 40, 41, 91, 93, 45, 58, 95] : List Int) : List Int)).bind fun y288 => ((spec_l01Src_n.f s0_0 t245 t246 t247 12).bind fun bt291 => (if 0 ≤ bt291.1 then (if bt291.1 < (y288.length : Int) then (some (rd y288 bt291.1, bt291.2.1, bt291.2.2.1, bt291.2.2.2)) else (none)) else (none)))) else (if t244 = 7 then (spec_l01Src_point.j1 kj2 t244 (t244 == 7) s0_0 t245 t246 t247) else (spec_l01Src_point.j1 kj2 t244 (t244 == 8) s0_0 t245 t246 t247)))))) = some (r1, r2, r3, r4) := by rw [if_neg (show ¬ (false = true) by decide)] at H; exact H
        clear H
        have H := H1
        clear H1
        by_cases c10 : t244 = 3
        · exfalso
          have h_ := HV.out
          rw [c10] at h_
          exact absurd h_ (by decide)
        · rw [if_neg c10] at H
          have c10b0 : (t244 == 3) = false := beq_eq_false_iff_ne.mpr c10
          have c10b1 : (t244 != 3) = true := bne_iff_ne.mpr c10
          by_cases c13 : t244 = 4
          · exfalso
            have h_ := HV.out
            rw [c13] at h_
            exact absurd h_ (by decide)
          · rw [if_neg c13] at H
            have c13b0 : (t244 == 4) = false := beq_eq_false_iff_ne.mpr c13
            have c13b1 : (t244 != 4) = true := bne_iff_ne.mpr c13
            by_cases c21 : t244 = 5
            · exfalso
              have h_ := HV.out
              rw [c21] at h_
              exact absurd h_ (by decide)
            · rw [if_neg c21] at H
              have c21b0 : (t244 == 5) = false := beq_eq_false_iff_ne.mpr c21
              have c21b1 : (t244 != 5) = true := bne_iff_ne.mpr c21
              by_cases c37 : t244 = 6
              · exfalso
                have h_ := HV.out
                rw [c37] at h_
                exact absurd h_ (by decide)
              · rw [if_neg c37] at H
                have c37b0 : (t244 == 6) = false := beq_eq_false_iff_ne.mpr c37
                have c37b1 : (t244 != 6) = true := bne_iff_ne.mpr c37
                have HC45 := Aside0.mk H
                clear H
                go_upto_if 50 with (fail)
                go_cut [50] (fun v50 wc => ∃ (kq : Nat) (x50_44 : Bool), v50 = .bool x50_44 ∧ Aside0 (spec_l01Src_point.j1 kq t244 x50_44 s0_0 t245 t246 t247 = some (r1, r2, r3, r4)) ∧ Aside0 (kq ≤ kj2) ∧ Aside0 (IsS145 w0 wc g s0_0 t245 t246 t247) ∧ Aside0 (KeepBut w wc g none) ∧ Aside0 (Below w0.heap.size w0 wc))
                case first =>
                  have H := HC45.out
                  clear HC45
                  by_cases c46 : t244 = 7
                  · rw [if_pos c46] at H
                    have c46b0 : (t244 == 7) = true := beq_iff_eq.mpr c46
                    have c46b1 : (t244 != 7) = false := bne_eq_false_iff_eq.mpr c46
                    clear c46
                    (first | rw [c46b0] | (simp only [i64_w, i32_w]; rw [c46b0]) | skip)
                    have H' := Aside0.mk H
                    clear H
                    go_wp2
                    go_meet
                    case rel => exact ⟨_, ((t244 == 7)), (by first | rfl | (simp; done) | (simp [*]; done)), H', ⟨by have := HJ2.out; first | omega | exact Nat.le_refl _⟩, ⟨by repeat (first | (with_reducible first | exact HI0.out | apply IsS145.alloc | apply IsS145.drewN | apply IsS145.drew | apply IsS145.set_1 | apply IsS145.set_2 | apply IsS145.set_3) | exact HI0.out)⟩, ⟨by repeat (first | (with_reducible first | exact HK.out | apply KeepBut.set_ | apply keep_drewN | apply keep_drew | apply keep_alloc) | exact HK.out)⟩, ⟨by repeat (first | (with_reducible first | exact HB.out | apply below_alloc | apply pw_below_drewN | apply below_drew1 | refine below_set ?_ (IsS145.ge HI0.out)) | exact HB.out)⟩⟩
                  · rw [if_neg c46] at H
                    have c46b0 : (t244 == 7) = false := beq_eq_false_iff_ne.mpr c46
                    have c46b1 : (t244 != 7) = true := bne_iff_ne.mpr c46
                    (first | rw [c46b0] | (simp only [i64_w, i32_w]; rw [c46b0]) | skip)
                    have H' := Aside0.mk H
                    clear H
                    go_wp2
                    go_meet
                    case rel => exact ⟨_, ((t244 == 8)), (by first | rfl | (simp; done) | (simp [*]; done)), H', ⟨by have := HJ2.out; first | omega | exact Nat.le_refl _⟩, ⟨by repeat (first | (with_reducible first | exact HI0.out | apply IsS145.alloc | apply IsS145.drewN | apply IsS145.drew | apply IsS145.set_1 | apply IsS145.set_2 | apply IsS145.set_3) | exact HI0.out)⟩, ⟨by repeat (first | (with_reducible first | exact HK.out | apply KeepBut.set_ | apply keep_drewN | apply keep_drew | apply keep_alloc) | exact HK.out)⟩, ⟨by repeat (first | (with_reducible first | exact HB.out | apply below_alloc | apply pw_below_drewN | apply below_drew1 | refine below_set ?_ (IsS145.ge HI0.out)) | exact HB.out)⟩⟩
                case rest =>
                  clear HC45
                  try clear c1
                  try clear c2
                  try clear p2
                  try clear q2
                  try clear hx2
                  try clear c3
                  try clear c4
                  try clear c5
                  try clear c5b0
                  try clear c5b1
                  try clear c6
                  try clear c6b0
                  try clear c6b1
                  try clear p6
                  try clear c7
                  try clear c9
                  try clear c10
                  try clear c10b0
                  try clear c10b1
                  try clear c13
                  try clear c13b0
                  try clear c13b1
                  try clear c15
                  try clear c15b0
                  try clear c16
                  try clear c16b0
                  try clear c21
                  try clear c21b0
                  try clear c21b1
                  try clear p26
                  try clear q26
                  try clear hx26
                  try clear c27
                  try clear c27b0
                  try clear c28
                  try clear c28b0
                  try clear p28
                  try clear q28
                  try clear hx28
                  try clear p29
                  try clear q29
                  try clear hx29
                  try clear c37
                  try clear c37b0
                  try clear c37b1
                  try clear c39
                  try clear c39b0
                  try clear c40
                  try clear c40b0
                  try clear c46
                  try clear c46b0
                  try clear c46b1
                  try clear hx263_0
                  try clear hx287_0
                  try clear hx295_0
                  try clear p2
                  try clear p263
                  try clear p287
                  try clear p295
                  try clear q263
                  try clear q287
                  try clear q295
                  obtain ⟨kq, x50_44, rfl, HA, HJ44, HI0, HK, HB⟩ := hcut
                  cases kq with
                  | zero => exact absurd HA.out (by simp [spec_l01Src_point.j1])
                  | succ kj44 =>
                    have H := HA.out
                    clear HA
                    simp only [spec_l01Src_point.j1] at H
                    by_cases c47 : x50_44 = true
                    · subst c47
                      have H1 : ((spec_l01Src_n.f s0_0 t245 t246 t247 3).bind fun bt296 => ((spec_l01Src_n.f s0_0 bt296.2.1 bt296.2.2.1 bt296.2.2.2 76).bind fun bt300 => (some (wrap64 ((wrap64 (512 + (wrap64 (256 * bt296.1)))) + bt300.1), bt300.2.1, bt300.2.2.1, bt300.2.2.2)))) = some (r1, r2, r3, r4) := by rw [if_pos rfl] at H; exact H
                      clear H
                      have H := H1
                      clear H1
                      replace H := Option.bind_eq_some_iff.mp H
                      obtain ⟨⟨t296, t297, t298, t299⟩, A480, H⟩ := H
                      replace H : ((spec_l01Src_n.f s0_0 t297 t298 t299 76).bind fun bt300 => (some (wrap64 ((wrap64 (512 + (wrap64 (256 * t296)))) + bt300.1), bt300.2.1, bt300.2.2.1, bt300.2.2.2))) = some (r1, r2, r3, r4) := H
                      have A48 := Aside0.mk A480
                      clear A480
                      replace H := Option.bind_eq_some_iff.mp H
                      obtain ⟨⟨t300, t301, t302, t303⟩, A490, H⟩ := H
                      replace H : (some (wrap64 ((wrap64 (512 + (wrap64 (256 * t296)))) + t300), t301, t302, t303)) = some (r1, r2, r3, r4) := H
                      have A49 := Aside0.mk A490
                      clear A490
                      simp only [Option.some.injEq, Prod.mk.injEq] at H
                      obtain ⟨rfl, rfl, rfl, rfl⟩ := H
                      go_wp2_with (first | ((with_reducible refine gate_callee (f := 94) rfl ?_); refine goesL_ (some 54) rfl rfl Tryd.func94 (by kernel_rfl) rfl #[.pointer (some ⟨g, 0, none⟩), .int .i64 3] rfl (by (try simp only [List.map_toArray, List.map_cons, List.map_nil]); first | done | rfl | (simp only [List.length_drop, List.length_take]; rfl)) ?_; (with_reducible refine (spec_l01Src_n.calls g s0_0 t245 t246 t247 3 t296 t297 t298 t299 w0 _ ?side1 ?side2 A48.out).mono ?_); (case side1 => repeat (first | (with_reducible first | exact HI0.out | apply IsS145.alloc | apply IsS145.drewN | apply IsS145.drew | apply IsS145.set_1 | apply IsS145.set_2 | apply IsS145.set_3) | exact HI0.out)); (case side2 => repeat (first | (with_reducible first | exact HB.out | apply below_alloc | apply pw_below_drewN | apply below_drew1 | refine below_set ?_ (IsS145.ge HI0.out)) | exact HB.out)); rintro e w50 ⟨rfl, hi, hb, hk⟩; refine ⟨_, rfl, ?_⟩; have n0_ := Aside0.mk (KeepBut.trans (by repeat (first | (with_reducible first | exact HK.out | apply KeepBut.set_ | apply keep_drewN | apply keep_drew | apply keep_alloc) | exact HK.out)) hk (.inl rfl)); have n1_ := Aside0.mk (hb); have n2_ := Aside0.mk (hi); clear HK; clear HB; clear HI0; have HK := n0_; have HB := n1_; have HI0 := n2_; clear n0_ n1_ n2_; (try clear hb); (try clear hb2); (try clear hk); (try clear hi)) | ((with_reducible refine gate_callee (f := 94) rfl ?_); refine goesL_ (some 58) rfl rfl Tryd.func94 (by kernel_rfl) rfl #[.pointer (some ⟨g, 0, none⟩), .int .i64 76] rfl (by (try simp only [List.map_toArray, List.map_cons, List.map_nil]); first | done | rfl | (simp only [List.length_drop, List.length_take]; rfl)) ?_; (with_reducible refine (spec_l01Src_n.calls g s0_0 t297 t298 t299 76 t300 t301 t302 t303 w0 _ ?side1 ?side2 A49.out).mono ?_); (case side1 => repeat (first | (with_reducible first | exact HI0.out | apply IsS145.alloc | apply IsS145.drewN | apply IsS145.drew | apply IsS145.set_1 | apply IsS145.set_2 | apply IsS145.set_3) | exact HI0.out)); (case side2 => repeat (first | (with_reducible first | exact HB.out | apply below_alloc | apply pw_below_drewN | apply below_drew1 | refine below_set ?_ (IsS145.ge HI0.out)) | exact HB.out)); rintro e w51 ⟨rfl, hi, hb, hk⟩; refine ⟨_, rfl, ?_⟩; have n0_ := Aside0.mk (KeepBut.trans (by repeat (first | (with_reducible first | exact HK.out | apply KeepBut.set_ | apply keep_drewN | apply keep_drew | apply keep_alloc) | exact HK.out)) hk (.inl rfl)); have n1_ := Aside0.mk (hb); have n2_ := Aside0.mk (hi); clear HK; clear HB; clear HI0; have HK := n0_; have HB := n1_; have HI0 := n2_; clear n0_ n1_ n2_; (try clear hb); (try clear hb2); (try clear hk); (try clear hi)))
                      go_ret
                      exact ⟨by first | rfl | (simp [errW_none, errW_some] <;> rfl) | (simp [*, errW_none, errW_some] <;> rfl), by repeat (first | (with_reducible first | exact HI0.out | apply IsS145.alloc | apply IsS145.drewN | apply IsS145.drew | apply IsS145.set_1 | apply IsS145.set_2 | apply IsS145.set_3) | exact HI0.out), by repeat (first | (with_reducible first | exact HB.out | apply below_alloc | apply pw_below_drewN | apply below_drew1 | refine below_set ?_ (IsS145.ge HI0.out)) | exact HB.out), by repeat (first | (with_reducible first | exact HK.out | apply KeepBut.set_ | apply keep_drewN | apply keep_drew | apply keep_alloc) | exact HK.out)⟩
                    · replace c47 := Bool.eq_false_iff.mpr c47
                      subst c47
                      have H1 : (if t244 = 9 then ((spec_l01Src_n.f s0_0 t245 t246 t247 3).bind fun bt304 => ((spec_l01Src_n.f s0_0 bt304.2.1 bt304.2.2.1 bt304.2.2.2 2).bind fun bt308 => (some (wrap64 ((wrap64 ((wrap64 (512 + (wrap64 (256 * bt304.1)))) + 96)) + bt308.1), bt308.2.1, bt308.2.2.1, bt308.2.2.2)))) else (if t244 = 10 then (spec_l01Src_point.j2 kj44 t244 (t244 == 10) s0_0 t245 t246 t247) else (spec_l01Src_point.j2 kj44 t244 (t244 == 11) s0_0 t245 t246 t247))) = some (r1, r2, r3, r4) := by rw [if_neg (show ¬ (false = true) by decide)] at H; exact H
                      clear H
                      have H := H1
                      clear H1
                      by_cases c52 : t244 = 9
                      · rw [if_pos c52] at H
                        have c52b0 : (t244 == 9) = true := beq_iff_eq.mpr c52
                        have c52b1 : (t244 != 9) = false := bne_eq_false_iff_eq.mpr c52
                        clear c52
                        replace H := Option.bind_eq_some_iff.mp H
                        obtain ⟨⟨t304, t305, t306, t307⟩, A530, H⟩ := H
                        replace H : ((spec_l01Src_n.f s0_0 t305 t306 t307 2).bind fun bt308 => (some (wrap64 ((wrap64 ((wrap64 (512 + (wrap64 (256 * t304)))) + 96)) + bt308.1), bt308.2.1, bt308.2.2.1, bt308.2.2.2))) = some (r1, r2, r3, r4) := H
                        have A53 := Aside0.mk A530
                        clear A530
                        replace H := Option.bind_eq_some_iff.mp H
                        obtain ⟨⟨t308, t309, t310, t311⟩, A540, H⟩ := H
                        replace H : (some (wrap64 ((wrap64 ((wrap64 (512 + (wrap64 (256 * t304)))) + 96)) + t308), t309, t310, t311)) = some (r1, r2, r3, r4) := H
                        have A54 := Aside0.mk A540
                        clear A540
                        simp only [Option.some.injEq, Prod.mk.injEq] at H
                        obtain ⟨rfl, rfl, rfl, rfl⟩ := H
                        go_wp2_with (first | ((with_reducible refine gate_callee (f := 94) rfl ?_); refine goesL_ (some 63) rfl rfl Tryd.func94 (by kernel_rfl) rfl #[.pointer (some ⟨g, 0, none⟩), .int .i64 3] rfl (by (try simp only [List.map_toArray, List.map_cons, List.map_nil]); first | done | rfl | (simp only [List.length_drop, List.length_take]; rfl)) ?_; (with_reducible refine (spec_l01Src_n.calls g s0_0 t245 t246 t247 3 t304 t305 t306 t307 w0 _ ?side1 ?side2 A53.out).mono ?_); (case side1 => repeat (first | (with_reducible first | exact HI0.out | apply IsS145.alloc | apply IsS145.drewN | apply IsS145.drew | apply IsS145.set_1 | apply IsS145.set_2 | apply IsS145.set_3) | exact HI0.out)); (case side2 => repeat (first | (with_reducible first | exact HB.out | apply below_alloc | apply pw_below_drewN | apply below_drew1 | refine below_set ?_ (IsS145.ge HI0.out)) | exact HB.out)); rintro e w55 ⟨rfl, hi, hb, hk⟩; refine ⟨_, rfl, ?_⟩; have n0_ := Aside0.mk (KeepBut.trans (by repeat (first | (with_reducible first | exact HK.out | apply KeepBut.set_ | apply keep_drewN | apply keep_drew | apply keep_alloc) | exact HK.out)) hk (.inl rfl)); have n1_ := Aside0.mk (hb); have n2_ := Aside0.mk (hi); clear HK; clear HB; clear HI0; have HK := n0_; have HB := n1_; have HI0 := n2_; clear n0_ n1_ n2_; (try clear hb); (try clear hb2); (try clear hk); (try clear hi)) | ((with_reducible refine gate_callee (f := 94) rfl ?_); refine goesL_ (some 68) rfl rfl Tryd.func94 (by kernel_rfl) rfl #[.pointer (some ⟨g, 0, none⟩), .int .i64 2] rfl (by (try simp only [List.map_toArray, List.map_cons, List.map_nil]); first | done | rfl | (simp only [List.length_drop, List.length_take]; rfl)) ?_; (with_reducible refine (spec_l01Src_n.calls g s0_0 t305 t306 t307 2 t308 t309 t310 t311 w0 _ ?side1 ?side2 A54.out).mono ?_); (case side1 => repeat (first | (with_reducible first | exact HI0.out | apply IsS145.alloc | apply IsS145.drewN | apply IsS145.drew | apply IsS145.set_1 | apply IsS145.set_2 | apply IsS145.set_3) | exact HI0.out)); (case side2 => repeat (first | (with_reducible first | exact HB.out | apply below_alloc | apply pw_below_drewN | apply below_drew1 | refine below_set ?_ (IsS145.ge HI0.out)) | exact HB.out)); rintro e w56 ⟨rfl, hi, hb, hk⟩; refine ⟨_, rfl, ?_⟩; have n0_ := Aside0.mk (KeepBut.trans (by repeat (first | (with_reducible first | exact HK.out | apply KeepBut.set_ | apply keep_drewN | apply keep_drew | apply keep_alloc) | exact HK.out)) hk (.inl rfl)); have n1_ := Aside0.mk (hb); have n2_ := Aside0.mk (hi); clear HK; clear HB; clear HI0; have HK := n0_; have HB := n1_; have HI0 := n2_; clear n0_ n1_ n2_; (try clear hb); (try clear hb2); (try clear hk); (try clear hi)))
                        go_ret
                        exact ⟨by first | rfl | (simp [errW_none, errW_some] <;> rfl) | (simp [*, errW_none, errW_some] <;> rfl), by repeat (first | (with_reducible first | exact HI0.out | apply IsS145.alloc | apply IsS145.drewN | apply IsS145.drew | apply IsS145.set_1 | apply IsS145.set_2 | apply IsS145.set_3) | exact HI0.out), by repeat (first | (with_reducible first | exact HB.out | apply below_alloc | apply pw_below_drewN | apply below_drew1 | refine below_set ?_ (IsS145.ge HI0.out)) | exact HB.out), by repeat (first | (with_reducible first | exact HK.out | apply KeepBut.set_ | apply keep_drewN | apply keep_drew | apply keep_alloc) | exact HK.out)⟩
                      · rw [if_neg c52] at H
                        have c52b0 : (t244 == 9) = false := beq_eq_false_iff_ne.mpr c52
                        have c52b1 : (t244 != 9) = true := bne_iff_ne.mpr c52
                        have HC57 := Aside0.mk H
                        clear H
                        go_upto_if 70 with (fail)
                        go_cut [70] (fun v70 wc => ∃ (kq : Nat) (x70_56 : Bool), v70 = .bool x70_56 ∧ Aside0 (spec_l01Src_point.j2 kq t244 x70_56 s0_0 t245 t246 t247 = some (r1, r2, r3, r4)) ∧ Aside0 (kq ≤ kj44) ∧ Aside0 (IsS145 w0 wc g s0_0 t245 t246 t247) ∧ Aside0 (KeepBut w wc g none) ∧ Aside0 (Below w0.heap.size w0 wc))
                        case first =>
                          have H := HC57.out
                          clear HC57
                          by_cases c58 : t244 = 10
                          · rw [if_pos c58] at H
                            have c58b0 : (t244 == 10) = true := beq_iff_eq.mpr c58
                            have c58b1 : (t244 != 10) = false := bne_eq_false_iff_eq.mpr c58
                            clear c58
                            (first | rw [c58b0] | (simp only [i64_w, i32_w]; rw [c58b0]) | skip)
                            have H' := Aside0.mk H
                            clear H
                            go_wp2
                            go_meet
                            case rel => exact ⟨_, ((t244 == 10)), (by first | rfl | (simp; done) | (simp [*]; done)), H', ⟨by have := HJ2.out; have := HJ44.out; first | omega | exact Nat.le_refl _⟩, ⟨by repeat (first | (with_reducible first | exact HI0.out | apply IsS145.alloc | apply IsS145.drewN | apply IsS145.drew | apply IsS145.set_1 | apply IsS145.set_2 | apply IsS145.set_3) | exact HI0.out)⟩, ⟨by repeat (first | (with_reducible first | exact HK.out | apply KeepBut.set_ | apply keep_drewN | apply keep_drew | apply keep_alloc) | exact HK.out)⟩, ⟨by repeat (first | (with_reducible first | exact HB.out | apply below_alloc | apply pw_below_drewN | apply below_drew1 | refine below_set ?_ (IsS145.ge HI0.out)) | exact HB.out)⟩⟩
                          · rw [if_neg c58] at H
                            have c58b0 : (t244 == 10) = false := beq_eq_false_iff_ne.mpr c58
                            have c58b1 : (t244 != 10) = true := bne_iff_ne.mpr c58
                            (first | rw [c58b0] | (simp only [i64_w, i32_w]; rw [c58b0]) | skip)
                            have H' := Aside0.mk H
                            clear H
                            go_wp2
                            go_meet
                            case rel => exact ⟨_, ((t244 == 11)), (by first | rfl | (simp; done) | (simp [*]; done)), H', ⟨by have := HJ2.out; have := HJ44.out; first | omega | exact Nat.le_refl _⟩, ⟨by repeat (first | (with_reducible first | exact HI0.out | apply IsS145.alloc | apply IsS145.drewN | apply IsS145.drew | apply IsS145.set_1 | apply IsS145.set_2 | apply IsS145.set_3) | exact HI0.out)⟩, ⟨by repeat (first | (with_reducible first | exact HK.out | apply KeepBut.set_ | apply keep_drewN | apply keep_drew | apply keep_alloc) | exact HK.out)⟩, ⟨by repeat (first | (with_reducible first | exact HB.out | apply below_alloc | apply pw_below_drewN | apply below_drew1 | refine below_set ?_ (IsS145.ge HI0.out)) | exact HB.out)⟩⟩
                        case rest =>
                          clear HC57
                          try clear c1
                          try clear c2
                          try clear p2
                          try clear q2
                          try clear hx2
                          try clear c3
                          try clear c4
                          try clear c5
                          try clear c5b0
                          try clear c5b1
                          try clear c6
                          try clear c6b0
                          try clear c6b1
                          try clear p6
                          try clear c7
                          try clear c9
                          try clear c10
                          try clear c10b0
                          try clear c10b1
                          try clear c13
                          try clear c13b0
                          try clear c13b1
                          try clear c15
                          try clear c15b0
                          try clear c16
                          try clear c16b0
                          try clear c21
                          try clear c21b0
                          try clear c21b1
                          try clear p26
                          try clear q26
                          try clear hx26
                          try clear c27
                          try clear c27b0
                          try clear c28
                          try clear c28b0
                          try clear p28
                          try clear q28
                          try clear hx28
                          try clear p29
                          try clear q29
                          try clear hx29
                          try clear c37
                          try clear c37b0
                          try clear c37b1
                          try clear c39
                          try clear c39b0
                          try clear c40
                          try clear c40b0
                          try clear c46
                          try clear c46b0
                          try clear c46b1
                          try clear c47
                          try clear c52
                          try clear c52b0
                          try clear c52b1
                          try clear c58
                          try clear c58b0
                          try clear c58b1
                          try clear hx263_0
                          try clear hx287_0
                          try clear hx295_0
                          try clear p2
                          try clear p26
                          try clear p263
                          try clear p28
                          try clear p287
                          try clear p29
                          try clear p295
                          try clear p6
                          try clear q2
                          try clear q26
                          try clear q263
                          try clear q28
                          try clear q287
                          try clear q29
                          try clear q295
                          obtain ⟨kq, x70_56, rfl, HA, HJ56, HI0, HK, HB⟩ := hcut
                          cases kq with
                          | zero => exact absurd HA.out (by simp [spec_l01Src_point.j2])
                          | succ kj56 =>
                            have H := HA.out
                            clear HA
                            simp only [spec_l01Src_point.j2] at H
                            by_cases c59 : x70_56 = true
                            · subst c59
                              have H1 : ((spec_l01Src_n.f s0_0 t245 t246 t247 32).bind fun bt312 => (some (wrap64 (1280 + bt312.1), bt312.2.1, bt312.2.2.1, bt312.2.2.2))) = some (r1, r2, r3, r4) := by rw [if_pos rfl] at H; exact H
                              clear H
                              have H := H1
                              clear H1
                              replace H := Option.bind_eq_some_iff.mp H
                              obtain ⟨⟨t312, t313, t314, t315⟩, A600, H⟩ := H
                              replace H : (some (wrap64 (1280 + t312), t313, t314, t315)) = some (r1, r2, r3, r4) := H
                              have A60 := Aside0.mk A600
                              clear A600
                              simp only [Option.some.injEq, Prod.mk.injEq] at H
                              obtain ⟨rfl, rfl, rfl, rfl⟩ := H
                              go_wp2_with (first | ((with_reducible refine gate_callee (f := 94) rfl ?_); refine goesL_ (some 74) rfl rfl Tryd.func94 (by kernel_rfl) rfl #[.pointer (some ⟨g, 0, none⟩), .int .i64 32] rfl (by (try simp only [List.map_toArray, List.map_cons, List.map_nil]); first | done | rfl | (simp only [List.length_drop, List.length_take]; rfl)) ?_; (with_reducible refine (spec_l01Src_n.calls g s0_0 t245 t246 t247 32 t312 t313 t314 t315 w0 _ ?side1 ?side2 A60.out).mono ?_); (case side1 => repeat (first | (with_reducible first | exact HI0.out | apply IsS145.alloc | apply IsS145.drewN | apply IsS145.drew | apply IsS145.set_1 | apply IsS145.set_2 | apply IsS145.set_3) | exact HI0.out)); (case side2 => repeat (first | (with_reducible first | exact HB.out | apply below_alloc | apply pw_below_drewN | apply below_drew1 | refine below_set ?_ (IsS145.ge HI0.out)) | exact HB.out)); rintro e w61 ⟨rfl, hi, hb, hk⟩; refine ⟨_, rfl, ?_⟩; have n0_ := Aside0.mk (KeepBut.trans (by repeat (first | (with_reducible first | exact HK.out | apply KeepBut.set_ | apply keep_drewN | apply keep_drew | apply keep_alloc) | exact HK.out)) hk (.inl rfl)); have n1_ := Aside0.mk (hb); have n2_ := Aside0.mk (hi); clear HK; clear HB; clear HI0; have HK := n0_; have HB := n1_; have HI0 := n2_; clear n0_ n1_ n2_; (try clear hb); (try clear hb2); (try clear hk); (try clear hi)))
                              go_ret
                              exact ⟨by first | rfl | (simp [errW_none, errW_some] <;> rfl) | (simp [*, errW_none, errW_some] <;> rfl), by repeat (first | (with_reducible first | exact HI0.out | apply IsS145.alloc | apply IsS145.drewN | apply IsS145.drew | apply IsS145.set_1 | apply IsS145.set_2 | apply IsS145.set_3) | exact HI0.out), by repeat (first | (with_reducible first | exact HB.out | apply below_alloc | apply pw_below_drewN | apply below_drew1 | refine below_set ?_ (IsS145.ge HI0.out)) | exact HB.out), by repeat (first | (with_reducible first | exact HK.out | apply KeepBut.set_ | apply keep_drewN | apply keep_drew | apply keep_alloc) | exact HK.out)⟩
                            · replace c59 := Bool.eq_false_iff.mpr c59
                              subst c59
                              have H1 : (if t244 = 12 then ((spec_l01Src_n.f s0_0 t245 t246 t247 32).bind fun bt316 => ((spec_l01Src_n.f s0_0 bt316.2.1 bt316.2.2.1 bt316.2.2.2 12).bind fun bt320 => ((some (([wrap64 (1536 + bt316.1), wrap64 (1568 + bt320.1), 1584, 1585] : List Int) : List Int)).bind fun y324 => ((spec_l01Src_n.f s0_0 bt320.2.1 bt320.2.2.1 bt320.2.2.2 4).bind fun bt327 => (if 0 ≤ bt327.1 then (if bt327.1 < (y324.length : Int) then (some (rd y324 bt327.1, bt327.2.1, bt327.2.2.1, bt327.2.2.2)) else (none)) else (none)))))) else (if t244 = 13 then ((spec_l01Src_n.f s0_0 t245 t246 t247 19).bind fun bt332 => ((spec_l01Src_n.f s0_0 bt332.2.1 bt332.2.2.1 bt332.2.2.2 21).bind fun bt336 => ((spec_l01Src_n.f s0_0 bt336.2.1 bt336.2.2.1 bt336.2.2.2 27).bind fun bt340 => ((some (([wrap64 (1792 + bt332.1), wrap64 (1824 + bt336.1), wrap64 (1857 + bt340.1)] : List Int) : List Int)).bind fun y344 => ((spec_l01Src_n.f s0_0 bt340.2.1 bt340.2.2.1 bt340.2.2.2 3).bind fun bt347 => (if 0 ≤ bt347.1 then (if bt347.1 < (y344.length : Int) then (some (rd y344 bt347.1, bt347.2.1, bt347.2.2.1, bt347.2.2.2)) else (none)) else (none))))))) else (if t244 = 14 then ((spec_l01Src_n.f s0_0 t245 t246 t247 48).bind fun bt352 => (some (wrap64 (2048 + bt352.1), bt352.2.1, bt352.2.2.1, bt352.2.2.2))) else (if t244 = 15 then (spec_l01Src_point.j3 kj56 t244 (t244 == 15) s0_0 t245 t246 t247) else (spec_l01Src_point.j3 kj56 t244 (t244 == 16) s0_0 t245 t246 t247))))) = some (r1, r2, r3, r4) := by rw [if_neg (show ¬ (false = true) by decide)] at H; exact H
                              clear H
                              have H := H1
                              clear H1
                              by_cases c62 : t244 = 12
                              · rw [if_pos c62] at H
                                have c62b0 : (t244 == 12) = true := beq_iff_eq.mpr c62
                                have c62b1 : (t244 != 12) = false := bne_eq_false_iff_eq.mpr c62
                                clear c62
                                replace H := Option.bind_eq_some_iff.mp H
                                obtain ⟨⟨t316, t317, t318, t319⟩, A630, H⟩ := H
                                replace H : ((spec_l01Src_n.f s0_0 t317 t318 t319 12).bind fun bt320 => ((some (([wrap64 (1536 + t316), wrap64 (1568 + bt320.1), 1584, 1585] : List Int) : List Int)).bind fun y324 => ((spec_l01Src_n.f s0_0 bt320.2.1 bt320.2.2.1 bt320.2.2.2 4).bind fun bt327 => (if 0 ≤ bt327.1 then (if bt327.1 < (y324.length : Int) then (some (rd y324 bt327.1, bt327.2.1, bt327.2.2.1, bt327.2.2.2)) else (none)) else (none))))) = some (r1, r2, r3, r4) := H
                                have A63 := Aside0.mk A630
                                clear A630
                                replace H := Option.bind_eq_some_iff.mp H
                                obtain ⟨⟨t320, t321, t322, t323⟩, A640, H⟩ := H
                                replace H : ((some (([wrap64 (1536 + t316), wrap64 (1568 + t320), 1584, 1585] : List Int) : List Int)).bind fun y324 => ((spec_l01Src_n.f s0_0 t321 t322 t323 4).bind fun bt327 => (if 0 ≤ bt327.1 then (if bt327.1 < (y324.length : Int) then (some (rd y324 bt327.1, bt327.2.1, bt327.2.2.1, bt327.2.2.2)) else (none)) else (none)))) = some (r1, r2, r3, r4) := H
                                have A64 := Aside0.mk A640
                                clear A640
                                obtain ⟨y324, hy324⟩ : ∃ y_ : List Int, y_ = (([wrap64 (1536 + t316), wrap64 (1568 + t320), 1584, 1585] : List Int)) := ⟨_, rfl⟩
                                replace H : ((spec_l01Src_n.f s0_0 t321 t322 t323 4).bind fun bt327 => (if 0 ≤ bt327.1 then (if bt327.1 < (y324.length : Int) then (some (rd y324 bt327.1, bt327.2.1, bt327.2.2.1, bt327.2.2.2)) else (none)) else (none))) = some (r1, r2, r3, r4) := by first | (rw [hy324]; with_reducible exact H) | (have H2_ := (Option.bind_some _ _).symm.trans H; rw [hy324]; with_reducible exact H2_) | (have H2_ := (Option.bind_some _ _).symm.trans H; with_reducible exact H2_) | with_reducible exact H | (rw [hy324]; exact H) | exact H
                                have Ny324 := Aside0.mk hy324
                                clear hy324
                                replace H := Option.bind_eq_some_iff.mp H
                                obtain ⟨⟨t327, t328, t329, t330⟩, A650, H⟩ := H
                                replace H : (if 0 ≤ t327 then (if t327 < (y324.length : Int) then (some (rd y324 t327, t328, t329, t330)) else (none)) else (none)) = some (r1, r2, r3, r4) := H
                                have A65 := Aside0.mk A650
                                clear A650
                                by_cases c66 : 0 ≤ t327
                                · rw [if_pos c66] at H
                                  have c66b0 : decide (0 ≤ t327) = true := decide_eq_true c66
                                  clear c66
                                  by_cases c67 : t327 < (y324.length : Int)
                                  · rw [if_pos c67] at H
                                    have c67b0 : decide (t327 < (y324.length : Int)) = true := decide_eq_true c67
                                    clear c67
                                    simp only [Option.some.injEq, Prod.mk.injEq] at H
                                    obtain ⟨rfl, rfl, rfl, rfl⟩ := H
                                    go_wp2_with (first | ((with_reducible refine gate_callee (f := 94) rfl ?_); refine goesL_ (some 79) rfl rfl Tryd.func94 (by kernel_rfl) rfl #[.pointer (some ⟨g, 0, none⟩), .int .i64 32] rfl (by (try simp only [List.map_toArray, List.map_cons, List.map_nil]); first | done | rfl | (simp only [List.length_drop, List.length_take]; rfl)) ?_; (with_reducible refine (spec_l01Src_n.calls g s0_0 t245 t246 t247 32 t316 t317 t318 t319 w0 _ ?side1 ?side2 A63.out).mono ?_); (case side1 => repeat (first | (with_reducible first | exact HI0.out | apply IsS145.alloc | apply IsS145.drewN | apply IsS145.drew | apply IsS145.set_1 | apply IsS145.set_2 | apply IsS145.set_3) | exact HI0.out)); (case side2 => repeat (first | (with_reducible first | exact HB.out | apply below_alloc | apply pw_below_drewN | apply below_drew1 | refine below_set ?_ (IsS145.ge HI0.out)) | exact HB.out)); rintro e w68 ⟨rfl, hi, hb, hk⟩; refine ⟨_, rfl, ?_⟩; have n0_ := Aside0.mk (KeepBut.trans (by repeat (first | (with_reducible first | exact HK.out | apply KeepBut.set_ | apply keep_drewN | apply keep_drew | apply keep_alloc) | exact HK.out)) hk (.inl rfl)); have n1_ := Aside0.mk (hb); have n2_ := Aside0.mk (hi); clear HK; clear HB; clear HI0; have HK := n0_; have HB := n1_; have HI0 := n2_; clear n0_ n1_ n2_; (try clear hb); (try clear hb2); (try clear hk); (try clear hi)) | ((with_reducible refine gate_callee (f := 94) rfl ?_); refine goesL_ (some 82) rfl rfl Tryd.func94 (by kernel_rfl) rfl #[.pointer (some ⟨g, 0, none⟩), .int .i64 12] rfl (by (try simp only [List.map_toArray, List.map_cons, List.map_nil]); first | done | rfl | (simp only [List.length_drop, List.length_take]; rfl)) ?_; (with_reducible refine (spec_l01Src_n.calls g s0_0 t317 t318 t319 12 t320 t321 t322 t323 w0 _ ?side1 ?side2 A64.out).mono ?_); (case side1 => repeat (first | (with_reducible first | exact HI0.out | apply IsS145.alloc | apply IsS145.drewN | apply IsS145.drew | apply IsS145.set_1 | apply IsS145.set_2 | apply IsS145.set_3) | exact HI0.out)); (case side2 => repeat (first | (with_reducible first | exact HB.out | apply below_alloc | apply pw_below_drewN | apply below_drew1 | refine below_set ?_ (IsS145.ge HI0.out)) | exact HB.out)); rintro e w69 ⟨rfl, hi, hb, hk⟩; refine ⟨_, rfl, ?_⟩; have n0_ := Aside0.mk (KeepBut.trans (by repeat (first | (with_reducible first | exact HK.out | apply KeepBut.set_ | apply keep_drewN | apply keep_drew | apply keep_alloc) | exact HK.out)) hk (.inl rfl)); have n1_ := Aside0.mk (hb); have n2_ := Aside0.mk (hi); clear HK; clear HB; clear HI0; have HK := n0_; have HB := n1_; have HI0 := n2_; clear n0_ n1_ n2_; (try clear hb); (try clear hb2); (try clear hk); (try clear hi)) | ((with_reducible refine gate_dst (N := 84) rfl ?_); refine Kd.R_lit (Kd.int .i64) _ 2 ?hg (N := 84) ?hd (xs := ([wrap64 (1536 + t316), wrap64 (1568 + t320), 1584, 1585] : List Int)) (inner := [.int .i64 (wrap64 (1536 + t316)), .int .i64 (wrap64 (1568 + t320)), .int .i64 1584, .int .i64 1585]) (ok := fun _ => True) (okp := fun _ => True) ?hr ?hp (fun _ hk => hk) trivial (Below.refl _ _) (Nat.le_refl _) (by simp) ?_; (case hd => rfl); (case hg => rfl); (case hr => first | (go_simp; done) | (go_simp; rfl)); (case hp => exact (Reps.one (show Kd.M (Kd.int .i64) _ _ _ (wrap64 (1536 + t316)) [.int .i64 (wrap64 (1536 + t316))] from rfl) (Reps.one (show Kd.M (Kd.int .i64) _ _ _ (wrap64 (1568 + t320)) [.int .i64 (wrap64 (1568 + t320))] from rfl) (Reps.one (show Kd.M (Kd.int .i64) _ _ _ 1584 [.int .i64 1584] from rfl) (Reps.one (show Kd.M (Kd.int .i64) _ _ _ 1585 [.int .i64 1585] from rfl) (Reps.none _ _)))))); intro v325 w70 ho71 hb hg_ hnew_; clear hg_ hnew_; (first | rw [← Ny324.out] at ho71 | (simp only [Int.reduceToNat] at ho71; rw [← Ny324.out] at ho71)); have n0_ := Aside0.mk (Kd.R_lower ho71 (keep_size (w := w) (g := g) (row := none) (by repeat (first | (with_reducible first | exact HK.out | apply KeepBut.set_ | apply keep_drewN | apply keep_drew | apply keep_alloc) | exact HK.out)))); have n1_ := Aside0.mk (IsS145.below (by repeat (first | (with_reducible first | exact HI0.out | apply IsS145.alloc | apply IsS145.drewN | apply IsS145.drew | apply IsS145.set_1 | apply IsS145.set_2 | apply IsS145.set_3) | exact HI0.out)) hb); have n2_ := Aside0.mk (KeepBut.trans (by repeat (first | (with_reducible first | exact HK.out | apply KeepBut.set_ | apply keep_drewN | apply keep_drew | apply keep_alloc) | exact HK.out)) (KeepBut.of_below hb g none) (.inl rfl)); have n3_ := Aside0.mk (below_step (by repeat (first | (with_reducible first | exact HB.out | apply below_alloc | apply pw_below_drewN | apply below_drew1 | refine below_set ?_ (IsS145.ge HI0.out)) | exact HB.out)) hb); clear HI0; clear HK; clear HB; have HO326 := n0_; have HI0 := n1_; have HK := n2_; have HB := n3_; clear n0_ n1_ n2_ n3_; clear hb ho71) | ((with_reducible refine gate_callee (f := 94) rfl ?_); refine goesL_ (some 86) rfl rfl Tryd.func94 (by kernel_rfl) rfl #[.pointer (some ⟨g, 0, none⟩), .int .i64 4] rfl (by (try simp only [List.map_toArray, List.map_cons, List.map_nil]); first | done | rfl | (simp only [List.length_drop, List.length_take]; rfl)) ?_; (with_reducible refine (spec_l01Src_n.calls g s0_0 t321 t322 t323 4 t327 t328 t329 t330 w0 _ ?side1 ?side2 A65.out).mono ?_); (case side1 => repeat (first | (with_reducible first | exact HI0.out | apply IsS145.alloc | apply IsS145.drewN | apply IsS145.drew | apply IsS145.set_1 | apply IsS145.set_2 | apply IsS145.set_3) | exact HI0.out)); (case side2 => repeat (first | (with_reducible first | exact HB.out | apply below_alloc | apply pw_below_drewN | apply below_drew1 | refine below_set ?_ (IsS145.ge HI0.out)) | exact HB.out)); rintro e w72 ⟨rfl, hi, hb, hk⟩; refine ⟨_, rfl, ?_⟩; have n0_ := Aside0.mk (Kd.R_mono (Kd.R_keep (IsS145.apart (show IsS145 w0 _ g s0_0 t321 t322 t323 from by repeat (first | (with_reducible first | exact HI0.out | apply IsS145.alloc | apply IsS145.drewN | apply IsS145.drew | apply IsS145.set_1 | apply IsS145.set_2 | apply IsS145.set_3) | exact HI0.out)) (by (with_reducible repeat (first | apply Kd.R_alloc | apply Kd.R_drewN | apply Kd.R_drew)); exact HO326.out) (by decide)) hk (fun _ h => h.2)) (fun _ h => h.1)); have n1_ := Aside0.mk (KeepBut.trans (by repeat (first | (with_reducible first | exact HK.out | apply KeepBut.set_ | apply keep_drewN | apply keep_drew | apply keep_alloc) | exact HK.out)) hk (.inl rfl)); have n2_ := Aside0.mk (hb); have n3_ := Aside0.mk (hi); clear HO326; clear HK; clear HB; clear HI0; have HO326 := n0_; have HK := n1_; have HB := n2_; have HI0 := n3_; clear n0_ n1_ n2_ n3_; (try clear hb); (try clear hb2); (try clear hk); (try clear hi); obtain ⟨Ao73, co73, eo73⟩ := Kd.R_slice HO326.out; subst eo73; have p331 : 0 ≤ (t327 : Int) := of_decide_eq_true (by first | (with_reducible assumption) | assumption); have q331 : t327 < (y324.length : Int) := of_decide_eq_true (by first | (with_reducible assumption) | assumption); obtain ⟨ad331, e331, hx331_0⟩ := Kd.at_int (Kd.R_reads' HO326.out).2.2 t327 p331 q331; cases e331; replace p331 := eq_true p331; replace q331 := eq_true q331))
                                    go_ret
                                    exact ⟨by first | rfl | (simp [errW_none, errW_some] <;> rfl) | (simp [*, errW_none, errW_some] <;> rfl), by repeat (first | (with_reducible first | exact HI0.out | apply IsS145.alloc | apply IsS145.drewN | apply IsS145.drew | apply IsS145.set_1 | apply IsS145.set_2 | apply IsS145.set_3) | exact HI0.out), by repeat (first | (with_reducible first | exact HB.out | apply below_alloc | apply pw_below_drewN | apply below_drew1 | refine below_set ?_ (IsS145.ge HI0.out)) | exact HB.out), by repeat (first | (with_reducible first | exact HK.out | apply KeepBut.set_ | apply keep_drewN | apply keep_drew | apply keep_alloc) | exact HK.out)⟩
                                  · rw [if_neg c67] at H
                                    exact absurd H (by simp)
                                · rw [if_neg c66] at H
                                  exact absurd H (by simp)
                              · rw [if_neg c62] at H
                                have c62b0 : (t244 == 12) = false := beq_eq_false_iff_ne.mpr c62
                                have c62b1 : (t244 != 12) = true := bne_iff_ne.mpr c62
                                by_cases c74 : t244 = 13
                                · rw [if_pos c74] at H
                                  have c74b0 : (t244 == 13) = true := beq_iff_eq.mpr c74
                                  have c74b1 : (t244 != 13) = false := bne_eq_false_iff_eq.mpr c74
                                  clear c74
                                  replace H := Option.bind_eq_some_iff.mp H
                                  obtain ⟨⟨t332, t333, t334, t335⟩, A750, H⟩ := H
                                  replace H : ((spec_l01Src_n.f s0_0 t333 t334 t335 21).bind fun bt336 => ((spec_l01Src_n.f s0_0 bt336.2.1 bt336.2.2.1 bt336.2.2.2 27).bind fun bt340 => ((some (([wrap64 (1792 + t332), wrap64 (1824 + bt336.1), wrap64 (1857 + bt340.1)] : List Int) : List Int)).bind fun y344 => ((spec_l01Src_n.f s0_0 bt340.2.1 bt340.2.2.1 bt340.2.2.2 3).bind fun bt347 => (if 0 ≤ bt347.1 then (if bt347.1 < (y344.length : Int) then (some (rd y344 bt347.1, bt347.2.1, bt347.2.2.1, bt347.2.2.2)) else (none)) else (none)))))) = some (r1, r2, r3, r4) := H
                                  have A75 := Aside0.mk A750
                                  clear A750
                                  replace H := Option.bind_eq_some_iff.mp H
                                  obtain ⟨⟨t336, t337, t338, t339⟩, A760, H⟩ := H
                                  replace H : ((spec_l01Src_n.f s0_0 t337 t338 t339 27).bind fun bt340 => ((some (([wrap64 (1792 + t332), wrap64 (1824 + t336), wrap64 (1857 + bt340.1)] : List Int) : List Int)).bind fun y344 => ((spec_l01Src_n.f s0_0 bt340.2.1 bt340.2.2.1 bt340.2.2.2 3).bind fun bt347 => (if 0 ≤ bt347.1 then (if bt347.1 < (y344.length : Int) then (some (rd y344 bt347.1, bt347.2.1, bt347.2.2.1, bt347.2.2.2)) else (none)) else (none))))) = some (r1, r2, r3, r4) := H
                                  have A76 := Aside0.mk A760
                                  clear A760
                                  replace H := Option.bind_eq_some_iff.mp H
                                  obtain ⟨⟨t340, t341, t342, t343⟩, A770, H⟩ := H
                                  replace H : ((some (([wrap64 (1792 + t332), wrap64 (1824 + t336), wrap64 (1857 + t340)] : List Int) : List Int)).bind fun y344 => ((spec_l01Src_n.f s0_0 t341 t342 t343 3).bind fun bt347 => (if 0 ≤ bt347.1 then (if bt347.1 < (y344.length : Int) then (some (rd y344 bt347.1, bt347.2.1, bt347.2.2.1, bt347.2.2.2)) else (none)) else (none)))) = some (r1, r2, r3, r4) := H
                                  have A77 := Aside0.mk A770
                                  clear A770
                                  obtain ⟨y344, hy344⟩ : ∃ y_ : List Int, y_ = (([wrap64 (1792 + t332), wrap64 (1824 + t336), wrap64 (1857 + t340)] : List Int)) := ⟨_, rfl⟩
                                  replace H : ((spec_l01Src_n.f s0_0 t341 t342 t343 3).bind fun bt347 => (if 0 ≤ bt347.1 then (if bt347.1 < (y344.length : Int) then (some (rd y344 bt347.1, bt347.2.1, bt347.2.2.1, bt347.2.2.2)) else (none)) else (none))) = some (r1, r2, r3, r4) := by first | (rw [hy344]; with_reducible exact H) | (have H2_ := (Option.bind_some _ _).symm.trans H; rw [hy344]; with_reducible exact H2_) | (have H2_ := (Option.bind_some _ _).symm.trans H; with_reducible exact H2_) | with_reducible exact H | (rw [hy344]; exact H) | exact H
                                  have Ny344 := Aside0.mk hy344
                                  clear hy344
                                  replace H := Option.bind_eq_some_iff.mp H
                                  obtain ⟨⟨t347, t348, t349, t350⟩, A780, H⟩ := H
                                  replace H : (if 0 ≤ t347 then (if t347 < (y344.length : Int) then (some (rd y344 t347, t348, t349, t350)) else (none)) else (none)) = some (r1, r2, r3, r4) := H
                                  have A78 := Aside0.mk A780
                                  clear A780
                                  by_cases c79 : 0 ≤ t347
                                  · rw [if_pos c79] at H
                                    have c79b0 : decide (0 ≤ t347) = true := decide_eq_true c79
                                    clear c79
                                    by_cases c80 : t347 < (y344.length : Int)
                                    · rw [if_pos c80] at H
                                      have c80b0 : decide (t347 < (y344.length : Int)) = true := decide_eq_true c80
                                      clear c80
                                      simp only [Option.some.injEq, Prod.mk.injEq] at H
                                      obtain ⟨rfl, rfl, rfl, rfl⟩ := H
                                      go_wp2_with (first | ((with_reducible refine gate_callee (f := 94) rfl ?_); refine goesL_ (some 92) rfl rfl Tryd.func94 (by kernel_rfl) rfl #[.pointer (some ⟨g, 0, none⟩), .int .i64 19] rfl (by (try simp only [List.map_toArray, List.map_cons, List.map_nil]); first | done | rfl | (simp only [List.length_drop, List.length_take]; rfl)) ?_; (with_reducible refine (spec_l01Src_n.calls g s0_0 t245 t246 t247 19 t332 t333 t334 t335 w0 _ ?side1 ?side2 A75.out).mono ?_); (case side1 => repeat (first | (with_reducible first | exact HI0.out | apply IsS145.alloc | apply IsS145.drewN | apply IsS145.drew | apply IsS145.set_1 | apply IsS145.set_2 | apply IsS145.set_3) | exact HI0.out)); (case side2 => repeat (first | (with_reducible first | exact HB.out | apply below_alloc | apply pw_below_drewN | apply below_drew1 | refine below_set ?_ (IsS145.ge HI0.out)) | exact HB.out)); rintro e w81 ⟨rfl, hi, hb, hk⟩; refine ⟨_, rfl, ?_⟩; have n0_ := Aside0.mk (KeepBut.trans (by repeat (first | (with_reducible first | exact HK.out | apply KeepBut.set_ | apply keep_drewN | apply keep_drew | apply keep_alloc) | exact HK.out)) hk (.inl rfl)); have n1_ := Aside0.mk (hb); have n2_ := Aside0.mk (hi); clear HK; clear HB; clear HI0; have HK := n0_; have HB := n1_; have HI0 := n2_; clear n0_ n1_ n2_; (try clear hb); (try clear hb2); (try clear hk); (try clear hi)) | ((with_reducible refine gate_callee (f := 94) rfl ?_); refine goesL_ (some 95) rfl rfl Tryd.func94 (by kernel_rfl) rfl #[.pointer (some ⟨g, 0, none⟩), .int .i64 21] rfl (by (try simp only [List.map_toArray, List.map_cons, List.map_nil]); first | done | rfl | (simp only [List.length_drop, List.length_take]; rfl)) ?_; (with_reducible refine (spec_l01Src_n.calls g s0_0 t333 t334 t335 21 t336 t337 t338 t339 w0 _ ?side1 ?side2 A76.out).mono ?_); (case side1 => repeat (first | (with_reducible first | exact HI0.out | apply IsS145.alloc | apply IsS145.drewN | apply IsS145.drew | apply IsS145.set_1 | apply IsS145.set_2 | apply IsS145.set_3) | exact HI0.out)); (case side2 => repeat (first | (with_reducible first | exact HB.out | apply below_alloc | apply pw_below_drewN | apply below_drew1 | refine below_set ?_ (IsS145.ge HI0.out)) | exact HB.out)); rintro e w82 ⟨rfl, hi, hb, hk⟩; refine ⟨_, rfl, ?_⟩; have n0_ := Aside0.mk (KeepBut.trans (by repeat (first | (with_reducible first | exact HK.out | apply KeepBut.set_ | apply keep_drewN | apply keep_drew | apply keep_alloc) | exact HK.out)) hk (.inl rfl)); have n1_ := Aside0.mk (hb); have n2_ := Aside0.mk (hi); clear HK; clear HB; clear HI0; have HK := n0_; have HB := n1_; have HI0 := n2_; clear n0_ n1_ n2_; (try clear hb); (try clear hb2); (try clear hk); (try clear hi)) | ((with_reducible refine gate_callee (f := 94) rfl ?_); refine goesL_ (some 98) rfl rfl Tryd.func94 (by kernel_rfl) rfl #[.pointer (some ⟨g, 0, none⟩), .int .i64 27] rfl (by (try simp only [List.map_toArray, List.map_cons, List.map_nil]); first | done | rfl | (simp only [List.length_drop, List.length_take]; rfl)) ?_; (with_reducible refine (spec_l01Src_n.calls g s0_0 t337 t338 t339 27 t340 t341 t342 t343 w0 _ ?side1 ?side2 A77.out).mono ?_); (case side1 => repeat (first | (with_reducible first | exact HI0.out | apply IsS145.alloc | apply IsS145.drewN | apply IsS145.drew | apply IsS145.set_1 | apply IsS145.set_2 | apply IsS145.set_3) | exact HI0.out)); (case side2 => repeat (first | (with_reducible first | exact HB.out | apply below_alloc | apply pw_below_drewN | apply below_drew1 | refine below_set ?_ (IsS145.ge HI0.out)) | exact HB.out)); rintro e w83 ⟨rfl, hi, hb, hk⟩; refine ⟨_, rfl, ?_⟩; have n0_ := Aside0.mk (KeepBut.trans (by repeat (first | (with_reducible first | exact HK.out | apply KeepBut.set_ | apply keep_drewN | apply keep_drew | apply keep_alloc) | exact HK.out)) hk (.inl rfl)); have n1_ := Aside0.mk (hb); have n2_ := Aside0.mk (hi); clear HK; clear HB; clear HI0; have HK := n0_; have HB := n1_; have HI0 := n2_; clear n0_ n1_ n2_; (try clear hb); (try clear hb2); (try clear hk); (try clear hi)) | ((with_reducible refine gate_dst (N := 100) rfl ?_); refine Kd.R_lit (Kd.int .i64) _ 2 ?hg (N := 100) ?hd (xs := ([wrap64 (1792 + t332), wrap64 (1824 + t336), wrap64 (1857 + t340)] : List Int)) (inner := [.int .i64 (wrap64 (1792 + t332)), .int .i64 (wrap64 (1824 + t336)), .int .i64 (wrap64 (1857 + t340))]) (ok := fun _ => True) (okp := fun _ => True) ?hr ?hp (fun _ hk => hk) trivial (Below.refl _ _) (Nat.le_refl _) (by simp) ?_; (case hd => rfl); (case hg => rfl); (case hr => first | (go_simp; done) | (go_simp; rfl)); (case hp => exact (Reps.one (show Kd.M (Kd.int .i64) _ _ _ (wrap64 (1792 + t332)) [.int .i64 (wrap64 (1792 + t332))] from rfl) (Reps.one (show Kd.M (Kd.int .i64) _ _ _ (wrap64 (1824 + t336)) [.int .i64 (wrap64 (1824 + t336))] from rfl) (Reps.one (show Kd.M (Kd.int .i64) _ _ _ (wrap64 (1857 + t340)) [.int .i64 (wrap64 (1857 + t340))] from rfl) (Reps.none _ _))))); intro v345 w84 ho85 hb hg_ hnew_; clear hg_ hnew_; (first | rw [← Ny344.out] at ho85 | (simp only [Int.reduceToNat] at ho85; rw [← Ny344.out] at ho85)); have n0_ := Aside0.mk (Kd.R_lower ho85 (keep_size (w := w) (g := g) (row := none) (by repeat (first | (with_reducible first | exact HK.out | apply KeepBut.set_ | apply keep_drewN | apply keep_drew | apply keep_alloc) | exact HK.out)))); have n1_ := Aside0.mk (IsS145.below (by repeat (first | (with_reducible first | exact HI0.out | apply IsS145.alloc | apply IsS145.drewN | apply IsS145.drew | apply IsS145.set_1 | apply IsS145.set_2 | apply IsS145.set_3) | exact HI0.out)) hb); have n2_ := Aside0.mk (KeepBut.trans (by repeat (first | (with_reducible first | exact HK.out | apply KeepBut.set_ | apply keep_drewN | apply keep_drew | apply keep_alloc) | exact HK.out)) (KeepBut.of_below hb g none) (.inl rfl)); have n3_ := Aside0.mk (below_step (by repeat (first | (with_reducible first | exact HB.out | apply below_alloc | apply pw_below_drewN | apply below_drew1 | refine below_set ?_ (IsS145.ge HI0.out)) | exact HB.out)) hb); clear HI0; clear HK; clear HB; have HO346 := n0_; have HI0 := n1_; have HK := n2_; have HB := n3_; clear n0_ n1_ n2_ n3_; clear hb ho85) | ((with_reducible refine gate_callee (f := 94) rfl ?_); refine goesL_ (some 102) rfl rfl Tryd.func94 (by kernel_rfl) rfl #[.pointer (some ⟨g, 0, none⟩), .int .i64 3] rfl (by (try simp only [List.map_toArray, List.map_cons, List.map_nil]); first | done | rfl | (simp only [List.length_drop, List.length_take]; rfl)) ?_; (with_reducible refine (spec_l01Src_n.calls g s0_0 t341 t342 t343 3 t347 t348 t349 t350 w0 _ ?side1 ?side2 A78.out).mono ?_); (case side1 => repeat (first | (with_reducible first | exact HI0.out | apply IsS145.alloc | apply IsS145.drewN | apply IsS145.drew | apply IsS145.set_1 | apply IsS145.set_2 | apply IsS145.set_3) | exact HI0.out)); (case side2 => repeat (first | (with_reducible first | exact HB.out | apply below_alloc | apply pw_below_drewN | apply below_drew1 | refine below_set ?_ (IsS145.ge HI0.out)) | exact HB.out)); rintro e w86 ⟨rfl, hi, hb, hk⟩; refine ⟨_, rfl, ?_⟩; have n0_ := Aside0.mk (Kd.R_mono (Kd.R_keep (IsS145.apart (show IsS145 w0 _ g s0_0 t341 t342 t343 from by repeat (first | (with_reducible first | exact HI0.out | apply IsS145.alloc | apply IsS145.drewN | apply IsS145.drew | apply IsS145.set_1 | apply IsS145.set_2 | apply IsS145.set_3) | exact HI0.out)) (by (with_reducible repeat (first | apply Kd.R_alloc | apply Kd.R_drewN | apply Kd.R_drew)); exact HO346.out) (by decide)) hk (fun _ h => h.2)) (fun _ h => h.1)); have n1_ := Aside0.mk (KeepBut.trans (by repeat (first | (with_reducible first | exact HK.out | apply KeepBut.set_ | apply keep_drewN | apply keep_drew | apply keep_alloc) | exact HK.out)) hk (.inl rfl)); have n2_ := Aside0.mk (hb); have n3_ := Aside0.mk (hi); clear HO346; clear HK; clear HB; clear HI0; have HO346 := n0_; have HK := n1_; have HB := n2_; have HI0 := n3_; clear n0_ n1_ n2_ n3_; (try clear hb); (try clear hb2); (try clear hk); (try clear hi); obtain ⟨Ao87, co87, eo87⟩ := Kd.R_slice HO346.out; subst eo87; have p351 : 0 ≤ (t347 : Int) := of_decide_eq_true (by first | (with_reducible assumption) | assumption); have q351 : t347 < (y344.length : Int) := of_decide_eq_true (by first | (with_reducible assumption) | assumption); obtain ⟨ad351, e351, hx351_0⟩ := Kd.at_int (Kd.R_reads' HO346.out).2.2 t347 p351 q351; cases e351; replace p351 := eq_true p351; replace q351 := eq_true q351))
                                      go_ret
                                      exact ⟨by first | rfl | (simp [errW_none, errW_some] <;> rfl) | (simp [*, errW_none, errW_some] <;> rfl), by repeat (first | (with_reducible first | exact HI0.out | apply IsS145.alloc | apply IsS145.drewN | apply IsS145.drew | apply IsS145.set_1 | apply IsS145.set_2 | apply IsS145.set_3) | exact HI0.out), by repeat (first | (with_reducible first | exact HB.out | apply below_alloc | apply pw_below_drewN | apply below_drew1 | refine below_set ?_ (IsS145.ge HI0.out)) | exact HB.out), by repeat (first | (with_reducible first | exact HK.out | apply KeepBut.set_ | apply keep_drewN | apply keep_drew | apply keep_alloc) | exact HK.out)⟩
                                    · rw [if_neg c80] at H
                                      exact absurd H (by simp)
                                  · rw [if_neg c79] at H
                                    exact absurd H (by simp)
                                · rw [if_neg c74] at H
                                  have c74b0 : (t244 == 13) = false := beq_eq_false_iff_ne.mpr c74
                                  have c74b1 : (t244 != 13) = true := bne_iff_ne.mpr c74
                                  by_cases c88 : t244 = 14
                                  · rw [if_pos c88] at H
                                    have c88b0 : (t244 == 14) = true := beq_iff_eq.mpr c88
                                    have c88b1 : (t244 != 14) = false := bne_eq_false_iff_eq.mpr c88
                                    clear c88
                                    replace H := Option.bind_eq_some_iff.mp H
                                    obtain ⟨⟨t352, t353, t354, t355⟩, A890, H⟩ := H
                                    replace H : (some (wrap64 (2048 + t352), t353, t354, t355)) = some (r1, r2, r3, r4) := H
                                    have A89 := Aside0.mk A890
                                    clear A890
                                    simp only [Option.some.injEq, Prod.mk.injEq] at H
                                    obtain ⟨rfl, rfl, rfl, rfl⟩ := H
                                    go_wp2_with (first | ((with_reducible refine gate_callee (f := 94) rfl ?_); refine goesL_ (some 108) rfl rfl Tryd.func94 (by kernel_rfl) rfl #[.pointer (some ⟨g, 0, none⟩), .int .i64 48] rfl (by (try simp only [List.map_toArray, List.map_cons, List.map_nil]); first | done | rfl | (simp only [List.length_drop, List.length_take]; rfl)) ?_; (with_reducible refine (spec_l01Src_n.calls g s0_0 t245 t246 t247 48 t352 t353 t354 t355 w0 _ ?side1 ?side2 A89.out).mono ?_); (case side1 => repeat (first | (with_reducible first | exact HI0.out | apply IsS145.alloc | apply IsS145.drewN | apply IsS145.drew | apply IsS145.set_1 | apply IsS145.set_2 | apply IsS145.set_3) | exact HI0.out)); (case side2 => repeat (first | (with_reducible first | exact HB.out | apply below_alloc | apply pw_below_drewN | apply below_drew1 | refine below_set ?_ (IsS145.ge HI0.out)) | exact HB.out)); rintro e w90 ⟨rfl, hi, hb, hk⟩; refine ⟨_, rfl, ?_⟩; have n0_ := Aside0.mk (KeepBut.trans (by repeat (first | (with_reducible first | exact HK.out | apply KeepBut.set_ | apply keep_drewN | apply keep_drew | apply keep_alloc) | exact HK.out)) hk (.inl rfl)); have n1_ := Aside0.mk (hb); have n2_ := Aside0.mk (hi); clear HK; clear HB; clear HI0; have HK := n0_; have HB := n1_; have HI0 := n2_; clear n0_ n1_ n2_; (try clear hb); (try clear hb2); (try clear hk); (try clear hi)))
                                    go_ret
                                    exact ⟨by first | rfl | (simp [errW_none, errW_some] <;> rfl) | (simp [*, errW_none, errW_some] <;> rfl), by repeat (first | (with_reducible first | exact HI0.out | apply IsS145.alloc | apply IsS145.drewN | apply IsS145.drew | apply IsS145.set_1 | apply IsS145.set_2 | apply IsS145.set_3) | exact HI0.out), by repeat (first | (with_reducible first | exact HB.out | apply below_alloc | apply pw_below_drewN | apply below_drew1 | refine below_set ?_ (IsS145.ge HI0.out)) | exact HB.out), by repeat (first | (with_reducible first | exact HK.out | apply KeepBut.set_ | apply keep_drewN | apply keep_drew | apply keep_alloc) | exact HK.out)⟩
                                  · rw [if_neg c88] at H
                                    have c88b0 : (t244 == 14) = false := beq_eq_false_iff_ne.mpr c88
                                    have c88b1 : (t244 != 14) = true := bne_iff_ne.mpr c88
                                    have HC91 := Aside0.mk H
                                    clear H
                                    go_upto_if 110 with (fail)
                                    go_cut [110] (fun v110 wc => ∃ (kq : Nat) (x110_90 : Bool), v110 = .bool x110_90 ∧ Aside0 (spec_l01Src_point.j3 kq t244 x110_90 s0_0 t245 t246 t247 = some (r1, r2, r3, r4)) ∧ Aside0 (kq ≤ kj56) ∧ Aside0 (IsS145 w0 wc g s0_0 t245 t246 t247) ∧ Aside0 (KeepBut w wc g none) ∧ Aside0 (Below w0.heap.size w0 wc))
                                    case first =>
                                      have H := HC91.out
                                      clear HC91
                                      by_cases c92 : t244 = 15
                                      · rw [if_pos c92] at H
                                        have c92b0 : (t244 == 15) = true := beq_iff_eq.mpr c92
                                        have c92b1 : (t244 != 15) = false := bne_eq_false_iff_eq.mpr c92
                                        clear c92
                                        (first | rw [c92b0] | (simp only [i64_w, i32_w]; rw [c92b0]) | skip)
                                        have H' := Aside0.mk H
                                        clear H
                                        go_wp2
                                        go_meet
                                        case rel => exact ⟨_, ((t244 == 15)), (by first | rfl | (simp; done) | (simp [*]; done)), H', ⟨by have := HJ2.out; have := HJ44.out; have := HJ56.out; first | omega | exact Nat.le_refl _⟩, ⟨by repeat (first | (with_reducible first | exact HI0.out | apply IsS145.alloc | apply IsS145.drewN | apply IsS145.drew | apply IsS145.set_1 | apply IsS145.set_2 | apply IsS145.set_3) | exact HI0.out)⟩, ⟨by repeat (first | (with_reducible first | exact HK.out | apply KeepBut.set_ | apply keep_drewN | apply keep_drew | apply keep_alloc) | exact HK.out)⟩, ⟨by repeat (first | (with_reducible first | exact HB.out | apply below_alloc | apply pw_below_drewN | apply below_drew1 | refine below_set ?_ (IsS145.ge HI0.out)) | exact HB.out)⟩⟩
                                      · rw [if_neg c92] at H
                                        have c92b0 : (t244 == 15) = false := beq_eq_false_iff_ne.mpr c92
                                        have c92b1 : (t244 != 15) = true := bne_iff_ne.mpr c92
                                        (first | rw [c92b0] | (simp only [i64_w, i32_w]; rw [c92b0]) | skip)
                                        have H' := Aside0.mk H
                                        clear H
                                        go_wp2
                                        go_meet
                                        case rel => exact ⟨_, ((t244 == 16)), (by first | rfl | (simp; done) | (simp [*]; done)), H', ⟨by have := HJ2.out; have := HJ44.out; have := HJ56.out; first | omega | exact Nat.le_refl _⟩, ⟨by repeat (first | (with_reducible first | exact HI0.out | apply IsS145.alloc | apply IsS145.drewN | apply IsS145.drew | apply IsS145.set_1 | apply IsS145.set_2 | apply IsS145.set_3) | exact HI0.out)⟩, ⟨by repeat (first | (with_reducible first | exact HK.out | apply KeepBut.set_ | apply keep_drewN | apply keep_drew | apply keep_alloc) | exact HK.out)⟩, ⟨by repeat (first | (with_reducible first | exact HB.out | apply below_alloc | apply pw_below_drewN | apply below_drew1 | refine below_set ?_ (IsS145.ge HI0.out)) | exact HB.out)⟩⟩
                                    case rest =>
                                      clear HC91
                                      try clear c1
                                      try clear c2
                                      try clear p2
                                      try clear q2
                                      try clear hx2
                                      try clear c3
                                      try clear p3
                                      try clear q3
                                      try clear hx3
                                      try clear c4
                                      try clear c5
                                      try clear c5b0
                                      try clear c5b1
                                      try clear c6
                                      try clear c6b0
                                      try clear c6b1
                                      try clear p6
                                      try clear c7
                                      try clear c8
                                      try clear c9
                                      try clear c10
                                      try clear c10b0
                                      try clear c10b1
                                      try clear c13
                                      try clear c13b0
                                      try clear c13b1
                                      try clear c15
                                      try clear c15b0
                                      try clear c16
                                      try clear c16b0
                                      try clear c21
                                      try clear c21b0
                                      try clear c21b1
                                      try clear p26
                                      try clear q26
                                      try clear hx26
                                      try clear c27
                                      try clear c27b0
                                      try clear c28
                                      try clear c28b0
                                      try clear p28
                                      try clear q28
                                      try clear hx28
                                      try clear p29
                                      try clear q29
                                      try clear hx29
                                      try clear p33
                                      try clear q33
                                      try clear hx33
                                      try clear p35
                                      try clear q35
                                      try clear hx35
                                      try clear c37
                                      try clear c37b0
                                      try clear c37b1
                                      try clear c39
                                      try clear c39b0
                                      try clear c40
                                      try clear c40b0
                                      try clear c46
                                      try clear c46b0
                                      try clear c46b1
                                      try clear c47
                                      try clear c52
                                      try clear c52b0
                                      try clear c52b1
                                      try clear c58
                                      try clear c58b0
                                      try clear c58b1
                                      try clear c59
                                      try clear c62
                                      try clear c62b0
                                      try clear c62b1
                                      try clear p64
                                      try clear c66
                                      try clear c66b0
                                      try clear c67
                                      try clear c67b0
                                      try clear c74
                                      try clear c74b0
                                      try clear c74b1
                                      try clear c79
                                      try clear c79b0
                                      try clear c80
                                      try clear c80b0
                                      try clear c88
                                      try clear c88b0
                                      try clear c88b1
                                      try clear c92
                                      try clear c92b0
                                      try clear c92b1
                                      try clear hx263_0
                                      try clear hx287_0
                                      try clear hx295_0
                                      try clear hx331_0
                                      try clear hx351_0
                                      try clear p2
                                      try clear p26
                                      try clear p263
                                      try clear p28
                                      try clear p287
                                      try clear p29
                                      try clear p295
                                      try clear p331
                                      try clear p351
                                      try clear p6
                                      try clear q2
                                      try clear q26
                                      try clear q263
                                      try clear q28
                                      try clear q287
                                      try clear q29
                                      try clear q295
                                      try clear q331
                                      try clear q351
                                      obtain ⟨kq, x110_90, rfl, HA, HJ90, HI0, HK, HB⟩ := hcut
                                      cases kq with
                                      | zero => exact absurd HA.out (by simp [spec_l01Src_point.j3])
                                      | succ kj90 =>
                                        have H := HA.out
                                        clear HA
                                        simp only [spec_l01Src_point.j3] at H
                                        by_cases c93 : x110_90 = true
                                        · subst c93
                                          have H1 : ((spec_l01Src_n.f s0_0 t245 t246 t247 64).bind fun bt356 => (some (wrap64 (4096 + bt356.1), bt356.2.1, bt356.2.2.1, bt356.2.2.2))) = some (r1, r2, r3, r4) := by rw [if_pos rfl] at H; exact H
                                          clear H
                                          have H := H1
                                          clear H1
                                          replace H := Option.bind_eq_some_iff.mp H
                                          obtain ⟨⟨t356, t357, t358, t359⟩, A940, H⟩ := H
                                          replace H : (some (wrap64 (4096 + t356), t357, t358, t359)) = some (r1, r2, r3, r4) := H
                                          have A94 := Aside0.mk A940
                                          clear A940
                                          simp only [Option.some.injEq, Prod.mk.injEq] at H
                                          obtain ⟨rfl, rfl, rfl, rfl⟩ := H
                                          go_wp2_with (first | ((with_reducible refine gate_callee (f := 94) rfl ?_); refine goesL_ (some 114) rfl rfl Tryd.func94 (by kernel_rfl) rfl #[.pointer (some ⟨g, 0, none⟩), .int .i64 64] rfl (by (try simp only [List.map_toArray, List.map_cons, List.map_nil]); first | done | rfl | (simp only [List.length_drop, List.length_take]; rfl)) ?_; (with_reducible refine (spec_l01Src_n.calls g s0_0 t245 t246 t247 64 t356 t357 t358 t359 w0 _ ?side1 ?side2 A94.out).mono ?_); (case side1 => repeat (first | (with_reducible first | exact HI0.out | apply IsS145.alloc | apply IsS145.drewN | apply IsS145.drew | apply IsS145.set_1 | apply IsS145.set_2 | apply IsS145.set_3) | exact HI0.out)); (case side2 => repeat (first | (with_reducible first | exact HB.out | apply below_alloc | apply pw_below_drewN | apply below_drew1 | refine below_set ?_ (IsS145.ge HI0.out)) | exact HB.out)); rintro e w95 ⟨rfl, hi, hb, hk⟩; refine ⟨_, rfl, ?_⟩; have n0_ := Aside0.mk (KeepBut.trans (by repeat (first | (with_reducible first | exact HK.out | apply KeepBut.set_ | apply keep_drewN | apply keep_drew | apply keep_alloc) | exact HK.out)) hk (.inl rfl)); have n1_ := Aside0.mk (hb); have n2_ := Aside0.mk (hi); clear HK; clear HB; clear HI0; have HK := n0_; have HB := n1_; have HI0 := n2_; clear n0_ n1_ n2_; (try clear hb); (try clear hb2); (try clear hk); (try clear hi)))
                                          go_ret
                                          exact ⟨by first | rfl | (simp [errW_none, errW_some] <;> rfl) | (simp [*, errW_none, errW_some] <;> rfl), by repeat (first | (with_reducible first | exact HI0.out | apply IsS145.alloc | apply IsS145.drewN | apply IsS145.drew | apply IsS145.set_1 | apply IsS145.set_2 | apply IsS145.set_3) | exact HI0.out), by repeat (first | (with_reducible first | exact HB.out | apply below_alloc | apply pw_below_drewN | apply below_drew1 | refine below_set ?_ (IsS145.ge HI0.out)) | exact HB.out), by repeat (first | (with_reducible first | exact HK.out | apply KeepBut.set_ | apply keep_drewN | apply keep_drew | apply keep_alloc) | exact HK.out)⟩
                                        · replace c93 := Bool.eq_false_iff.mpr c93
                                          subst c93
                                          have H1 : (if t244 = 17 then ((spec_l01Src_n.f s0_0 t245 t246 t247 64).bind fun bt360 => ((spec_l01Src_n.f s0_0 bt360.2.1 bt360.2.2.1 bt360.2.2.2 5).bind fun bt364 => ((spec_l01Src_n.f s0_0 bt364.2.1 bt364.2.2.1 bt364.2.2.2 26).bind fun bt368 => ((some (([wrap64 (7680 + bt360.1), wrap64 (7744 + bt364.1), wrap64 (7760 + bt368.1)] : List Int) : List Int)).bind fun y372 => ((spec_l01Src_n.f s0_0 bt368.2.1 bt368.2.2.1 bt368.2.2.2 3).bind fun bt375 => (if 0 ≤ bt375.1 then (if bt375.1 < (y372.length : Int) then (some (rd y372 bt375.1, bt375.2.1, bt375.2.2.1, bt375.2.2.2)) else (none)) else (none))))))) else (if t244 = 18 then ((spec_l01Src_n.f s0_0 t245 t246 t247 12).bind fun bt380 => ((some (([wrap64 (7936 + bt380.1), 7953, 7954] : List Int) : List Int)).bind fun y384 => ((spec_l01Src_n.f s0_0 bt380.2.1 bt380.2.2.1 bt380.2.2.2 3).bind fun bt387 => (if 0 ≤ bt387.1 then (if bt387.1 < (y384.length : Int) then (some (rd y384 bt387.1, bt387.2.1, bt387.2.2.1, bt387.2.2.2)) else (none)) else (none))))) else (if t244 = 19 then (spec_l01Src_point.j4 kj90 t244 (t244 == 19) s0_0 t245 t246 t247) else (spec_l01Src_point.j4 kj90 t244 (t244 == 20) s0_0 t245 t246 t247)))) = some (r1, r2, r3, r4) := by rw [if_neg (show ¬ (false = true) by decide)] at H; exact H
                                          clear H
                                          have H := H1
                                          clear H1
                                          by_cases c96 : t244 = 17
                                          · exfalso
                                            have h_ := HV.out
                                            rw [c96] at h_
                                            exact absurd h_ (by decide)
                                          · rw [if_neg c96] at H
                                            have c96b0 : (t244 == 17) = false := beq_eq_false_iff_ne.mpr c96
                                            have c96b1 : (t244 != 17) = true := bne_iff_ne.mpr c96
                                            by_cases c110 : t244 = 18
                                            · exfalso
                                              have h_ := HV.out
                                              rw [c110] at h_
                                              exact absurd h_ (by decide)
                                            · rw [if_neg c110] at H
                                              have c110b0 : (t244 == 18) = false := beq_eq_false_iff_ne.mpr c110
                                              have c110b1 : (t244 != 18) = true := bne_iff_ne.mpr c110
                                              have HC120 := Aside0.mk H
                                              clear H
                                              go_upto_if 142 with (fail)
                                              go_cut [142] (fun v142 wc => ∃ (kq : Nat) (x142_119 : Bool), v142 = .bool x142_119 ∧ Aside0 (spec_l01Src_point.j4 kq t244 x142_119 s0_0 t245 t246 t247 = some (r1, r2, r3, r4)) ∧ Aside0 (kq ≤ kj90) ∧ Aside0 (IsS145 w0 wc g s0_0 t245 t246 t247) ∧ Aside0 (KeepBut w wc g none) ∧ Aside0 (Below w0.heap.size w0 wc))
                                              case first =>
                                                have H := HC120.out
                                                clear HC120
                                                by_cases c121 : t244 = 19
                                                · exfalso
                                                  have h_ := HV.out
                                                  rw [c121] at h_
                                                  exact absurd h_ (by decide)
                                                · rw [if_neg c121] at H
                                                  have c121b0 : (t244 == 19) = false := beq_eq_false_iff_ne.mpr c121
                                                  have c121b1 : (t244 != 19) = true := bne_iff_ne.mpr c121
                                                  (first | rw [c121b0] | (simp only [i64_w, i32_w]; rw [c121b0]) | skip)
                                                  have H' := Aside0.mk H
                                                  clear H
                                                  go_wp2
                                                  go_meet
                                                  case rel => exact ⟨_, ((t244 == 20)), (by first | rfl | (simp; done) | (simp [*]; done)), H', ⟨by have := HJ2.out; have := HJ44.out; have := HJ56.out; have := HJ90.out; first | omega | exact Nat.le_refl _⟩, ⟨by repeat (first | (with_reducible first | exact HI0.out | apply IsS145.alloc | apply IsS145.drewN | apply IsS145.drew | apply IsS145.set_1 | apply IsS145.set_2 | apply IsS145.set_3) | exact HI0.out)⟩, ⟨by repeat (first | (with_reducible first | exact HK.out | apply KeepBut.set_ | apply keep_drewN | apply keep_drew | apply keep_alloc) | exact HK.out)⟩, ⟨by repeat (first | (with_reducible first | exact HB.out | apply below_alloc | apply pw_below_drewN | apply below_drew1 | refine below_set ?_ (IsS145.ge HI0.out)) | exact HB.out)⟩⟩
                                              case rest =>
                                                clear HC120
                                                try clear c1
                                                try clear c2
                                                try clear p2
                                                try clear q2
                                                try clear hx2
                                                try clear c3
                                                try clear p3
                                                try clear q3
                                                try clear hx3
                                                try clear c4
                                                try clear c5
                                                try clear c5b0
                                                try clear c5b1
                                                try clear c6
                                                try clear c6b0
                                                try clear c6b1
                                                try clear p6
                                                try clear c7
                                                try clear c8
                                                try clear c9
                                                try clear c10
                                                try clear c10b0
                                                try clear c10b1
                                                try clear c11
                                                try clear c12
                                                try clear c13
                                                try clear c13b0
                                                try clear c13b1
                                                try clear c15
                                                try clear c15b0
                                                try clear c16
                                                try clear c16b0
                                                try clear c21
                                                try clear c21b0
                                                try clear c21b1
                                                try clear p26
                                                try clear q26
                                                try clear hx26
                                                try clear c27
                                                try clear c27b0
                                                try clear c28
                                                try clear c28b0
                                                try clear p28
                                                try clear q28
                                                try clear hx28
                                                try clear p29
                                                try clear q29
                                                try clear hx29
                                                try clear p33
                                                try clear q33
                                                try clear hx33
                                                try clear p35
                                                try clear q35
                                                try clear hx35
                                                try clear c37
                                                try clear c37b0
                                                try clear c37b1
                                                try clear p37
                                                try clear q37
                                                try clear hx37
                                                try clear c39
                                                try clear c39b0
                                                try clear p39
                                                try clear q39
                                                try clear hx39
                                                try clear c40
                                                try clear c40b0
                                                try clear c46
                                                try clear c46b0
                                                try clear c46b1
                                                try clear c47
                                                try clear c52
                                                try clear c52b0
                                                try clear c52b1
                                                try clear c58
                                                try clear c58b0
                                                try clear c58b1
                                                try clear c59
                                                try clear c62
                                                try clear c62b0
                                                try clear c62b1
                                                try clear p64
                                                try clear c66
                                                try clear c66b0
                                                try clear c67
                                                try clear c67b0
                                                try clear c74
                                                try clear c74b0
                                                try clear c74b1
                                                try clear c79
                                                try clear c79b0
                                                try clear c80
                                                try clear c80b0
                                                try clear c88
                                                try clear c88b0
                                                try clear c88b1
                                                try clear c92
                                                try clear c92b0
                                                try clear c92b1
                                                try clear c93
                                                try clear c94
                                                try clear c96
                                                try clear c96b0
                                                try clear c96b1
                                                try clear c101
                                                try clear c101b0
                                                try clear c102
                                                try clear c102b0
                                                try clear c110
                                                try clear c110b0
                                                try clear c110b1
                                                try clear c113
                                                try clear c113b0
                                                try clear c114
                                                try clear c114b0
                                                try clear c121
                                                try clear c121b0
                                                try clear c121b1
                                                try clear hx263_0
                                                try clear hx287_0
                                                try clear hx295_0
                                                try clear hx331_0
                                                try clear hx351_0
                                                try clear hx379_0
                                                try clear hx391_0
                                                try clear p2
                                                try clear p26
                                                try clear p263
                                                try clear p28
                                                try clear p287
                                                try clear p29
                                                try clear p295
                                                try clear p3
                                                try clear p33
                                                try clear p331
                                                try clear p35
                                                try clear p351
                                                try clear p379
                                                try clear p391
                                                try clear p6
                                                try clear p64
                                                try clear q2
                                                try clear q26
                                                try clear q263
                                                try clear q28
                                                try clear q287
                                                try clear q29
                                                try clear q295
                                                try clear q3
                                                try clear q33
                                                try clear q331
                                                try clear q35
                                                try clear q351
                                                try clear q379
                                                try clear q391
                                                obtain ⟨kq, x142_119, rfl, HA, HJ119, HI0, HK, HB⟩ := hcut
                                                cases kq with
                                                | zero => exact absurd HA.out (by simp [spec_l01Src_point.j4])
                                                | succ kj119 =>
                                                  have H := HA.out
                                                  clear HA
                                                  simp only [spec_l01Src_point.j4] at H
                                                  by_cases c122 : x142_119 = true
                                                  · subst c122
                                                    have H1 : ((spec_l01Src_n.f s0_0 t245 t246 t247 3).bind fun bt392 => ((spec_l01Src_n.f s0_0 bt392.2.1 bt392.2.2.1 bt392.2.2.2 416).bind fun bt396 => (some (wrap64 ((wrap64 (8192 + (wrap64 (512 * bt392.1)))) + bt396.1), bt396.2.1, bt396.2.2.1, bt396.2.2.2)))) = some (r1, r2, r3, r4) := by rw [if_pos rfl] at H; exact H
                                                    clear H
                                                    have H := H1
                                                    clear H1
                                                    replace H := Option.bind_eq_some_iff.mp H
                                                    obtain ⟨⟨t392, t393, t394, t395⟩, A1230, H⟩ := H
                                                    replace H : ((spec_l01Src_n.f s0_0 t393 t394 t395 416).bind fun bt396 => (some (wrap64 ((wrap64 (8192 + (wrap64 (512 * t392)))) + bt396.1), bt396.2.1, bt396.2.2.1, bt396.2.2.2))) = some (r1, r2, r3, r4) := H
                                                    have A123 := Aside0.mk A1230
                                                    clear A1230
                                                    replace H := Option.bind_eq_some_iff.mp H
                                                    obtain ⟨⟨t396, t397, t398, t399⟩, A1240, H⟩ := H
                                                    replace H : (some (wrap64 ((wrap64 (8192 + (wrap64 (512 * t392)))) + t396), t397, t398, t399)) = some (r1, r2, r3, r4) := H
                                                    have A124 := Aside0.mk A1240
                                                    clear A1240
                                                    simp only [Option.some.injEq, Prod.mk.injEq] at H
                                                    obtain ⟨rfl, rfl, rfl, rfl⟩ := H
                                                    go_wp2_with (first | ((with_reducible refine gate_callee (f := 94) rfl ?_); refine goesL_ (some 146) rfl rfl Tryd.func94 (by kernel_rfl) rfl #[.pointer (some ⟨g, 0, none⟩), .int .i64 3] rfl (by (try simp only [List.map_toArray, List.map_cons, List.map_nil]); first | done | rfl | (simp only [List.length_drop, List.length_take]; rfl)) ?_; (with_reducible refine (spec_l01Src_n.calls g s0_0 t245 t246 t247 3 t392 t393 t394 t395 w0 _ ?side1 ?side2 A123.out).mono ?_); (case side1 => repeat (first | (with_reducible first | exact HI0.out | apply IsS145.alloc | apply IsS145.drewN | apply IsS145.drew | apply IsS145.set_1 | apply IsS145.set_2 | apply IsS145.set_3) | exact HI0.out)); (case side2 => repeat (first | (with_reducible first | exact HB.out | apply below_alloc | apply pw_below_drewN | apply below_drew1 | refine below_set ?_ (IsS145.ge HI0.out)) | exact HB.out)); rintro e w125 ⟨rfl, hi, hb, hk⟩; refine ⟨_, rfl, ?_⟩; have n0_ := Aside0.mk (KeepBut.trans (by repeat (first | (with_reducible first | exact HK.out | apply KeepBut.set_ | apply keep_drewN | apply keep_drew | apply keep_alloc) | exact HK.out)) hk (.inl rfl)); have n1_ := Aside0.mk (hb); have n2_ := Aside0.mk (hi); clear HK; clear HB; clear HI0; have HK := n0_; have HB := n1_; have HI0 := n2_; clear n0_ n1_ n2_; (try clear hb); (try clear hb2); (try clear hk); (try clear hi)) | ((with_reducible refine gate_callee (f := 94) rfl ?_); refine goesL_ (some 150) rfl rfl Tryd.func94 (by kernel_rfl) rfl #[.pointer (some ⟨g, 0, none⟩), .int .i64 416] rfl (by (try simp only [List.map_toArray, List.map_cons, List.map_nil]); first | done | rfl | (simp only [List.length_drop, List.length_take]; rfl)) ?_; (with_reducible refine (spec_l01Src_n.calls g s0_0 t393 t394 t395 416 t396 t397 t398 t399 w0 _ ?side1 ?side2 A124.out).mono ?_); (case side1 => repeat (first | (with_reducible first | exact HI0.out | apply IsS145.alloc | apply IsS145.drewN | apply IsS145.drew | apply IsS145.set_1 | apply IsS145.set_2 | apply IsS145.set_3) | exact HI0.out)); (case side2 => repeat (first | (with_reducible first | exact HB.out | apply below_alloc | apply pw_below_drewN | apply below_drew1 | refine below_set ?_ (IsS145.ge HI0.out)) | exact HB.out)); rintro e w126 ⟨rfl, hi, hb, hk⟩; refine ⟨_, rfl, ?_⟩; have n0_ := Aside0.mk (KeepBut.trans (by repeat (first | (with_reducible first | exact HK.out | apply KeepBut.set_ | apply keep_drewN | apply keep_drew | apply keep_alloc) | exact HK.out)) hk (.inl rfl)); have n1_ := Aside0.mk (hb); have n2_ := Aside0.mk (hi); clear HK; clear HB; clear HI0; have HK := n0_; have HB := n1_; have HI0 := n2_; clear n0_ n1_ n2_; (try clear hb); (try clear hb2); (try clear hk); (try clear hi)))
                                                    go_ret
                                                    exact ⟨by first | rfl | (simp [errW_none, errW_some] <;> rfl) | (simp [*, errW_none, errW_some] <;> rfl), by repeat (first | (with_reducible first | exact HI0.out | apply IsS145.alloc | apply IsS145.drewN | apply IsS145.drew | apply IsS145.set_1 | apply IsS145.set_2 | apply IsS145.set_3) | exact HI0.out), by repeat (first | (with_reducible first | exact HB.out | apply below_alloc | apply pw_below_drewN | apply below_drew1 | refine below_set ?_ (IsS145.ge HI0.out)) | exact HB.out), by repeat (first | (with_reducible first | exact HK.out | apply KeepBut.set_ | apply keep_drewN | apply keep_drew | apply keep_alloc) | exact HK.out)⟩
                                                  · replace c122 := Bool.eq_false_iff.mpr c122
                                                    subst c122
                                                    have H1 : (if t244 = 21 then ((spec_l01Src_n.f s0_0 t245 t246 t247 26).bind fun bt400 => ((spec_l01Src_n.f s0_0 bt400.2.1 bt400.2.2.1 bt400.2.2.2 26).bind fun bt404 => ((spec_l01Src_n.f s0_0 bt404.2.1 bt404.2.2.1 bt404.2.2.2 4).bind fun bt408 => ((some (([wrap64 (9728 + bt400.1), wrap64 (9984 + bt404.1), wrap64 (10032 + bt408.1)] : List Int) : List Int)).bind fun y412 => ((spec_l01Src_n.f s0_0 bt408.2.1 bt408.2.2.1 bt408.2.2.2 3).bind fun bt415 => (if 0 ≤ bt415.1 then (if bt415.1 < (y412.length : Int) then (some (rd y412 bt415.1, bt415.2.1, bt415.2.2.1, bt415.2.2.2)) else (none)) else (none))))))) else (if t244 = 22 then ((spec_l01Src_n.f s0_0 t245 t246 t247 11172).bind fun bt420 => ((spec_l01Src_n.f s0_0 bt420.2.1 bt420.2.2.1 bt420.2.2.2 2048).bind fun bt424 => ((some (([wrap64 (12288 + bt420.1), wrap64 (24576 + bt424.1)] : List Int) : List Int)).bind fun y428 => ((spec_l01Src_n.f s0_0 bt424.2.1 bt424.2.2.1 bt424.2.2.2 2).bind fun bt431 => (if 0 ≤ bt431.1 then (if bt431.1 < (y428.length : Int) then (some (rd y428 bt431.1, bt431.2.1, bt431.2.2.1, bt431.2.2.2)) else (none)) else (none)))))) else ((spec_l01Src_n.f s0_0 t245 t246 t247 12288).bind fun bt436 => ((spec_l01Src_n.f s0_0 bt436.2.1 bt436.2.2.1 bt436.2.2.2 4096).bind fun bt440 => ((spec_l01Src_n.f s0_0 bt440.2.1 bt440.2.2.1 bt440.2.2.2 32768).bind fun bt444 => ((some (([65533, wrap64 (20480 + bt436.1), wrap64 (65536 + bt440.1), 1114111, 65535, bt444.1] : List Int) : List Int)).bind fun y448 => ((spec_l01Src_n.f s0_0 bt444.2.1 bt444.2.2.1 bt444.2.2.2 6).bind fun bt451 => (if 0 ≤ bt451.1 then (if bt451.1 < (y448.length : Int) then (some (rd y448 bt451.1, bt451.2.1, bt451.2.2.1, bt451.2.2.2)) else (none)) else (none))))))))) = some (r1, r2, r3, r4) := by rw [if_neg (show ¬ (false = true) by decide)] at H; exact H
                                                    clear H
                                                    have H := H1
                                                    clear H1
                                                    by_cases c127 : t244 = 21
                                                    · exfalso
                                                      have h_ := HV.out
                                                      rw [c127] at h_
                                                      exact absurd h_ (by decide)
                                                    · rw [if_neg c127] at H
                                                      have c127b0 : (t244 == 21) = false := beq_eq_false_iff_ne.mpr c127
                                                      have c127b1 : (t244 != 21) = true := bne_iff_ne.mpr c127
                                                      by_cases c141 : t244 = 22
                                                      · exfalso
                                                        have h_ := HV.out
                                                        rw [c141] at h_
                                                        exact absurd h_ (by decide)
                                                      · rw [if_neg c141] at H
                                                        have c141b0 : (t244 == 22) = false := beq_eq_false_iff_ne.mpr c141
                                                        have c141b1 : (t244 != 22) = true := bne_iff_ne.mpr c141
                                                        replace H := Option.bind_eq_some_iff.mp H
                                                        obtain ⟨⟨t436, t437, t438, t439⟩, A1530, H⟩ := H
                                                        replace H : ((spec_l01Src_n.f s0_0 t437 t438 t439 4096).bind fun bt440 => ((spec_l01Src_n.f s0_0 bt440.2.1 bt440.2.2.1 bt440.2.2.2 32768).bind fun bt444 => ((some (([65533, wrap64 (20480 + t436), wrap64 (65536 + bt440.1), 1114111, 65535, bt444.1] : List Int) : List Int)).bind fun y448 => ((spec_l01Src_n.f s0_0 bt444.2.1 bt444.2.2.1 bt444.2.2.2 6).bind fun bt451 => (if 0 ≤ bt451.1 then (if bt451.1 < (y448.length : Int) then (some (rd y448 bt451.1, bt451.2.1, bt451.2.2.1, bt451.2.2.2)) else (none)) else (none)))))) = some (r1, r2, r3, r4) := H
                                                        have A153 := Aside0.mk A1530
                                                        clear A1530
                                                        replace H := Option.bind_eq_some_iff.mp H
                                                        obtain ⟨⟨t440, t441, t442, t443⟩, A1540, H⟩ := H
                                                        replace H : ((spec_l01Src_n.f s0_0 t441 t442 t443 32768).bind fun bt444 => ((some (([65533, wrap64 (20480 + t436), wrap64 (65536 + t440), 1114111, 65535, bt444.1] : List Int) : List Int)).bind fun y448 => ((spec_l01Src_n.f s0_0 bt444.2.1 bt444.2.2.1 bt444.2.2.2 6).bind fun bt451 => (if 0 ≤ bt451.1 then (if bt451.1 < (y448.length : Int) then (some (rd y448 bt451.1, bt451.2.1, bt451.2.2.1, bt451.2.2.2)) else (none)) else (none))))) = some (r1, r2, r3, r4) := H
                                                        have A154 := Aside0.mk A1540
                                                        clear A1540
                                                        replace H := Option.bind_eq_some_iff.mp H
                                                        obtain ⟨⟨t444, t445, t446, t447⟩, A1550, H⟩ := H
                                                        replace H : ((some (([65533, wrap64 (20480 + t436), wrap64 (65536 + t440), 1114111, 65535, t444] : List Int) : List Int)).bind fun y448 => ((spec_l01Src_n.f s0_0 t445 t446 t447 6).bind fun bt451 => (if 0 ≤ bt451.1 then (if bt451.1 < (y448.length : Int) then (some (rd y448 bt451.1, bt451.2.1, bt451.2.2.1, bt451.2.2.2)) else (none)) else (none)))) = some (r1, r2, r3, r4) := H
                                                        have A155 := Aside0.mk A1550
                                                        clear A1550
                                                        obtain ⟨y448, hy448⟩ : ∃ y_ : List Int, y_ = (([65533, wrap64 (20480 + t436), wrap64 (65536 + t440), 1114111, 65535, t444] : List Int)) := ⟨_, rfl⟩
                                                        replace H : ((spec_l01Src_n.f s0_0 t445 t446 t447 6).bind fun bt451 => (if 0 ≤ bt451.1 then (if bt451.1 < (y448.length : Int) then (some (rd y448 bt451.1, bt451.2.1, bt451.2.2.1, bt451.2.2.2)) else (none)) else (none))) = some (r1, r2, r3, r4) := by first | (rw [hy448]; with_reducible exact H) | (have H2_ := (Option.bind_some _ _).symm.trans H; rw [hy448]; with_reducible exact H2_) | (have H2_ := (Option.bind_some _ _).symm.trans H; with_reducible exact H2_) | with_reducible exact H | (rw [hy448]; exact H) | exact H
                                                        have Ny448 := Aside0.mk hy448
                                                        clear hy448
                                                        replace H := Option.bind_eq_some_iff.mp H
                                                        obtain ⟨⟨t451, t452, t453, t454⟩, A1560, H⟩ := H
                                                        replace H : (if 0 ≤ t451 then (if t451 < (y448.length : Int) then (some (rd y448 t451, t452, t453, t454)) else (none)) else (none)) = some (r1, r2, r3, r4) := H
                                                        have A156 := Aside0.mk A1560
                                                        clear A1560
                                                        by_cases c157 : 0 ≤ t451
                                                        · rw [if_pos c157] at H
                                                          have c157b0 : decide (0 ≤ t451) = true := decide_eq_true c157
                                                          clear c157
                                                          by_cases c158 : t451 < (y448.length : Int)
                                                          · rw [if_pos c158] at H
                                                            have c158b0 : decide (t451 < (y448.length : Int)) = true := decide_eq_true c158
                                                            clear c158
                                                            simp only [Option.some.injEq, Prod.mk.injEq] at H
                                                            obtain ⟨rfl, rfl, rfl, rfl⟩ := H
                                                            go_wp2_with (first | ((with_reducible refine gate_callee (f := 94) rfl ?_); refine goesL_ (some 182) rfl rfl Tryd.func94 (by kernel_rfl) rfl #[.pointer (some ⟨g, 0, none⟩), .int .i64 12288] rfl (by (try simp only [List.map_toArray, List.map_cons, List.map_nil]); first | done | rfl | (simp only [List.length_drop, List.length_take]; rfl)) ?_; (with_reducible refine (spec_l01Src_n.calls g s0_0 t245 t246 t247 12288 t436 t437 t438 t439 w0 _ ?side1 ?side2 A153.out).mono ?_); (case side1 => repeat (first | (with_reducible first | exact HI0.out | apply IsS145.alloc | apply IsS145.drewN | apply IsS145.drew | apply IsS145.set_1 | apply IsS145.set_2 | apply IsS145.set_3) | exact HI0.out)); (case side2 => repeat (first | (with_reducible first | exact HB.out | apply below_alloc | apply pw_below_drewN | apply below_drew1 | refine below_set ?_ (IsS145.ge HI0.out)) | exact HB.out)); rintro e w159 ⟨rfl, hi, hb, hk⟩; refine ⟨_, rfl, ?_⟩; have n0_ := Aside0.mk (KeepBut.trans (by repeat (first | (with_reducible first | exact HK.out | apply KeepBut.set_ | apply keep_drewN | apply keep_drew | apply keep_alloc) | exact HK.out)) hk (.inl rfl)); have n1_ := Aside0.mk (hb); have n2_ := Aside0.mk (hi); clear HK; clear HB; clear HI0; have HK := n0_; have HB := n1_; have HI0 := n2_; clear n0_ n1_ n2_; (try clear hb); (try clear hb2); (try clear hk); (try clear hi)) | ((with_reducible refine gate_callee (f := 94) rfl ?_); refine goesL_ (some 185) rfl rfl Tryd.func94 (by kernel_rfl) rfl #[.pointer (some ⟨g, 0, none⟩), .int .i64 4096] rfl (by (try simp only [List.map_toArray, List.map_cons, List.map_nil]); first | done | rfl | (simp only [List.length_drop, List.length_take]; rfl)) ?_; (with_reducible refine (spec_l01Src_n.calls g s0_0 t437 t438 t439 4096 t440 t441 t442 t443 w0 _ ?side1 ?side2 A154.out).mono ?_); (case side1 => repeat (first | (with_reducible first | exact HI0.out | apply IsS145.alloc | apply IsS145.drewN | apply IsS145.drew | apply IsS145.set_1 | apply IsS145.set_2 | apply IsS145.set_3) | exact HI0.out)); (case side2 => repeat (first | (with_reducible first | exact HB.out | apply below_alloc | apply pw_below_drewN | apply below_drew1 | refine below_set ?_ (IsS145.ge HI0.out)) | exact HB.out)); rintro e w160 ⟨rfl, hi, hb, hk⟩; refine ⟨_, rfl, ?_⟩; have n0_ := Aside0.mk (KeepBut.trans (by repeat (first | (with_reducible first | exact HK.out | apply KeepBut.set_ | apply keep_drewN | apply keep_drew | apply keep_alloc) | exact HK.out)) hk (.inl rfl)); have n1_ := Aside0.mk (hb); have n2_ := Aside0.mk (hi); clear HK; clear HB; clear HI0; have HK := n0_; have HB := n1_; have HI0 := n2_; clear n0_ n1_ n2_; (try clear hb); (try clear hb2); (try clear hk); (try clear hi)) | ((with_reducible refine gate_callee (f := 94) rfl ?_); refine goesL_ (some 188) rfl rfl Tryd.func94 (by kernel_rfl) rfl #[.pointer (some ⟨g, 0, none⟩), .int .i64 32768] rfl (by (try simp only [List.map_toArray, List.map_cons, List.map_nil]); first | done | rfl | (simp only [List.length_drop, List.length_take]; rfl)) ?_; (with_reducible refine (spec_l01Src_n.calls g s0_0 t441 t442 t443 32768 t444 t445 t446 t447 w0 _ ?side1 ?side2 A155.out).mono ?_); (case side1 => repeat (first | (with_reducible first | exact HI0.out | apply IsS145.alloc | apply IsS145.drewN | apply IsS145.drew | apply IsS145.set_1 | apply IsS145.set_2 | apply IsS145.set_3) | exact HI0.out)); (case side2 => repeat (first | (with_reducible first | exact HB.out | apply below_alloc | apply pw_below_drewN | apply below_drew1 | refine below_set ?_ (IsS145.ge HI0.out)) | exact HB.out)); rintro e w161 ⟨rfl, hi, hb, hk⟩; refine ⟨_, rfl, ?_⟩; have n0_ := Aside0.mk (KeepBut.trans (by repeat (first | (with_reducible first | exact HK.out | apply KeepBut.set_ | apply keep_drewN | apply keep_drew | apply keep_alloc) | exact HK.out)) hk (.inl rfl)); have n1_ := Aside0.mk (hb); have n2_ := Aside0.mk (hi); clear HK; clear HB; clear HI0; have HK := n0_; have HB := n1_; have HI0 := n2_; clear n0_ n1_ n2_; (try clear hb); (try clear hb2); (try clear hk); (try clear hi)) | ((with_reducible refine gate_dst (N := 189) rfl ?_); refine Kd.R_lit (Kd.int .i64) _ 2 ?hg (N := 189) ?hd (xs := ([65533, wrap64 (20480 + t436), wrap64 (65536 + t440), 1114111, 65535, t444] : List Int)) (inner := [.int .i64 65533, .int .i64 (wrap64 (20480 + t436)), .int .i64 (wrap64 (65536 + t440)), .int .i64 1114111, .int .i64 65535, .int .i64 t444]) (ok := fun _ => True) (okp := fun _ => True) ?hr ?hp (fun _ hk => hk) trivial (Below.refl _ _) (Nat.le_refl _) (by simp) ?_; (case hd => rfl); (case hg => rfl); (case hr => first | (go_simp; done) | (go_simp; rfl)); (case hp => exact (Reps.one (show Kd.M (Kd.int .i64) _ _ _ 65533 [.int .i64 65533] from rfl) (Reps.one (show Kd.M (Kd.int .i64) _ _ _ (wrap64 (20480 + t436)) [.int .i64 (wrap64 (20480 + t436))] from rfl) (Reps.one (show Kd.M (Kd.int .i64) _ _ _ (wrap64 (65536 + t440)) [.int .i64 (wrap64 (65536 + t440))] from rfl) (Reps.one (show Kd.M (Kd.int .i64) _ _ _ 1114111 [.int .i64 1114111] from rfl) (Reps.one (show Kd.M (Kd.int .i64) _ _ _ 65535 [.int .i64 65535] from rfl) (Reps.one (show Kd.M (Kd.int .i64) _ _ _ t444 [.int .i64 t444] from rfl) (Reps.none _ _)))))))); intro v449 w162 ho163 hb hg_ hnew_; clear hg_ hnew_; (first | rw [← Ny448.out] at ho163 | (simp only [Int.reduceToNat] at ho163; rw [← Ny448.out] at ho163)); have n0_ := Aside0.mk (Kd.R_lower ho163 (keep_size (w := w) (g := g) (row := none) (by repeat (first | (with_reducible first | exact HK.out | apply KeepBut.set_ | apply keep_drewN | apply keep_drew | apply keep_alloc) | exact HK.out)))); have n1_ := Aside0.mk (IsS145.below (by repeat (first | (with_reducible first | exact HI0.out | apply IsS145.alloc | apply IsS145.drewN | apply IsS145.drew | apply IsS145.set_1 | apply IsS145.set_2 | apply IsS145.set_3) | exact HI0.out)) hb); have n2_ := Aside0.mk (KeepBut.trans (by repeat (first | (with_reducible first | exact HK.out | apply KeepBut.set_ | apply keep_drewN | apply keep_drew | apply keep_alloc) | exact HK.out)) (KeepBut.of_below hb g none) (.inl rfl)); have n3_ := Aside0.mk (below_step (by repeat (first | (with_reducible first | exact HB.out | apply below_alloc | apply pw_below_drewN | apply below_drew1 | refine below_set ?_ (IsS145.ge HI0.out)) | exact HB.out)) hb); clear HI0; clear HK; clear HB; have HO450 := n0_; have HI0 := n1_; have HK := n2_; have HB := n3_; clear n0_ n1_ n2_ n3_; clear hb ho163) | ((with_reducible refine gate_callee (f := 94) rfl ?_); refine goesL_ (some 191) rfl rfl Tryd.func94 (by kernel_rfl) rfl #[.pointer (some ⟨g, 0, none⟩), .int .i64 6] rfl (by (try simp only [List.map_toArray, List.map_cons, List.map_nil]); first | done | rfl | (simp only [List.length_drop, List.length_take]; rfl)) ?_; (with_reducible refine (spec_l01Src_n.calls g s0_0 t445 t446 t447 6 t451 t452 t453 t454 w0 _ ?side1 ?side2 A156.out).mono ?_); (case side1 => repeat (first | (with_reducible first | exact HI0.out | apply IsS145.alloc | apply IsS145.drewN | apply IsS145.drew | apply IsS145.set_1 | apply IsS145.set_2 | apply IsS145.set_3) | exact HI0.out)); (case side2 => repeat (first | (with_reducible first | exact HB.out | apply below_alloc | apply pw_below_drewN | apply below_drew1 | refine below_set ?_ (IsS145.ge HI0.out)) | exact HB.out)); rintro e w164 ⟨rfl, hi, hb, hk⟩; refine ⟨_, rfl, ?_⟩; have n0_ := Aside0.mk (Kd.R_mono (Kd.R_keep (IsS145.apart (show IsS145 w0 _ g s0_0 t445 t446 t447 from by repeat (first | (with_reducible first | exact HI0.out | apply IsS145.alloc | apply IsS145.drewN | apply IsS145.drew | apply IsS145.set_1 | apply IsS145.set_2 | apply IsS145.set_3) | exact HI0.out)) (by (with_reducible repeat (first | apply Kd.R_alloc | apply Kd.R_drewN | apply Kd.R_drew)); exact HO450.out) (by decide)) hk (fun _ h => h.2)) (fun _ h => h.1)); have n1_ := Aside0.mk (KeepBut.trans (by repeat (first | (with_reducible first | exact HK.out | apply KeepBut.set_ | apply keep_drewN | apply keep_drew | apply keep_alloc) | exact HK.out)) hk (.inl rfl)); have n2_ := Aside0.mk (hb); have n3_ := Aside0.mk (hi); clear HO450; clear HK; clear HB; clear HI0; have HO450 := n0_; have HK := n1_; have HB := n2_; have HI0 := n3_; clear n0_ n1_ n2_ n3_; (try clear hb); (try clear hb2); (try clear hk); (try clear hi); obtain ⟨Ao165, co165, eo165⟩ := Kd.R_slice HO450.out; subst eo165; have p455 : 0 ≤ (t451 : Int) := of_decide_eq_true (by first | (with_reducible assumption) | assumption); have q455 : t451 < (y448.length : Int) := of_decide_eq_true (by first | (with_reducible assumption) | assumption); obtain ⟨ad455, e455, hx455_0⟩ := Kd.at_int (Kd.R_reads' HO450.out).2.2 t451 p455 q455; cases e455; replace p455 := eq_true p455; replace q455 := eq_true q455))
                                                            go_ret
                                                            exact ⟨by first | rfl | (simp [errW_none, errW_some] <;> rfl) | (simp [*, errW_none, errW_some] <;> rfl), by repeat (first | (with_reducible first | exact HI0.out | apply IsS145.alloc | apply IsS145.drewN | apply IsS145.drew | apply IsS145.set_1 | apply IsS145.set_2 | apply IsS145.set_3) | exact HI0.out), by repeat (first | (with_reducible first | exact HB.out | apply below_alloc | apply pw_below_drewN | apply below_drew1 | refine below_set ?_ (IsS145.ge HI0.out)) | exact HB.out), by repeat (first | (with_reducible first | exact HK.out | apply KeepBut.set_ | apply keep_drewN | apply keep_drew | apply keep_alloc) | exact HK.out)⟩
                                                          · rw [if_neg c158] at H
                                                            exact absurd H (by simp)
                                                        · rw [if_neg c157] at H
                                                          exact absurd H (by simp)

end Go.Proofs.YtnonijganceneaaDoor.QFnCodes
