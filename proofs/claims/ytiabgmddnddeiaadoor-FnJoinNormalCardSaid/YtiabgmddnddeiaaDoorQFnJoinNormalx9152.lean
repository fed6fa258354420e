/- The law FnJoinNormal: at every input the call answers true (this text: contracts on its way, by a program of this session's; no condition of ours). -/
import Derived.Test.YtiabgmddnddeiaaDoorQFnJoinNormalx0
import Derived.Test.YtiabgmddnddeiaaDoorQFnJoinNormalx13
import Derived.Test.YtiabgmddnddeiaaDoorQFnJoinNormalx14
import Derived.Test.YtiabgmddnddeiaaDoorQFnJoinNormalx9150
namespace Go.Proofs.YtiabgmddnddeiaaDoor.QFnJoinNormal
open Go.RowKit Go.Proofs.YtiabgmddnddeiaaDoorW.PrintWords Go.Proofs.YtiabgmddnddeiaaDoorW.PrintLast Go.Proofs.YtiabgmddnddeiaaDoorW.PrintMore
attribute [local go_sem] max2_int min2_int max_two min_two max_three min_three max_four min_four   -- for this text's walks alone
set_option linter.unusedVariables false
set_option linter.unusedSimpArgs false
set_option maxHeartbeats 8000000 in
set_option maxRecDepth 100000 in
theorem spec_l01Src_point.calls_2 (k : Nat) (g : Nat) (s0_0 : List Int) (s0_1 : Int) (s0_2 : Int) (s0_3 : Int) (r1 : Int) (r2 : Int) (r3 : Int) (r4 : Int) (w0 w : World) (hI : IsS134 w0 w g s0_0 s0_1 s0_2 s0_3) (hB : Below w0.heap.size w0 w) (h : spec_l01Src_point.f k s0_0 s0_1 s0_2 s0_3 = some (r1, r2, r3, r4)) (hv_ : ∀ x_ y_, spec_l01Src_n.f s0_0 s0_1 s0_2 s0_3 24 = some (x_, y_) → 17 ≤ x_) :
  Calls Tryd.prog 179 #[.pointer (some ⟨g, 0, none⟩)] w fun e w' => e = .returned (.int .i64 r1) ∧ IsS134 w0 w' g s0_0 r2 r3 r4 ∧ Below w0.heap.size w0 w' ∧ KeepBut w w' g none := by
 have HI0 := Aside0.mk hI
 have HK := Aside0.mk (KeepBut.refl w g none)
 have HL := Aside0.mk hB.size
 clear hI
 have HW0 := Aside0.mk hB.size
 have HB := Aside0.mk hB
 clear hB
 have H : ((spec_l01Src_n.f s0_0 s0_1 s0_2 s0_3 24).bind fun bt344 => (if bt344.1 = 0 then (spec_l01Src_point.j0 k bt344.1 (bt344.1 == 0) s0_0 bt344.2.1 bt344.2.2.1 bt344.2.2.2) else (if bt344.1 = 1 then (spec_l01Src_point.j0 k bt344.1 (bt344.1 == 1) s0_0 bt344.2.1 bt344.2.2.1 bt344.2.2.2) else (spec_l01Src_point.j0 k bt344.1 (bt344.1 == 2) s0_0 bt344.2.1 bt344.2.2.1 bt344.2.2.2)))) = some (r1, r2, r3, r4) := h
 clear h
 replace H := Option.bind_eq_some_iff.mp H
 obtain ⟨⟨t344, t345, t346, t347⟩, A20, H⟩ := H
 have HV := Aside0.mk (hv_ _ _ A20)
 clear hv_
 try dsimp only at H
 have A2 := Aside0.mk A20
 clear A20
 have HC3 := Aside0.mk H
 clear H
 go_enter Tryd.func179, Tryd.ntmps179
 go_upto_if 5 with (first | ((with_reducible refine gate_callee (f := 82) rfl ?_); refine goesL_ (some 4) rfl rfl Tryd.func82 (by kernel_rfl) rfl #[.pointer (some ⟨g, 0, none⟩), .int .i64 24] rfl (by (try simp only [List.map_toArray, List.map_cons, List.map_nil]); first | done | rfl) ?_; refine (spec_l01Src_n.callsA g s0_0 s0_1 s0_2 s0_3 24 t344 t345 t346 t347 w0 _ _ A2.out).mono ?_; rintro e w4 ⟨rfl, hi, hb, hk⟩; refine ⟨_, rfl, ?_⟩; replace HI0 := hi; replace HB := hb; replace HK := hk; clear hi hb hk))
 (try simp only [Act.put, List.setIfInBounds_toArray, List.set_cons_zero, List.set_cons_succ])
 go_cut [5] (fun v5 wc => ∃ (kq : Nat) (x5_2 : Bool), v5 = .bool x5_2 ∧ Aside0 (spec_l01Src_point.j0 kq t344 x5_2 s0_0 t345 t346 t347 = some (r1, r2, r3, r4)) ∧ Aside0 (kq ≤ k) ∧ Aside0 (IsS134 w0 wc g s0_0 t345 t346 t347) ∧ Aside0 (KeepBut w wc g none) ∧ Aside0 (Below w0.heap.size w0 wc))
 case first =>
  have H := HC3.out; clear HC3
  by_cases c5 : t344 = 0
  ·exfalso
   have h_ := HV.out; rw [c5] at h_
   exact absurd h_ (by decide)
  rw [if_neg c5] at H; have c5b0 : (t344 == 0) = false := beq_eq_false_iff_ne.mpr c5; have c5b1 : (t344 != 0) = true := bne_iff_ne.mpr c5
  (first | rw [c5b0] | (simp only [i64_w, i32_w]; rw [c5b0]) | skip)
  by_cases c6 : t344 = 1
  ·exfalso
   have h_ := HV.out; rw [c6] at h_
   exact absurd h_ (by decide)
  rw [if_neg c6] at H; have c6b0 : (t344 == 1) = false := beq_eq_false_iff_ne.mpr c6; have c6b1 : (t344 != 1) = true := bne_iff_ne.mpr c6; have H' := Aside0.mk H; clear H
  go_wp2
  go_meet
  case rel => exact ⟨_, ((t344 == 2)), (by first | rfl | (simp; done) | (simp [*]; done)), H', ⟨by first | omega | exact Nat.le_refl _⟩, ⟨isA⟩, ⟨keepA⟩, ⟨belowI⟩⟩
 case rest =>
  clear HC3
  try clear c1; try clear p2; try clear c5; try clear c5b0; try clear c5b1; try clear c6; try clear c6b0; try clear c6b1
  obtain ⟨kq, x5_2, rfl, HA, HJ2, HI0, HK, HB⟩ := hcut
  cases kq with
  | zero => exact absurd HA.out (by simp [spec_l01Src_point.j0])
  | succ kj2 =>
   have H := HA.out; clear HA; simp only [spec_l01Src_point.j0] at H
   by_cases c7 : x5_2 = true
   ·subst c7
    have H1 : ((spec_l01Src_n.f s0_0 t345 t346 t347 26).bind fun bt348 => (some (wrap64 (97 + bt348.1), bt348.2.1, bt348.2.2.1, bt348.2.2.2))) = some (r1, r2, r3, r4) := by rw [if_pos rfl] at H; exact H
    clear H; have H := H1; clear H1; replace H := Option.bind_eq_some_iff.mp H; obtain ⟨⟨t348, t349, t350, t351⟩, A80, H⟩ := H
    try dsimp only at H
    have A8 := Aside0.mk A80; clear A80; simp only [Option.some.injEq, Prod.mk.injEq] at H; obtain ⟨rfl, rfl, rfl, rfl⟩ := H
    go_wp2_with (first | ((with_reducible refine gate_callee (f := 82) rfl ?_); refine goesL_ (some 10) rfl rfl Tryd.func82 (by kernel_rfl) rfl #[.pointer (some ⟨g, 0, none⟩), .int .i64 26] rfl (by (try simp only [List.map_toArray, List.map_cons, List.map_nil]); first | done | rfl) ?_; refine (spec_l01Src_n.callsA g s0_0 t345 t346 t347 26 t348 t349 t350 t351 w0 _ _ A8.out).mono ?_; rintro e w9 ⟨rfl, hi, hb, hk⟩; refine ⟨_, rfl, ?_⟩; replace HI0 := hi; replace HB := hb; replace HK := hk; clear hi hb hk))
    go_ret
    exact ⟨by first | rfl | (simp [errW_none, errW_some] <;> rfl) | (simp [*, errW_none, errW_some] <;> rfl), isA, belowI, keepA⟩
   replace c7 := Bool.eq_false_iff.mpr c7; subst c7
   have H1 : (if t344 = 3 then ((spec_l01Src_n.f s0_0 t345 t346 t347 26).bind fun bt352 => (some (wrap64 (65 + bt352.1), bt352.2.1, bt352.2.2.1, bt352.2.2.2))) else (if t344 = 4 then ((some (([32, 32, 160, 10, 9, 13, 8064, 173] : List Int) : List Int)).bind fun y356 => ((spec_l01Src_n.f s0_0 t345 t346 t347 8).bind fun bt359 => (if 0 ≤ bt359.1 then (if bt359.1 < (y356.length : Int) then (some (rd y356 bt359.1, bt359.2.1, bt359.2.2.1, bt359.2.2.2)) else (none)) else (none)))) else (if t344 = 5 then ((spec_l01Src_n.f s0_0 t345 t346 t347 10).bind fun bt364 => ((spec_l01Src_n.f s0_0 bt364.2.1 bt364.2.2.1 bt364.2.2.2 10).bind fun bt368 => ((spec_l01Src_n.f s0_0 bt368.2.1 bt368.2.2.1 bt368.2.2.2 10).bind fun bt372 => ((spec_l01Src_n.f s0_0 bt372.2.1 bt372.2.2.1 bt372.2.2.2 10).bind fun bt376 => ((some (([wrap64 (48 + bt364.1), wrap64 (592 + bt368.1), wrap64 (1360 + bt372.1), wrap64 (10016 + bt376.1)] : List Int) : List Int)).bind fun y380 => ((spec_l01Src_n.f s0_0 bt376.2.1 bt376.2.2.1 bt376.2.2.2 4).bind fun bt383 => (if 0 ≤ bt383.1 then (if bt383.1 < (y380.length : Int) then (some (rd y380 bt383.1, bt383.2.1, bt383.2.2.1, bt383.2.2.2)) else (none)) else (none)))))))) else (if t344 = 6 then ((some (([46, 44, 33, 63, 39, 40, 41, 91, 93, 45, 58, 95] : List Int) : List Int)).bind fun y388 => ((spec_l01Src_n.f s0_0 t345 t346 t347 12).bind fun bt391 => (if 0 ≤ bt391.1 then (if bt391.1 < (y388.length : Int) then (some (rd y388 bt391.1, bt391.2.1, bt391.2.2.1, bt391.2.2.2)) else (none)) else (none)))) else (if t344 = 7 then (spec_l01Src_point.j1 kj2 t344 (t344 == 7) s0_0 t345 t346 t347) else (spec_l01Src_point.j1 kj2 t344 (t344 == 8) s0_0 t345 t346 t347)))))) = some (r1, r2, r3, r4) := by rw [if_neg (show ¬ (false = true) by decide)] at H; exact H
   clear H; have H := H1; clear H1
   by_cases c10 : t344 = 3
   ·exfalso
    have h_ := HV.out; rw [c10] at h_
    exact absurd h_ (by decide)
   rw [if_neg c10] at H; have c10b0 : (t344 == 3) = false := beq_eq_false_iff_ne.mpr c10; have c10b1 : (t344 != 3) = true := bne_iff_ne.mpr c10
   by_cases c13 : t344 = 4
   ·exfalso
    have h_ := HV.out; rw [c13] at h_
    exact absurd h_ (by decide)
   rw [if_neg c13] at H; have c13b0 : (t344 == 4) = false := beq_eq_false_iff_ne.mpr c13; have c13b1 : (t344 != 4) = true := bne_iff_ne.mpr c13
   by_cases c21 : t344 = 5
   ·exfalso
    have h_ := HV.out; rw [c21] at h_
    exact absurd h_ (by decide)
   rw [if_neg c21] at H; have c21b0 : (t344 == 5) = false := beq_eq_false_iff_ne.mpr c21; have c21b1 : (t344 != 5) = true := bne_iff_ne.mpr c21
   by_cases c37 : t344 = 6
   ·exfalso
    have h_ := HV.out; rw [c37] at h_
    exact absurd h_ (by decide)
   rw [if_neg c37] at H; have c37b0 : (t344 == 6) = false := beq_eq_false_iff_ne.mpr c37; have c37b1 : (t344 != 6) = true := bne_iff_ne.mpr c37; have HC45 := Aside0.mk H; clear H
   go_upto_if 50 with (fail)
   go_cut [50] (fun v50 wc => ∃ (kq : Nat) (x50_44 : Bool), v50 = .bool x50_44 ∧ Aside0 (spec_l01Src_point.j1 kq t344 x50_44 s0_0 t345 t346 t347 = some (r1, r2, r3, r4)) ∧ Aside0 (kq ≤ kj2) ∧ Aside0 (IsS134 w0 wc g s0_0 t345 t346 t347) ∧ Aside0 (KeepBut w wc g none) ∧ Aside0 (Below w0.heap.size w0 wc))
   case first =>
    have H := HC45.out; clear HC45
    by_cases c46 : t344 = 7
    ·exfalso
     have h_ := HV.out; rw [c46] at h_
     exact absurd h_ (by decide)
    rw [if_neg c46] at H; have c46b0 : (t344 == 7) = false := beq_eq_false_iff_ne.mpr c46; have c46b1 : (t344 != 7) = true := bne_iff_ne.mpr c46
    (first | rw [c46b0] | (simp only [i64_w, i32_w]; rw [c46b0]) | skip)
    have H' := Aside0.mk H; clear H
    go_wp2
    go_meet
    case rel => exact ⟨_, ((t344 == 8)), (by first | rfl | (simp; done) | (simp [*]; done)), H', ⟨by have := HJ2.out; first | omega | exact Nat.le_refl _⟩, ⟨isA⟩, ⟨keepA⟩, ⟨belowI⟩⟩
   case rest =>
    clear HC45
    try clear c1; try clear c2; try clear p2; try clear c3; try clear p3; try clear q3; try clear hx3; try clear c4; try clear c5; try clear c5b0; try clear c5b1; try clear c6; try clear c6b0; try clear c6b1; try clear p6; try clear c7; try clear c8; try clear c10; try clear c10b0; try clear c10b1; try clear c13; try clear c13b0; try clear c13b1; try clear c15; try clear c15b0; try clear c16; try clear c16b0; try clear c17; try clear c21; try clear c21b0; try clear c21b1; try clear c27; try clear c27b0; try clear c28; try clear c28b0; try clear p36; try clear q36; try clear hx36; try clear c37; try clear c37b0; try clear c37b1; try clear p38; try clear q38; try clear hx38; try clear c39; try clear c39b0; try clear p39; try clear q39; try clear hx39; try clear c40; try clear c40b0; try clear c46; try clear c46b0; try clear c46b1; try clear hx363_0; try clear hx387_0; try clear hx395_0; try clear p2; try clear p363; try clear p387; try clear p395; try clear q363; try clear q387; try clear q395
    obtain ⟨kq, x50_44, rfl, HA, HJ44, HI0, HK, HB⟩ := hcut
    cases kq with
    | zero => exact absurd HA.out (by simp [spec_l01Src_point.j1])
    | succ kj44 =>
     have H := HA.out; clear HA; simp only [spec_l01Src_point.j1] at H
     by_cases c47 : x50_44 = true
     ·subst c47
      have H1 : ((spec_l01Src_n.f s0_0 t345 t346 t347 3).bind fun bt396 => ((spec_l01Src_n.f s0_0 bt396.2.1 bt396.2.2.1 bt396.2.2.2 76).bind fun bt400 => (some (wrap64 ((wrap64 (512 + (wrap64 (256 * bt396.1)))) + bt400.1), bt400.2.1, bt400.2.2.1, bt400.2.2.2)))) = some (r1, r2, r3, r4) := by rw [if_pos rfl] at H; exact H
      clear H; have H := H1; clear H1; replace H := Option.bind_eq_some_iff.mp H; obtain ⟨⟨t396, t397, t398, t399⟩, A480, H⟩ := H
      try dsimp only at H
      have A48 := Aside0.mk A480; clear A480; replace H := Option.bind_eq_some_iff.mp H; obtain ⟨⟨t400, t401, t402, t403⟩, A490, H⟩ := H
      try dsimp only at H
      have A49 := Aside0.mk A490; clear A490; simp only [Option.some.injEq, Prod.mk.injEq] at H; obtain ⟨rfl, rfl, rfl, rfl⟩ := H
      go_wp2_with (first | ((with_reducible refine gate_callee (f := 82) rfl ?_); refine goesL_ (some 54) rfl rfl Tryd.func82 (by kernel_rfl) rfl #[.pointer (some ⟨g, 0, none⟩), .int .i64 3] rfl (by (try simp only [List.map_toArray, List.map_cons, List.map_nil]); first | done | rfl) ?_; refine (spec_l01Src_n.callsA g s0_0 t345 t346 t347 3 t396 t397 t398 t399 w0 _ _ A48.out).mono ?_; rintro e w50 ⟨rfl, hi, hb, hk⟩; refine ⟨_, rfl, ?_⟩; replace HI0 := hi; replace HB := hb; replace HK := hk; clear hi hb hk) | ((with_reducible refine gate_callee (f := 82) rfl ?_); refine goesL_ (some 58) rfl rfl Tryd.func82 (by kernel_rfl) rfl #[.pointer (some ⟨g, 0, none⟩), .int .i64 76] rfl (by (try simp only [List.map_toArray, List.map_cons, List.map_nil]); first | done | rfl) ?_; refine (spec_l01Src_n.callsA g s0_0 t397 t398 t399 76 t400 t401 t402 t403 w0 _ _ A49.out).mono ?_; rintro e w51 ⟨rfl, hi, hb, hk⟩; refine ⟨_, rfl, ?_⟩; replace HI0 := hi; replace HB := hb; replace HK := hk; clear hi hb hk))
      go_ret
      exact ⟨by first | rfl | (simp [errW_none, errW_some] <;> rfl) | (simp [*, errW_none, errW_some] <;> rfl), isA, belowI, keepA⟩
     replace c47 := Bool.eq_false_iff.mpr c47; subst c47
     have H1 : (if t344 = 9 then ((spec_l01Src_n.f s0_0 t345 t346 t347 3).bind fun bt404 => ((spec_l01Src_n.f s0_0 bt404.2.1 bt404.2.2.1 bt404.2.2.2 2).bind fun bt408 => (some (wrap64 ((wrap64 ((wrap64 (512 + (wrap64 (256 * bt404.1)))) + 96)) + bt408.1), bt408.2.1, bt408.2.2.1, bt408.2.2.2)))) else (if t344 = 10 then (spec_l01Src_point.j2 kj44 t344 (t344 == 10) s0_0 t345 t346 t347) else (spec_l01Src_point.j2 kj44 t344 (t344 == 11) s0_0 t345 t346 t347))) = some (r1, r2, r3, r4) := by rw [if_neg (show ¬ (false = true) by decide)] at H; exact H
     clear H; have H := H1; clear H1
     by_cases c52 : t344 = 9
     ·exfalso
      have h_ := HV.out; rw [c52] at h_
      exact absurd h_ (by decide)
     rw [if_neg c52] at H; have c52b0 : (t344 == 9) = false := beq_eq_false_iff_ne.mpr c52; have c52b1 : (t344 != 9) = true := bne_iff_ne.mpr c52; have HC57 := Aside0.mk H; clear H
     go_upto_if 70 with (fail)
     go_cut [70] (fun v70 wc => ∃ (kq : Nat) (x70_56 : Bool), v70 = .bool x70_56 ∧ Aside0 (spec_l01Src_point.j2 kq t344 x70_56 s0_0 t345 t346 t347 = some (r1, r2, r3, r4)) ∧ Aside0 (kq ≤ kj44) ∧ Aside0 (IsS134 w0 wc g s0_0 t345 t346 t347) ∧ Aside0 (KeepBut w wc g none) ∧ Aside0 (Below w0.heap.size w0 wc))
     case first =>
      have H := HC57.out; clear HC57
      by_cases c58 : t344 = 10
      ·exfalso
       have h_ := HV.out; rw [c58] at h_
       exact absurd h_ (by decide)
      rw [if_neg c58] at H; have c58b0 : (t344 == 10) = false := beq_eq_false_iff_ne.mpr c58; have c58b1 : (t344 != 10) = true := bne_iff_ne.mpr c58
      (first | rw [c58b0] | (simp only [i64_w, i32_w]; rw [c58b0]) | skip)
      have H' := Aside0.mk H; clear H
      go_wp2
      go_meet
      case rel => exact ⟨_, ((t344 == 11)), (by first | rfl | (simp; done) | (simp [*]; done)), H', ⟨by have := HJ2.out; have := HJ44.out; first | omega | exact Nat.le_refl _⟩, ⟨isA⟩, ⟨keepA⟩, ⟨belowI⟩⟩
     case rest =>
      clear HC57
      try clear c1; try clear c2; try clear p2; try clear c3; try clear p3; try clear q3; try clear hx3; try clear c4; try clear c5; try clear c5b0; try clear c5b1; try clear c6; try clear c6b0; try clear c6b1; try clear p6; try clear c7; try clear c8; try clear c10; try clear c10b0; try clear c10b1; try clear c13; try clear c13b0; try clear c13b1; try clear c15; try clear c15b0; try clear c16; try clear c16b0; try clear c17; try clear c21; try clear c21b0; try clear c21b1; try clear c27; try clear c27b0; try clear c28; try clear c28b0; try clear p36; try clear q36; try clear hx36; try clear c37; try clear c37b0; try clear c37b1; try clear p38; try clear q38; try clear hx38; try clear c39; try clear c39b0; try clear p39; try clear q39; try clear hx39; try clear c40; try clear c40b0; try clear c46; try clear c46b0; try clear c46b1; try clear c47; try clear c52; try clear c52b0; try clear c52b1; try clear c58; try clear c58b0; try clear c58b1; try clear hx363_0; try clear hx387_0; try clear hx395_0; try clear p2; try clear p3; try clear p36; try clear p363; try clear p38; try clear p387; try clear p39; try clear p395; try clear p6; try clear q3; try clear q36; try clear q363; try clear q38; try clear q387; try clear q39; try clear q395
      obtain ⟨kq, x70_56, rfl, HA, HJ56, HI0, HK, HB⟩ := hcut
      cases kq with
      | zero => exact absurd HA.out (by simp [spec_l01Src_point.j2])
      | succ kj56 =>
       have H := HA.out; clear HA; simp only [spec_l01Src_point.j2] at H
       by_cases c59 : x70_56 = true
       ·subst c59
        have H1 : ((spec_l01Src_n.f s0_0 t345 t346 t347 32).bind fun bt412 => (some (wrap64 (1280 + bt412.1), bt412.2.1, bt412.2.2.1, bt412.2.2.2))) = some (r1, r2, r3, r4) := by rw [if_pos rfl] at H; exact H
        clear H; have H := H1; clear H1; replace H := Option.bind_eq_some_iff.mp H; obtain ⟨⟨t412, t413, t414, t415⟩, A600, H⟩ := H
        try dsimp only at H
        have A60 := Aside0.mk A600; clear A600; simp only [Option.some.injEq, Prod.mk.injEq] at H; obtain ⟨rfl, rfl, rfl, rfl⟩ := H
        go_wp2_with (first | ((with_reducible refine gate_callee (f := 82) rfl ?_); refine goesL_ (some 74) rfl rfl Tryd.func82 (by kernel_rfl) rfl #[.pointer (some ⟨g, 0, none⟩), .int .i64 32] rfl (by (try simp only [List.map_toArray, List.map_cons, List.map_nil]); first | done | rfl) ?_; refine (spec_l01Src_n.callsA g s0_0 t345 t346 t347 32 t412 t413 t414 t415 w0 _ _ A60.out).mono ?_; rintro e w61 ⟨rfl, hi, hb, hk⟩; refine ⟨_, rfl, ?_⟩; replace HI0 := hi; replace HB := hb; replace HK := hk; clear hi hb hk))
        go_ret
        exact ⟨by first | rfl | (simp [errW_none, errW_some] <;> rfl) | (simp [*, errW_none, errW_some] <;> rfl), isA, belowI, keepA⟩
       replace c59 := Bool.eq_false_iff.mpr c59; subst c59
       have H1 : (if t344 = 12 then ((spec_l01Src_n.f s0_0 t345 t346 t347 32).bind fun bt416 => ((spec_l01Src_n.f s0_0 bt416.2.1 bt416.2.2.1 bt416.2.2.2 12).bind fun bt420 => ((some (([wrap64 (1536 + bt416.1), wrap64 (1568 + bt420.1), 1584, 1585] : List Int) : List Int)).bind fun y424 => ((spec_l01Src_n.f s0_0 bt420.2.1 bt420.2.2.1 bt420.2.2.2 4).bind fun bt427 => (if 0 ≤ bt427.1 then (if bt427.1 < (y424.length : Int) then (some (rd y424 bt427.1, bt427.2.1, bt427.2.2.1, bt427.2.2.2)) else (none)) else (none)))))) else (if t344 = 13 then ((spec_l01Src_n.f s0_0 t345 t346 t347 19).bind fun bt432 => ((spec_l01Src_n.f s0_0 bt432.2.1 bt432.2.2.1 bt432.2.2.2 21).bind fun bt436 => ((spec_l01Src_n.f s0_0 bt436.2.1 bt436.2.2.1 bt436.2.2.2 27).bind fun bt440 => ((some (([wrap64 (1792 + bt432.1), wrap64 (1824 + bt436.1), wrap64 (1857 + bt440.1)] : List Int) : List Int)).bind fun y444 => ((spec_l01Src_n.f s0_0 bt440.2.1 bt440.2.2.1 bt440.2.2.2 3).bind fun bt447 => (if 0 ≤ bt447.1 then (if bt447.1 < (y444.length : Int) then (some (rd y444 bt447.1, bt447.2.1, bt447.2.2.1, bt447.2.2.2)) else (none)) else (none))))))) else (if t344 = 14 then ((spec_l01Src_n.f s0_0 t345 t346 t347 48).bind fun bt452 => (some (wrap64 (2048 + bt452.1), bt452.2.1, bt452.2.2.1, bt452.2.2.2))) else (if t344 = 15 then (spec_l01Src_point.j3 kj56 t344 (t344 == 15) s0_0 t345 t346 t347) else (spec_l01Src_point.j3 kj56 t344 (t344 == 16) s0_0 t345 t346 t347))))) = some (r1, r2, r3, r4) := by rw [if_neg (show ¬ (false = true) by decide)] at H; exact H
       clear H; have H := H1; clear H1
       by_cases c62 : t344 = 12
       ·exfalso
        have h_ := HV.out; rw [c62] at h_
        exact absurd h_ (by decide)
       rw [if_neg c62] at H; have c62b0 : (t344 == 12) = false := beq_eq_false_iff_ne.mpr c62; have c62b1 : (t344 != 12) = true := bne_iff_ne.mpr c62
       by_cases c74 : t344 = 13
       ·exfalso
        have h_ := HV.out; rw [c74] at h_
        exact absurd h_ (by decide)
       rw [if_neg c74] at H; have c74b0 : (t344 == 13) = false := beq_eq_false_iff_ne.mpr c74; have c74b1 : (t344 != 13) = true := bne_iff_ne.mpr c74
       by_cases c88 : t344 = 14
       ·exfalso
        have h_ := HV.out; rw [c88] at h_
        exact absurd h_ (by decide)
       rw [if_neg c88] at H; have c88b0 : (t344 == 14) = false := beq_eq_false_iff_ne.mpr c88; have c88b1 : (t344 != 14) = true := bne_iff_ne.mpr c88; have HC91 := Aside0.mk H; clear H
       go_upto_if 110 with (fail)
       go_cut [110] (fun v110 wc => ∃ (kq : Nat) (x110_90 : Bool), v110 = .bool x110_90 ∧ Aside0 (spec_l01Src_point.j3 kq t344 x110_90 s0_0 t345 t346 t347 = some (r1, r2, r3, r4)) ∧ Aside0 (kq ≤ kj56) ∧ Aside0 (IsS134 w0 wc g s0_0 t345 t346 t347) ∧ Aside0 (KeepBut w wc g none) ∧ Aside0 (Below w0.heap.size w0 wc))
       case first =>
        have H := HC91.out; clear HC91
        by_cases c92 : t344 = 15
        ·exfalso
         have h_ := HV.out; rw [c92] at h_
         exact absurd h_ (by decide)
        rw [if_neg c92] at H; have c92b0 : (t344 == 15) = false := beq_eq_false_iff_ne.mpr c92; have c92b1 : (t344 != 15) = true := bne_iff_ne.mpr c92
        (first | rw [c92b0] | (simp only [i64_w, i32_w]; rw [c92b0]) | skip)
        have H' := Aside0.mk H; clear H
        go_wp2
        go_meet
        case rel => exact ⟨_, ((t344 == 16)), (by first | rfl | (simp; done) | (simp [*]; done)), H', ⟨by have := HJ2.out; have := HJ44.out; have := HJ56.out; first | omega | exact Nat.le_refl _⟩, ⟨isA⟩, ⟨keepA⟩, ⟨belowI⟩⟩
       case rest =>
        clear HC91
        try clear c1; try clear c2; try clear p2; try clear c3; try clear p3; try clear q3; try clear hx3; try clear c4; try clear p4; try clear q4; try clear hx4; try clear c5; try clear c5b0; try clear c5b1; try clear c6; try clear c6b0; try clear c6b1; try clear p6; try clear c7; try clear c8; try clear c9; try clear c10; try clear c10b0; try clear c10b1; try clear c13; try clear c13b0; try clear c13b1; try clear c15; try clear c15b0; try clear c16; try clear c16b0; try clear c17; try clear c21; try clear c21b0; try clear c21b1; try clear c27; try clear c27b0; try clear c28; try clear c28b0; try clear p36; try clear q36; try clear hx36; try clear c37; try clear c37b0; try clear c37b1; try clear p38; try clear q38; try clear hx38; try clear c39; try clear c39b0; try clear p39; try clear q39; try clear hx39; try clear c40; try clear c40b0; try clear p43; try clear q43; try clear hx43; try clear p45; try clear q45; try clear hx45; try clear c46; try clear c46b0; try clear c46b1; try clear c47; try clear c52; try clear c52b0; try clear c52b1; try clear c58; try clear c58b0; try clear c58b1; try clear c59; try clear c62; try clear c62b0; try clear c62b1; try clear p64; try clear c66; try clear c66b0; try clear c67; try clear c67b0; try clear c74; try clear c74b0; try clear c74b1; try clear c79; try clear c79b0; try clear c80; try clear c80b0; try clear c82; try clear c88; try clear c88b0; try clear c88b1; try clear c92; try clear c92b0; try clear c92b1; try clear hx363_0; try clear hx387_0; try clear hx395_0; try clear hx431_0; try clear hx451_0; try clear p2; try clear p3; try clear p36; try clear p363; try clear p38; try clear p387; try clear p39; try clear p395; try clear p431; try clear p451; try clear p6; try clear q3; try clear q36; try clear q363; try clear q38; try clear q387; try clear q39; try clear q395; try clear q431; try clear q451
        obtain ⟨kq, x110_90, rfl, HA, HJ90, HI0, HK, HB⟩ := hcut
        cases kq with
        | zero => exact absurd HA.out (by simp [spec_l01Src_point.j3])
        | succ kj90 =>
         have H := HA.out; clear HA; simp only [spec_l01Src_point.j3] at H
         by_cases c93 : x110_90 = true
         ·subst c93
          have H1 : ((spec_l01Src_n.f s0_0 t345 t346 t347 64).bind fun bt456 => (some (wrap64 (4096 + bt456.1), bt456.2.1, bt456.2.2.1, bt456.2.2.2))) = some (r1, r2, r3, r4) := by rw [if_pos rfl] at H; exact H
          clear H; have H := H1; clear H1; replace H := Option.bind_eq_some_iff.mp H; obtain ⟨⟨t456, t457, t458, t459⟩, A940, H⟩ := H
          try dsimp only at H
          have A94 := Aside0.mk A940; clear A940; simp only [Option.some.injEq, Prod.mk.injEq] at H; obtain ⟨rfl, rfl, rfl, rfl⟩ := H
          go_wp2_with (first | ((with_reducible refine gate_callee (f := 82) rfl ?_); refine goesL_ (some 114) rfl rfl Tryd.func82 (by kernel_rfl) rfl #[.pointer (some ⟨g, 0, none⟩), .int .i64 64] rfl (by (try simp only [List.map_toArray, List.map_cons, List.map_nil]); first | done | rfl) ?_; refine (spec_l01Src_n.callsA g s0_0 t345 t346 t347 64 t456 t457 t458 t459 w0 _ _ A94.out).mono ?_; rintro e w95 ⟨rfl, hi, hb, hk⟩; refine ⟨_, rfl, ?_⟩; replace HI0 := hi; replace HB := hb; replace HK := hk; clear hi hb hk))
          go_ret
          exact ⟨by first | rfl | (simp [errW_none, errW_some] <;> rfl) | (simp [*, errW_none, errW_some] <;> rfl), isA, belowI, keepA⟩
         replace c93 := Bool.eq_false_iff.mpr c93; subst c93
         have H1 : (if t344 = 17 then ((spec_l01Src_n.f s0_0 t345 t346 t347 64).bind fun bt460 => ((spec_l01Src_n.f s0_0 bt460.2.1 bt460.2.2.1 bt460.2.2.2 5).bind fun bt464 => ((spec_l01Src_n.f s0_0 bt464.2.1 bt464.2.2.1 bt464.2.2.2 26).bind fun bt468 => ((some (([wrap64 (7680 + bt460.1), wrap64 (7744 + bt464.1), wrap64 (7760 + bt468.1)] : List Int) : List Int)).bind fun y472 => ((spec_l01Src_n.f s0_0 bt468.2.1 bt468.2.2.1 bt468.2.2.2 3).bind fun bt475 => (if 0 ≤ bt475.1 then (if bt475.1 < (y472.length : Int) then (some (rd y472 bt475.1, bt475.2.1, bt475.2.2.1, bt475.2.2.2)) else (none)) else (none))))))) else (if t344 = 18 then ((spec_l01Src_n.f s0_0 t345 t346 t347 12).bind fun bt480 => ((some (([wrap64 (7936 + bt480.1), 7953, 7954] : List Int) : List Int)).bind fun y484 => ((spec_l01Src_n.f s0_0 bt480.2.1 bt480.2.2.1 bt480.2.2.2 3).bind fun bt487 => (if 0 ≤ bt487.1 then (if bt487.1 < (y484.length : Int) then (some (rd y484 bt487.1, bt487.2.1, bt487.2.2.1, bt487.2.2.2)) else (none)) else (none))))) else (if t344 = 19 then (spec_l01Src_point.j4 kj90 t344 (t344 == 19) s0_0 t345 t346 t347) else (spec_l01Src_point.j4 kj90 t344 (t344 == 20) s0_0 t345 t346 t347)))) = some (r1, r2, r3, r4) := by rw [if_neg (show ¬ (false = true) by decide)] at H; exact H
         clear H; have H := H1; clear H1
         by_cases c96 : t344 = 17
         ·rw [if_pos c96] at H
          have c96b0 : (t344 == 17) = true := beq_iff_eq.mpr c96; have c96b1 : (t344 != 17) = false := bne_eq_false_iff_eq.mpr c96; clear c96; replace H := Option.bind_eq_some_iff.mp H; obtain ⟨⟨t460, t461, t462, t463⟩, A970, H⟩ := H
          try dsimp only at H
          have A97 := Aside0.mk A970; clear A970; replace H := Option.bind_eq_some_iff.mp H; obtain ⟨⟨t464, t465, t466, t467⟩, A980, H⟩ := H
          try dsimp only at H
          have A98 := Aside0.mk A980; clear A980; replace H := Option.bind_eq_some_iff.mp H; obtain ⟨⟨t468, t469, t470, t471⟩, A990, H⟩ := H
          try dsimp only at H
          have A99 := Aside0.mk A990; clear A990; obtain ⟨y472, hy472⟩ : ∃ y_ : List Int, y_ = (([wrap64 (7680 + t460), wrap64 (7744 + t464), wrap64 (7760 + t468)] : List Int)) := ⟨_, rfl⟩
          replace H : ((spec_l01Src_n.f s0_0 t469 t470 t471 3).bind fun bt475 => (if 0 ≤ bt475.1 then (if bt475.1 < (y472.length : Int) then (some (rd y472 bt475.1, bt475.2.1, bt475.2.2.1, bt475.2.2.2)) else (none)) else (none))) = some (r1, r2, r3, r4) := by first | (rw [hy472]; with_reducible exact H) | (have H2_ := (Option.bind_some _ _).symm.trans H; rw [hy472]; with_reducible exact H2_) | (have H2_ := (Option.bind_some _ _).symm.trans H; with_reducible exact H2_) | with_reducible exact H | (rw [hy472]; exact H) | exact H
          have Ny472 := Aside0.mk hy472; clear hy472; replace H := Option.bind_eq_some_iff.mp H; obtain ⟨⟨t475, t476, t477, t478⟩, A1000, H⟩ := H
          try dsimp only at H
          have A100 := Aside0.mk A1000; clear A1000
          by_cases c101 : 0 ≤ t475
          ·rw [if_pos c101] at H
           have c101b0 : decide (0 ≤ t475) = true := decide_eq_true c101; clear c101
           by_cases c102 : t475 < (y472.length : Int)
           ·rw [if_pos c102] at H
            have c102b0 : decide (t475 < (y472.length : Int)) = true := decide_eq_true c102; clear c102; simp only [Option.some.injEq, Prod.mk.injEq] at H; obtain ⟨rfl, rfl, rfl, rfl⟩ := H
            go_wp2_with (first | ((with_reducible refine gate_callee (f := 82) rfl ?_); refine goesL_ (some 119) rfl rfl Tryd.func82 (by kernel_rfl) rfl #[.pointer (some ⟨g, 0, none⟩), .int .i64 64] rfl (by (try simp only [List.map_toArray, List.map_cons, List.map_nil]); first | done | rfl) ?_; refine (spec_l01Src_n.callsA g s0_0 t345 t346 t347 64 t460 t461 t462 t463 w0 _ _ A97.out).mono ?_; rintro e w103 ⟨rfl, hi, hb, hk⟩; refine ⟨_, rfl, ?_⟩; replace HI0 := hi; replace HB := hb; replace HK := hk; clear hi hb hk) | ((with_reducible refine gate_callee (f := 82) rfl ?_); refine goesL_ (some 122) rfl rfl Tryd.func82 (by kernel_rfl) rfl #[.pointer (some ⟨g, 0, none⟩), .int .i64 5] rfl (by (try simp only [List.map_toArray, List.map_cons, List.map_nil]); first | done | rfl) ?_; refine (spec_l01Src_n.callsA g s0_0 t461 t462 t463 5 t464 t465 t466 t467 w0 _ _ A98.out).mono ?_; rintro e w104 ⟨rfl, hi, hb, hk⟩; refine ⟨_, rfl, ?_⟩; replace HI0 := hi; replace HB := hb; replace HK := hk; clear hi hb hk) | ((with_reducible refine gate_callee (f := 82) rfl ?_); refine goesL_ (some 125) rfl rfl Tryd.func82 (by kernel_rfl) rfl #[.pointer (some ⟨g, 0, none⟩), .int .i64 26] rfl (by (try simp only [List.map_toArray, List.map_cons, List.map_nil]); first | done | rfl) ?_; refine (spec_l01Src_n.callsA g s0_0 t465 t466 t467 26 t468 t469 t470 t471 w0 _ _ A99.out).mono ?_; rintro e w105 ⟨rfl, hi, hb, hk⟩; refine ⟨_, rfl, ?_⟩; replace HI0 := hi; replace HB := hb; replace HK := hk; clear hi hb hk) | ((with_reducible refine gate_dst (N := 127) rfl ?_); refine Kd.R_lit (Kd.int .i64) _ 2 ?hg (N := 127) ?hd (xs := ([wrap64 (7680 + t460), wrap64 (7744 + t464), wrap64 (7760 + t468)] : List Int)) (inner := [.int .i64 (wrap64 (7680 + t460)), .int .i64 (wrap64 (7744 + t464)), .int .i64 (wrap64 (7760 + t468))]) (ok := fun _ => True) (okp := fun _ => True) ?hr ?hp (fun _ hk => hk) trivial (Below.refl _ _) (Nat.le_refl _) (by simp) ?_; (case hd => rfl); (case hg => rfl); (case hr => first | (go_simp; done) | (go_simp; rfl)); (case hp => exact (Reps.one (show Kd.M (Kd.int .i64) _ _ _ (wrap64 (7680 + t460)) [.int .i64 (wrap64 (7680 + t460))] from rfl) (Reps.one (show Kd.M (Kd.int .i64) _ _ _ (wrap64 (7744 + t464)) [.int .i64 (wrap64 (7744 + t464))] from rfl) (Reps.one (show Kd.M (Kd.int .i64) _ _ _ (wrap64 (7760 + t468)) [.int .i64 (wrap64 (7760 + t468))] from rfl) (Reps.none _ _))))); intro v473 w106 ho107 hb hg_ hnew_; clear hg_ hnew_; (first | rw [← Ny472.out] at ho107 | (simp only [Int.reduceToNat] at ho107; rw [← Ny472.out] at ho107)); have n0_ := Aside0.mk (Kd.R_lower ho107 (keep_size (w := w) (g := g) (row := none) (keepA))); have n1_ := Aside0.mk (IsS134.below (isA) hb); have n2_ := Aside0.mk (KeepBut.trans (keepA) (KeepBut.of_below hb g none) (.inl rfl)); have n3_ := Aside0.mk (below_step (belowI) hb); clear HI0; clear HK; clear HB; have HO474 := n0_; have HI0 := n1_; have HK := n2_; have HB := n3_; clear n0_ n1_ n2_ n3_; clear hb ho107) | ((with_reducible refine gate_callee (f := 82) rfl ?_); refine goesL_ (some 129) rfl rfl Tryd.func82 (by kernel_rfl) rfl #[.pointer (some ⟨g, 0, none⟩), .int .i64 3] rfl (by (try simp only [List.map_toArray, List.map_cons, List.map_nil]); first | done | rfl) ?_; (with_reducible refine (spec_l01Src_n.calls g s0_0 t469 t470 t471 3 t475 t476 t477 t478 w0 _ ?side1 ?side2 A100.out).mono ?_); (case side1 => exact isA); (case side2 => exact belowI); rintro e w108 ⟨rfl, hi, hb, hk⟩; refine ⟨_, rfl, ?_⟩; have n0_ := Aside0.mk (Kd.R_mono (Kd.R_keep (IsS134.apart (show IsS134 w0 _ g s0_0 t469 t470 t471 from isA) (by (with_reducible repeat (first | apply Kd.R_alloc | apply Kd.R_drewN | apply Kd.R_drew)); exact HO474.out) (by decide)) hk (fun _ h => h.2)) (fun _ h => h.1)); have n1_ := Aside0.mk (KeepBut.trans (keepA) hk (.inl rfl)); have n2_ := Aside0.mk (hb); have n3_ := Aside0.mk (hi); clear HO474; clear HK; clear HB; clear HI0; have HO474 := n0_; have HK := n1_; have HB := n2_; have HI0 := n3_; clear n0_ n1_ n2_ n3_; (try clear hb); (try clear hb2); (try clear hk); (try clear hi); obtain ⟨Ao109, co109, eo109⟩ := Kd.R_slice HO474.out; subst eo109; have p479 : 0 ≤ (t475 : Int) := of_decide_eq_true (by first | (with_reducible assumption) | assumption); have q479 : t475 < (y472.length : Int) := of_decide_eq_true (by first | (with_reducible assumption) | assumption); obtain ⟨ad479, e479, hx479_0⟩ := Kd.at_int (Kd.R_reads' HO474.out).2.2 t475 p479 q479; cases e479; replace p479 := eq_true p479; replace q479 := eq_true q479))
            go_ret
            exact ⟨by first | rfl | (simp [errW_none, errW_some] <;> rfl) | (simp [*, errW_none, errW_some] <;> rfl), isA, belowI, keepA⟩
           rw [if_neg c102] at H
           exact absurd H (by simp)
          rw [if_neg c101] at H
          exact absurd H (by simp)
         rw [if_neg c96] at H; have c96b0 : (t344 == 17) = false := beq_eq_false_iff_ne.mpr c96; have c96b1 : (t344 != 17) = true := bne_iff_ne.mpr c96
         by_cases c110 : t344 = 18
         ·rw [if_pos c110] at H
          have c110b0 : (t344 == 18) = true := beq_iff_eq.mpr c110; have c110b1 : (t344 != 18) = false := bne_eq_false_iff_eq.mpr c110; clear c110; replace H := Option.bind_eq_some_iff.mp H; obtain ⟨⟨t480, t481, t482, t483⟩, A1110, H⟩ := H
          try dsimp only at H
          have A111 := Aside0.mk A1110; clear A1110; obtain ⟨y484, hy484⟩ : ∃ y_ : List Int, y_ = (([wrap64 (7936 + t480), 7953, 7954] : List Int)) := ⟨_, rfl⟩
          replace H : ((spec_l01Src_n.f s0_0 t481 t482 t483 3).bind fun bt487 => (if 0 ≤ bt487.1 then (if bt487.1 < (y484.length : Int) then (some (rd y484 bt487.1, bt487.2.1, bt487.2.2.1, bt487.2.2.2)) else (none)) else (none))) = some (r1, r2, r3, r4) := by first | (rw [hy484]; with_reducible exact H) | (have H2_ := (Option.bind_some _ _).symm.trans H; rw [hy484]; with_reducible exact H2_) | (have H2_ := (Option.bind_some _ _).symm.trans H; with_reducible exact H2_) | with_reducible exact H | (rw [hy484]; exact H) | exact H
          have Ny484 := Aside0.mk hy484; clear hy484; replace H := Option.bind_eq_some_iff.mp H; obtain ⟨⟨t487, t488, t489, t490⟩, A1120, H⟩ := H
          try dsimp only at H
          have A112 := Aside0.mk A1120; clear A1120
          by_cases c113 : 0 ≤ t487
          ·rw [if_pos c113] at H
           have c113b0 : decide (0 ≤ t487) = true := decide_eq_true c113; clear c113
           by_cases c114 : t487 < (y484.length : Int)
           ·rw [if_pos c114] at H
            have c114b0 : decide (t487 < (y484.length : Int)) = true := decide_eq_true c114; clear c114; simp only [Option.some.injEq, Prod.mk.injEq] at H; obtain ⟨rfl, rfl, rfl, rfl⟩ := H
            go_wp2_with (first | ((with_reducible refine gate_callee (f := 82) rfl ?_); refine goesL_ (some 135) rfl rfl Tryd.func82 (by kernel_rfl) rfl #[.pointer (some ⟨g, 0, none⟩), .int .i64 12] rfl (by (try simp only [List.map_toArray, List.map_cons, List.map_nil]); first | done | rfl) ?_; refine (spec_l01Src_n.callsA g s0_0 t345 t346 t347 12 t480 t481 t482 t483 w0 _ _ A111.out).mono ?_; rintro e w115 ⟨rfl, hi, hb, hk⟩; refine ⟨_, rfl, ?_⟩; replace HI0 := hi; replace HB := hb; replace HK := hk; clear hi hb hk) | ((with_reducible refine gate_dst (N := 137) rfl ?_); refine Kd.R_lit (Kd.int .i64) _ 2 ?hg (N := 137) ?hd (xs := ([wrap64 (7936 + t480), 7953, 7954] : List Int)) (inner := [.int .i64 (wrap64 (7936 + t480)), .int .i64 7953, .int .i64 7954]) (ok := fun _ => True) (okp := fun _ => True) ?hr ?hp (fun _ hk => hk) trivial (Below.refl _ _) (Nat.le_refl _) (by simp) ?_; (case hd => rfl); (case hg => rfl); (case hr => first | (go_simp; done) | (go_simp; rfl)); (case hp => exact (Reps.one (show Kd.M (Kd.int .i64) _ _ _ (wrap64 (7936 + t480)) [.int .i64 (wrap64 (7936 + t480))] from rfl) (Reps.one (show Kd.M (Kd.int .i64) _ _ _ 7953 [.int .i64 7953] from rfl) (Reps.one (show Kd.M (Kd.int .i64) _ _ _ 7954 [.int .i64 7954] from rfl) (Reps.none _ _))))); intro v485 w116 ho117 hb hg_ hnew_; clear hg_ hnew_; (first | rw [← Ny484.out] at ho117 | (simp only [Int.reduceToNat] at ho117; rw [← Ny484.out] at ho117)); have n0_ := Aside0.mk (Kd.R_lower ho117 (keep_size (w := w) (g := g) (row := none) (keepA))); have n1_ := Aside0.mk (IsS134.below (isA) hb); have n2_ := Aside0.mk (KeepBut.trans (keepA) (KeepBut.of_below hb g none) (.inl rfl)); have n3_ := Aside0.mk (below_step (belowI) hb); clear HI0; clear HK; clear HB; have HO486 := n0_; have HI0 := n1_; have HK := n2_; have HB := n3_; clear n0_ n1_ n2_ n3_; clear hb ho117) | ((with_reducible refine gate_callee (f := 82) rfl ?_); refine goesL_ (some 139) rfl rfl Tryd.func82 (by kernel_rfl) rfl #[.pointer (some ⟨g, 0, none⟩), .int .i64 3] rfl (by (try simp only [List.map_toArray, List.map_cons, List.map_nil]); first | done | rfl) ?_; (with_reducible refine (spec_l01Src_n.calls g s0_0 t481 t482 t483 3 t487 t488 t489 t490 w0 _ ?side1 ?side2 A112.out).mono ?_); (case side1 => exact isA); (case side2 => exact belowI); rintro e w118 ⟨rfl, hi, hb, hk⟩; refine ⟨_, rfl, ?_⟩; have n0_ := Aside0.mk (Kd.R_mono (Kd.R_keep (IsS134.apart (show IsS134 w0 _ g s0_0 t481 t482 t483 from isA) (by (with_reducible repeat (first | apply Kd.R_alloc | apply Kd.R_drewN | apply Kd.R_drew)); exact HO486.out) (by decide)) hk (fun _ h => h.2)) (fun _ h => h.1)); have n1_ := Aside0.mk (KeepBut.trans (keepA) hk (.inl rfl)); have n2_ := Aside0.mk (hb); have n3_ := Aside0.mk (hi); clear HO486; clear HK; clear HB; clear HI0; have HO486 := n0_; have HK := n1_; have HB := n2_; have HI0 := n3_; clear n0_ n1_ n2_ n3_; (try clear hb); (try clear hb2); (try clear hk); (try clear hi); obtain ⟨Ao119, co119, eo119⟩ := Kd.R_slice HO486.out; subst eo119; have p491 : 0 ≤ (t487 : Int) := of_decide_eq_true (by first | (with_reducible assumption) | assumption); have q491 : t487 < (y484.length : Int) := of_decide_eq_true (by first | (with_reducible assumption) | assumption); obtain ⟨ad491, e491, hx491_0⟩ := Kd.at_int (Kd.R_reads' HO486.out).2.2 t487 p491 q491; cases e491; replace p491 := eq_true p491; replace q491 := eq_true q491))
            go_ret
            exact ⟨by first | rfl | (simp [errW_none, errW_some] <;> rfl) | (simp [*, errW_none, errW_some] <;> rfl), isA, belowI, keepA⟩
           rw [if_neg c114] at H
           exact absurd H (by simp)
          rw [if_neg c113] at H
          exact absurd H (by simp)
         rw [if_neg c110] at H; have c110b0 : (t344 == 18) = false := beq_eq_false_iff_ne.mpr c110; have c110b1 : (t344 != 18) = true := bne_iff_ne.mpr c110; have HC120 := Aside0.mk H; clear H
         go_upto_if 142 with (fail)
         go_cut [142] (fun v142 wc => ∃ (kq : Nat) (x142_119 : Bool), v142 = .bool x142_119 ∧ Aside0 (spec_l01Src_point.j4 kq t344 x142_119 s0_0 t345 t346 t347 = some (r1, r2, r3, r4)) ∧ Aside0 (kq ≤ kj90) ∧ Aside0 (IsS134 w0 wc g s0_0 t345 t346 t347) ∧ Aside0 (KeepBut w wc g none) ∧ Aside0 (Below w0.heap.size w0 wc))
         case first =>
          have H := HC120.out; clear HC120
          by_cases c121 : t344 = 19
          ·rw [if_pos c121] at H
           have c121b0 : (t344 == 19) = true := beq_iff_eq.mpr c121; have c121b1 : (t344 != 19) = false := bne_eq_false_iff_eq.mpr c121; clear c121
           (first | rw [c121b0] | (simp only [i64_w, i32_w]; rw [c121b0]) | skip)
           have H' := Aside0.mk H; clear H
           go_wp2
           go_meet
           case rel => exact ⟨_, ((t344 == 19)), (by first | rfl | (simp; done) | (simp [*]; done)), H', ⟨by have := HJ2.out; have := HJ44.out; have := HJ56.out; have := HJ90.out; first | omega | exact Nat.le_refl _⟩, ⟨isA⟩, ⟨keepA⟩, ⟨belowI⟩⟩
          rw [if_neg c121] at H; have c121b0 : (t344 == 19) = false := beq_eq_false_iff_ne.mpr c121; have c121b1 : (t344 != 19) = true := bne_iff_ne.mpr c121
          (first | rw [c121b0] | (simp only [i64_w, i32_w]; rw [c121b0]) | skip)
          have H' := Aside0.mk H; clear H
          go_wp2
          go_meet
          case rel => exact ⟨_, ((t344 == 20)), (by first | rfl | (simp; done) | (simp [*]; done)), H', ⟨by have := HJ2.out; have := HJ44.out; have := HJ56.out; have := HJ90.out; first | omega | exact Nat.le_refl _⟩, ⟨isA⟩, ⟨keepA⟩, ⟨belowI⟩⟩
         case rest =>
          clear HC120
          try clear c1; try clear c2; try clear p2; try clear c3; try clear p3; try clear q3; try clear hx3; try clear c4; try clear p4; try clear q4; try clear hx4; try clear c5; try clear c5b0; try clear c5b1; try clear c6; try clear c6b0; try clear c6b1; try clear p6; try clear c7; try clear c8; try clear c9; try clear c10; try clear c10b0; try clear c10b1; try clear c11; try clear c12; try clear c13; try clear c13b0; try clear c13b1; try clear c15; try clear c15b0; try clear c16; try clear c16b0; try clear c17; try clear c21; try clear c21b0; try clear c21b1; try clear c27; try clear c27b0; try clear c28; try clear c28b0; try clear p36; try clear q36; try clear hx36; try clear c37; try clear c37b0; try clear c37b1; try clear p38; try clear q38; try clear hx38; try clear c39; try clear c39b0; try clear p39; try clear q39; try clear hx39; try clear c40; try clear c40b0; try clear p43; try clear q43; try clear hx43; try clear p45; try clear q45; try clear hx45; try clear c46; try clear c46b0; try clear c46b1; try clear c47; try clear p47; try clear q47; try clear hx47; try clear p49; try clear q49; try clear hx49; try clear c52; try clear c52b0; try clear c52b1; try clear c58; try clear c58b0; try clear c58b1; try clear c59; try clear c62; try clear c62b0; try clear c62b1; try clear p64; try clear c66; try clear c66b0; try clear c67; try clear c67b0; try clear c74; try clear c74b0; try clear c74b1; try clear c79; try clear c79b0; try clear c80; try clear c80b0; try clear c82; try clear c88; try clear c88b0; try clear c88b1; try clear c92; try clear c92b0; try clear c92b1; try clear c93; try clear c96; try clear c96b0; try clear c96b1; try clear c101; try clear c101b0; try clear c102; try clear c102b0; try clear c110; try clear c110b0; try clear c110b1; try clear c113; try clear c113b0; try clear c114; try clear c114b0; try clear c121; try clear c121b0; try clear c121b1; try clear hx363_0; try clear hx387_0; try clear hx395_0; try clear hx431_0; try clear hx451_0; try clear hx479_0; try clear hx491_0; try clear p2; try clear p3; try clear p36; try clear p363; try clear p38; try clear p387; try clear p39; try clear p395; try clear p4; try clear p43; try clear p431; try clear p45; try clear p451; try clear p479; try clear p491; try clear p6; try clear p64; try clear q3; try clear q36; try clear q363; try clear q38; try clear q387; try clear q39; try clear q395; try clear q4; try clear q43; try clear q431; try clear q45; try clear q451; try clear q479; try clear q491
          obtain ⟨kq, x142_119, rfl, HA, HJ119, HI0, HK, HB⟩ := hcut
          cases kq with
          | zero => exact absurd HA.out (by simp [spec_l01Src_point.j4])
          | succ kj119 =>
           have H := HA.out; clear HA; simp only [spec_l01Src_point.j4] at H
           by_cases c122 : x142_119 = true
           ·subst c122
            have H1 : ((spec_l01Src_n.f s0_0 t345 t346 t347 3).bind fun bt492 => ((spec_l01Src_n.f s0_0 bt492.2.1 bt492.2.2.1 bt492.2.2.2 416).bind fun bt496 => (some (wrap64 ((wrap64 (8192 + (wrap64 (512 * bt492.1)))) + bt496.1), bt496.2.1, bt496.2.2.1, bt496.2.2.2)))) = some (r1, r2, r3, r4) := by rw [if_pos rfl] at H; exact H
            clear H; have H := H1; clear H1; replace H := Option.bind_eq_some_iff.mp H; obtain ⟨⟨t492, t493, t494, t495⟩, A1230, H⟩ := H
            try dsimp only at H
            have A123 := Aside0.mk A1230; clear A1230; replace H := Option.bind_eq_some_iff.mp H; obtain ⟨⟨t496, t497, t498, t499⟩, A1240, H⟩ := H
            try dsimp only at H
            have A124 := Aside0.mk A1240; clear A1240; simp only [Option.some.injEq, Prod.mk.injEq] at H; obtain ⟨rfl, rfl, rfl, rfl⟩ := H
            go_wp2_with (first | ((with_reducible refine gate_callee (f := 82) rfl ?_); refine goesL_ (some 146) rfl rfl Tryd.func82 (by kernel_rfl) rfl #[.pointer (some ⟨g, 0, none⟩), .int .i64 3] rfl (by (try simp only [List.map_toArray, List.map_cons, List.map_nil]); first | done | rfl) ?_; refine (spec_l01Src_n.callsA g s0_0 t345 t346 t347 3 t492 t493 t494 t495 w0 _ _ A123.out).mono ?_; rintro e w125 ⟨rfl, hi, hb, hk⟩; refine ⟨_, rfl, ?_⟩; replace HI0 := hi; replace HB := hb; replace HK := hk; clear hi hb hk) | ((with_reducible refine gate_callee (f := 82) rfl ?_); refine goesL_ (some 150) rfl rfl Tryd.func82 (by kernel_rfl) rfl #[.pointer (some ⟨g, 0, none⟩), .int .i64 416] rfl (by (try simp only [List.map_toArray, List.map_cons, List.map_nil]); first | done | rfl) ?_; refine (spec_l01Src_n.callsA g s0_0 t493 t494 t495 416 t496 t497 t498 t499 w0 _ _ A124.out).mono ?_; rintro e w126 ⟨rfl, hi, hb, hk⟩; refine ⟨_, rfl, ?_⟩; replace HI0 := hi; replace HB := hb; replace HK := hk; clear hi hb hk))
            go_ret
            exact ⟨by first | rfl | (simp [errW_none, errW_some] <;> rfl) | (simp [*, errW_none, errW_some] <;> rfl), isA, belowI, keepA⟩
           replace c122 := Bool.eq_false_iff.mpr c122; subst c122
           have H1 : (if t344 = 21 then ((spec_l01Src_n.f s0_0 t345 t346 t347 26).bind fun bt500 => ((spec_l01Src_n.f s0_0 bt500.2.1 bt500.2.2.1 bt500.2.2.2 26).bind fun bt504 => ((spec_l01Src_n.f s0_0 bt504.2.1 bt504.2.2.1 bt504.2.2.2 4).bind fun bt508 => ((some (([wrap64 (9728 + bt500.1), wrap64 (9984 + bt504.1), wrap64 (10032 + bt508.1)] : List Int) : List Int)).bind fun y512 => ((spec_l01Src_n.f s0_0 bt508.2.1 bt508.2.2.1 bt508.2.2.2 3).bind fun bt515 => (if 0 ≤ bt515.1 then (if bt515.1 < (y512.length : Int) then (some (rd y512 bt515.1, bt515.2.1, bt515.2.2.1, bt515.2.2.2)) else (none)) else (none))))))) else (if t344 = 22 then ((spec_l01Src_n.f s0_0 t345 t346 t347 11172).bind fun bt520 => ((spec_l01Src_n.f s0_0 bt520.2.1 bt520.2.2.1 bt520.2.2.2 2048).bind fun bt524 => ((some (([wrap64 (12288 + bt520.1), wrap64 (24576 + bt524.1)] : List Int) : List Int)).bind fun y528 => ((spec_l01Src_n.f s0_0 bt524.2.1 bt524.2.2.1 bt524.2.2.2 2).bind fun bt531 => (if 0 ≤ bt531.1 then (if bt531.1 < (y528.length : Int) then (some (rd y528 bt531.1, bt531.2.1, bt531.2.2.1, bt531.2.2.2)) else (none)) else (none)))))) else ((spec_l01Src_n.f s0_0 t345 t346 t347 12288).bind fun bt536 => ((spec_l01Src_n.f s0_0 bt536.2.1 bt536.2.2.1 bt536.2.2.2 4096).bind fun bt540 => ((spec_l01Src_n.f s0_0 bt540.2.1 bt540.2.2.1 bt540.2.2.2 32768).bind fun bt544 => ((some (([65533, wrap64 (20480 + bt536.1), wrap64 (65536 + bt540.1), 1114111, 65535, bt544.1] : List Int) : List Int)).bind fun y548 => ((spec_l01Src_n.f s0_0 bt544.2.1 bt544.2.2.1 bt544.2.2.2 6).bind fun bt551 => (if 0 ≤ bt551.1 then (if bt551.1 < (y548.length : Int) then (some (rd y548 bt551.1, bt551.2.1, bt551.2.2.1, bt551.2.2.2)) else (none)) else (none))))))))) = some (r1, r2, r3, r4) := by rw [if_neg (show ¬ (false = true) by decide)] at H; exact H
           clear H; have H := H1; clear H1
           by_cases c127 : t344 = 21
           ·rw [if_pos c127] at H
            have c127b0 : (t344 == 21) = true := beq_iff_eq.mpr c127; have c127b1 : (t344 != 21) = false := bne_eq_false_iff_eq.mpr c127; clear c127; replace H := Option.bind_eq_some_iff.mp H; obtain ⟨⟨t500, t501, t502, t503⟩, A1280, H⟩ := H
            try dsimp only at H
            have A128 := Aside0.mk A1280; clear A1280; replace H := Option.bind_eq_some_iff.mp H; obtain ⟨⟨t504, t505, t506, t507⟩, A1290, H⟩ := H
            try dsimp only at H
            have A129 := Aside0.mk A1290; clear A1290; replace H := Option.bind_eq_some_iff.mp H; obtain ⟨⟨t508, t509, t510, t511⟩, A1300, H⟩ := H
            try dsimp only at H
            have A130 := Aside0.mk A1300; clear A1300; obtain ⟨y512, hy512⟩ : ∃ y_ : List Int, y_ = (([wrap64 (9728 + t500), wrap64 (9984 + t504), wrap64 (10032 + t508)] : List Int)) := ⟨_, rfl⟩
            replace H : ((spec_l01Src_n.f s0_0 t509 t510 t511 3).bind fun bt515 => (if 0 ≤ bt515.1 then (if bt515.1 < (y512.length : Int) then (some (rd y512 bt515.1, bt515.2.1, bt515.2.2.1, bt515.2.2.2)) else (none)) else (none))) = some (r1, r2, r3, r4) := by first | (rw [hy512]; with_reducible exact H) | (have H2_ := (Option.bind_some _ _).symm.trans H; rw [hy512]; with_reducible exact H2_) | (have H2_ := (Option.bind_some _ _).symm.trans H; with_reducible exact H2_) | with_reducible exact H | (rw [hy512]; exact H) | exact H
            have Ny512 := Aside0.mk hy512; clear hy512; replace H := Option.bind_eq_some_iff.mp H; obtain ⟨⟨t515, t516, t517, t518⟩, A1310, H⟩ := H
            try dsimp only at H
            have A131 := Aside0.mk A1310; clear A1310
            by_cases c132 : 0 ≤ t515
            ·rw [if_pos c132] at H
             have c132b0 : decide (0 ≤ t515) = true := decide_eq_true c132; clear c132
             by_cases c133 : t515 < (y512.length : Int)
             ·rw [if_pos c133] at H
              have c133b0 : decide (t515 < (y512.length : Int)) = true := decide_eq_true c133; clear c133; simp only [Option.some.injEq, Prod.mk.injEq] at H; obtain ⟨rfl, rfl, rfl, rfl⟩ := H
              go_wp2_with (first | ((with_reducible refine gate_callee (f := 82) rfl ?_); refine goesL_ (some 155) rfl rfl Tryd.func82 (by kernel_rfl) rfl #[.pointer (some ⟨g, 0, none⟩), .int .i64 26] rfl (by (try simp only [List.map_toArray, List.map_cons, List.map_nil]); first | done | rfl) ?_; refine (spec_l01Src_n.callsA g s0_0 t345 t346 t347 26 t500 t501 t502 t503 w0 _ _ A128.out).mono ?_; rintro e w134 ⟨rfl, hi, hb, hk⟩; refine ⟨_, rfl, ?_⟩; replace HI0 := hi; replace HB := hb; replace HK := hk; clear hi hb hk) | ((with_reducible refine gate_callee (f := 82) rfl ?_); refine goesL_ (some 158) rfl rfl Tryd.func82 (by kernel_rfl) rfl #[.pointer (some ⟨g, 0, none⟩), .int .i64 26] rfl (by (try simp only [List.map_toArray, List.map_cons, List.map_nil]); first | done | rfl) ?_; refine (spec_l01Src_n.callsA g s0_0 t501 t502 t503 26 t504 t505 t506 t507 w0 _ _ A129.out).mono ?_; rintro e w135 ⟨rfl, hi, hb, hk⟩; refine ⟨_, rfl, ?_⟩; replace HI0 := hi; replace HB := hb; replace HK := hk; clear hi hb hk) | ((with_reducible refine gate_callee (f := 82) rfl ?_); refine goesL_ (some 161) rfl rfl Tryd.func82 (by kernel_rfl) rfl #[.pointer (some ⟨g, 0, none⟩), .int .i64 4] rfl (by (try simp only [List.map_toArray, List.map_cons, List.map_nil]); first | done | rfl) ?_; refine (spec_l01Src_n.callsA g s0_0 t505 t506 t507 4 t508 t509 t510 t511 w0 _ _ A130.out).mono ?_; rintro e w136 ⟨rfl, hi, hb, hk⟩; refine ⟨_, rfl, ?_⟩; replace HI0 := hi; replace HB := hb; replace HK := hk; clear hi hb hk) | ((with_reducible refine gate_dst (N := 163) rfl ?_); refine Kd.R_lit (Kd.int .i64) _ 2 ?hg (N := 163) ?hd (xs := ([wrap64 (9728 + t500), wrap64 (9984 + t504), wrap64 (10032 + t508)] : List Int)) (inner := [.int .i64 (wrap64 (9728 + t500)), .int .i64 (wrap64 (9984 + t504)), .int .i64 (wrap64 (10032 + t508))]) (ok := fun _ => True) (okp := fun _ => True) ?hr ?hp (fun _ hk => hk) trivial (Below.refl _ _) (Nat.le_refl _) (by simp) ?_; (case hd => rfl); (case hg => rfl); (case hr => first | (go_simp; done) | (go_simp; rfl)); (case hp => exact (Reps.one (show Kd.M (Kd.int .i64) _ _ _ (wrap64 (9728 + t500)) [.int .i64 (wrap64 (9728 + t500))] from rfl) (Reps.one (show Kd.M (Kd.int .i64) _ _ _ (wrap64 (9984 + t504)) [.int .i64 (wrap64 (9984 + t504))] from rfl) (Reps.one (show Kd.M (Kd.int .i64) _ _ _ (wrap64 (10032 + t508)) [.int .i64 (wrap64 (10032 + t508))] from rfl) (Reps.none _ _))))); intro v513 w137 ho138 hb hg_ hnew_; clear hg_ hnew_; (first | rw [← Ny512.out] at ho138 | (simp only [Int.reduceToNat] at ho138; rw [← Ny512.out] at ho138)); have n0_ := Aside0.mk (Kd.R_lower ho138 (keep_size (w := w) (g := g) (row := none) (keepA))); have n1_ := Aside0.mk (IsS134.below (isA) hb); have n2_ := Aside0.mk (KeepBut.trans (keepA) (KeepBut.of_below hb g none) (.inl rfl)); have n3_ := Aside0.mk (below_step (belowI) hb); clear HI0; clear HK; clear HB; have HO514 := n0_; have HI0 := n1_; have HK := n2_; have HB := n3_; clear n0_ n1_ n2_ n3_; clear hb ho138) | ((with_reducible refine gate_callee (f := 82) rfl ?_); refine goesL_ (some 165) rfl rfl Tryd.func82 (by kernel_rfl) rfl #[.pointer (some ⟨g, 0, none⟩), .int .i64 3] rfl (by (try simp only [List.map_toArray, List.map_cons, List.map_nil]); first | done | rfl) ?_; (with_reducible refine (spec_l01Src_n.calls g s0_0 t509 t510 t511 3 t515 t516 t517 t518 w0 _ ?side1 ?side2 A131.out).mono ?_); (case side1 => exact isA); (case side2 => exact belowI); rintro e w139 ⟨rfl, hi, hb, hk⟩; refine ⟨_, rfl, ?_⟩; have n0_ := Aside0.mk (Kd.R_mono (Kd.R_keep (IsS134.apart (show IsS134 w0 _ g s0_0 t509 t510 t511 from isA) (by (with_reducible repeat (first | apply Kd.R_alloc | apply Kd.R_drewN | apply Kd.R_drew)); exact HO514.out) (by decide)) hk (fun _ h => h.2)) (fun _ h => h.1)); have n1_ := Aside0.mk (KeepBut.trans (keepA) hk (.inl rfl)); have n2_ := Aside0.mk (hb); have n3_ := Aside0.mk (hi); clear HO514; clear HK; clear HB; clear HI0; have HO514 := n0_; have HK := n1_; have HB := n2_; have HI0 := n3_; clear n0_ n1_ n2_ n3_; (try clear hb); (try clear hb2); (try clear hk); (try clear hi); obtain ⟨Ao140, co140, eo140⟩ := Kd.R_slice HO514.out; subst eo140; have p519 : 0 ≤ (t515 : Int) := of_decide_eq_true (by first | (with_reducible assumption) | assumption); have q519 : t515 < (y512.length : Int) := of_decide_eq_true (by first | (with_reducible assumption) | assumption); obtain ⟨ad519, e519, hx519_0⟩ := Kd.at_int (Kd.R_reads' HO514.out).2.2 t515 p519 q519; cases e519; replace p519 := eq_true p519; replace q519 := eq_true q519))
              go_ret
              exact ⟨by first | rfl | (simp [errW_none, errW_some] <;> rfl) | (simp [*, errW_none, errW_some] <;> rfl), isA, belowI, keepA⟩
             rw [if_neg c133] at H
             exact absurd H (by simp)
            rw [if_neg c132] at H
            exact absurd H (by simp)
           rw [if_neg c127] at H; have c127b0 : (t344 == 21) = false := beq_eq_false_iff_ne.mpr c127; have c127b1 : (t344 != 21) = true := bne_iff_ne.mpr c127
           by_cases c141 : t344 = 22
           ·rw [if_pos c141] at H
            have c141b0 : (t344 == 22) = true := beq_iff_eq.mpr c141; have c141b1 : (t344 != 22) = false := bne_eq_false_iff_eq.mpr c141; clear c141; replace H := Option.bind_eq_some_iff.mp H; obtain ⟨⟨t520, t521, t522, t523⟩, A1420, H⟩ := H
            try dsimp only at H
            have A142 := Aside0.mk A1420; clear A1420; replace H := Option.bind_eq_some_iff.mp H; obtain ⟨⟨t524, t525, t526, t527⟩, A1430, H⟩ := H
            try dsimp only at H
            have A143 := Aside0.mk A1430; clear A1430; obtain ⟨y528, hy528⟩ : ∃ y_ : List Int, y_ = (([wrap64 (12288 + t520), wrap64 (24576 + t524)] : List Int)) := ⟨_, rfl⟩
            replace H : ((spec_l01Src_n.f s0_0 t525 t526 t527 2).bind fun bt531 => (if 0 ≤ bt531.1 then (if bt531.1 < (y528.length : Int) then (some (rd y528 bt531.1, bt531.2.1, bt531.2.2.1, bt531.2.2.2)) else (none)) else (none))) = some (r1, r2, r3, r4) := by first | (rw [hy528]; with_reducible exact H) | (have H2_ := (Option.bind_some _ _).symm.trans H; rw [hy528]; with_reducible exact H2_) | (have H2_ := (Option.bind_some _ _).symm.trans H; with_reducible exact H2_) | with_reducible exact H | (rw [hy528]; exact H) | exact H
            have Ny528 := Aside0.mk hy528; clear hy528; replace H := Option.bind_eq_some_iff.mp H; obtain ⟨⟨t531, t532, t533, t534⟩, A1440, H⟩ := H
            try dsimp only at H
            have A144 := Aside0.mk A1440; clear A1440
            by_cases c145 : 0 ≤ t531
            ·rw [if_pos c145] at H
             have c145b0 : decide (0 ≤ t531) = true := decide_eq_true c145; clear c145
             by_cases c146 : t531 < (y528.length : Int)
             ·rw [if_pos c146] at H
              have c146b0 : decide (t531 < (y528.length : Int)) = true := decide_eq_true c146; clear c146; simp only [Option.some.injEq, Prod.mk.injEq] at H; obtain ⟨rfl, rfl, rfl, rfl⟩ := H
              go_wp2_with (first | ((with_reducible refine gate_callee (f := 82) rfl ?_); refine goesL_ (some 171) rfl rfl Tryd.func82 (by kernel_rfl) rfl #[.pointer (some ⟨g, 0, none⟩), .int .i64 11172] rfl (by (try simp only [List.map_toArray, List.map_cons, List.map_nil]); first | done | rfl) ?_; refine (spec_l01Src_n.callsA g s0_0 t345 t346 t347 11172 t520 t521 t522 t523 w0 _ _ A142.out).mono ?_; rintro e w147 ⟨rfl, hi, hb, hk⟩; refine ⟨_, rfl, ?_⟩; replace HI0 := hi; replace HB := hb; replace HK := hk; clear hi hb hk) | ((with_reducible refine gate_callee (f := 82) rfl ?_); refine goesL_ (some 174) rfl rfl Tryd.func82 (by kernel_rfl) rfl #[.pointer (some ⟨g, 0, none⟩), .int .i64 2048] rfl (by (try simp only [List.map_toArray, List.map_cons, List.map_nil]); first | done | rfl) ?_; refine (spec_l01Src_n.callsA g s0_0 t521 t522 t523 2048 t524 t525 t526 t527 w0 _ _ A143.out).mono ?_; rintro e w148 ⟨rfl, hi, hb, hk⟩; refine ⟨_, rfl, ?_⟩; replace HI0 := hi; replace HB := hb; replace HK := hk; clear hi hb hk) | ((with_reducible refine gate_dst (N := 176) rfl ?_); refine Kd.R_lit (Kd.int .i64) _ 2 ?hg (N := 176) ?hd (xs := ([wrap64 (12288 + t520), wrap64 (24576 + t524)] : List Int)) (inner := [.int .i64 (wrap64 (12288 + t520)), .int .i64 (wrap64 (24576 + t524))]) (ok := fun _ => True) (okp := fun _ => True) ?hr ?hp (fun _ hk => hk) trivial (Below.refl _ _) (Nat.le_refl _) (by simp) ?_; (case hd => rfl); (case hg => rfl); (case hr => first | (go_simp; done) | (go_simp; rfl)); (case hp => exact (Reps.one (show Kd.M (Kd.int .i64) _ _ _ (wrap64 (12288 + t520)) [.int .i64 (wrap64 (12288 + t520))] from rfl) (Reps.one (show Kd.M (Kd.int .i64) _ _ _ (wrap64 (24576 + t524)) [.int .i64 (wrap64 (24576 + t524))] from rfl) (Reps.none _ _)))); intro v529 w149 ho150 hb hg_ hnew_; clear hg_ hnew_; (first | rw [← Ny528.out] at ho150 | (simp only [Int.reduceToNat] at ho150; rw [← Ny528.out] at ho150)); have n0_ := Aside0.mk (Kd.R_lower ho150 (keep_size (w := w) (g := g) (row := none) (keepA))); have n1_ := Aside0.mk (IsS134.below (isA) hb); have n2_ := Aside0.mk (KeepBut.trans (keepA) (KeepBut.of_below hb g none) (.inl rfl)); have n3_ := Aside0.mk (below_step (belowI) hb); clear HI0; clear HK; clear HB; have HO530 := n0_; have HI0 := n1_; have HK := n2_; have HB := n3_; clear n0_ n1_ n2_ n3_; clear hb ho150) | ((with_reducible refine gate_callee (f := 82) rfl ?_); refine goesL_ (some 178) rfl rfl Tryd.func82 (by kernel_rfl) rfl #[.pointer (some ⟨g, 0, none⟩), .int .i64 2] rfl (by (try simp only [List.map_toArray, List.map_cons, List.map_nil]); first | done | rfl) ?_; (with_reducible refine (spec_l01Src_n.calls g s0_0 t525 t526 t527 2 t531 t532 t533 t534 w0 _ ?side1 ?side2 A144.out).mono ?_); (case side1 => exact isA); (case side2 => exact belowI); rintro e w151 ⟨rfl, hi, hb, hk⟩; refine ⟨_, rfl, ?_⟩; have n0_ := Aside0.mk (Kd.R_mono (Kd.R_keep (IsS134.apart (show IsS134 w0 _ g s0_0 t525 t526 t527 from isA) (by (with_reducible repeat (first | apply Kd.R_alloc | apply Kd.R_drewN | apply Kd.R_drew)); exact HO530.out) (by decide)) hk (fun _ h => h.2)) (fun _ h => h.1)); have n1_ := Aside0.mk (KeepBut.trans (keepA) hk (.inl rfl)); have n2_ := Aside0.mk (hb); have n3_ := Aside0.mk (hi); clear HO530; clear HK; clear HB; clear HI0; have HO530 := n0_; have HK := n1_; have HB := n2_; have HI0 := n3_; clear n0_ n1_ n2_ n3_; (try clear hb); (try clear hb2); (try clear hk); (try clear hi); obtain ⟨Ao152, co152, eo152⟩ := Kd.R_slice HO530.out; subst eo152; have p535 : 0 ≤ (t531 : Int) := of_decide_eq_true (by first | (with_reducible assumption) | assumption); have q535 : t531 < (y528.length : Int) := of_decide_eq_true (by first | (with_reducible assumption) | assumption); obtain ⟨ad535, e535, hx535_0⟩ := Kd.at_int (Kd.R_reads' HO530.out).2.2 t531 p535 q535; cases e535; replace p535 := eq_true p535; replace q535 := eq_true q535))
              go_ret
              exact ⟨by first | rfl | (simp [errW_none, errW_some] <;> rfl) | (simp [*, errW_none, errW_some] <;> rfl), isA, belowI, keepA⟩
             rw [if_neg c146] at H
             exact absurd H (by simp)
            rw [if_neg c145] at H
            exact absurd H (by simp)
           rw [if_neg c141] at H; have c141b0 : (t344 == 22) = false := beq_eq_false_iff_ne.mpr c141; have c141b1 : (t344 != 22) = true := bne_iff_ne.mpr c141; replace H := Option.bind_eq_some_iff.mp H; obtain ⟨⟨t536, t537, t538, t539⟩, A1530, H⟩ := H
           try dsimp only at H
           have A153 := Aside0.mk A1530; clear A1530; replace H := Option.bind_eq_some_iff.mp H; obtain ⟨⟨t540, t541, t542, t543⟩, A1540, H⟩ := H
           try dsimp only at H
           have A154 := Aside0.mk A1540; clear A1540; replace H := Option.bind_eq_some_iff.mp H; obtain ⟨⟨t544, t545, t546, t547⟩, A1550, H⟩ := H
           try dsimp only at H
           have A155 := Aside0.mk A1550; clear A1550; obtain ⟨y548, hy548⟩ : ∃ y_ : List Int, y_ = (([65533, wrap64 (20480 + t536), wrap64 (65536 + t540), 1114111, 65535, t544] : List Int)) := ⟨_, rfl⟩
           replace H : ((spec_l01Src_n.f s0_0 t545 t546 t547 6).bind fun bt551 => (if 0 ≤ bt551.1 then (if bt551.1 < (y548.length : Int) then (some (rd y548 bt551.1, bt551.2.1, bt551.2.2.1, bt551.2.2.2)) else (none)) else (none))) = some (r1, r2, r3, r4) := by first | (rw [hy548]; with_reducible exact H) | (have H2_ := (Option.bind_some _ _).symm.trans H; rw [hy548]; with_reducible exact H2_) | (have H2_ := (Option.bind_some _ _).symm.trans H; with_reducible exact H2_) | with_reducible exact H | (rw [hy548]; exact H) | exact H
           have Ny548 := Aside0.mk hy548; clear hy548; replace H := Option.bind_eq_some_iff.mp H; obtain ⟨⟨t551, t552, t553, t554⟩, A1560, H⟩ := H
           try dsimp only at H
           have A156 := Aside0.mk A1560; clear A1560
           by_cases c157 : 0 ≤ t551
           ·rw [if_pos c157] at H
            have c157b0 : decide (0 ≤ t551) = true := decide_eq_true c157; clear c157
            by_cases c158 : t551 < (y548.length : Int)
            ·rw [if_pos c158] at H
             have c158b0 : decide (t551 < (y548.length : Int)) = true := decide_eq_true c158; clear c158; simp only [Option.some.injEq, Prod.mk.injEq] at H; obtain ⟨rfl, rfl, rfl, rfl⟩ := H
             go_wp2_with (first | ((with_reducible refine gate_callee (f := 82) rfl ?_); refine goesL_ (some 182) rfl rfl Tryd.func82 (by kernel_rfl) rfl #[.pointer (some ⟨g, 0, none⟩), .int .i64 12288] rfl (by (try simp only [List.map_toArray, List.map_cons, List.map_nil]); first | done | rfl) ?_; refine (spec_l01Src_n.callsA g s0_0 t345 t346 t347 12288 t536 t537 t538 t539 w0 _ _ A153.out).mono ?_; rintro e w159 ⟨rfl, hi, hb, hk⟩; refine ⟨_, rfl, ?_⟩; replace HI0 := hi; replace HB := hb; replace HK := hk; clear hi hb hk) | ((with_reducible refine gate_callee (f := 82) rfl ?_); refine goesL_ (some 185) rfl rfl Tryd.func82 (by kernel_rfl) rfl #[.pointer (some ⟨g, 0, none⟩), .int .i64 4096] rfl (by (try simp only [List.map_toArray, List.map_cons, List.map_nil]); first | done | rfl) ?_; refine (spec_l01Src_n.callsA g s0_0 t537 t538 t539 4096 t540 t541 t542 t543 w0 _ _ A154.out).mono ?_; rintro e w160 ⟨rfl, hi, hb, hk⟩; refine ⟨_, rfl, ?_⟩; replace HI0 := hi; replace HB := hb; replace HK := hk; clear hi hb hk) | ((with_reducible refine gate_callee (f := 82) rfl ?_); refine goesL_ (some 188) rfl rfl Tryd.func82 (by kernel_rfl) rfl #[.pointer (some ⟨g, 0, none⟩), .int .i64 32768] rfl (by (try simp only [List.map_toArray, List.map_cons, List.map_nil]); first | done | rfl) ?_; refine (spec_l01Src_n.callsA g s0_0 t541 t542 t543 32768 t544 t545 t546 t547 w0 _ _ A155.out).mono ?_; rintro e w161 ⟨rfl, hi, hb, hk⟩; refine ⟨_, rfl, ?_⟩; replace HI0 := hi; replace HB := hb; replace HK := hk; clear hi hb hk) | ((with_reducible refine gate_dst (N := 189) rfl ?_); refine Kd.R_lit (Kd.int .i64) _ 2 ?hg (N := 189) ?hd (xs := ([65533, wrap64 (20480 + t536), wrap64 (65536 + t540), 1114111, 65535, t544] : List Int)) (inner := [.int .i64 65533, .int .i64 (wrap64 (20480 + t536)), .int .i64 (wrap64 (65536 + t540)), .int .i64 1114111, .int .i64 65535, .int .i64 t544]) (ok := fun _ => True) (okp := fun _ => True) ?hr ?hp (fun _ hk => hk) trivial (Below.refl _ _) (Nat.le_refl _) (by simp) ?_; (case hd => rfl); (case hg => rfl); (case hr => first | (go_simp; done) | (go_simp; rfl)); (case hp => exact (Reps.one (show Kd.M (Kd.int .i64) _ _ _ 65533 [.int .i64 65533] from rfl) (Reps.one (show Kd.M (Kd.int .i64) _ _ _ (wrap64 (20480 + t536)) [.int .i64 (wrap64 (20480 + t536))] from rfl) (Reps.one (show Kd.M (Kd.int .i64) _ _ _ (wrap64 (65536 + t540)) [.int .i64 (wrap64 (65536 + t540))] from rfl) (Reps.one (show Kd.M (Kd.int .i64) _ _ _ 1114111 [.int .i64 1114111] from rfl) (Reps.one (show Kd.M (Kd.int .i64) _ _ _ 65535 [.int .i64 65535] from rfl) (Reps.one (show Kd.M (Kd.int .i64) _ _ _ t544 [.int .i64 t544] from rfl) (Reps.none _ _)))))))); intro v549 w162 ho163 hb hg_ hnew_; clear hg_ hnew_; (first | rw [← Ny548.out] at ho163 | (simp only [Int.reduceToNat] at ho163; rw [← Ny548.out] at ho163)); have n0_ := Aside0.mk (Kd.R_lower ho163 (keep_size (w := w) (g := g) (row := none) (keepA))); have n1_ := Aside0.mk (IsS134.below (isA) hb); have n2_ := Aside0.mk (KeepBut.trans (keepA) (KeepBut.of_below hb g none) (.inl rfl)); have n3_ := Aside0.mk (below_step (belowI) hb); clear HI0; clear HK; clear HB; have HO550 := n0_; have HI0 := n1_; have HK := n2_; have HB := n3_; clear n0_ n1_ n2_ n3_; clear hb ho163) | ((with_reducible refine gate_callee (f := 82) rfl ?_); refine goesL_ (some 191) rfl rfl Tryd.func82 (by kernel_rfl) rfl #[.pointer (some ⟨g, 0, none⟩), .int .i64 6] rfl (by (try simp only [List.map_toArray, List.map_cons, List.map_nil]); first | done | rfl) ?_; (with_reducible refine (spec_l01Src_n.calls g s0_0 t545 t546 t547 6 t551 t552 t553 t554 w0 _ ?side1 ?side2 A156.out).mono ?_); (case side1 => exact isA); (case side2 => exact belowI); rintro e w164 ⟨rfl, hi, hb, hk⟩; refine ⟨_, rfl, ?_⟩; have n0_ := Aside0.mk (Kd.R_mono (Kd.R_keep (IsS134.apart (show IsS134 w0 _ g s0_0 t545 t546 t547 from isA) (by (with_reducible repeat (first | apply Kd.R_alloc | apply Kd.R_drewN | apply Kd.R_drew)); exact HO550.out) (by decide)) hk (fun _ h => h.2)) (fun _ h => h.1)); have n1_ := Aside0.mk (KeepBut.trans (keepA) hk (.inl rfl)); have n2_ := Aside0.mk (hb); have n3_ := Aside0.mk (hi); clear HO550; clear HK; clear HB; clear HI0; have HO550 := n0_; have HK := n1_; have HB := n2_; have HI0 := n3_; clear n0_ n1_ n2_ n3_; (try clear hb); (try clear hb2); (try clear hk); (try clear hi); obtain ⟨Ao165, co165, eo165⟩ := Kd.R_slice HO550.out; subst eo165; have p555 : 0 ≤ (t551 : Int) := of_decide_eq_true (by first | (with_reducible assumption) | assumption); have q555 : t551 < (y548.length : Int) := of_decide_eq_true (by first | (with_reducible assumption) | assumption); obtain ⟨ad555, e555, hx555_0⟩ := Kd.at_int (Kd.R_reads' HO550.out).2.2 t551 p555 q555; cases e555; replace p555 := eq_true p555; replace q555 := eq_true q555))
             go_ret
             exact ⟨by first | rfl | (simp [errW_none, errW_some] <;> rfl) | (simp [*, errW_none, errW_some] <;> rfl), isA, belowI, keepA⟩
            rw [if_neg c158] at H
            exact absurd H (by simp)
           rw [if_neg c157] at H
           exact absurd H (by simp)

end Go.Proofs.YtiabgmddnddeiaaDoor.QFnJoinNormal
