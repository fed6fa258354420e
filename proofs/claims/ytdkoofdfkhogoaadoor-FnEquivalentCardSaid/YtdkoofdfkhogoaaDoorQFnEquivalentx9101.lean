/- The law FnEquivalent: at every input the call answers true (this text: contracts on its way, by a program of this session's; no condition of ours). -/
import Derived.Test.YtdkoofdfkhogoaaDoorQFnEquivalentx0
import Derived.Test.YtdkoofdfkhogoaaDoorQFnEquivalentx8
import Derived.Test.YtdkoofdfkhogoaaDoorQFnEquivalentx9
import Derived.Test.YtdkoofdfkhogoaaDoorQFnEquivalentx9100
namespace Go.Proofs.YtdkoofdfkhogoaaDoor.QFnEquivalent
open Go.RowKit Go.Proofs.YtdkoofdfkhogoaaDoorW.PrintWords Go.Proofs.YtdkoofdfkhogoaaDoorW.PrintLast Go.Proofs.YtdkoofdfkhogoaaDoorW.PrintMore
attribute [local go_sem] max2_int min2_int max_two min_two max_three min_three max_four min_four   -- for this text's walks alone
set_option linter.unusedVariables false
set_option linter.unusedSimpArgs false
set_option maxHeartbeats 8000000 in
set_option maxRecDepth 100000 in
theorem spec_l01Src_point.calls_1 (k : Nat) (g : Nat) (s0_0 : List Int) (s0_1 : Int) (s0_2 : Int) (s0_3 : Int) (r1 : Int) (r2 : Int) (r3 : Int) (r4 : Int) (w0 w : World) (hI : IsS95 w0 w g s0_0 s0_1 s0_2 s0_3) (hB : Below w0.heap.size w0 w) (h : spec_l01Src_point.f k s0_0 s0_1 s0_2 s0_3 = some (r1, r2, r3, r4)) (hv_ : ∀ x_ y_, spec_l01Src_n.f s0_0 s0_1 s0_2 s0_3 24 = some (x_, y_) → 7 ≤ x_ ∧ x_ < 17) :
  Calls Tryd.prog 144 #[.pointer (some ⟨g, 0, none⟩)] w fun e w' => e = .returned (.int .i64 r1) ∧ IsS95 w0 w' g s0_0 r2 r3 r4 ∧ Below w0.heap.size w0 w' ∧ KeepBut w w' g none := by
 have HI0 := Aside0.mk hI
 have HK := Aside0.mk (KeepBut.refl w g none)
 have HL := Aside0.mk hB.size
 clear hI
 have HW0 := Aside0.mk hB.size
 have HB := Aside0.mk hB
 clear hB
 have H : ((spec_l01Src_n.f s0_0 s0_1 s0_2 s0_3 24).bind fun bt261 => (if bt261.1 = 0 then (spec_l01Src_point.j0 k bt261.1 (bt261.1 == 0) s0_0 bt261.2.1 bt261.2.2.1 bt261.2.2.2) else (if bt261.1 = 1 then (spec_l01Src_point.j0 k bt261.1 (bt261.1 == 1) s0_0 bt261.2.1 bt261.2.2.1 bt261.2.2.2) else (spec_l01Src_point.j0 k bt261.1 (bt261.1 == 2) s0_0 bt261.2.1 bt261.2.2.1 bt261.2.2.2)))) = some (r1, r2, r3, r4) := h
 clear h
 replace H := Option.bind_eq_some_iff.mp H
 obtain ⟨⟨t261, t262, t263, t264⟩, A20, H⟩ := H
 have HV := Aside0.mk (hv_ _ _ A20)
 clear hv_
 try dsimp only at H
 have A2 := Aside0.mk A20
 clear A20
 have HC3 := Aside0.mk H
 clear H
 go_enter Tryd.func144, Tryd.ntmps144
 go_upto_if 5 with (first | ((with_reducible refine gate_callee (f := 97) rfl ?_); refine goesL_ (some 4) rfl rfl Tryd.func97 (by kernel_rfl) rfl #[.pointer (some ⟨g, 0, none⟩), .int .i64 24] rfl (by (try simp only [List.map_toArray, List.map_cons, List.map_nil]); first | done | rfl) ?_; refine (spec_l01Src_n.callsA g s0_0 s0_1 s0_2 s0_3 24 t261 t262 t263 t264 w0 _ _ A2.out).mono ?_; rintro e w4 ⟨rfl, hi, hb, hk⟩; refine ⟨_, rfl, ?_⟩; replace HI0 := hi; replace HB := hb; replace HK := hk; clear hi hb hk))
 (try simp only [Act.put, List.setIfInBounds_toArray, List.set_cons_zero, List.set_cons_succ])
 go_cut [5] (fun v5 wc => ∃ (kq : Nat) (x5_2 : Bool), v5 = .bool x5_2 ∧ Aside0 (spec_l01Src_point.j0 kq t261 x5_2 s0_0 t262 t263 t264 = some (r1, r2, r3, r4)) ∧ Aside0 (kq ≤ k) ∧ Aside0 (IsS95 w0 wc g s0_0 t262 t263 t264) ∧ Aside0 (KeepBut w wc g none) ∧ Aside0 (Below w0.heap.size w0 wc))
 case first =>
  have H := HC3.out; clear HC3
  by_cases c5 : t261 = 0
  ·exfalso
   have h_ := HV.out; rw [c5] at h_
   exact absurd h_ (by decide)
  rw [if_neg c5] at H; have c5b0 : (t261 == 0) = false := beq_eq_false_iff_ne.mpr c5; have c5b1 : (t261 != 0) = true := bne_iff_ne.mpr c5
  (first | rw [c5b0] | (simp only [i64_w, i32_w]; rw [c5b0]) | skip)
  by_cases c6 : t261 = 1
  ·exfalso
   have h_ := HV.out; rw [c6] at h_
   exact absurd h_ (by decide)
  rw [if_neg c6] at H; have c6b0 : (t261 == 1) = false := beq_eq_false_iff_ne.mpr c6; have c6b1 : (t261 != 1) = true := bne_iff_ne.mpr c6; have H' := Aside0.mk H; clear H
  go_wp2
  go_meet
  case rel => exact ⟨_, ((t261 == 2)), (by first | rfl | (simp; done) | (simp [*]; done)), H', ⟨by first | omega | exact Nat.le_refl _⟩, ⟨isA⟩, ⟨keepA⟩, ⟨belowI⟩⟩
 case rest =>
  clear HC3
  try clear c1; try clear p2; try clear c5; try clear c5b0; try clear c5b1; try clear c6; try clear c6b0; try clear c6b1
  obtain ⟨kq, x5_2, rfl, HA, HJ2, HI0, HK, HB⟩ := hcut
  cases kq with
  | zero => exact absurd HA.out (by simp [spec_l01Src_point.j0])
  | succ kj2 =>
   have H := HA.out; clear HA; simp only [spec_l01Src_point.j0] at H
   by_cases c7 : x5_2 = true
   ·subst c7
    have H1 : ((spec_l01Src_n.f s0_0 t262 t263 t264 26).bind fun bt265 => (some (wrap64 (97 + bt265.1), bt265.2.1, bt265.2.2.1, bt265.2.2.2))) = some (r1, r2, r3, r4) := by rw [if_pos rfl] at H; exact H
    clear H; have H := H1; clear H1; replace H := Option.bind_eq_some_iff.mp H; obtain ⟨⟨t265, t266, t267, t268⟩, A80, H⟩ := H
    try dsimp only at H
    have A8 := Aside0.mk A80; clear A80; simp only [Option.some.injEq, Prod.mk.injEq] at H; obtain ⟨rfl, rfl, rfl, rfl⟩ := H
    go_wp2_with (first | ((with_reducible refine gate_callee (f := 97) rfl ?_); refine goesL_ (some 10) rfl rfl Tryd.func97 (by kernel_rfl) rfl #[.pointer (some ⟨g, 0, none⟩), .int .i64 26] rfl (by (try simp only [List.map_toArray, List.map_cons, List.map_nil]); first | done | rfl) ?_; refine (spec_l01Src_n.callsA g s0_0 t262 t263 t264 26 t265 t266 t267 t268 w0 _ _ A8.out).mono ?_; rintro e w9 ⟨rfl, hi, hb, hk⟩; refine ⟨_, rfl, ?_⟩; replace HI0 := hi; replace HB := hb; replace HK := hk; clear hi hb hk))
    go_ret
    exact ⟨by first | rfl | (simp [errW_none, errW_some] <;> rfl) | (simp [*, errW_none, errW_some] <;> rfl), isA, belowI, keepA⟩
   replace c7 := Bool.eq_false_iff.mpr c7; subst c7
   have H1 : (if t261 = 3 then ((spec_l01Src_n.f s0_0 t262 t263 t264 26).bind fun bt269 => (some (wrap64 (65 + bt269.1), bt269.2.1, bt269.2.2.1, bt269.2.2.2))) else (if t261 = 4 then ((some (([32, 32, 160, 10, 9, 13, 8064, 173] : List Int) : List Int)).bind fun y273 => ((spec_l01Src_n.f s0_0 t262 t263 t264 8).bind fun bt276 => (if 0 ≤ bt276.1 then (if bt276.1 < (y273.length : Int) then (some (rd y273 bt276.1, bt276.2.1, bt276.2.2.1, bt276.2.2.2)) else (none)) else (none)))) else (if t261 = 5 then ((spec_l01Src_n.f s0_0 t262 t263 t264 10).bind fun bt281 => ((spec_l01Src_n.f s0_0 bt281.2.1 bt281.2.2.1 bt281.2.2.2 10).bind fun bt285 => ((spec_l01Src_n.f s0_0 bt285.2.1 bt285.2.2.1 bt285.2.2.2 10).bind fun bt289 => ((spec_l01Src_n.f s0_0 bt289.2.1 bt289.2.2.1 bt289.2.2.2 10).bind fun bt293 => ((some (([wrap64 (48 + bt281.1), wrap64 (592 + bt285.1), wrap64 (1360 + bt289.1), wrap64 (10016 + bt293.1)] : List Int) : List Int)).bind fun y297 => ((spec_l01Src_n.f s0_0 bt293.2.1 bt293.2.2.1 bt293.2.2.2 4).bind fun bt300 => (if 0 ≤ bt300.1 then (if bt300.1 < (y297.length : Int) then (some (rd y297 bt300.1, bt300.2.1, bt300.2.2.1, bt300.2.2.2)) else (none)) else (none)))))))) else (if t261 = 6 then ((some (([46, 44, 33, 63, 39, 40, 41, 91, 93, 45, 58, 95] : List Int) : List Int)).bind fun y305 => ((spec_l01Src_n.f s0_0 t262 t263 t264 12).bind fun bt308 => (if 0 ≤ bt308.1 then (if bt308.1 < (y305.length : Int) then (some (rd y305 bt308.1, bt308.2.1, bt308.2.2.1, bt308.2.2.2)) else (none)) else (none)))) else (if t261 = 7 then (spec_l01Src_point.j1 kj2 t261 (t261 == 7) s0_0 t262 t263 t264) else (spec_l01Src_point.j1 kj2 t261 (t261 == 8) s0_0 t262 t263 t264)))))) = some (r1, r2, r3, r4) := by rw [if_neg (show ¬ (false = true) by decide)] at H; exact H
   clear H; have H := H1; clear H1
   by_cases c10 : t261 = 3
   ·exfalso
    have h_ := HV.out; rw [c10] at h_
    exact absurd h_ (by decide)
   rw [if_neg c10] at H; have c10b0 : (t261 == 3) = false := beq_eq_false_iff_ne.mpr c10; have c10b1 : (t261 != 3) = true := bne_iff_ne.mpr c10
   by_cases c13 : t261 = 4
   ·exfalso
    have h_ := HV.out; rw [c13] at h_
    exact absurd h_ (by decide)
   rw [if_neg c13] at H; have c13b0 : (t261 == 4) = false := beq_eq_false_iff_ne.mpr c13; have c13b1 : (t261 != 4) = true := bne_iff_ne.mpr c13
   by_cases c21 : t261 = 5
   ·exfalso
    have h_ := HV.out; rw [c21] at h_
    exact absurd h_ (by decide)
   rw [if_neg c21] at H; have c21b0 : (t261 == 5) = false := beq_eq_false_iff_ne.mpr c21; have c21b1 : (t261 != 5) = true := bne_iff_ne.mpr c21
   by_cases c37 : t261 = 6
   ·exfalso
    have h_ := HV.out; rw [c37] at h_
    exact absurd h_ (by decide)
   rw [if_neg c37] at H; have c37b0 : (t261 == 6) = false := beq_eq_false_iff_ne.mpr c37; have c37b1 : (t261 != 6) = true := bne_iff_ne.mpr c37; have HC45 := Aside0.mk H; clear H
   go_upto_if 50 with (fail)
   go_cut [50] (fun v50 wc => ∃ (kq : Nat) (x50_44 : Bool), v50 = .bool x50_44 ∧ Aside0 (spec_l01Src_point.j1 kq t261 x50_44 s0_0 t262 t263 t264 = some (r1, r2, r3, r4)) ∧ Aside0 (kq ≤ kj2) ∧ Aside0 (IsS95 w0 wc g s0_0 t262 t263 t264) ∧ Aside0 (KeepBut w wc g none) ∧ Aside0 (Below w0.heap.size w0 wc))
   case first =>
    have H := HC45.out; clear HC45
    by_cases c46 : t261 = 7
    ·rw [if_pos c46] at H
     have c46b0 : (t261 == 7) = true := beq_iff_eq.mpr c46; have c46b1 : (t261 != 7) = false := bne_eq_false_iff_eq.mpr c46; clear c46
     (first | rw [c46b0] | (simp only [i64_w, i32_w]; rw [c46b0]) | skip)
     have H' := Aside0.mk H; clear H
     go_wp2
     go_meet
     case rel => exact ⟨_, ((t261 == 7)), (by first | rfl | (simp; done) | (simp [*]; done)), H', ⟨by have := HJ2.out; first | omega | exact Nat.le_refl _⟩, ⟨isA⟩, ⟨keepA⟩, ⟨belowI⟩⟩
    rw [if_neg c46] at H; have c46b0 : (t261 == 7) = false := beq_eq_false_iff_ne.mpr c46; have c46b1 : (t261 != 7) = true := bne_iff_ne.mpr c46
    (first | rw [c46b0] | (simp only [i64_w, i32_w]; rw [c46b0]) | skip)
    have H' := Aside0.mk H; clear H
    go_wp2
    go_meet
    case rel => exact ⟨_, ((t261 == 8)), (by first | rfl | (simp; done) | (simp [*]; done)), H', ⟨by have := HJ2.out; first | omega | exact Nat.le_refl _⟩, ⟨isA⟩, ⟨keepA⟩, ⟨belowI⟩⟩
   case rest =>
    clear HC45
    try clear c1; try clear c2; try clear p2; try clear q2; try clear hx2; try clear c3; try clear p3; try clear q3; try clear hx3; try clear c4; try clear c5; try clear c5b0; try clear c5b1; try clear c6; try clear c6b0; try clear c6b1; try clear p6; try clear c7; try clear c9; try clear c10; try clear c10b0; try clear c10b1; try clear c13; try clear c13b0; try clear c13b1; try clear c14; try clear c15; try clear c15b0; try clear c16; try clear c16b0; try clear c21; try clear c21b0; try clear c21b1; try clear c27; try clear c27b0; try clear c28; try clear c28b0; try clear p28; try clear q28; try clear hx28; try clear p30; try clear q30; try clear hx30; try clear p31; try clear q31; try clear hx31; try clear c37; try clear c37b0; try clear c37b1; try clear c39; try clear c39b0; try clear c40; try clear c40b0; try clear c46; try clear c46b0; try clear c46b1; try clear hx280_0; try clear hx304_0; try clear hx312_0; try clear p2; try clear p280; try clear p304; try clear p312; try clear q280; try clear q304; try clear q312
    obtain ⟨kq, x50_44, rfl, HA, HJ44, HI0, HK, HB⟩ := hcut
    cases kq with
    | zero => exact absurd HA.out (by simp [spec_l01Src_point.j1])
    | succ kj44 =>
     have H := HA.out; clear HA; simp only [spec_l01Src_point.j1] at H
     by_cases c47 : x50_44 = true
     ·subst c47
      have H1 : ((spec_l01Src_n.f s0_0 t262 t263 t264 3).bind fun bt313 => ((spec_l01Src_n.f s0_0 bt313.2.1 bt313.2.2.1 bt313.2.2.2 76).bind fun bt317 => (some (wrap64 ((wrap64 (512 + (wrap64 (256 * bt313.1)))) + bt317.1), bt317.2.1, bt317.2.2.1, bt317.2.2.2)))) = some (r1, r2, r3, r4) := by rw [if_pos rfl] at H; exact H
      clear H; have H := H1; clear H1; replace H := Option.bind_eq_some_iff.mp H; obtain ⟨⟨t313, t314, t315, t316⟩, A480, H⟩ := H
      try dsimp only at H
      have A48 := Aside0.mk A480; clear A480; replace H := Option.bind_eq_some_iff.mp H; obtain ⟨⟨t317, t318, t319, t320⟩, A490, H⟩ := H
      try dsimp only at H
      have A49 := Aside0.mk A490; clear A490; simp only [Option.some.injEq, Prod.mk.injEq] at H; obtain ⟨rfl, rfl, rfl, rfl⟩ := H
      go_wp2_with (first | ((with_reducible refine gate_callee (f := 97) rfl ?_); refine goesL_ (some 54) rfl rfl Tryd.func97 (by kernel_rfl) rfl #[.pointer (some ⟨g, 0, none⟩), .int .i64 3] rfl (by (try simp only [List.map_toArray, List.map_cons, List.map_nil]); first | done | rfl) ?_; refine (spec_l01Src_n.callsA g s0_0 t262 t263 t264 3 t313 t314 t315 t316 w0 _ _ A48.out).mono ?_; rintro e w50 ⟨rfl, hi, hb, hk⟩; refine ⟨_, rfl, ?_⟩; replace HI0 := hi; replace HB := hb; replace HK := hk; clear hi hb hk) | ((with_reducible refine gate_callee (f := 97) rfl ?_); refine goesL_ (some 58) rfl rfl Tryd.func97 (by kernel_rfl) rfl #[.pointer (some ⟨g, 0, none⟩), .int .i64 76] rfl (by (try simp only [List.map_toArray, List.map_cons, List.map_nil]); first | done | rfl) ?_; refine (spec_l01Src_n.callsA g s0_0 t314 t315 t316 76 t317 t318 t319 t320 w0 _ _ A49.out).mono ?_; rintro e w51 ⟨rfl, hi, hb, hk⟩; refine ⟨_, rfl, ?_⟩; replace HI0 := hi; replace HB := hb; replace HK := hk; clear hi hb hk))
      go_ret
      exact ⟨by first | rfl | (simp [errW_none, errW_some] <;> rfl) | (simp [*, errW_none, errW_some] <;> rfl), isA, belowI, keepA⟩
     replace c47 := Bool.eq_false_iff.mpr c47; subst c47
     have H1 : (if t261 = 9 then ((spec_l01Src_n.f s0_0 t262 t263 t264 3).bind fun bt321 => ((spec_l01Src_n.f s0_0 bt321.2.1 bt321.2.2.1 bt321.2.2.2 2).bind fun bt325 => (some (wrap64 ((wrap64 ((wrap64 (512 + (wrap64 (256 * bt321.1)))) + 96)) + bt325.1), bt325.2.1, bt325.2.2.1, bt325.2.2.2)))) else (if t261 = 10 then (spec_l01Src_point.j2 kj44 t261 (t261 == 10) s0_0 t262 t263 t264) else (spec_l01Src_point.j2 kj44 t261 (t261 == 11) s0_0 t262 t263 t264))) = some (r1, r2, r3, r4) := by rw [if_neg (show ¬ (false = true) by decide)] at H; exact H
     clear H; have H := H1; clear H1
     by_cases c52 : t261 = 9
     ·rw [if_pos c52] at H
      have c52b0 : (t261 == 9) = true := beq_iff_eq.mpr c52; have c52b1 : (t261 != 9) = false := bne_eq_false_iff_eq.mpr c52; clear c52; replace H := Option.bind_eq_some_iff.mp H; obtain ⟨⟨t321, t322, t323, t324⟩, A530, H⟩ := H
      try dsimp only at H
      have A53 := Aside0.mk A530; clear A530; replace H := Option.bind_eq_some_iff.mp H; obtain ⟨⟨t325, t326, t327, t328⟩, A540, H⟩ := H
      try dsimp only at H
      have A54 := Aside0.mk A540; clear A540; simp only [Option.some.injEq, Prod.mk.injEq] at H; obtain ⟨rfl, rfl, rfl, rfl⟩ := H
      go_wp2_with (first | ((with_reducible refine gate_callee (f := 97) rfl ?_); refine goesL_ (some 63) rfl rfl Tryd.func97 (by kernel_rfl) rfl #[.pointer (some ⟨g, 0, none⟩), .int .i64 3] rfl (by (try simp only [List.map_toArray, List.map_cons, List.map_nil]); first | done | rfl) ?_; refine (spec_l01Src_n.callsA g s0_0 t262 t263 t264 3 t321 t322 t323 t324 w0 _ _ A53.out).mono ?_; rintro e w55 ⟨rfl, hi, hb, hk⟩; refine ⟨_, rfl, ?_⟩; replace HI0 := hi; replace HB := hb; replace HK := hk; clear hi hb hk) | ((with_reducible refine gate_callee (f := 97) rfl ?_); refine goesL_ (some 68) rfl rfl Tryd.func97 (by kernel_rfl) rfl #[.pointer (some ⟨g, 0, none⟩), .int .i64 2] rfl (by (try simp only [List.map_toArray, List.map_cons, List.map_nil]); first | done | rfl) ?_; refine (spec_l01Src_n.callsA g s0_0 t322 t323 t324 2 t325 t326 t327 t328 w0 _ _ A54.out).mono ?_; rintro e w56 ⟨rfl, hi, hb, hk⟩; refine ⟨_, rfl, ?_⟩; replace HI0 := hi; replace HB := hb; replace HK := hk; clear hi hb hk))
      go_ret
      exact ⟨by first | rfl | (simp [errW_none, errW_some] <;> rfl) | (simp [*, errW_none, errW_some] <;> rfl), isA, belowI, keepA⟩
     rw [if_neg c52] at H; have c52b0 : (t261 == 9) = false := beq_eq_false_iff_ne.mpr c52; have c52b1 : (t261 != 9) = true := bne_iff_ne.mpr c52; have HC57 := Aside0.mk H; clear H
     go_upto_if 70 with (fail)
     go_cut [70] (fun v70 wc => ∃ (kq : Nat) (x70_56 : Bool), v70 = .bool x70_56 ∧ Aside0 (spec_l01Src_point.j2 kq t261 x70_56 s0_0 t262 t263 t264 = some (r1, r2, r3, r4)) ∧ Aside0 (kq ≤ kj44) ∧ Aside0 (IsS95 w0 wc g s0_0 t262 t263 t264) ∧ Aside0 (KeepBut w wc g none) ∧ Aside0 (Below w0.heap.size w0 wc))
     case first =>
      have H := HC57.out; clear HC57
      by_cases c58 : t261 = 10
      ·rw [if_pos c58] at H
       have c58b0 : (t261 == 10) = true := beq_iff_eq.mpr c58; have c58b1 : (t261 != 10) = false := bne_eq_false_iff_eq.mpr c58; clear c58
       (first | rw [c58b0] | (simp only [i64_w, i32_w]; rw [c58b0]) | skip)
       have H' := Aside0.mk H; clear H
       go_wp2
       go_meet
       case rel => exact ⟨_, ((t261 == 10)), (by first | rfl | (simp; done) | (simp [*]; done)), H', ⟨by have := HJ2.out; have := HJ44.out; first | omega | exact Nat.le_refl _⟩, ⟨isA⟩, ⟨keepA⟩, ⟨belowI⟩⟩
      rw [if_neg c58] at H; have c58b0 : (t261 == 10) = false := beq_eq_false_iff_ne.mpr c58; have c58b1 : (t261 != 10) = true := bne_iff_ne.mpr c58
      (first | rw [c58b0] | (simp only [i64_w, i32_w]; rw [c58b0]) | skip)
      have H' := Aside0.mk H; clear H
      go_wp2
      go_meet
      case rel => exact ⟨_, ((t261 == 11)), (by first | rfl | (simp; done) | (simp [*]; done)), H', ⟨by have := HJ2.out; have := HJ44.out; first | omega | exact Nat.le_refl _⟩, ⟨isA⟩, ⟨keepA⟩, ⟨belowI⟩⟩
     case rest =>
      clear HC57
      try clear c1; try clear c2; try clear p2; try clear q2; try clear hx2; try clear c3; try clear p3; try clear q3; try clear hx3; try clear c4; try clear c5; try clear c5b0; try clear c5b1; try clear c6; try clear c6b0; try clear c6b1; try clear p6; try clear c7; try clear c9; try clear c10; try clear c10b0; try clear c10b1; try clear c13; try clear c13b0; try clear c13b1; try clear c14; try clear c15; try clear c15b0; try clear c16; try clear c16b0; try clear c21; try clear c21b0; try clear c21b1; try clear c27; try clear c27b0; try clear c28; try clear c28b0; try clear p28; try clear q28; try clear hx28; try clear p30; try clear q30; try clear hx30; try clear p31; try clear q31; try clear hx31; try clear c37; try clear c37b0; try clear c37b1; try clear c39; try clear c39b0; try clear c40; try clear c40b0; try clear c46; try clear c46b0; try clear c46b1; try clear c47; try clear c52; try clear c52b0; try clear c52b1; try clear c58; try clear c58b0; try clear c58b1; try clear hx280_0; try clear hx304_0; try clear hx312_0; try clear p2; try clear p28; try clear p280; try clear p3; try clear p30; try clear p304; try clear p31; try clear p312; try clear p6; try clear q2; try clear q28; try clear q280; try clear q3; try clear q30; try clear q304; try clear q31; try clear q312
      obtain ⟨kq, x70_56, rfl, HA, HJ56, HI0, HK, HB⟩ := hcut
      cases kq with
      | zero => exact absurd HA.out (by simp [spec_l01Src_point.j2])
      | succ kj56 =>
       have H := HA.out; clear HA; simp only [spec_l01Src_point.j2] at H
       by_cases c59 : x70_56 = true
       ·subst c59
        have H1 : ((spec_l01Src_n.f s0_0 t262 t263 t264 32).bind fun bt329 => (some (wrap64 (1280 + bt329.1), bt329.2.1, bt329.2.2.1, bt329.2.2.2))) = some (r1, r2, r3, r4) := by rw [if_pos rfl] at H; exact H
        clear H; have H := H1; clear H1; replace H := Option.bind_eq_some_iff.mp H; obtain ⟨⟨t329, t330, t331, t332⟩, A600, H⟩ := H
        try dsimp only at H
        have A60 := Aside0.mk A600; clear A600; simp only [Option.some.injEq, Prod.mk.injEq] at H; obtain ⟨rfl, rfl, rfl, rfl⟩ := H
        go_wp2_with (first | ((with_reducible refine gate_callee (f := 97) rfl ?_); refine goesL_ (some 74) rfl rfl Tryd.func97 (by kernel_rfl) rfl #[.pointer (some ⟨g, 0, none⟩), .int .i64 32] rfl (by (try simp only [List.map_toArray, List.map_cons, List.map_nil]); first | done | rfl) ?_; refine (spec_l01Src_n.callsA g s0_0 t262 t263 t264 32 t329 t330 t331 t332 w0 _ _ A60.out).mono ?_; rintro e w61 ⟨rfl, hi, hb, hk⟩; refine ⟨_, rfl, ?_⟩; replace HI0 := hi; replace HB := hb; replace HK := hk; clear hi hb hk))
        go_ret
        exact ⟨by first | rfl | (simp [errW_none, errW_some] <;> rfl) | (simp [*, errW_none, errW_some] <;> rfl), isA, belowI, keepA⟩
       replace c59 := Bool.eq_false_iff.mpr c59; subst c59
       have H1 : (if t261 = 12 then ((spec_l01Src_n.f s0_0 t262 t263 t264 32).bind fun bt333 => ((spec_l01Src_n.f s0_0 bt333.2.1 bt333.2.2.1 bt333.2.2.2 12).bind fun bt337 => ((some (([wrap64 (1536 + bt333.1), wrap64 (1568 + bt337.1), 1584, 1585] : List Int) : List Int)).bind fun y341 => ((spec_l01Src_n.f s0_0 bt337.2.1 bt337.2.2.1 bt337.2.2.2 4).bind fun bt344 => (if 0 ≤ bt344.1 then (if bt344.1 < (y341.length : Int) then (some (rd y341 bt344.1, bt344.2.1, bt344.2.2.1, bt344.2.2.2)) else (none)) else (none)))))) else (if t261 = 13 then ((spec_l01Src_n.f s0_0 t262 t263 t264 19).bind fun bt349 => ((spec_l01Src_n.f s0_0 bt349.2.1 bt349.2.2.1 bt349.2.2.2 21).bind fun bt353 => ((spec_l01Src_n.f s0_0 bt353.2.1 bt353.2.2.1 bt353.2.2.2 27).bind fun bt357 => ((some (([wrap64 (1792 + bt349.1), wrap64 (1824 + bt353.1), wrap64 (1857 + bt357.1)] : List Int) : List Int)).bind fun y361 => ((spec_l01Src_n.f s0_0 bt357.2.1 bt357.2.2.1 bt357.2.2.2 3).bind fun bt364 => (if 0 ≤ bt364.1 then (if bt364.1 < (y361.length : Int) then (some (rd y361 bt364.1, bt364.2.1, bt364.2.2.1, bt364.2.2.2)) else (none)) else (none))))))) else (if t261 = 14 then ((spec_l01Src_n.f s0_0 t262 t263 t264 48).bind fun bt369 => (some (wrap64 (2048 + bt369.1), bt369.2.1, bt369.2.2.1, bt369.2.2.2))) else (if t261 = 15 then (spec_l01Src_point.j3 kj56 t261 (t261 == 15) s0_0 t262 t263 t264) else (spec_l01Src_point.j3 kj56 t261 (t261 == 16) s0_0 t262 t263 t264))))) = some (r1, r2, r3, r4) := by rw [if_neg (show ¬ (false = true) by decide)] at H; exact H
       clear H; have H := H1; clear H1
       by_cases c62 : t261 = 12
       ·rw [if_pos c62] at H
        have c62b0 : (t261 == 12) = true := beq_iff_eq.mpr c62; have c62b1 : (t261 != 12) = false := bne_eq_false_iff_eq.mpr c62; clear c62; replace H := Option.bind_eq_some_iff.mp H; obtain ⟨⟨t333, t334, t335, t336⟩, A630, H⟩ := H
        try dsimp only at H
        have A63 := Aside0.mk A630; clear A630; replace H := Option.bind_eq_some_iff.mp H; obtain ⟨⟨t337, t338, t339, t340⟩, A640, H⟩ := H
        try dsimp only at H
        have A64 := Aside0.mk A640; clear A640; obtain ⟨y341, hy341⟩ : ∃ y_ : List Int, y_ = (([wrap64 (1536 + t333), wrap64 (1568 + t337), 1584, 1585] : List Int)) := ⟨_, rfl⟩
        replace H : ((spec_l01Src_n.f s0_0 t338 t339 t340 4).bind fun bt344 => (if 0 ≤ bt344.1 then (if bt344.1 < (y341.length : Int) then (some (rd y341 bt344.1, bt344.2.1, bt344.2.2.1, bt344.2.2.2)) else (none)) else (none))) = some (r1, r2, r3, r4) := by first | (rw [hy341]; with_reducible exact H) | (have H2_ := (Option.bind_some _ _).symm.trans H; rw [hy341]; with_reducible exact H2_) | (have H2_ := (Option.bind_some _ _).symm.trans H; with_reducible exact H2_) | with_reducible exact H | (rw [hy341]; exact H) | exact H
        have Ny341 := Aside0.mk hy341; clear hy341; replace H := Option.bind_eq_some_iff.mp H; obtain ⟨⟨t344, t345, t346, t347⟩, A650, H⟩ := H
        try dsimp only at H
        have A65 := Aside0.mk A650; clear A650
        by_cases c66 : 0 ≤ t344
        ·rw [if_pos c66] at H
         have c66b0 : decide (0 ≤ t344) = true := decide_eq_true c66; clear c66
         by_cases c67 : t344 < (y341.length : Int)
         ·rw [if_pos c67] at H
          have c67b0 : decide (t344 < (y341.length : Int)) = true := decide_eq_true c67; clear c67; simp only [Option.some.injEq, Prod.mk.injEq] at H; obtain ⟨rfl, rfl, rfl, rfl⟩ := H
          go_wp2_with (first | ((with_reducible refine gate_callee (f := 97) rfl ?_); refine goesL_ (some 79) rfl rfl Tryd.func97 (by kernel_rfl) rfl #[.pointer (some ⟨g, 0, none⟩), .int .i64 32] rfl (by (try simp only [List.map_toArray, List.map_cons, List.map_nil]); first | done | rfl) ?_; refine (spec_l01Src_n.callsA g s0_0 t262 t263 t264 32 t333 t334 t335 t336 w0 _ _ A63.out).mono ?_; rintro e w68 ⟨rfl, hi, hb, hk⟩; refine ⟨_, rfl, ?_⟩; replace HI0 := hi; replace HB := hb; replace HK := hk; clear hi hb hk) | ((with_reducible refine gate_callee (f := 97) rfl ?_); refine goesL_ (some 82) rfl rfl Tryd.func97 (by kernel_rfl) rfl #[.pointer (some ⟨g, 0, none⟩), .int .i64 12] rfl (by (try simp only [List.map_toArray, List.map_cons, List.map_nil]); first | done | rfl) ?_; refine (spec_l01Src_n.callsA g s0_0 t334 t335 t336 12 t337 t338 t339 t340 w0 _ _ A64.out).mono ?_; rintro e w69 ⟨rfl, hi, hb, hk⟩; refine ⟨_, rfl, ?_⟩; replace HI0 := hi; replace HB := hb; replace HK := hk; clear hi hb hk) | ((with_reducible refine gate_dst (N := 84) rfl ?_); refine Kd.R_lit (Kd.int .i64) _ 2 ?hg (N := 84) ?hd (xs := ([wrap64 (1536 + t333), wrap64 (1568 + t337), 1584, 1585] : List Int)) (inner := [.int .i64 (wrap64 (1536 + t333)), .int .i64 (wrap64 (1568 + t337)), .int .i64 1584, .int .i64 1585]) (ok := fun _ => True) (okp := fun _ => True) ?hr ?hp (fun _ hk => hk) trivial (Below.refl _ _) (Nat.le_refl _) (by simp) ?_; (case hd => rfl); (case hg => rfl); (case hr => first | (go_simp; done) | (go_simp; rfl)); (case hp => exact (Reps.one (show Kd.M (Kd.int .i64) _ _ _ (wrap64 (1536 + t333)) [.int .i64 (wrap64 (1536 + t333))] from rfl) (Reps.one (show Kd.M (Kd.int .i64) _ _ _ (wrap64 (1568 + t337)) [.int .i64 (wrap64 (1568 + t337))] from rfl) (Reps.one (show Kd.M (Kd.int .i64) _ _ _ 1584 [.int .i64 1584] from rfl) (Reps.one (show Kd.M (Kd.int .i64) _ _ _ 1585 [.int .i64 1585] from rfl) (Reps.none _ _)))))); intro v342 w70 ho71 hb hg_ hnew_; clear hg_ hnew_; (first | rw [← Ny341.out] at ho71 | (simp only [Int.reduceToNat] at ho71; rw [← Ny341.out] at ho71)); have n0_ := Aside0.mk (Kd.R_lower ho71 (keep_size (w := w) (g := g) (row := none) (keepA))); have n1_ := Aside0.mk (IsS95.below (isA) hb); have n2_ := Aside0.mk (KeepBut.trans (keepA) (KeepBut.of_below hb g none) (.inl rfl)); have n3_ := Aside0.mk (below_step (belowI) hb); clear HI0; clear HK; clear HB; have HO343 := n0_; have HI0 := n1_; have HK := n2_; have HB := n3_; clear n0_ n1_ n2_ n3_; clear hb ho71) | ((with_reducible refine gate_callee (f := 97) rfl ?_); refine goesL_ (some 86) rfl rfl Tryd.func97 (by kernel_rfl) rfl #[.pointer (some ⟨g, 0, none⟩), .int .i64 4] rfl (by (try simp only [List.map_toArray, List.map_cons, List.map_nil]); first | done | rfl) ?_; (with_reducible refine (spec_l01Src_n.calls g s0_0 t338 t339 t340 4 t344 t345 t346 t347 w0 _ ?side1 ?side2 A65.out).mono ?_); (case side1 => exact isA); (case side2 => exact belowI); rintro e w72 ⟨rfl, hi, hb, hk⟩; refine ⟨_, rfl, ?_⟩; have n0_ := Aside0.mk (Kd.R_mono (Kd.R_keep (IsS95.apart (show IsS95 w0 _ g s0_0 t338 t339 t340 from isA) (by (with_reducible repeat (first | apply Kd.R_alloc | apply Kd.R_drewN | apply Kd.R_drew)); exact HO343.out) (by decide)) hk (fun _ h => h.2)) (fun _ h => h.1)); have n1_ := Aside0.mk (KeepBut.trans (keepA) hk (.inl rfl)); have n2_ := Aside0.mk (hb); have n3_ := Aside0.mk (hi); clear HO343; clear HK; clear HB; clear HI0; have HO343 := n0_; have HK := n1_; have HB := n2_; have HI0 := n3_; clear n0_ n1_ n2_ n3_; (try clear hb); (try clear hb2); (try clear hk); (try clear hi); obtain ⟨Ao73, co73, eo73⟩ := Kd.R_slice HO343.out; subst eo73; have p348 : 0 ≤ (t344 : Int) := of_decide_eq_true (by first | (with_reducible assumption) | assumption); have q348 : t344 < (y341.length : Int) := of_decide_eq_true (by first | (with_reducible assumption) | assumption); obtain ⟨ad348, e348, hx348_0⟩ := Kd.at_int (Kd.R_reads' HO343.out).2.2 t344 p348 q348; cases e348; replace p348 := eq_true p348; replace q348 := eq_true q348))
          go_ret
          exact ⟨by first | rfl | (simp [errW_none, errW_some] <;> rfl) | (simp [*, errW_none, errW_some] <;> rfl), isA, belowI, keepA⟩
         rw [if_neg c67] at H
         exact absurd H (by simp)
        rw [if_neg c66] at H
        exact absurd H (by simp)
       rw [if_neg c62] at H; have c62b0 : (t261 == 12) = false := beq_eq_false_iff_ne.mpr c62; have c62b1 : (t261 != 12) = true := bne_iff_ne.mpr c62
       by_cases c74 : t261 = 13
       ·rw [if_pos c74] at H
        have c74b0 : (t261 == 13) = true := beq_iff_eq.mpr c74; have c74b1 : (t261 != 13) = false := bne_eq_false_iff_eq.mpr c74; clear c74; replace H := Option.bind_eq_some_iff.mp H; obtain ⟨⟨t349, t350, t351, t352⟩, A750, H⟩ := H
        try dsimp only at H
        have A75 := Aside0.mk A750; clear A750; replace H := Option.bind_eq_some_iff.mp H; obtain ⟨⟨t353, t354, t355, t356⟩, A760, H⟩ := H
        try dsimp only at H
        have A76 := Aside0.mk A760; clear A760; replace H := Option.bind_eq_some_iff.mp H; obtain ⟨⟨t357, t358, t359, t360⟩, A770, H⟩ := H
        try dsimp only at H
        have A77 := Aside0.mk A770; clear A770; obtain ⟨y361, hy361⟩ : ∃ y_ : List Int, y_ = (([wrap64 (1792 + t349), wrap64 (1824 + t353), wrap64 (1857 + t357)] : List Int)) := ⟨_, rfl⟩
        replace H : ((spec_l01Src_n.f s0_0 t358 t359 t360 3).bind fun bt364 => (if 0 ≤ bt364.1 then (if bt364.1 < (y361.length : Int) then (some (rd y361 bt364.1, bt364.2.1, bt364.2.2.1, bt364.2.2.2)) else (none)) else (none))) = some (r1, r2, r3, r4) := by first | (rw [hy361]; with_reducible exact H) | (have H2_ := (Option.bind_some _ _).symm.trans H; rw [hy361]; with_reducible exact H2_) | (have H2_ := (Option.bind_some _ _).symm.trans H; with_reducible exact H2_) | with_reducible exact H | (rw [hy361]; exact H) | exact H
        have Ny361 := Aside0.mk hy361; clear hy361; replace H := Option.bind_eq_some_iff.mp H; obtain ⟨⟨t364, t365, t366, t367⟩, A780, H⟩ := H
        try dsimp only at H
        have A78 := Aside0.mk A780; clear A780
        by_cases c79 : 0 ≤ t364
        ·rw [if_pos c79] at H
         have c79b0 : decide (0 ≤ t364) = true := decide_eq_true c79; clear c79
         by_cases c80 : t364 < (y361.length : Int)
         ·rw [if_pos c80] at H
          have c80b0 : decide (t364 < (y361.length : Int)) = true := decide_eq_true c80; clear c80; simp only [Option.some.injEq, Prod.mk.injEq] at H; obtain ⟨rfl, rfl, rfl, rfl⟩ := H
          go_wp2_with (first | ((with_reducible refine gate_callee (f := 97) rfl ?_); refine goesL_ (some 92) rfl rfl Tryd.func97 (by kernel_rfl) rfl #[.pointer (some ⟨g, 0, none⟩), .int .i64 19] rfl (by (try simp only [List.map_toArray, List.map_cons, List.map_nil]); first | done | rfl) ?_; refine (spec_l01Src_n.callsA g s0_0 t262 t263 t264 19 t349 t350 t351 t352 w0 _ _ A75.out).mono ?_; rintro e w81 ⟨rfl, hi, hb, hk⟩; refine ⟨_, rfl, ?_⟩; replace HI0 := hi; replace HB := hb; replace HK := hk; clear hi hb hk) | ((with_reducible refine gate_callee (f := 97) rfl ?_); refine goesL_ (some 95) rfl rfl Tryd.func97 (by kernel_rfl) rfl #[.pointer (some ⟨g, 0, none⟩), .int .i64 21] rfl (by (try simp only [List.map_toArray, List.map_cons, List.map_nil]); first | done | rfl) ?_; refine (spec_l01Src_n.callsA g s0_0 t350 t351 t352 21 t353 t354 t355 t356 w0 _ _ A76.out).mono ?_; rintro e w82 ⟨rfl, hi, hb, hk⟩; refine ⟨_, rfl, ?_⟩; replace HI0 := hi; replace HB := hb; replace HK := hk; clear hi hb hk) | ((with_reducible refine gate_callee (f := 97) rfl ?_); refine goesL_ (some 98) rfl rfl Tryd.func97 (by kernel_rfl) rfl #[.pointer (some ⟨g, 0, none⟩), .int .i64 27] rfl (by (try simp only [List.map_toArray, List.map_cons, List.map_nil]); first | done | rfl) ?_; refine (spec_l01Src_n.callsA g s0_0 t354 t355 t356 27 t357 t358 t359 t360 w0 _ _ A77.out).mono ?_; rintro e w83 ⟨rfl, hi, hb, hk⟩; refine ⟨_, rfl, ?_⟩; replace HI0 := hi; replace HB := hb; replace HK := hk; clear hi hb hk) | ((with_reducible refine gate_dst (N := 100) rfl ?_); refine Kd.R_lit (Kd.int .i64) _ 2 ?hg (N := 100) ?hd (xs := ([wrap64 (1792 + t349), wrap64 (1824 + t353), wrap64 (1857 + t357)] : List Int)) (inner := [.int .i64 (wrap64 (1792 + t349)), .int .i64 (wrap64 (1824 + t353)), .int .i64 (wrap64 (1857 + t357))]) (ok := fun _ => True) (okp := fun _ => True) ?hr ?hp (fun _ hk => hk) trivial (Below.refl _ _) (Nat.le_refl _) (by simp) ?_; (case hd => rfl); (case hg => rfl); (case hr => first | (go_simp; done) | (go_simp; rfl)); (case hp => exact (Reps.one (show Kd.M (Kd.int .i64) _ _ _ (wrap64 (1792 + t349)) [.int .i64 (wrap64 (1792 + t349))] from rfl) (Reps.one (show Kd.M (Kd.int .i64) _ _ _ (wrap64 (1824 + t353)) [.int .i64 (wrap64 (1824 + t353))] from rfl) (Reps.one (show Kd.M (Kd.int .i64) _ _ _ (wrap64 (1857 + t357)) [.int .i64 (wrap64 (1857 + t357))] from rfl) (Reps.none _ _))))); intro v362 w84 ho85 hb hg_ hnew_; clear hg_ hnew_; (first | rw [← Ny361.out] at ho85 | (simp only [Int.reduceToNat] at ho85; rw [← Ny361.out] at ho85)); have n0_ := Aside0.mk (Kd.R_lower ho85 (keep_size (w := w) (g := g) (row := none) (keepA))); have n1_ := Aside0.mk (IsS95.below (isA) hb); have n2_ := Aside0.mk (KeepBut.trans (keepA) (KeepBut.of_below hb g none) (.inl rfl)); have n3_ := Aside0.mk (below_step (belowI) hb); clear HI0; clear HK; clear HB; have HO363 := n0_; have HI0 := n1_; have HK := n2_; have HB := n3_; clear n0_ n1_ n2_ n3_; clear hb ho85) | ((with_reducible refine gate_callee (f := 97) rfl ?_); refine goesL_ (some 102) rfl rfl Tryd.func97 (by kernel_rfl) rfl #[.pointer (some ⟨g, 0, none⟩), .int .i64 3] rfl (by (try simp only [List.map_toArray, List.map_cons, List.map_nil]); first | done | rfl) ?_; (with_reducible refine (spec_l01Src_n.calls g s0_0 t358 t359 t360 3 t364 t365 t366 t367 w0 _ ?side1 ?side2 A78.out).mono ?_); (case side1 => exact isA); (case side2 => exact belowI); rintro e w86 ⟨rfl, hi, hb, hk⟩; refine ⟨_, rfl, ?_⟩; have n0_ := Aside0.mk (Kd.R_mono (Kd.R_keep (IsS95.apart (show IsS95 w0 _ g s0_0 t358 t359 t360 from isA) (by (with_reducible repeat (first | apply Kd.R_alloc | apply Kd.R_drewN | apply Kd.R_drew)); exact HO363.out) (by decide)) hk (fun _ h => h.2)) (fun _ h => h.1)); have n1_ := Aside0.mk (KeepBut.trans (keepA) hk (.inl rfl)); have n2_ := Aside0.mk (hb); have n3_ := Aside0.mk (hi); clear HO363; clear HK; clear HB; clear HI0; have HO363 := n0_; have HK := n1_; have HB := n2_; have HI0 := n3_; clear n0_ n1_ n2_ n3_; (try clear hb); (try clear hb2); (try clear hk); (try clear hi); obtain ⟨Ao87, co87, eo87⟩ := Kd.R_slice HO363.out; subst eo87; have p368 : 0 ≤ (t364 : Int) := of_decide_eq_true (by first | (with_reducible assumption) | assumption); have q368 : t364 < (y361.length : Int) := of_decide_eq_true (by first | (with_reducible assumption) | assumption); obtain ⟨ad368, e368, hx368_0⟩ := Kd.at_int (Kd.R_reads' HO363.out).2.2 t364 p368 q368; cases e368; replace p368 := eq_true p368; replace q368 := eq_true q368))
          go_ret
          exact ⟨by first | rfl | (simp [errW_none, errW_some] <;> rfl) | (simp [*, errW_none, errW_some] <;> rfl), isA, belowI, keepA⟩
         rw [if_neg c80] at H
         exact absurd H (by simp)
        rw [if_neg c79] at H
        exact absurd H (by simp)
       rw [if_neg c74] at H; have c74b0 : (t261 == 13) = false := beq_eq_false_iff_ne.mpr c74; have c74b1 : (t261 != 13) = true := bne_iff_ne.mpr c74
       by_cases c88 : t261 = 14
       ·rw [if_pos c88] at H
        have c88b0 : (t261 == 14) = true := beq_iff_eq.mpr c88; have c88b1 : (t261 != 14) = false := bne_eq_false_iff_eq.mpr c88; clear c88; replace H := Option.bind_eq_some_iff.mp H; obtain ⟨⟨t369, t370, t371, t372⟩, A890, H⟩ := H
        try dsimp only at H
        have A89 := Aside0.mk A890; clear A890; simp only [Option.some.injEq, Prod.mk.injEq] at H; obtain ⟨rfl, rfl, rfl, rfl⟩ := H
        go_wp2_with (first | ((with_reducible refine gate_callee (f := 97) rfl ?_); refine goesL_ (some 108) rfl rfl Tryd.func97 (by kernel_rfl) rfl #[.pointer (some ⟨g, 0, none⟩), .int .i64 48] rfl (by (try simp only [List.map_toArray, List.map_cons, List.map_nil]); first | done | rfl) ?_; refine (spec_l01Src_n.callsA g s0_0 t262 t263 t264 48 t369 t370 t371 t372 w0 _ _ A89.out).mono ?_; rintro e w90 ⟨rfl, hi, hb, hk⟩; refine ⟨_, rfl, ?_⟩; replace HI0 := hi; replace HB := hb; replace HK := hk; clear hi hb hk))
        go_ret
        exact ⟨by first | rfl | (simp [errW_none, errW_some] <;> rfl) | (simp [*, errW_none, errW_some] <;> rfl), isA, belowI, keepA⟩
       rw [if_neg c88] at H; have c88b0 : (t261 == 14) = false := beq_eq_false_iff_ne.mpr c88; have c88b1 : (t261 != 14) = true := bne_iff_ne.mpr c88; have HC91 := Aside0.mk H; clear H
       go_upto_if 110 with (fail)
       go_cut [110] (fun v110 wc => ∃ (kq : Nat) (x110_90 : Bool), v110 = .bool x110_90 ∧ Aside0 (spec_l01Src_point.j3 kq t261 x110_90 s0_0 t262 t263 t264 = some (r1, r2, r3, r4)) ∧ Aside0 (kq ≤ kj56) ∧ Aside0 (IsS95 w0 wc g s0_0 t262 t263 t264) ∧ Aside0 (KeepBut w wc g none) ∧ Aside0 (Below w0.heap.size w0 wc))
       case first =>
        have H := HC91.out; clear HC91
        by_cases c92 : t261 = 15
        ·rw [if_pos c92] at H
         have c92b0 : (t261 == 15) = true := beq_iff_eq.mpr c92; have c92b1 : (t261 != 15) = false := bne_eq_false_iff_eq.mpr c92; clear c92
         (first | rw [c92b0] | (simp only [i64_w, i32_w]; rw [c92b0]) | skip)
         have H' := Aside0.mk H; clear H
         go_wp2
         go_meet
         case rel => exact ⟨_, ((t261 == 15)), (by first | rfl | (simp; done) | (simp [*]; done)), H', ⟨by have := HJ2.out; have := HJ44.out; have := HJ56.out; first | omega | exact Nat.le_refl _⟩, ⟨isA⟩, ⟨keepA⟩, ⟨belowI⟩⟩
        rw [if_neg c92] at H; have c92b0 : (t261 == 15) = false := beq_eq_false_iff_ne.mpr c92; have c92b1 : (t261 != 15) = true := bne_iff_ne.mpr c92
        (first | rw [c92b0] | (simp only [i64_w, i32_w]; rw [c92b0]) | skip)
        have H' := Aside0.mk H; clear H
        go_wp2
        go_meet
        case rel => exact ⟨_, ((t261 == 16)), (by first | rfl | (simp; done) | (simp [*]; done)), H', ⟨by have := HJ2.out; have := HJ44.out; have := HJ56.out; first | omega | exact Nat.le_refl _⟩, ⟨isA⟩, ⟨keepA⟩, ⟨belowI⟩⟩
       case rest =>
        clear HC91
        try clear c1; try clear c2; try clear p2; try clear q2; try clear hx2; try clear c3; try clear p3; try clear q3; try clear hx3; try clear c4; try clear c5; try clear c5b0; try clear c5b1; try clear c6; try clear c6b0; try clear c6b1; try clear p6; try clear c7; try clear c8; try clear c9; try clear c10; try clear c10b0; try clear c10b1; try clear c13; try clear c13b0; try clear c13b1; try clear c14; try clear c15; try clear c15b0; try clear c16; try clear c16b0; try clear c21; try clear c21b0; try clear c21b1; try clear c27; try clear c27b0; try clear c28; try clear c28b0; try clear p28; try clear q28; try clear hx28; try clear p30; try clear q30; try clear hx30; try clear p31; try clear q31; try clear hx31; try clear p34; try clear q34; try clear hx34; try clear p36; try clear q36; try clear hx36; try clear c37; try clear c37b0; try clear c37b1; try clear c39; try clear c39b0; try clear c40; try clear c40b0; try clear c46; try clear c46b0; try clear c46b1; try clear c47; try clear c52; try clear c52b0; try clear c52b1; try clear c58; try clear c58b0; try clear c58b1; try clear c59; try clear c62; try clear c62b0; try clear c62b1; try clear p64; try clear c66; try clear c66b0; try clear c67; try clear c67b0; try clear c74; try clear c74b0; try clear c74b1; try clear c79; try clear c79b0; try clear c80; try clear c80b0; try clear c88; try clear c88b0; try clear c88b1; try clear c92; try clear c92b0; try clear c92b1; try clear hx280_0; try clear hx304_0; try clear hx312_0; try clear hx348_0; try clear hx368_0; try clear p2; try clear p28; try clear p280; try clear p3; try clear p30; try clear p304; try clear p31; try clear p312; try clear p348; try clear p368; try clear p6; try clear q2; try clear q28; try clear q280; try clear q3; try clear q30; try clear q304; try clear q31; try clear q312; try clear q348; try clear q368
        obtain ⟨kq, x110_90, rfl, HA, HJ90, HI0, HK, HB⟩ := hcut
        cases kq with
        | zero => exact absurd HA.out (by simp [spec_l01Src_point.j3])
        | succ kj90 =>
         have H := HA.out; clear HA; simp only [spec_l01Src_point.j3] at H
         by_cases c93 : x110_90 = true
         ·subst c93
          have H1 : ((spec_l01Src_n.f s0_0 t262 t263 t264 64).bind fun bt373 => (some (wrap64 (4096 + bt373.1), bt373.2.1, bt373.2.2.1, bt373.2.2.2))) = some (r1, r2, r3, r4) := by rw [if_pos rfl] at H; exact H
          clear H; have H := H1; clear H1; replace H := Option.bind_eq_some_iff.mp H; obtain ⟨⟨t373, t374, t375, t376⟩, A940, H⟩ := H
          try dsimp only at H
          have A94 := Aside0.mk A940; clear A940; simp only [Option.some.injEq, Prod.mk.injEq] at H; obtain ⟨rfl, rfl, rfl, rfl⟩ := H
          go_wp2_with (first | ((with_reducible refine gate_callee (f := 97) rfl ?_); refine goesL_ (some 114) rfl rfl Tryd.func97 (by kernel_rfl) rfl #[.pointer (some ⟨g, 0, none⟩), .int .i64 64] rfl (by (try simp only [List.map_toArray, List.map_cons, List.map_nil]); first | done | rfl) ?_; refine (spec_l01Src_n.callsA g s0_0 t262 t263 t264 64 t373 t374 t375 t376 w0 _ _ A94.out).mono ?_; rintro e w95 ⟨rfl, hi, hb, hk⟩; refine ⟨_, rfl, ?_⟩; replace HI0 := hi; replace HB := hb; replace HK := hk; clear hi hb hk))
          go_ret
          exact ⟨by first | rfl | (simp [errW_none, errW_some] <;> rfl) | (simp [*, errW_none, errW_some] <;> rfl), isA, belowI, keepA⟩
         replace c93 := Bool.eq_false_iff.mpr c93; subst c93
         have H1 : (if t261 = 17 then ((spec_l01Src_n.f s0_0 t262 t263 t264 64).bind fun bt377 => ((spec_l01Src_n.f s0_0 bt377.2.1 bt377.2.2.1 bt377.2.2.2 5).bind fun bt381 => ((spec_l01Src_n.f s0_0 bt381.2.1 bt381.2.2.1 bt381.2.2.2 26).bind fun bt385 => ((some (([wrap64 (7680 + bt377.1), wrap64 (7744 + bt381.1), wrap64 (7760 + bt385.1)] : List Int) : List Int)).bind fun y389 => ((spec_l01Src_n.f s0_0 bt385.2.1 bt385.2.2.1 bt385.2.2.2 3).bind fun bt392 => (if 0 ≤ bt392.1 then (if bt392.1 < (y389.length : Int) then (some (rd y389 bt392.1, bt392.2.1, bt392.2.2.1, bt392.2.2.2)) else (none)) else (none))))))) else (if t261 = 18 then ((spec_l01Src_n.f s0_0 t262 t263 t264 12).bind fun bt397 => ((some (([wrap64 (7936 + bt397.1), 7953, 7954] : List Int) : List Int)).bind fun y401 => ((spec_l01Src_n.f s0_0 bt397.2.1 bt397.2.2.1 bt397.2.2.2 3).bind fun bt404 => (if 0 ≤ bt404.1 then (if bt404.1 < (y401.length : Int) then (some (rd y401 bt404.1, bt404.2.1, bt404.2.2.1, bt404.2.2.2)) else (none)) else (none))))) else (if t261 = 19 then (spec_l01Src_point.j4 kj90 t261 (t261 == 19) s0_0 t262 t263 t264) else (spec_l01Src_point.j4 kj90 t261 (t261 == 20) s0_0 t262 t263 t264)))) = some (r1, r2, r3, r4) := by rw [if_neg (show ¬ (false = true) by decide)] at H; exact H
         clear H; have H := H1; clear H1
         by_cases c96 : t261 = 17
         ·exfalso
          have h_ := HV.out; rw [c96] at h_
          exact absurd h_ (by decide)
         rw [if_neg c96] at H; have c96b0 : (t261 == 17) = false := beq_eq_false_iff_ne.mpr c96; have c96b1 : (t261 != 17) = true := bne_iff_ne.mpr c96
         by_cases c110 : t261 = 18
         ·exfalso
          have h_ := HV.out; rw [c110] at h_
          exact absurd h_ (by decide)
         rw [if_neg c110] at H; have c110b0 : (t261 == 18) = false := beq_eq_false_iff_ne.mpr c110; have c110b1 : (t261 != 18) = true := bne_iff_ne.mpr c110; have HC120 := Aside0.mk H; clear H
         go_upto_if 142 with (fail)
         go_cut [142] (fun v142 wc => ∃ (kq : Nat) (x142_119 : Bool), v142 = .bool x142_119 ∧ Aside0 (spec_l01Src_point.j4 kq t261 x142_119 s0_0 t262 t263 t264 = some (r1, r2, r3, r4)) ∧ Aside0 (kq ≤ kj90) ∧ Aside0 (IsS95 w0 wc g s0_0 t262 t263 t264) ∧ Aside0 (KeepBut w wc g none) ∧ Aside0 (Below w0.heap.size w0 wc))
         case first =>
          have H := HC120.out; clear HC120
          by_cases c121 : t261 = 19
          ·exfalso
           have h_ := HV.out; rw [c121] at h_
           exact absurd h_ (by decide)
          rw [if_neg c121] at H; have c121b0 : (t261 == 19) = false := beq_eq_false_iff_ne.mpr c121; have c121b1 : (t261 != 19) = true := bne_iff_ne.mpr c121
          (first | rw [c121b0] | (simp only [i64_w, i32_w]; rw [c121b0]) | skip)
          have H' := Aside0.mk H; clear H
          go_wp2
          go_meet
          case rel => exact ⟨_, ((t261 == 20)), (by first | rfl | (simp; done) | (simp [*]; done)), H', ⟨by have := HJ2.out; have := HJ44.out; have := HJ56.out; have := HJ90.out; first | omega | exact Nat.le_refl _⟩, ⟨isA⟩, ⟨keepA⟩, ⟨belowI⟩⟩
         case rest =>
          clear HC120
          try clear c1; try clear c2; try clear p2; try clear q2; try clear hx2; try clear c3; try clear p3; try clear q3; try clear hx3; try clear c4; try clear p4; try clear q4; try clear hx4; try clear c5; try clear c5b0; try clear c5b1; try clear c6; try clear c6b0; try clear c6b1; try clear p6; try clear c7; try clear c8; try clear c9; try clear c10; try clear c10b0; try clear c10b1; try clear c11; try clear c12; try clear c13; try clear c13b0; try clear c13b1; try clear c14; try clear c15; try clear c15b0; try clear c16; try clear c16b0; try clear c21; try clear c21b0; try clear c21b1; try clear c27; try clear c27b0; try clear c28; try clear c28b0; try clear p28; try clear q28; try clear hx28; try clear p30; try clear q30; try clear hx30; try clear p31; try clear q31; try clear hx31; try clear p34; try clear q34; try clear hx34; try clear p36; try clear q36; try clear hx36; try clear c37; try clear c37b0; try clear c37b1; try clear c39; try clear c39b0; try clear p39; try clear q39; try clear hx39; try clear c40; try clear c40b0; try clear p40; try clear q40; try clear hx40; try clear c46; try clear c46b0; try clear c46b1; try clear c47; try clear c52; try clear c52b0; try clear c52b1; try clear c58; try clear c58b0; try clear c58b1; try clear c59; try clear c62; try clear c62b0; try clear c62b1; try clear p64; try clear c66; try clear c66b0; try clear c67; try clear c67b0; try clear c74; try clear c74b0; try clear c74b1; try clear c79; try clear c79b0; try clear c80; try clear c80b0; try clear c88; try clear c88b0; try clear c88b1; try clear c92; try clear c92b0; try clear c92b1; try clear c93; try clear c96; try clear c96b0; try clear c96b1; try clear c97; try clear c101; try clear c101b0; try clear c102; try clear c102b0; try clear c110; try clear c110b0; try clear c110b1; try clear c113; try clear c113b0; try clear c114; try clear c114b0; try clear c121; try clear c121b0; try clear c121b1; try clear hx280_0; try clear hx304_0; try clear hx312_0; try clear hx348_0; try clear hx368_0; try clear hx396_0; try clear hx408_0; try clear p2; try clear p28; try clear p280; try clear p3; try clear p30; try clear p304; try clear p31; try clear p312; try clear p34; try clear p348; try clear p36; try clear p368; try clear p396; try clear p408; try clear p6; try clear p64; try clear q2; try clear q28; try clear q280; try clear q3; try clear q30; try clear q304; try clear q31; try clear q312; try clear q34; try clear q348; try clear q36; try clear q368; try clear q396; try clear q408
          obtain ⟨kq, x142_119, rfl, HA, HJ119, HI0, HK, HB⟩ := hcut
          cases kq with
          | zero => exact absurd HA.out (by simp [spec_l01Src_point.j4])
          | succ kj119 =>
           have H := HA.out; clear HA; simp only [spec_l01Src_point.j4] at H
           by_cases c122 : x142_119 = true
           ·subst c122
            have H1 : ((spec_l01Src_n.f s0_0 t262 t263 t264 3).bind fun bt409 => ((spec_l01Src_n.f s0_0 bt409.2.1 bt409.2.2.1 bt409.2.2.2 416).bind fun bt413 => (some (wrap64 ((wrap64 (8192 + (wrap64 (512 * bt409.1)))) + bt413.1), bt413.2.1, bt413.2.2.1, bt413.2.2.2)))) = some (r1, r2, r3, r4) := by rw [if_pos rfl] at H; exact H
            clear H; have H := H1; clear H1; replace H := Option.bind_eq_some_iff.mp H; obtain ⟨⟨t409, t410, t411, t412⟩, A1230, H⟩ := H
            try dsimp only at H
            have A123 := Aside0.mk A1230; clear A1230; replace H := Option.bind_eq_some_iff.mp H; obtain ⟨⟨t413, t414, t415, t416⟩, A1240, H⟩ := H
            try dsimp only at H
            have A124 := Aside0.mk A1240; clear A1240; simp only [Option.some.injEq, Prod.mk.injEq] at H; obtain ⟨rfl, rfl, rfl, rfl⟩ := H
            go_wp2_with (first | ((with_reducible refine gate_callee (f := 97) rfl ?_); refine goesL_ (some 146) rfl rfl Tryd.func97 (by kernel_rfl) rfl #[.pointer (some ⟨g, 0, none⟩), .int .i64 3] rfl (by (try simp only [List.map_toArray, List.map_cons, List.map_nil]); first | done | rfl) ?_; refine (spec_l01Src_n.callsA g s0_0 t262 t263 t264 3 t409 t410 t411 t412 w0 _ _ A123.out).mono ?_; rintro e w125 ⟨rfl, hi, hb, hk⟩; refine ⟨_, rfl, ?_⟩; replace HI0 := hi; replace HB := hb; replace HK := hk; clear hi hb hk) | ((with_reducible refine gate_callee (f := 97) rfl ?_); refine goesL_ (some 150) rfl rfl Tryd.func97 (by kernel_rfl) rfl #[.pointer (some ⟨g, 0, none⟩), .int .i64 416] rfl (by (try simp only [List.map_toArray, List.map_cons, List.map_nil]); first | done | rfl) ?_; refine (spec_l01Src_n.callsA g s0_0 t410 t411 t412 416 t413 t414 t415 t416 w0 _ _ A124.out).mono ?_; rintro e w126 ⟨rfl, hi, hb, hk⟩; refine ⟨_, rfl, ?_⟩; replace HI0 := hi; replace HB := hb; replace HK := hk; clear hi hb hk))
            go_ret
            exact ⟨by first | rfl | (simp [errW_none, errW_some] <;> rfl) | (simp [*, errW_none, errW_some] <;> rfl), isA, belowI, keepA⟩
           replace c122 := Bool.eq_false_iff.mpr c122; subst c122
           have H1 : (if t261 = 21 then ((spec_l01Src_n.f s0_0 t262 t263 t264 26).bind fun bt417 => ((spec_l01Src_n.f s0_0 bt417.2.1 bt417.2.2.1 bt417.2.2.2 26).bind fun bt421 => ((spec_l01Src_n.f s0_0 bt421.2.1 bt421.2.2.1 bt421.2.2.2 4).bind fun bt425 => ((some (([wrap64 (9728 + bt417.1), wrap64 (9984 + bt421.1), wrap64 (10032 + bt425.1)] : List Int) : List Int)).bind fun y429 => ((spec_l01Src_n.f s0_0 bt425.2.1 bt425.2.2.1 bt425.2.2.2 3).bind fun bt432 => (if 0 ≤ bt432.1 then (if bt432.1 < (y429.length : Int) then (some (rd y429 bt432.1, bt432.2.1, bt432.2.2.1, bt432.2.2.2)) else (none)) else (none))))))) else (if t261 = 22 then ((spec_l01Src_n.f s0_0 t262 t263 t264 11172).bind fun bt437 => ((spec_l01Src_n.f s0_0 bt437.2.1 bt437.2.2.1 bt437.2.2.2 2048).bind fun bt441 => ((some (([wrap64 (12288 + bt437.1), wrap64 (24576 + bt441.1)] : List Int) : List Int)).bind fun y445 => ((spec_l01Src_n.f s0_0 bt441.2.1 bt441.2.2.1 bt441.2.2.2 2).bind fun bt448 => (if 0 ≤ bt448.1 then (if bt448.1 < (y445.length : Int) then (some (rd y445 bt448.1, bt448.2.1, bt448.2.2.1, bt448.2.2.2)) else (none)) else (none)))))) else ((spec_l01Src_n.f s0_0 t262 t263 t264 12288).bind fun bt453 => ((spec_l01Src_n.f s0_0 bt453.2.1 bt453.2.2.1 bt453.2.2.2 4096).bind fun bt457 => ((spec_l01Src_n.f s0_0 bt457.2.1 bt457.2.2.1 bt457.2.2.2 32768).bind fun bt461 => ((some (([65533, wrap64 (20480 + bt453.1), wrap64 (65536 + bt457.1), 1114111, 65535, bt461.1] : List Int) : List Int)).bind fun y465 => ((spec_l01Src_n.f s0_0 bt461.2.1 bt461.2.2.1 bt461.2.2.2 6).bind fun bt468 => (if 0 ≤ bt468.1 then (if bt468.1 < (y465.length : Int) then (some (rd y465 bt468.1, bt468.2.1, bt468.2.2.1, bt468.2.2.2)) else (none)) else (none))))))))) = some (r1, r2, r3, r4) := by rw [if_neg (show ¬ (false = true) by decide)] at H; exact H
           clear H; have H := H1; clear H1
           by_cases c127 : t261 = 21
           ·exfalso
            have h_ := HV.out; rw [c127] at h_
            exact absurd h_ (by decide)
           rw [if_neg c127] at H; have c127b0 : (t261 == 21) = false := beq_eq_false_iff_ne.mpr c127; have c127b1 : (t261 != 21) = true := bne_iff_ne.mpr c127
           by_cases c141 : t261 = 22
           ·exfalso
            have h_ := HV.out; rw [c141] at h_
            exact absurd h_ (by decide)
           rw [if_neg c141] at H; have c141b0 : (t261 == 22) = false := beq_eq_false_iff_ne.mpr c141; have c141b1 : (t261 != 22) = true := bne_iff_ne.mpr c141; replace H := Option.bind_eq_some_iff.mp H; obtain ⟨⟨t453, t454, t455, t456⟩, A1530, H⟩ := H
           try dsimp only at H
           have A153 := Aside0.mk A1530; clear A1530; replace H := Option.bind_eq_some_iff.mp H; obtain ⟨⟨t457, t458, t459, t460⟩, A1540, H⟩ := H
           try dsimp only at H
           have A154 := Aside0.mk A1540; clear A1540; replace H := Option.bind_eq_some_iff.mp H; obtain ⟨⟨t461, t462, t463, t464⟩, A1550, H⟩ := H
           try dsimp only at H
           have A155 := Aside0.mk A1550; clear A1550; obtain ⟨y465, hy465⟩ : ∃ y_ : List Int, y_ = (([65533, wrap64 (20480 + t453), wrap64 (65536 + t457), 1114111, 65535, t461] : List Int)) := ⟨_, rfl⟩
           replace H : ((spec_l01Src_n.f s0_0 t462 t463 t464 6).bind fun bt468 => (if 0 ≤ bt468.1 then (if bt468.1 < (y465.length : Int) then (some (rd y465 bt468.1, bt468.2.1, bt468.2.2.1, bt468.2.2.2)) else (none)) else (none))) = some (r1, r2, r3, r4) := by first | (rw [hy465]; with_reducible exact H) | (have H2_ := (Option.bind_some _ _).symm.trans H; rw [hy465]; with_reducible exact H2_) | (have H2_ := (Option.bind_some _ _).symm.trans H; with_reducible exact H2_) | with_reducible exact H | (rw [hy465]; exact H) | exact H
           have Ny465 := Aside0.mk hy465; clear hy465; replace H := Option.bind_eq_some_iff.mp H; obtain ⟨⟨t468, t469, t470, t471⟩, A1560, H⟩ := H
           try dsimp only at H
           have A156 := Aside0.mk A1560; clear A1560
           by_cases c157 : 0 ≤ t468
           ·rw [if_pos c157] at H
            have c157b0 : decide (0 ≤ t468) = true := decide_eq_true c157; clear c157
            by_cases c158 : t468 < (y465.length : Int)
            ·rw [if_pos c158] at H
             have c158b0 : decide (t468 < (y465.length : Int)) = true := decide_eq_true c158; clear c158; simp only [Option.some.injEq, Prod.mk.injEq] at H; obtain ⟨rfl, rfl, rfl, rfl⟩ := H
             go_wp2_with (first | ((with_reducible refine gate_callee (f := 97) rfl ?_); refine goesL_ (some 182) rfl rfl Tryd.func97 (by kernel_rfl) rfl #[.pointer (some ⟨g, 0, none⟩), .int .i64 12288] rfl (by (try simp only [List.map_toArray, List.map_cons, List.map_nil]); first | done | rfl) ?_; refine (spec_l01Src_n.callsA g s0_0 t262 t263 t264 12288 t453 t454 t455 t456 w0 _ _ A153.out).mono ?_; rintro e w159 ⟨rfl, hi, hb, hk⟩; refine ⟨_, rfl, ?_⟩; replace HI0 := hi; replace HB := hb; replace HK := hk; clear hi hb hk) | ((with_reducible refine gate_callee (f := 97) rfl ?_); refine goesL_ (some 185) rfl rfl Tryd.func97 (by kernel_rfl) rfl #[.pointer (some ⟨g, 0, none⟩), .int .i64 4096] rfl (by (try simp only [List.map_toArray, List.map_cons, List.map_nil]); first | done | rfl) ?_; refine (spec_l01Src_n.callsA g s0_0 t454 t455 t456 4096 t457 t458 t459 t460 w0 _ _ A154.out).mono ?_; rintro e w160 ⟨rfl, hi, hb, hk⟩; refine ⟨_, rfl, ?_⟩; replace HI0 := hi; replace HB := hb; replace HK := hk; clear hi hb hk) | ((with_reducible refine gate_callee (f := 97) rfl ?_); refine goesL_ (some 188) rfl rfl Tryd.func97 (by kernel_rfl) rfl #[.pointer (some ⟨g, 0, none⟩), .int .i64 32768] rfl (by (try simp only [List.map_toArray, List.map_cons, List.map_nil]); first | done | rfl) ?_; refine (spec_l01Src_n.callsA g s0_0 t458 t459 t460 32768 t461 t462 t463 t464 w0 _ _ A155.out).mono ?_; rintro e w161 ⟨rfl, hi, hb, hk⟩; refine ⟨_, rfl, ?_⟩; replace HI0 := hi; replace HB := hb; replace HK := hk; clear hi hb hk) | ((with_reducible refine gate_dst (N := 189) rfl ?_); refine Kd.R_lit (Kd.int .i64) _ 2 ?hg (N := 189) ?hd (xs := ([65533, wrap64 (20480 + t453), wrap64 (65536 + t457), 1114111, 65535, t461] : List Int)) (inner := [.int .i64 65533, .int .i64 (wrap64 (20480 + t453)), .int .i64 (wrap64 (65536 + t457)), .int .i64 1114111, .int .i64 65535, .int .i64 t461]) (ok := fun _ => True) (okp := fun _ => True) ?hr ?hp (fun _ hk => hk) trivial (Below.refl _ _) (Nat.le_refl _) (by simp) ?_; (case hd => rfl); (case hg => rfl); (case hr => first | (go_simp; done) | (go_simp; rfl)); (case hp => exact (Reps.one (show Kd.M (Kd.int .i64) _ _ _ 65533 [.int .i64 65533] from rfl) (Reps.one (show Kd.M (Kd.int .i64) _ _ _ (wrap64 (20480 + t453)) [.int .i64 (wrap64 (20480 + t453))] from rfl) (Reps.one (show Kd.M (Kd.int .i64) _ _ _ (wrap64 (65536 + t457)) [.int .i64 (wrap64 (65536 + t457))] from rfl) (Reps.one (show Kd.M (Kd.int .i64) _ _ _ 1114111 [.int .i64 1114111] from rfl) (Reps.one (show Kd.M (Kd.int .i64) _ _ _ 65535 [.int .i64 65535] from rfl) (Reps.one (show Kd.M (Kd.int .i64) _ _ _ t461 [.int .i64 t461] from rfl) (Reps.none _ _)))))))); intro v466 w162 ho163 hb hg_ hnew_; clear hg_ hnew_; (first | rw [← Ny465.out] at ho163 | (simp only [Int.reduceToNat] at ho163; rw [← Ny465.out] at ho163)); have n0_ := Aside0.mk (Kd.R_lower ho163 (keep_size (w := w) (g := g) (row := none) (keepA))); have n1_ := Aside0.mk (IsS95.below (isA) hb); have n2_ := Aside0.mk (KeepBut.trans (keepA) (KeepBut.of_below hb g none) (.inl rfl)); have n3_ := Aside0.mk (below_step (belowI) hb); clear HI0; clear HK; clear HB; have HO467 := n0_; have HI0 := n1_; have HK := n2_; have HB := n3_; clear n0_ n1_ n2_ n3_; clear hb ho163) | ((with_reducible refine gate_callee (f := 97) rfl ?_); refine goesL_ (some 191) rfl rfl Tryd.func97 (by kernel_rfl) rfl #[.pointer (some ⟨g, 0, none⟩), .int .i64 6] rfl (by (try simp only [List.map_toArray, List.map_cons, List.map_nil]); first | done | rfl) ?_; (with_reducible refine (spec_l01Src_n.calls g s0_0 t462 t463 t464 6 t468 t469 t470 t471 w0 _ ?side1 ?side2 A156.out).mono ?_); (case side1 => exact isA); (case side2 => exact belowI); rintro e w164 ⟨rfl, hi, hb, hk⟩; refine ⟨_, rfl, ?_⟩; have n0_ := Aside0.mk (Kd.R_mono (Kd.R_keep (IsS95.apart (show IsS95 w0 _ g s0_0 t462 t463 t464 from isA) (by (with_reducible repeat (first | apply Kd.R_alloc | apply Kd.R_drewN | apply Kd.R_drew)); exact HO467.out) (by decide)) hk (fun _ h => h.2)) (fun _ h => h.1)); have n1_ := Aside0.mk (KeepBut.trans (keepA) hk (.inl rfl)); have n2_ := Aside0.mk (hb); have n3_ := Aside0.mk (hi); clear HO467; clear HK; clear HB; clear HI0; have HO467 := n0_; have HK := n1_; have HB := n2_; have HI0 := n3_; clear n0_ n1_ n2_ n3_; (try clear hb); (try clear hb2); (try clear hk); (try clear hi); obtain ⟨Ao165, co165, eo165⟩ := Kd.R_slice HO467.out; subst eo165; have p472 : 0 ≤ (t468 : Int) := of_decide_eq_true (by first | (with_reducible assumption) | assumption); have q472 : t468 < (y465.length : Int) := of_decide_eq_true (by first | (with_reducible assumption) | assumption); obtain ⟨ad472, e472, hx472_0⟩ := Kd.at_int (Kd.R_reads' HO467.out).2.2 t468 p472 q472; cases e472; replace p472 := eq_true p472; replace q472 := eq_true q472))
             go_ret
             exact ⟨by first | rfl | (simp [errW_none, errW_some] <;> rfl) | (simp [*, errW_none, errW_some] <;> rfl), isA, belowI, keepA⟩
            rw [if_neg c158] at H
            exact absurd H (by simp)
           rw [if_neg c157] at H
           exact absurd H (by simp)

end Go.Proofs.YtdkoofdfkhogoaaDoor.QFnEquivalent
