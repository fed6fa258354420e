/- The law FnNormer: at every input the call answers true (this text: contracts on its way, by a program of this session's; no condition of ours). -/
import Derived.Test.YtiabgmddnddeiaaDoorQFnNormerx0
import Derived.Test.YtiabgmddnddeiaaDoorQFnNormerx1
import Derived.Test.YtiabgmddnddeiaaDoorQFnNormerx2
import Derived.Test.YtiabgmddnddeiaaDoorQFnNormerx8
import Derived.Test.YtiabgmddnddeiaaDoorQFnNormerx13
import Derived.Test.YtiabgmddnddeiaaDoorQFnNormerx14
import Derived.Test.YtiabgmddnddeiaaDoorQFnNormerx15
import Derived.Test.YtiabgmddnddeiaaDoorQFnNormerx17
import Derived.Test.YtiabgmddnddeiaaDoorQFnNormerx18
namespace Go.Proofs.YtiabgmddnddeiaaDoor.QFnNormer
open Go.RowKit Go.Proofs.YtiabgmddnddeiaaDoorW.PrintWords Go.Proofs.YtiabgmddnddeiaaDoorW.PrintLast Go.Proofs.YtiabgmddnddeiaaDoorW.PrintMore
attribute [local go_sem] max2_int min2_int max_two min_two max_three min_three max_four min_four   -- for this text's walks alone
set_option linter.unusedVariables false
set_option linter.unusedSimpArgs false

/-! ### laws_FnNormer: function 3 -/
mutual
def laws_FnNormer.j0 (d_ : Int × ByteArray) : Nat → List Int → List Int → Bool → Option (Bool)
  | 0, _, _, _ => none
  | k + 1, x0, x1, x22 => if x22 = true then (some true) else ((some d_).bind fun bt424 => ((W_spec_Normalize.f bt424.1 bt424.2).bind fun t426 => (if t426.toList = ([] : List UInt8) then (laws_FnNormer.j1 d_ k x1 bt424.1 bt424.2 t426 true) else (laws_FnNormer.j1 d_ k x1 bt424.1 bt424.2 t426 (decide ((bt424.2.size : Int) > 900))))))
def laws_FnNormer.j1 (d_ : Int × ByteArray) : Nat → List Int → Int → ByteArray → ByteArray → Bool → Option (Bool)
  | 0, _, _, _, _, _ => none
  | k + 1, x1, x5, x6, x7, x37 => if x37 = true then ((W_impl_Normalize.f x5 x6).bind fun t427 => (some (t427.toList == x7.toList))) else ((spec_PointsOf.f x6).bind fun t429 => (laws_FnNormer.l0 d_ k x1 x7 t429 (⟨#[]⟩ : ByteArray) 0 x5 (⟨#[]⟩ : ByteArray)))
def laws_FnNormer.l0 (d_ : Int × ByteArray) : Nat → List Int → ByteArray → List Int → ByteArray → Int → Int → ByteArray → Option (Bool)
  | 0, _, _, _, _, _, _, _ => none
  | k + 1, x1, x7, x9, x10, x11, x429000, x429001 => if (x9.length : Int) > 0 then ((laws_lwAt.f x1 x11 4).bind fun t437 => (if (wrap64 (1 + t437)) > (x9.length : Int) then (laws_FnNormer.j3 d_ k x1 x7 x9 x10 x11 (x9.length : Int) x429000 x429001) else (laws_FnNormer.j3 d_ k x1 x7 x9 x10 x11 (wrap64 (1 + t437)) x429000 x429001))) else ((impl_EndNormer.f x429000 x429001).bind fun bt432 => (if bt432.1 = 0 then (if bt432.2.2.1.toList = ([] : List UInt8) then (if x10.size + bt432.2.2.2.size ≤ 9223372036854775807 then (some ((x10 ++ bt432.2.2.2).toList == x7.toList)) else (none)) else (some false)) else (some false)))
def laws_FnNormer.j3 (d_ : Int × ByteArray) : Nat → List Int → ByteArray → List Int → ByteArray → Int → Int → Int → ByteArray → Option (Bool)
  | 0, _, _, _, _, _, _, _, _ => none
  | k + 1, x1, x7, x9, x10, x11, x12, x429000, x429001 => if 0 ≤ x12 then (if x12 ≤ (x9.length : Int) then ((spec_TextOf.f (x9.take (x12 : Int).toNat)).bind fun t442 => ((W_impl_FeedNormer.f x429000 x429001 t442).bind fun bt443 => (if bt443.1 = 8 then ((spec_TextOf.f (x9.take (x12 : Int).toNat)).bind fun t452 => ((W_spec_FeedNormer.f x429000 x429001 t452).bind fun bt453 => (laws_FnNormer.j4 d_ k x1 x7 x9 x10 x11 x12 (bt453.1 == 8) bt443.1 bt443.2.1 bt443.2.2.1 bt443.2.2.2))) else (laws_FnNormer.j4 d_ k x1 x7 x9 x10 x11 x12 false bt443.1 bt443.2.1 bt443.2.2.1 bt443.2.2.2)))) else (none)) else (none)
def laws_FnNormer.j4 (d_ : Int × ByteArray) : Nat → List Int → ByteArray → List Int → ByteArray → Int → Int → Bool → Int → Int → ByteArray → ByteArray → Option (Bool)
  | 0, _, _, _, _, _, _, _, _, _, _, _ => none
  | k + 1, x1, x7, x9, x10, x11, x12, x80, x448000, x448001, x448002, x448003 => if x80 = true then (some true) else (if x448000 = 0 then ((W_impl_NormerFault.f x448001 x448002).bind fun t457 => (if t457 = 0 then (if x10.size + x448003.size ≤ 9223372036854775807 then (if 0 ≤ x12 then (if x12 ≤ (x9.length : Int) then (laws_FnNormer.l0 d_ k x1 x7 (x9.drop (x12 : Int).toNat) (x10 ++ x448003) (wrap64 (x11 + 1)) x448001 x448002) else (none)) else (none)) else (none)) else (some false))) else (some false))
end
def laws_FnNormer.f (d_ : Int × ByteArray) (k : Nat) (l0 : List Int) (l1 : List Int) : Option (Bool) := if (l0.length : Int) > 1048576 then (laws_FnNormer.j0 d_ k l0 l1 true) else (laws_FnNormer.j0 d_ k l0 l1 (decide ((l1.length : Int) > 1048576)))
theorem laws_FnNormer.mono_l (d_ : Int × ByteArray) : ∀ k, (∀ y0 y1 y2, LeO (laws_FnNormer.j0 d_ k y0 y1 y2) (laws_FnNormer.j0 d_ (k + 1) y0 y1 y2)) ∧ (∀ y0 y1 y2 y3 y4, LeO (laws_FnNormer.j1 d_ k y0 y1 y2 y3 y4) (laws_FnNormer.j1 d_ (k + 1) y0 y1 y2 y3 y4)) ∧ (∀ y0 y1 y2 y3 y4 y5 y6, LeO (laws_FnNormer.l0 d_ k y0 y1 y2 y3 y4 y5 y6) (laws_FnNormer.l0 d_ (k + 1) y0 y1 y2 y3 y4 y5 y6)) ∧ (∀ y0 y1 y2 y3 y4 y5 y6 y7, LeO (laws_FnNormer.j3 d_ k y0 y1 y2 y3 y4 y5 y6 y7) (laws_FnNormer.j3 d_ (k + 1) y0 y1 y2 y3 y4 y5 y6 y7)) ∧ (∀ y0 y1 y2 y3 y4 y5 y6 y7 y8 y9 y10, LeO (laws_FnNormer.j4 d_ k y0 y1 y2 y3 y4 y5 y6 y7 y8 y9 y10) (laws_FnNormer.j4 d_ (k + 1) y0 y1 y2 y3 y4 y5 y6 y7 y8 y9 y10))
  | 0 => ⟨fun _ _ _ r h => by simp [laws_FnNormer.j0] at h, fun _ _ _ _ _ r h => by simp [laws_FnNormer.j1] at h, fun _ _ _ _ _ _ _ r h => by simp [laws_FnNormer.l0] at h, fun _ _ _ _ _ _ _ _ r h => by simp [laws_FnNormer.j3] at h, fun _ _ _ _ _ _ _ _ _ _ _ r h => by simp [laws_FnNormer.j4] at h⟩
  | k + 1 => by
    obtain ⟨ih0, ih1, ih2, ih3, ih4⟩ := laws_FnNormer.mono_l d_ k; refine ⟨?_, ?_, ?_, ?_, ?_⟩
    · intro y0 y1 y2
      unfold laws_FnNormer.j0
      repeat' first
      | (with_reducible exact ih0 _ _ _)
      | (with_reducible exact ih1 _ _ _ _ _)
      | (with_reducible exact ih2 _ _ _ _ _ _ _)
      | (with_reducible exact ih3 _ _ _ _ _ _ _ _)
      | (with_reducible exact ih4 _ _ _ _ _ _ _ _ _ _ _)
      | (with_reducible exact LeO.refl _)
      | (with_reducible exact LeO.none _)
      | (with_reducible refine LeO.ite ?_ ?_)
      | (with_reducible refine LeO.bind ?_ (fun _ => ?_))
      | exact ih0 _ _ _
      | exact ih1 _ _ _ _ _
      | exact ih2 _ _ _ _ _ _ _
      | exact ih3 _ _ _ _ _ _ _ _
      | exact ih4 _ _ _ _ _ _ _ _ _ _ _
      | exact LeO.none _
      | refine LeO.ite ?_ ?_
      | refine LeO.bind ?_ (fun _ => ?_)
    · intro y0 y1 y2 y3 y4
      unfold laws_FnNormer.j1
      repeat' first
      | (with_reducible exact ih0 _ _ _)
      | (with_reducible exact ih1 _ _ _ _ _)
      | (with_reducible exact ih2 _ _ _ _ _ _ _)
      | (with_reducible exact ih3 _ _ _ _ _ _ _ _)
      | (with_reducible exact ih4 _ _ _ _ _ _ _ _ _ _ _)
      | (with_reducible exact LeO.refl _)
      | (with_reducible exact LeO.none _)
      | (with_reducible refine LeO.ite ?_ ?_)
      | (with_reducible refine LeO.bind ?_ (fun _ => ?_))
      | exact ih0 _ _ _
      | exact ih1 _ _ _ _ _
      | exact ih2 _ _ _ _ _ _ _
      | exact ih3 _ _ _ _ _ _ _ _
      | exact ih4 _ _ _ _ _ _ _ _ _ _ _
      | exact LeO.none _
      | refine LeO.ite ?_ ?_
      | refine LeO.bind ?_ (fun _ => ?_)
    · intro y0 y1 y2 y3 y4 y5 y6
      unfold laws_FnNormer.l0
      repeat' first
      | (with_reducible exact ih0 _ _ _)
      | (with_reducible exact ih1 _ _ _ _ _)
      | (with_reducible exact ih2 _ _ _ _ _ _ _)
      | (with_reducible exact ih3 _ _ _ _ _ _ _ _)
      | (with_reducible exact ih4 _ _ _ _ _ _ _ _ _ _ _)
      | (with_reducible exact LeO.refl _)
      | (with_reducible exact LeO.none _)
      | (with_reducible refine LeO.ite ?_ ?_)
      | (with_reducible refine LeO.bind ?_ (fun _ => ?_))
      | exact ih0 _ _ _
      | exact ih1 _ _ _ _ _
      | exact ih2 _ _ _ _ _ _ _
      | exact ih3 _ _ _ _ _ _ _ _
      | exact ih4 _ _ _ _ _ _ _ _ _ _ _
      | exact LeO.none _
      | refine LeO.ite ?_ ?_
      | refine LeO.bind ?_ (fun _ => ?_)
    · intro y0 y1 y2 y3 y4 y5 y6 y7
      unfold laws_FnNormer.j3
      repeat' first
      | (with_reducible exact ih0 _ _ _)
      | (with_reducible exact ih1 _ _ _ _ _)
      | (with_reducible exact ih2 _ _ _ _ _ _ _)
      | (with_reducible exact ih3 _ _ _ _ _ _ _ _)
      | (with_reducible exact ih4 _ _ _ _ _ _ _ _ _ _ _)
      | (with_reducible exact LeO.refl _)
      | (with_reducible exact LeO.none _)
      | (with_reducible refine LeO.ite ?_ ?_)
      | (with_reducible refine LeO.bind ?_ (fun _ => ?_))
      | exact ih0 _ _ _
      | exact ih1 _ _ _ _ _
      | exact ih2 _ _ _ _ _ _ _
      | exact ih3 _ _ _ _ _ _ _ _
      | exact ih4 _ _ _ _ _ _ _ _ _ _ _
      | exact LeO.none _
      | refine LeO.ite ?_ ?_
      | refine LeO.bind ?_ (fun _ => ?_)
    intro y0 y1 y2 y3 y4 y5 y6 y7 y8 y9 y10
    unfold laws_FnNormer.j4
    repeat' first
    | (with_reducible exact ih0 _ _ _)
    | (with_reducible exact ih1 _ _ _ _ _)
    | (with_reducible exact ih2 _ _ _ _ _ _ _)
    | (with_reducible exact ih3 _ _ _ _ _ _ _ _)
    | (with_reducible exact ih4 _ _ _ _ _ _ _ _ _ _ _)
    | (with_reducible exact LeO.refl _)
    | (with_reducible exact LeO.none _)
    | (with_reducible refine LeO.ite ?_ ?_)
    | (with_reducible refine LeO.bind ?_ (fun _ => ?_))
    | exact ih0 _ _ _
    | exact ih1 _ _ _ _ _
    | exact ih2 _ _ _ _ _ _ _
    | exact ih3 _ _ _ _ _ _ _ _
    | exact ih4 _ _ _ _ _ _ _ _ _ _ _
    | exact LeO.none _
    | refine LeO.ite ?_ ?_
    | refine LeO.bind ?_ (fun _ => ?_)
theorem laws_FnNormer.mono (d_ : Int × ByteArray) : ∀ a0 a1 k, LeO (laws_FnNormer.f d_ k a0 a1) (laws_FnNormer.f d_ (k + 1) a0 a1) := by
  intro a0 a1 k; obtain ⟨ih0, ih1, ih2, ih3, ih4⟩ := laws_FnNormer.mono_l d_ k
  unfold laws_FnNormer.f
  repeat' first
      | (with_reducible exact ih0 _ _ _)
      | (with_reducible exact ih1 _ _ _ _ _)
      | (with_reducible exact ih2 _ _ _ _ _ _ _)
      | (with_reducible exact ih3 _ _ _ _ _ _ _ _)
      | (with_reducible exact ih4 _ _ _ _ _ _ _ _ _ _ _)
      | (with_reducible exact LeO.refl _)
      | (with_reducible exact LeO.none _)
      | (with_reducible refine LeO.ite ?_ ?_)
      | (with_reducible refine LeO.bind ?_ (fun _ => ?_))
      | exact ih0 _ _ _
      | exact ih1 _ _ _ _ _
      | exact ih2 _ _ _ _ _ _ _
      | exact ih3 _ _ _ _ _ _ _ _
      | exact ih4 _ _ _ _ _ _ _ _ _ _ _
      | exact LeO.none _
      | refine LeO.ite ?_ ?_
      | refine LeO.bind ?_ (fun _ => ?_)
def laws_FnNormer.T16 : Bool × List (List Nat × List Nat) := (true, [([], []), ([], []), ([], []), ([1, 2], [1, 2]), ([3], [3]), ([0, 4, 4], [0, 4]), ([], []), ([6, 5, 5, 0, 1, 2, 3, 4, 5, 6], [5, 6])])
def laws_FnNormer.B16 : List Nat := [0, 0, 0, 6, 14, 31, 0, 127]
theorem laws_FnNormer.tab16 : rtab .any (opsOf Tryd.f3 16) = laws_FnNormer.T16 := by kernel_rfl
theorem laws_FnNormer.bits16 : waitsOk laws_FnNormer.T16.2 laws_FnNormer.B16 = true := by kernel_rfl
def laws_FnNormer.T17 : Bool × List (List Nat × List Nat) := (true, [([], []), ([0], [0]), ([1], [1]), ([2], [2]), ([3], [3]), ([3], [3]), ([3], [3]), ([5, 6, 3], [3, 5, 6]), ([7, 3, 3], [3, 7]), ([4, 8, 8, 3], [3, 4, 8]), ([9, 3], [3, 9]), ([10, 3], [3, 10]), ([3, 11], [3, 11])])
def laws_FnNormer.B17 : List Nat := [0, 1, 3, 7, 15, 15, 15, 111, 239, 511, 1023, 2047, 4095]
theorem laws_FnNormer.tab17 : rtab .any (opsOf Tryd.f3 17) = laws_FnNormer.T17 := by kernel_rfl
theorem laws_FnNormer.bits17 : waitsOk laws_FnNormer.T17.2 laws_FnNormer.B17 = true := by kernel_rfl
set_option maxHeartbeats 8000000 in
set_option maxRecDepth 100000 in
theorem laws_FnNormer.calls (A0 : Option Addr) (c0 : Nat) (l0 : List Int) (A1 : Option Addr) (c1 : Nat) (l1 : List Int) (r : Bool) (w : World) (hr0 : Kd.C (Kd.int .u8) w A0 l0.length l0) (hc0 : l0.length ≤ c0) (hr1 : Kd.C (Kd.int .u8) w A1 l1.length l1) (hc1 : l1.length ≤ c1) (h : ∀ d_ : Int × ByteArray, (fun d_ => d_.2.size ≤ 100000) d_ → ∃ k, laws_FnNormer.f d_ k l0 l1 = some r) (hG : GT w) :
    Calls Tryd.prog 3 #[.slice A0 l0.length c0, .slice A1 l1.length c1] w fun e w' => e = .returned (.bool r) ∧ Below w.heap.size w w' := by
  have HG := Aside0.mk hG; clear hG; have hu27 := Tryd.underlying27; have hu32 := Tryd.underlying32; have HR0 := Aside0.mk hr0; have HC0 := Aside0.mk hc0; clear hr0 hc0; have HR1 := Aside0.mk hr1; have HC1 := Aside0.mk hc1; clear hr1 hc1; have HB := Aside0.mk (Below.refl w.heap.size w); have HP := Aside0.mk h; clear h
  have hT : ((l0.length : Int) > 1048576 ∨ (l1.length : Int) > 1048576) → r = true := by
   intro hc
   obtain ⟨k, H⟩ := HP.out (0, (⟨#[]⟩ : ByteArray)) (by decide)
   unfold laws_FnNormer.f at H
   have H2 : laws_FnNormer.j0 (0, (⟨#[]⟩ : ByteArray)) k l0 l1 true = some r := by
    by_cases c : (l0.length : Int) > 1048576
    · rw [if_pos c] at H; exact H
    rw [if_neg c, decide_eq_true (hc.resolve_left c)] at H; exact H
   cases k with
   | zero => exact absurd H2 (by simp [laws_FnNormer.j0])
   | succ k => rw [laws_FnNormer.j0, if_pos rfl] at H2; exact (Option.some.inj H2).symm
  by_cases e0 : (l0.length : Int) > 1048576
  ·obtain rfl := hT (.inl e0)
   have e0a : decide (1048576 < (l0.length : Int)) = true := decide_eq_true e0
   have e0b : decide (1048576 < l0.length) = true := decide_eq_true (by omega)
   clear e0 hT
   go_enter Tryd.func3, Tryd.ntmps3
   go_wp2
   go_ret
   exact ⟨rfl, by repeat (first | exact HB.out | apply pw_below_drewN | apply below_alloc)⟩
  by_cases e1 : (l1.length : Int) > 1048576
  ·obtain rfl := hT (.inr e1)
   have e0a : decide (1048576 < (l0.length : Int)) = false := decide_eq_false e0
   have e0b : decide (1048576 < l0.length) = false := decide_eq_false (by omega)
   have e1a : decide (1048576 < (l1.length : Int)) = true := decide_eq_true e1
   have e1b : decide (1048576 < l1.length) = true := decide_eq_true (by omega)
   clear e1; clear e0 hT
   go_enter Tryd.func3, Tryd.ntmps3
   go_wp2
   go_ret
   exact ⟨rfl, by repeat (first | exact HB.out | apply pw_below_drewN | apply below_alloc)⟩
  have e0a : decide (1048576 < (l0.length : Int)) = false := decide_eq_false e0
  have e0b : decide (1048576 < l0.length) = false := decide_eq_false (by omega)
  have e1a : decide (1048576 < (l1.length : Int)) = false := decide_eq_false e1
  have e1b : decide (1048576 < l1.length) = false := decide_eq_false (by omega)
  have HC2 := Aside0.mk e0; have HC1n := Aside0.mk e1; clear e0 e1 hT
  go_enter Tryd.func3, Tryd.ntmps3
  go_wp2_with fail
  refine (spec_DrawNormalize.loose _ _ l0 _ HR0.out HC0.out (by have := HC2.out; omega)).mono ?_
  rintro e w9 ⟨t424, t425, hgood_, rfl, hb⟩; have HB := Aside0.mk hb; clear hb; obtain ⟨k, H⟩ := HP.out (t424, t425) hgood_; clear HP hgood_
  unfold laws_FnNormer.f at H
  rw [if_neg (show ¬ ((l0.length : Int) > 1048576) by have := HC2.out; omega), decide_eq_false (show ¬ ((l1.length : Int) > 1048576) by have := HC1n.out; omega)] at H
  cases k with
  | zero => exact absurd H (by simp [laws_FnNormer.j0])
  | succ kj2 =>
        rw [laws_FnNormer.j0, if_neg (by decide)] at H
        have HJ2 := Aside0.mk (Nat.le_refl kj2); replace H := (Option.bind_some _ _).symm.trans H
        try dsimp only at H
        replace H := Option.bind_eq_some_iff.mp H; obtain ⟨t426, A70, H⟩ := H
        try dsimp only at H
        have A7 := Aside0.mk A70; clear A70; have HC8 := Aside0.mk H; clear H
        go_upto_region 5 with (first | (go_at_call 15; (with_reducible refine (W_spec_Normalize.calls t424 t425 t426 _ A7.out).mono ?_); rintro e w10 ⟨rfl, hb⟩; replace HB := Aside0.mk (below_step (belowA) hb);  clear hb))
        (try simp only [Act.put, List.setIfInBounds_toArray, List.set_cons_zero, List.set_cons_succ])
        go_cut [37] (fun v37 wc => ∃ (kq : Nat) (x37_7 : Bool), v37 = .bool x37_7 ∧ Aside0 (laws_FnNormer.j1 (t424, t425) kq l1 t424 t425 t426 x37_7 = some r) ∧ Aside0 (kq ≤ kj2) ∧ Aside0 (Below w.heap.size w wc))
        case first =>
          have H := HC8.out; clear HC8
          by_cases c11 : t426.toList = ([] : List UInt8)
          · rw [if_pos c11] at H
            have c11b0 : (t426.toList == ([] : List UInt8)) = true := beq_iff_eq.mpr c11; have c11b1 : (t426.toList != ([] : List UInt8)) = false := bne_eq_false_iff_eq.mpr c11; clear c11
            (first | rw [c11b0] | (simp only [i64_w, i32_w]; rw [c11b0]) | skip)
            have H' := Aside0.mk H; clear H
            go_wp2
            go_meet
            case rel => exact ⟨_, (true), (by first | rfl | (simp; done) | (simp [*]; done)), H', ⟨by have := HJ2.out; first | omega | exact Nat.le_refl _⟩, ⟨belowA⟩⟩
          rw [if_neg c11] at H; have c11b0 : (t426.toList == ([] : List UInt8)) = false := beq_eq_false_iff_ne.mpr c11; have c11b1 : (t426.toList != ([] : List UInt8)) = true := bne_iff_ne.mpr c11
          (first | rw [c11b0] | (simp only [i64_w, i32_w]; rw [c11b0]) | skip)
          have H' := Aside0.mk H; clear H
          go_wp2
          go_meet
          case rel => exact ⟨_, (decide ((t425.size : Int) > 900)), (by first | rfl | (simp; done) | (simp [*]; done)), H', ⟨by have := HJ2.out; first | omega | exact Nat.le_refl _⟩, ⟨belowA⟩⟩
        case rest =>
          clear HC8
          try clear c1; try clear p2; try clear c3; try clear c4; try clear c4b0; try clear c4b1; try clear c5; try clear c11; try clear c11b0; try clear c11b1; try clear p2
          obtain ⟨kq, x37_7, rfl, HA, HJ7, HB⟩ := hcut
          cases kq with
          | zero => exact absurd HA.out (by simp [laws_FnNormer.j1])
          | succ kj7 =>
            have H := HA.out; clear HA; simp only [laws_FnNormer.j1] at H
            by_cases c12 : x37_7 = true
            · subst c12
              have H1 : ((W_impl_Normalize.f t424 t425).bind fun t427 => (some (t427.toList == t426.toList))) = some r := by rw [if_pos rfl] at H; exact H
              clear H; have H := H1; clear H1; replace H := Option.bind_eq_some_iff.mp H; obtain ⟨t427, A130, H⟩ := H
              try dsimp only at H
              have A13 := Aside0.mk A130; clear A130; obtain rfl := Option.some.inj H
              go_wp2_with (first | (go_at_call 16; (with_reducible refine (W_impl_Normalize.calls t424 t425 t427 _ A13.out gtA).mono ?_); rintro e w14 ⟨rfl, hb⟩; replace HB := Aside0.mk (below_step (belowA) hb);  clear hb))
              go_ret
              exact ⟨by first | rfl | (simp [errW_none, errW_some] <;> rfl) | (simp [*, errW_none, errW_some] <;> rfl), belowA⟩
            replace c12 := Bool.eq_false_iff.mpr c12; subst c12
            have H1 : ((spec_PointsOf.f t425).bind fun t429 => (laws_FnNormer.l0 (t424, t425) kj7 l1 t426 t429 (⟨#[]⟩ : ByteArray) 0 t424 (⟨#[]⟩ : ByteArray))) = some r := by rw [if_neg (show ¬ (false = true) by decide)] at H; exact H
            clear H; have H := H1; clear H1; replace H := Option.bind_eq_some_iff.mp H; obtain ⟨t429, A150, H⟩ := H
            try dsimp only at H
            have A15 := Aside0.mk A150; clear A150; have H' := Aside0.mk H; clear H
            go_wp2_with (first | ((with_reducible refine gate_dst (N := 8) rfl ?_); (try (refine gate_guard (by rfl) ?_; dsimp only)); refine box_event ?hg (N := 8) ?hd (cs := #[.int .i64 0, .string (⟨#[]⟩ : ByteArray)]) (t := 27) ?hr ?_; (case hd => rfl); (case hg => rfl); (case hr => first | (go_simp; done) | (go_simp; rfl)); intro gb428 hg w16 hbox hb; have n0_ := Aside0.mk (below_step (belowA) hb); have n1_ := Aside0.mk (hbox); have n2_ := Aside0.mk ((by rw [hg]; exact (below_size (belowA)) : w.heap.size ≤ gb428)); have n3_ := Aside0.mk ((by rw [hg]; exact (below_size (belowA)) : w.heap.size ≤ gb428)); replace HB := n0_; have BK428 := n1_; have GW428 := n2_; have GE428 := n3_; clear n0_ n1_ n2_ n3_; clear hb hbox hg; have hcz17_0 : w16.cell? ⟨gb428, 0, none⟩ = some (.int .i64 0) := (blk_cell BK428.out 0).trans rfl; have hcz17_1 : w16.cell? ⟨gb428, 1, none⟩ = some (.string (⟨#[]⟩ : ByteArray)) := (blk_cell BK428.out 1).trans rfl; have hfz17_0 := blk_frozen BK428.out 0; have hfz17_1 := blk_frozen BK428.out 1) | (go_at_call 17; (with_reducible refine (spec_PointsOf.calls t425 t429 _ A15.out).mono ?_); rintro e w18 ⟨v430, rfl, ho0, hb⟩; have n0_ := Aside0.mk (Kd.R_lower ho0 (below_size (belowG))); have n1_ := Aside0.mk (blk_below (g := gb428) (o := .cells #[.int .i64 t424, .string (⟨#[]⟩ : ByteArray)] 27 (0, 0)) (by (with_reducible repeat (first | refine blk_drewN ?_ _ | refine blk_drew ?_ | refine blk_alloc ?_ _)); refine blk_put (cs := #[.int .i64 t424, .string (⟨#[]⟩ : ByteArray)]) ?_ 1 _ rfl; (with_reducible repeat (first | refine blk_drewN ?_ _ | refine blk_drew ?_ | refine blk_alloc ?_ _)); refine blk_put (cs := #[.int .i64 0, .string (⟨#[]⟩ : ByteArray)]) ?_ 0 _ rfl; (with_reducible repeat (first | refine blk_drewN ?_ _ | refine blk_drew ?_ | refine blk_alloc ?_ _)); exact BK428.out) hb); have n2_ := Aside0.mk (below_step (belowG) hb); have HO431 := n0_; replace BK428 := n1_; replace HB := n2_; clear n0_ n1_ n2_; clear hb; (try clear ho0)))
            go_loopg [9, 10, 11] kj7 (fun kq v9 v10 v11 w' => ∃ (x9_3 : List Int) (x10_3 : ByteArray) (x11_3 : Int) (x429000_3 : Int) (x429001_3 : ByteArray), v10 = .string x10_3 ∧ v11 = .int .i64 x11_3 ∧ Aside0 (laws_FnNormer.l0 (t424, t425) kq l1 t426 x9_3 x10_3 x11_3 x429000_3 x429001_3 = some r) ∧ Aside0 (kq ≤ kj7) ∧ Aside0 (Kd.Q (Kd.int .i64) 2 w' w.heap.size (fun _ => True) v9 x9_3) ∧ Aside0 (w'.heap[gb428]? = some (.cells #[.int .i64 x429000_3, .string x429001_3] 27 (0, 0))) ∧ Aside0 (Below w.heap.size w w'))
            case atStart => exact ⟨(t429), ((⟨#[]⟩ : ByteArray)), (0), (t424), ((⟨#[]⟩ : ByteArray)), (by first | rfl | (simp; done) | (simp [*]; done)), (by first | rfl | (simp; done) | (simp [*]; done)), H', ⟨Nat.le_refl _⟩, ⟨Kd.Q_of_R (by (with_reducible repeat (first | apply Kd.R_alloc | apply Kd.R_drewN | apply Kd.R_drew)); exact HO431.out)⟩, ⟨by (with_reducible repeat (first | refine blk_drewN ?_ _ | refine blk_drew ?_ | refine blk_alloc ?_ _)); exact BK428.out⟩, ⟨belowG⟩⟩
            case round =>
              clear H'
              try clear c1; try clear p2; try clear c3; try clear c4; try clear c4b0; try clear c4b1; try clear c5; try clear c11; try clear c11b0; try clear c11b1; try clear c12; try clear c14; try clear c15; try clear c16; try clear c17; try clear hcz17_0; try clear hcz17_1; try clear hfz17_0; try clear hfz17_1; try clear p2
              obtain ⟨x9_3, x10_3, x11_3, x429000_3, x429001_3, rfl, rfl, HA, HK3, HO_9, BK428, HB⟩ := hrel
              cases gk with
              | zero => exact absurd HA.out (by simp [laws_FnNormer.l0])
              | succ k3 =>
                have H := HA.out; clear HA; simp only [laws_FnNormer.l0] at H
                by_cases c19 : (x9_3.length : Int) > 0
                · rw [if_pos c19] at H
                  have c19b0 : decide (0 < (x9_3.length : Int)) = true := decide_eq_true c19
                  have c19b1 : decide (0 < x9_3.length) = true := decide_eq_true (by omega)
                  clear c19; replace H := Option.bind_eq_some_iff.mp H; obtain ⟨t437, A200, H⟩ := H
                  try dsimp only at H
                  have A20 := Aside0.mk A200; clear A200; have HC21 := Aside0.mk H; clear H; obtain ⟨Ao22, co22, eo22, _⟩ := Kd.Q_slice HO_9.out; subst eo22
                  go_upto_if 59 with (first | (go_at_call 18; (with_reducible refine (laws_lwAt.calls _ _ l1 x11_3 4 t437 _ ?side1 ?side2 A20.out).mono ?_); (case side1 => repeat (first | exact (Kd.C_below HR1.out HB.out) | (with_reducible refine Kd.C_alloc ?_ _) | (with_reducible refine Kd.C_drewN ?_ _) | (with_reducible refine Kd.C_drew ?_))); (case side2 => exact HC1.out); rintro e w' ⟨rfl, ⟨nd, rfl⟩⟩))
                  (try simp only [Act.put, List.setIfInBounds_toArray, List.set_cons_zero, List.set_cons_succ])
                  go_cut [12] (fun v12 wc => ∃ (kq : Nat) (x12_20 : Int), v12 = .int .i64 x12_20 ∧ Aside0 (laws_FnNormer.j3 (t424, t425) kq l1 t426 x9_3 x10_3 x11_3 x12_20 x429000_3 x429001_3 = some r) ∧ Aside0 (kq ≤ k3) ∧ Aside0 (Kd.Q (Kd.int .i64) 2 wc w.heap.size (fun _ => True) (.slice Ao22 x9_3.length co22) x9_3) ∧ Aside0 (wc.heap[gb428]? = some (.cells #[.int .i64 x429000_3, .string x429001_3] 27 (0, 0))) ∧ Aside0 (Below w.heap.size w wc))
                  case first =>
                    have H := HC21.out; clear HC21
                    by_cases c23 : (wrap64 (1 + t437)) > (x9_3.length : Int)
                    · rw [if_pos c23] at H
                      have c23b0 : decide ((x9_3.length : Int) < (wrap64 (1 + t437))) = true := decide_eq_true c23; clear c23
                      (first | rw [c23b0] | (simp only [i64_w, i32_w]; rw [c23b0]) | skip)
                      have H' := Aside0.mk H; clear H
                      go_wp2
                      go_meet
                      case rel => exact ⟨_, ((x9_3.length : Int)), (by first | rfl | (simp; done) | (simp [*]; done)), H', ⟨by have := HJ2.out; have := HJ7.out; have := HK3.out; first | omega | exact Nat.le_refl _⟩, ⟨by (with_reducible repeat (first | apply Kd.Q_alloc | apply Kd.Q_drewN | apply Kd.Q_drew)); exact HO_9.out⟩, ⟨by (with_reducible repeat (first | refine blk_drewN ?_ _ | refine blk_drew ?_ | refine blk_alloc ?_ _)); exact BK428.out⟩, ⟨belowG⟩⟩
                    rw [if_neg c23] at H; have c23b0 : decide ((x9_3.length : Int) < (wrap64 (1 + t437))) = false := decide_eq_false c23; clear c23
                    (first | rw [c23b0] | (simp only [i64_w, i32_w]; rw [c23b0]) | skip)
                    have H' := Aside0.mk H; clear H
                    go_wp2
                    go_meet
                    case rel => exact ⟨_, (wrap64 (1 + t437)), (by first | rfl | (simp; done) | (simp [*]; done)), H', ⟨by have := HJ2.out; have := HJ7.out; have := HK3.out; first | omega | exact Nat.le_refl _⟩, ⟨by (with_reducible repeat (first | apply Kd.Q_alloc | apply Kd.Q_drewN | apply Kd.Q_drew)); exact HO_9.out⟩, ⟨by (with_reducible repeat (first | refine blk_drewN ?_ _ | refine blk_drew ?_ | refine blk_alloc ?_ _)); exact BK428.out⟩, ⟨belowG⟩⟩
                  case rest =>
                    clear HC21
                    try clear c1; try clear c2; try clear p2; try clear c3; try clear c4; try clear c4b0; try clear c4b1; try clear c5; try clear p6; try clear c11; try clear c11b0; try clear c11b1; try clear c12; try clear c14; try clear c15; try clear c16; try clear c17; try clear c18; try clear c19; try clear c19b0; try clear c19b1; try clear c23; try clear c23b0; try clear hcz17_0; try clear hcz17_1; try clear hfz17_0; try clear hfz17_1; try clear p2
                    obtain ⟨kq, x12_20, rfl, HA, HJ20, HO_9, BK428, HB⟩ := hcut
                    cases kq with
                    | zero => exact absurd HA.out (by simp [laws_FnNormer.j3])
                    | succ kj20 =>
                      have H := HA.out; clear HA; simp only [laws_FnNormer.j3] at H
                      by_cases c24 : 0 ≤ x12_20
                      · rw [if_pos c24] at H
                        have c24b0 := eq_true c24; have c24b1 : decide (0 ≤ x12_20) = true := decide_eq_true c24; clear c24
                        by_cases c25 : x12_20 ≤ (x9_3.length : Int)
                        · rw [if_pos c25] at H
                          have c25b0 := eq_true c25; have c25b1 : decide (x12_20 ≤ (x9_3.length : Int)) = true := decide_eq_true c25; clear c25; obtain ⟨y438, hy438⟩ : ∃ y_ : List Int, y_ = (x9_3.take (x12_20 : Int).toNat) := ⟨_, rfl⟩
                          replace H : ((spec_TextOf.f y438).bind fun t442 => ((W_impl_FeedNormer.f x429000_3 x429001_3 t442).bind fun bt443 => (if bt443.1 = 8 then ((spec_TextOf.f (x9_3.take (x12_20 : Int).toNat)).bind fun t452 => ((W_spec_FeedNormer.f x429000_3 x429001_3 t452).bind fun bt453 => (laws_FnNormer.j4 (t424, t425) kj20 l1 t426 x9_3 x10_3 x11_3 x12_20 (bt453.1 == 8) bt443.1 bt443.2.1 bt443.2.2.1 bt443.2.2.2))) else (laws_FnNormer.j4 (t424, t425) kj20 l1 t426 x9_3 x10_3 x11_3 x12_20 false bt443.1 bt443.2.1 bt443.2.2.1 bt443.2.2.2)))) = some r := by first | (rw [hy438]; with_reducible exact H) | (have H2_ := (Option.bind_some _ _).symm.trans H; rw [hy438]; with_reducible exact H2_) | (have H2_ := (Option.bind_some _ _).symm.trans H; with_reducible exact H2_) | with_reducible exact H | (rw [hy438]; exact H) | exact H
                          have Ny438 := Aside0.mk hy438; clear hy438; replace H := Option.bind_eq_some_iff.mp H; obtain ⟨t442, A260, H⟩ := H
                          try dsimp only at H
                          have A26 := Aside0.mk A260; clear A260; replace H := Option.bind_eq_some_iff.mp H; obtain ⟨⟨t443, t444, t445, t446⟩, A270, H⟩ := H
                          try dsimp only at H
                          have A27 := Aside0.mk A270; clear A270; have HC28 := Aside0.mk H; clear H
                          try go_wp2
                          have n0_ := Aside0.mk (Kd.Q_drew HO_9.out); have n1_ := Aside0.mk (blk_drew BK428.out); have n2_ := Aside0.mk (below_drew1 HB.out); clear HO_9; clear BK428; clear HB; have HO_9 := n0_; have BK428 := n1_; have HB := n2_; clear n0_ n1_ n2_; have q30 : (x12_20 : Int) ≤ ((x9_3.length : Int) : Int) := ode; obtain ⟨i030, hi030, _, hsz30, _⟩ := info_parts info2; have hroom30 : x9_3.length ≤ co22 := (Kd.Q_reads' HO_9.out).2.1; have hC30 : Kd.C (Kd.int .i64) _ Ao22 x9_3.length x9_3 := (Kd.Q_reads' HO_9.out).2.2; have hcut30 := cut_to (P := Tryd.prog) 28 2 .i64 Tryd.underlying28 hi030 Ao22 x9_3.length co22 x12_20 (ode) q30 hroom30
                          have hr30 := Kd.C_take (m := (x12_20 : Int).toNat) hC30 (by omega)
                          have hy30 : y438.length = (x12_20 : Int).toNat := (by rw [Ny438.out, List.length_take]; omega)
                          rw [← Ny438.out] at hr30; rw [← hy30] at hcut30; have HR441 := Aside0.mk hr30
                          have HC441 := Aside0.mk (show y438.length ≤ co22 from by omega)
                          clear hr30 hC30 hroom30 hi030 hsz30; have KY30 := Aside0.mk hy30; clear hy30
                          have KL30 := Aside0.mk (show (x12_20 : Int).toNat ≤ x9_3.length from by omega)
                          replace q30 := eq_true q30
                          refine start_ (n := 8) (S := fun w' => w'.cell? ⟨gb428, 0, none⟩ = some (.int .i64 x429000_3) ∧ w'.cell? ⟨gb428, 1, none⟩ = some (.string x429001_3)) (ds := []) #[false,false,false,false,false,false,false,false] (by kernel_rfl) rfl rfl ⟨(blk_cell BK428.out 0).trans rfl, (blk_cell BK428.out 1).trans rfl⟩ (fun hHeld => ?_); refine with_tabW laws_FnNormer.tab16 laws_FnNormer.bits16 (fun HT_ HW_ => ?_)
                          generalize wc.drew = w29 at HO_9 BK428 HB HR441 hHeld ⊢
                          refine pure_ (i := 1) (N := some 63) (v := ?_) (a' := ?_) #[false,true,false,false,false,false,false,false] rfl rfl (any_of HT_.out (by kernel_rfl)) (fun _ _ _ h => h) (Or.inl ⟨by rfl, ?_⟩) ?_ ?_
                          rotate_left
                          · intro w'
                            go_simp; with_reducible rfl
                          rotate_left
                          · simp only [Act.put, List.setIfInBounds_toArray, List.set_cons_zero, List.set_cons_succ, i64_w, i32_w]
                            rfl
                          refine pure_ (i := 2) (N := some 64) (v := ?_) (a' := ?_) #[false,true,true,false,false,false,false,false] rfl rfl (any_of HT_.out (by kernel_rfl)) (fun _ _ _ h => h) (Or.inl ⟨by rfl, ?_⟩) ?_ ?_
                          rotate_left
                          · intro w'
                            go_simp; with_reducible rfl
                          rotate_left
                          · simp only [Act.put, List.setIfInBounds_toArray, List.set_cons_zero, List.set_cons_succ, i64_w, i32_w]
                            rfl
                          refine pure_ (i := 3) (N := some 65) (v := ?_) (a' := ?_) #[false,true,true,true,false,false,false,false] rfl rfl (any_of HT_.out (by kernel_rfl)) (fun _ _ _ h => h) (Or.inl ⟨by rfl, ?_⟩) ?_ ?_
                          rotate_left
                          · intro w'
                            go_simp; with_reducible rfl
                          rotate_left
                          · simp only [Act.put, List.setIfInBounds_toArray, List.set_cons_zero, List.set_cons_succ, i64_w, i32_w]
                            rfl
                          refine take_ (i := 0) (N := some 62) (v := ?_) (a' := ?_) #[true,true,true,true,false,false,false,false] rfl rfl (take_ofW HT_.out HW_.out (by kernel_rfl)) (fun _ _ _ h => h) (Or.inl ⟨by rfl, ?_⟩) hHeld ?_ ?_
                          rotate_left
                          · rintro w' ⟨s0, s1⟩
                            go_simp; with_reducible rfl
                          rotate_left
                          · simp only [Act.put, List.setIfInBounds_toArray, List.set_cons_zero, List.set_cons_succ, i64_w, i32_w]
                            rfl
                          refine join_ (σ := Nat) 1 #[true,true,true,true,true,true,true,false] (fun s_ => [(66, .string t442), (67, .agg #[.int .i64 t443, .int .i64 t444, .string t445, .string t446]), (13, .pointer (some ⟨s_, 0, none⟩))]) (fun s_ w' => (w'.cell? ⟨gb428, 0, none⟩ = some (.int .i64 x429000_3) ∧ w'.cell? ⟨gb428, 1, none⟩ = some (.string x429001_3)) ∧ (Kd.Q (Kd.int .i64) 2 w' w.heap.size (fun _ => True) (.slice Ao22 x9_3.length co22) x9_3) ∧ (w'.heap[gb428]? = some (.cells #[.int .i64 x429000_3, .string x429001_3] 27 (0, 0))) ∧ (w'.heap[s_]? = some (.cells #[.int .i64 0, .int .i64 0, .string (⟨#[]⟩ : ByteArray), .string (⟨#[]⟩ : ByteArray)] 32 (0, 0))) ∧ (w.heap.size ≤ s_) ∧ (w.heap.size ≤ s_) ∧ (gb428 ≠ s_) ∧ (s_ ≠ gb428) ∧ (Below w.heap.size w w')) ?_ ?_
                          rotate_left
                          · intro hCont
                            refine two_ (i := 4) (j := 6) (Ni := some 66) (Nj := some 13) #[true,true,true,true,true,false,false,false] #[true,true,true,true,false,false,true,false] rfl rfl rfl rfl (two_of HT_.out (by kernel_rfl)) (by decide) (by decide) (fun K hK => ?_) (fun K hK => ?_)
                            · skip
                              refine goes_ Tryd.func20 (by kernel_rfl) rfl #[.slice Ao22 y438.length co22] (by rfl) rfl rfl (by (try simp only [List.map_toArray, List.map_cons, List.map_nil]); first | done | rfl | (simp only [List.length_drop, List.length_take]; rfl)) ?_
                              with_reducible refine (spec_TextOf.calls _ _ y438 t442 _ ?side1 ?side2 A26.out).mono ?_
                              (case side1 => repeat (first | exact (by repeat (first | (with_reducible exact HR441.out) | (with_reducible refine Kd.C_alloc ?_ _) | (with_reducible refine Kd.C_drewN ?_ _) | (with_reducible refine Kd.C_drew ?_) | exact HR441.out)) | (with_reducible refine Kd.C_alloc ?_ _) | (with_reducible refine Kd.C_drewN ?_ _) | (with_reducible refine Kd.C_drew ?_)))
                              (case side2 => exact HC441.out)
                              rintro e w31 ⟨rfl, hb⟩; refine ⟨_, rfl, ?_⟩; have n0_ := qbb HO_9.out hb; have n1_ := bkb BK428.out hb; have n2_ := cbb HR441.out hb; have n3_ := Aside0.mk (below_step (belowG) hb); clear HO_9; clear BK428; clear HR441; clear HB; have HO_9 := n0_; have BK428 := n1_; have HR441 := n2_; have HB := n3_; clear n0_ n1_ n2_ n3_
                              (try clear hb)
                              (try clear hb2)
                              (try clear hk)
                              (try clear hi)
                              refine hK.out _ _ ⟨(blk_cell BK428.out 0).trans rfl, (blk_cell BK428.out 1).trans rfl⟩ (fun hHeld => ?_)
                              clear hK K
                              refine norm_ (a' := ?_) ?_ ?_
                              rotate_left
                              · show Act.put _ (some 66) _ = _
                                simp only [Act.put, List.setIfInBounds_toArray, List.set_cons_zero, List.set_cons_succ, i64_w, i32_w]; rfl
                              refine two_ (i := 5) (j := 6) (Ni := some 67) (Nj := some 13) #[true,true,true,true,true,true,false,false] #[true,true,true,true,true,false,true,false] rfl rfl rfl rfl (two_of HT_.out (by kernel_rfl)) (by decide) (by decide) (fun K hK => ?_) (fun K hK => ?_)
                              · skip
                                refine goes_ Tryd.func19 (by kernel_rfl) rfl #[.agg #[.int .i64 x429000_3, .string x429001_3], .string t442] (by rfl) rfl rfl (by (try simp only [List.map_toArray, List.map_cons, List.map_nil]); first | done | rfl | (simp only [List.length_drop, List.length_take]; rfl)) ?_
                                with_reducible refine (W_impl_FeedNormer.calls x429000_3 x429001_3 t442 t443 t444 t445 t446 _ A27.out gtA).mono ?_
                                rintro e w32 ⟨rfl, hb⟩; refine ⟨_, rfl, ?_⟩; have n0_ := qbb HO_9.out hb; have n1_ := bkb BK428.out hb; have n2_ := cbb HR441.out hb; have n3_ := Aside0.mk (below_step (belowG) hb); clear HO_9; clear BK428; clear HR441; clear HB; have HO_9 := n0_; have BK428 := n1_; have HR441 := n2_; have HB := n3_; clear n0_ n1_ n2_ n3_
                                (try clear hb)
                                (try clear hb2)
                                (try clear hk)
                                (try clear hi)
                                refine hK.out _ _ ⟨(blk_cell BK428.out 0).trans rfl, (blk_cell BK428.out 1).trans rfl⟩ (fun hHeld => ?_)
                                clear hK K
                                refine norm_ (a' := ?_) ?_ ?_
                                rotate_left
                                · show Act.put _ (some 67) _ = _
                                  simp only [Act.put, List.setIfInBounds_toArray, List.set_cons_zero, List.set_cons_succ, i64_w, i32_w]; rfl
                                refine one_ (i := 6) (N := some 13) #[true,true,true,true,true,true,true,false] rfl rfl (one_of HT_.out (by kernel_rfl)) (by decide) (fun K hK => ?_)
                                refine box_step ?hg (N := 13) ?hd (cs := #[.int .i64 0, .int .i64 0, .string (⟨#[]⟩ : ByteArray), .string (⟨#[]⟩ : ByteArray)]) (t := 32) ?hr ?_; (case hd => rfl); (case hg => rfl); (case hr => first | (go_simp; done) | (go_simp; rfl))
                                intro gb447 hg w33 hbox hb; have n0_ := qbb HO_9.out hb; have n1_ := bkb BK428.out hb; have n2_ := cbb HR441.out hb; have n3_ := Aside0.mk (below_step (belowG) hb); have n4_ := Aside0.mk (hbox)
                                have n5_ := Aside0.mk ((by rw [hg]; exact (below_size (belowG)) : w.heap.size ≤ gb447))
                                have n6_ := Aside0.mk ((by rw [hg]; exact (below_size (belowG)) : w.heap.size ≤ gb447))
                                have n7_ := Aside0.mk ((by rw [hg]; exact Nat.ne_of_lt (blk_lt (g := gb428) (o := .cells #[.int .i64 x429000_3, .string x429001_3] 27 (0, 0)) (by (with_reducible repeat (first | refine blk_drewN ?_ _ | refine blk_drew ?_ | refine blk_alloc ?_ _)); exact BK428.out)) : gb428 ≠ gb447))
                                have n8_ := Aside0.mk ((by rw [hg]; exact Nat.ne_of_gt (blk_lt (g := gb428) (o := .cells #[.int .i64 x429000_3, .string x429001_3] 27 (0, 0)) (by (with_reducible repeat (first | refine blk_drewN ?_ _ | refine blk_drew ?_ | refine blk_alloc ?_ _)); exact BK428.out)) : gb447 ≠ gb428))
                                clear HO_9; clear BK428; clear HR441; clear HB; have HO_9 := n0_; have BK428 := n1_; have HR441 := n2_; have HB := n3_; have BK447 := n4_; have GW447 := n5_; have GE447 := n6_; have NB428_447 := n7_; have NB447_428 := n8_; clear n0_ n1_ n2_ n3_ n4_ n5_ n6_ n7_ n8_; clear hb hbox hg
                                refine hK.out _ _ ⟨(blk_cell BK428.out 0).trans rfl, (blk_cell BK428.out 1).trans rfl⟩ (fun hHeld => ?_)
                                clear hK K
                                refine norm_ (a' := ?_) ?_ ?_
                                rotate_left
                                · show Act.put _ (some 13) _ = _
                                  simp only [Act.put, List.setIfInBounds_toArray, List.set_cons_zero, List.set_cons_succ, i64_w, i32_w]; rfl
                                exact norm_ (by simp only [putAll, Act.put, List.setIfInBounds_toArray, List.set_cons_zero, List.set_cons_succ]) (hCont (gb447) _ ⟨hHeld, (by (with_reducible repeat (first | apply Kd.Q_alloc | apply Kd.Q_drewN | apply Kd.Q_drew)); exact HO_9.out), (by (with_reducible repeat (first | refine blk_drewN ?_ _ | refine blk_drew ?_ | refine blk_alloc ?_ _)); exact BK428.out), (by (with_reducible repeat (first | refine blk_drewN ?_ _ | refine blk_drew ?_ | refine blk_alloc ?_ _)); exact BK447.out), GW447.out, GE447.out, NB428_447.out, NB447_428.out, (belowG)⟩)
                              skip
                              refine box_step ?hg (N := 13) ?hd (cs := #[.int .i64 0, .int .i64 0, .string (⟨#[]⟩ : ByteArray), .string (⟨#[]⟩ : ByteArray)]) (t := 32) ?hr ?_; (case hd => rfl); (case hg => rfl); (case hr => first | (go_simp; done) | (go_simp; rfl))
                              intro gb447 hg w32 hbox hb; have n0_ := qbb HO_9.out hb; have n1_ := bkb BK428.out hb; have n2_ := cbb HR441.out hb; have n3_ := Aside0.mk (below_step (belowG) hb); have n4_ := Aside0.mk (hbox)
                              have n5_ := Aside0.mk ((by rw [hg]; exact (below_size (belowG)) : w.heap.size ≤ gb447))
                              have n6_ := Aside0.mk ((by rw [hg]; exact (below_size (belowG)) : w.heap.size ≤ gb447))
                              have n7_ := Aside0.mk ((by rw [hg]; exact Nat.ne_of_lt (blk_lt (g := gb428) (o := .cells #[.int .i64 x429000_3, .string x429001_3] 27 (0, 0)) (by (with_reducible repeat (first | refine blk_drewN ?_ _ | refine blk_drew ?_ | refine blk_alloc ?_ _)); exact BK428.out)) : gb428 ≠ gb447))
                              have n8_ := Aside0.mk ((by rw [hg]; exact Nat.ne_of_gt (blk_lt (g := gb428) (o := .cells #[.int .i64 x429000_3, .string x429001_3] 27 (0, 0)) (by (with_reducible repeat (first | refine blk_drewN ?_ _ | refine blk_drew ?_ | refine blk_alloc ?_ _)); exact BK428.out)) : gb447 ≠ gb428))
                              clear HO_9; clear BK428; clear HR441; clear HB; have HO_9 := n0_; have BK428 := n1_; have HR441 := n2_; have HB := n3_; have BK447 := n4_; have GW447 := n5_; have GE447 := n6_; have NB428_447 := n7_; have NB447_428 := n8_; clear n0_ n1_ n2_ n3_ n4_ n5_ n6_ n7_ n8_; clear hb hbox hg
                              refine hK.out _ _ ⟨(blk_cell BK428.out 0).trans rfl, (blk_cell BK428.out 1).trans rfl⟩ (fun hHeld => ?_)
                              clear hK K
                              refine norm_ (a' := ?_) ?_ ?_
                              rotate_left
                              · show Act.put _ (some 13) _ = _
                                simp only [Act.put, List.setIfInBounds_toArray, List.set_cons_zero, List.set_cons_succ, i64_w, i32_w]; rfl
                              refine one_ (i := 5) (N := some 67) #[true,true,true,true,true,true,true,false] rfl rfl (one_of HT_.out (by kernel_rfl)) (by decide) (fun K hK => ?_)
                              refine goes_ Tryd.func19 (by kernel_rfl) rfl #[.agg #[.int .i64 x429000_3, .string x429001_3], .string t442] (by rfl) rfl rfl (by (try simp only [List.map_toArray, List.map_cons, List.map_nil]); first | done | rfl | (simp only [List.length_drop, List.length_take]; rfl)) ?_
                              with_reducible refine (W_impl_FeedNormer.calls x429000_3 x429001_3 t442 t443 t444 t445 t446 _ A27.out gtA).mono ?_
                              rintro e w33 ⟨rfl, hb⟩; refine ⟨_, rfl, ?_⟩; have n0_ := qbb HO_9.out hb; have n1_ := bkb BK428.out hb; have n2_ := cbb HR441.out hb; have n3_ := bkb BK447.out hb; have n4_ := Aside0.mk (below_step (belowG) hb); clear HO_9; clear BK428; clear HR441; clear BK447; clear HB; have HO_9 := n0_; have BK428 := n1_; have HR441 := n2_; have BK447 := n3_; have HB := n4_; clear n0_ n1_ n2_ n3_ n4_
                              (try clear hb)
                              (try clear hb2)
                              (try clear hk)
                              (try clear hi)
                              refine hK.out _ _ ⟨(blk_cell BK428.out 0).trans rfl, (blk_cell BK428.out 1).trans rfl⟩ (fun hHeld => ?_)
                              clear hK K
                              refine norm_ (a' := ?_) ?_ ?_
                              rotate_left
                              · show Act.put _ (some 67) _ = _
                                simp only [Act.put, List.setIfInBounds_toArray, List.set_cons_zero, List.set_cons_succ, i64_w, i32_w]; rfl
                              exact norm_ (by simp only [putAll, Act.put, List.setIfInBounds_toArray, List.set_cons_zero, List.set_cons_succ]) (hCont (gb447) _ ⟨hHeld, (by (with_reducible repeat (first | apply Kd.Q_alloc | apply Kd.Q_drewN | apply Kd.Q_drew)); exact HO_9.out), (by (with_reducible repeat (first | refine blk_drewN ?_ _ | refine blk_drew ?_ | refine blk_alloc ?_ _)); exact BK428.out), (by (with_reducible repeat (first | refine blk_drewN ?_ _ | refine blk_drew ?_ | refine blk_alloc ?_ _)); exact BK447.out), GW447.out, GE447.out, NB428_447.out, NB447_428.out, (belowG)⟩)
                            skip
                            refine box_step ?hg (N := 13) ?hd (cs := #[.int .i64 0, .int .i64 0, .string (⟨#[]⟩ : ByteArray), .string (⟨#[]⟩ : ByteArray)]) (t := 32) ?hr ?_; (case hd => rfl); (case hg => rfl); (case hr => first | (go_simp; done) | (go_simp; rfl))
                            intro gb447 hg w31 hbox hb; have n0_ := qbb HO_9.out hb; have n1_ := bkb BK428.out hb; have n2_ := cbb HR441.out hb; have n3_ := Aside0.mk (below_step (belowG) hb); have n4_ := Aside0.mk (hbox)
                            have n5_ := Aside0.mk ((by rw [hg]; exact (below_size (belowG)) : w.heap.size ≤ gb447))
                            have n6_ := Aside0.mk ((by rw [hg]; exact (below_size (belowG)) : w.heap.size ≤ gb447))
                            have n7_ := Aside0.mk ((by rw [hg]; exact Nat.ne_of_lt (blk_lt (g := gb428) (o := .cells #[.int .i64 x429000_3, .string x429001_3] 27 (0, 0)) (by (with_reducible repeat (first | refine blk_drewN ?_ _ | refine blk_drew ?_ | refine blk_alloc ?_ _)); exact BK428.out)) : gb428 ≠ gb447))
                            have n8_ := Aside0.mk ((by rw [hg]; exact Nat.ne_of_gt (blk_lt (g := gb428) (o := .cells #[.int .i64 x429000_3, .string x429001_3] 27 (0, 0)) (by (with_reducible repeat (first | refine blk_drewN ?_ _ | refine blk_drew ?_ | refine blk_alloc ?_ _)); exact BK428.out)) : gb447 ≠ gb428))
                            clear HO_9; clear BK428; clear HR441; clear HB; have HO_9 := n0_; have BK428 := n1_; have HR441 := n2_; have HB := n3_; have BK447 := n4_; have GW447 := n5_; have GE447 := n6_; have NB428_447 := n7_; have NB447_428 := n8_; clear n0_ n1_ n2_ n3_ n4_ n5_ n6_ n7_ n8_; clear hb hbox hg
                            refine hK.out _ _ ⟨(blk_cell BK428.out 0).trans rfl, (blk_cell BK428.out 1).trans rfl⟩ (fun hHeld => ?_)
                            clear hK K
                            refine norm_ (a' := ?_) ?_ ?_
                            rotate_left
                            · show Act.put _ (some 13) _ = _
                              simp only [Act.put, List.setIfInBounds_toArray, List.set_cons_zero, List.set_cons_succ, i64_w, i32_w]; rfl
                            refine one_ (i := 4) (N := some 66) #[true,true,true,true,true,false,true,false] rfl rfl (one_of HT_.out (by kernel_rfl)) (by decide) (fun K hK => ?_)
                            refine goes_ Tryd.func20 (by kernel_rfl) rfl #[.slice Ao22 y438.length co22] (by rfl) rfl rfl (by (try simp only [List.map_toArray, List.map_cons, List.map_nil]); first | done | rfl | (simp only [List.length_drop, List.length_take]; rfl)) ?_
                            with_reducible refine (spec_TextOf.calls _ _ y438 t442 _ ?side1 ?side2 A26.out).mono ?_
                            (case side1 => repeat (first | exact (by repeat (first | (with_reducible exact HR441.out) | (with_reducible refine Kd.C_alloc ?_ _) | (with_reducible refine Kd.C_drewN ?_ _) | (with_reducible refine Kd.C_drew ?_) | exact HR441.out)) | (with_reducible refine Kd.C_alloc ?_ _) | (with_reducible refine Kd.C_drewN ?_ _) | (with_reducible refine Kd.C_drew ?_)))
                            (case side2 => exact HC441.out)
                            rintro e w32 ⟨rfl, hb⟩; refine ⟨_, rfl, ?_⟩; have n0_ := qbb HO_9.out hb; have n1_ := bkb BK428.out hb; have n2_ := cbb HR441.out hb; have n3_ := bkb BK447.out hb; have n4_ := Aside0.mk (below_step (belowG) hb); clear HO_9; clear BK428; clear HR441; clear BK447; clear HB; have HO_9 := n0_; have BK428 := n1_; have HR441 := n2_; have BK447 := n3_; have HB := n4_; clear n0_ n1_ n2_ n3_ n4_
                            (try clear hb)
                            (try clear hb2)
                            (try clear hk)
                            (try clear hi)
                            refine hK.out _ _ ⟨(blk_cell BK428.out 0).trans rfl, (blk_cell BK428.out 1).trans rfl⟩ (fun hHeld => ?_)
                            clear hK K
                            refine norm_ (a' := ?_) ?_ ?_
                            rotate_left
                            · show Act.put _ (some 66) _ = _
                              simp only [Act.put, List.setIfInBounds_toArray, List.set_cons_zero, List.set_cons_succ, i64_w, i32_w]; rfl
                            refine one_ (i := 5) (N := some 67) #[true,true,true,true,true,true,true,false] rfl rfl (one_of HT_.out (by kernel_rfl)) (by decide) (fun K hK => ?_)
                            refine goes_ Tryd.func19 (by kernel_rfl) rfl #[.agg #[.int .i64 x429000_3, .string x429001_3], .string t442] (by rfl) rfl rfl (by (try simp only [List.map_toArray, List.map_cons, List.map_nil]); first | done | rfl | (simp only [List.length_drop, List.length_take]; rfl)) ?_
                            with_reducible refine (W_impl_FeedNormer.calls x429000_3 x429001_3 t442 t443 t444 t445 t446 _ A27.out gtA).mono ?_
                            rintro e w33 ⟨rfl, hb⟩; refine ⟨_, rfl, ?_⟩; have n0_ := qbb HO_9.out hb; have n1_ := bkb BK428.out hb; have n2_ := cbb HR441.out hb; have n3_ := bkb BK447.out hb; have n4_ := Aside0.mk (below_step (belowG) hb); clear HO_9; clear BK428; clear HR441; clear BK447; clear HB; have HO_9 := n0_; have BK428 := n1_; have HR441 := n2_; have BK447 := n3_; have HB := n4_; clear n0_ n1_ n2_ n3_ n4_
                            (try clear hb)
                            (try clear hb2)
                            (try clear hk)
                            (try clear hi)
                            refine hK.out _ _ ⟨(blk_cell BK428.out 0).trans rfl, (blk_cell BK428.out 1).trans rfl⟩ (fun hHeld => ?_)
                            clear hK K
                            refine norm_ (a' := ?_) ?_ ?_
                            rotate_left
                            · show Act.put _ (some 67) _ = _
                              simp only [Act.put, List.setIfInBounds_toArray, List.set_cons_zero, List.set_cons_succ, i64_w, i32_w]; rfl
                            exact norm_ (by simp only [putAll, Act.put, List.setIfInBounds_toArray, List.set_cons_zero, List.set_cons_succ]) (hCont (gb447) _ ⟨hHeld, (by (with_reducible repeat (first | apply Kd.Q_alloc | apply Kd.Q_drewN | apply Kd.Q_drew)); exact HO_9.out), (by (with_reducible repeat (first | refine blk_drewN ?_ _ | refine blk_drew ?_ | refine blk_alloc ?_ _)); exact BK428.out), (by (with_reducible repeat (first | refine blk_drewN ?_ _ | refine blk_drew ?_ | refine blk_alloc ?_ _)); exact BK447.out), GW447.out, GE447.out, NB428_447.out, NB447_428.out, (belowG)⟩)
                          rintro gb447 w34 ⟨hS_, h0_, h1_, h2_, h3_, h4_, h5_, h6_, h7_⟩
                          have n0_ : Aside0 (Kd.Q (Kd.int .i64) 2 w34 w.heap.size (fun _ => True) (.slice Ao22 x9_3.length co22) x9_3) := ⟨h0_⟩
                          have n1_ : Aside0 (w34.heap[gb428]? = some (.cells #[.int .i64 x429000_3, .string x429001_3] 27 (0, 0))) := ⟨h1_⟩; have n2_ : Aside0 (w34.heap[gb447]? = some (.cells #[.int .i64 0, .int .i64 0, .string (⟨#[]⟩ : ByteArray), .string (⟨#[]⟩ : ByteArray)] 32 (0, 0))) := ⟨h2_⟩; have n3_ : Aside0 (w.heap.size ≤ gb447) := ⟨h3_⟩; have n4_ : Aside0 (w.heap.size ≤ gb447) := ⟨h4_⟩; have n5_ : Aside0 (gb428 ≠ gb447) := ⟨h5_⟩; have n6_ : Aside0 (gb447 ≠ gb428) := ⟨h6_⟩; have n7_ : Aside0 (Below w.heap.size w w34) := ⟨h7_⟩; clear HO_9; clear BK428; clear HB; clear h0_ h1_ h2_ h3_ h4_ h5_ h6_ h7_; have HO_9 := n0_; have BK428 := n1_; have BK447 := n2_; have GW447 := n3_; have GE447 := n4_; have NB428_447 := n5_; have NB447_428 := n6_; have HB := n7_; clear n0_ n1_ n2_ n3_ n4_ n5_ n6_ n7_; have hHeld : w34.cell? ⟨gb428, 0, none⟩ = some (.int .i64 x429000_3) ∧ w34.cell? ⟨gb428, 1, none⟩ = some (.string x429001_3) := hS_
                          refine norm_ (a' := ?_) ?_ ?_
                          rotate_left
                          · simp only [putAll, Act.put, List.setIfInBounds_toArray, List.set_cons_zero, List.set_cons_succ]
                            rfl
                          refine one_ (i := 7) (N := none) #[true,true,true,true,true,true,true,true] rfl rfl (one_of HT_.out (by kernel_rfl)) (by decide) (fun K hK => ?_)
                          have hs35 : w34.cell? ⟨gb447, 0, none⟩ = some (.int .i64 0) := (blk_cell BK447.out 0).trans rfl; have hfs35 := blk_frozen BK447.out 0; have hns35_0 := NB428_447.out; have hms35_0 := NB447_428.out; have hs36 : w34.cell? ⟨gb447, 1, none⟩ = some (.int .i64 0) := (blk_cell BK447.out 1).trans rfl; have hfs36 := blk_frozen BK447.out 1; have hns36_0 := NB428_447.out; have hms36_0 := NB447_428.out; have hs37 : w34.cell? ⟨gb447, 2, none⟩ = some (.string (⟨#[]⟩ : ByteArray)) := (blk_cell BK447.out 2).trans rfl; have hfs37 := blk_frozen BK447.out 2; have hns37_0 := NB428_447.out; have hms37_0 := NB447_428.out; have hs38 : w34.cell? ⟨gb447, 3, none⟩ = some (.string (⟨#[]⟩ : ByteArray)) := (blk_cell BK447.out 3).trans rfl; have hfs38 := blk_frozen BK447.out 3; have hns38_0 := NB428_447.out; have hms38_0 := NB447_428.out
                          refine skip_ (w1 := ?_) (by rfl) rfl ?_ ?_
                          rotate_left
                          · go_simp
                            rfl
                          refine hK.out _ _ ⟨((cell_far (p := ⟨gb447, _, none⟩) NB428_447.out _).trans (((cell_far (p := ⟨gb447, _, none⟩) NB428_447.out _).trans (((cell_far (p := ⟨gb447, _, none⟩) NB428_447.out _).trans (((cell_far (p := ⟨gb447, _, none⟩) NB428_447.out _).trans (hHeld.1)))))))), ((cell_far (p := ⟨gb447, _, none⟩) NB428_447.out _).trans (((cell_far (p := ⟨gb447, _, none⟩) NB428_447.out _).trans (((cell_far (p := ⟨gb447, _, none⟩) NB428_447.out _).trans (((cell_far (p := ⟨gb447, _, none⟩) NB428_447.out _).trans (hHeld.2))))))))⟩ (fun hHeld => ?_)
                          clear hK K
                          refine done_ (done_of HT_.out (by kernel_rfl)) ?_
                          go_upto_region 17 with (fail)
                          go_cut [80] (fun v80 wc => ∃ (kq : Nat) (x80_27 : Bool), v80 = .bool x80_27 ∧ Aside0 (laws_FnNormer.j4 (t424, t425) kq l1 t426 x9_3 x10_3 x11_3 x12_20 x80_27 t443 t444 t445 t446 = some r) ∧ Aside0 (kq ≤ kj20) ∧ Aside0 (Kd.Q (Kd.int .i64) 2 wc w.heap.size (fun _ => True) (.slice Ao22 x9_3.length co22) x9_3) ∧ Aside0 (wc.heap[gb428]? = some (.cells #[.int .i64 x429000_3, .string x429001_3] 27 (0, 0))) ∧ Aside0 (wc.heap[gb447]? = some (.cells #[.int .i64 t443, .int .i64 t444, .string t445, .string t446] 32 (0, 0))) ∧ Aside0 (Below w.heap.size w wc))
                          case first =>
                            have H := HC28.out; clear HC28
                            by_cases c39 : t443 = 8
                            · rw [if_pos c39] at H
                              have c39b0 : (t443 == 8) = true := beq_iff_eq.mpr c39; have c39b1 : (t443 != 8) = false := bne_eq_false_iff_eq.mpr c39; clear c39
                              (first | rw [c39b0] | (simp only [i64_w, i32_w]; rw [c39b0]) | skip)
                              have c40b0 := eq_true (ode : 0 ≤ x12_20); have c41b0 := eq_true (ode : x12_20 ≤ (x9_3.length : Int)); obtain ⟨y448, hy448⟩ : ∃ y_ : List Int, y_ = (x9_3.take (x12_20 : Int).toNat) := ⟨_, rfl⟩
                              replace H : ((spec_TextOf.f y448).bind fun t452 => ((W_spec_FeedNormer.f x429000_3 x429001_3 t452).bind fun bt453 => (laws_FnNormer.j4 (t424, t425) kj20 l1 t426 x9_3 x10_3 x11_3 x12_20 (bt453.1 == 8) t443 t444 t445 t446))) = some r := by first | (rw [hy448]; with_reducible exact H) | (have H2_ := (Option.bind_some _ _).symm.trans H; rw [hy448]; with_reducible exact H2_) | (have H2_ := (Option.bind_some _ _).symm.trans H; with_reducible exact H2_) | with_reducible exact H | (rw [hy448]; exact H) | exact H
                              have Ny448 := Aside0.mk hy448; clear hy448; replace H := Option.bind_eq_some_iff.mp H; obtain ⟨t452, A420, H⟩ := H
                              try dsimp only at H
                              have A42 := Aside0.mk A420; clear A420; replace H := Option.bind_eq_some_iff.mp H; obtain ⟨⟨t453, t454, t455, t456⟩, A430, H⟩ := H
                              try dsimp only at H
                              have A43 := Aside0.mk A430; clear A430; have H' := Aside0.mk H; clear H
                              try go_wp2
                              have n0_ : Aside0 (Kd.Q (Kd.int .i64) 2 ((((w34.setCell ⟨gb447, 0, none⟩ (.int .i64 t443)).setCell ⟨gb447, 1, none⟩ (.int .i64 t444)).setCell ⟨gb447, 2, none⟩ (.string t445)).setCell ⟨gb447, 3, none⟩ (.string t446)) w.heap.size (fun _ => True) (.slice Ao22 x9_3.length co22) x9_3) := ⟨by (with_reducible repeat (first | apply Kd.Q_alloc | apply Kd.Q_drewN | apply Kd.Q_drew)); exact Kd.Q_mono (Kd.Q_far (p := ⟨gb447, 3, none⟩) (Kd.Q_far (p := ⟨gb447, 2, none⟩) (Kd.Q_far (p := ⟨gb447, 1, none⟩) (Kd.Q_far (p := ⟨gb447, 0, none⟩) (Kd.Q_types HO_9.out BK447.out (by decide)) (fun _ hk => hk.2) (.int .i64 t443)) (fun _ hk => hk.2) (.int .i64 t444)) (fun _ hk => hk.2) (.string t445)) (fun _ hk => hk.2) (.string t446)) (fun _ hk => trivial)⟩
                              have n1_ : Aside0 (((((w34.setCell ⟨gb447, 0, none⟩ (.int .i64 t443)).setCell ⟨gb447, 1, none⟩ (.int .i64 t444)).setCell ⟨gb447, 2, none⟩ (.string t445)).setCell ⟨gb447, 3, none⟩ (.string t446)).heap[gb428]? = some (.cells #[.int .i64 x429000_3, .string x429001_3] 27 (0, 0))) := ⟨by (with_reducible repeat (first | refine blk_drewN ?_ _ | refine blk_drew ?_ | refine blk_alloc ?_ _)); refine blk_far ?_ NB428_447.out _; (with_reducible repeat (first | refine blk_drewN ?_ _ | refine blk_drew ?_ | refine blk_alloc ?_ _)); refine blk_far ?_ NB428_447.out _; (with_reducible repeat (first | refine blk_drewN ?_ _ | refine blk_drew ?_ | refine blk_alloc ?_ _)); refine blk_far ?_ NB428_447.out _; (with_reducible repeat (first | refine blk_drewN ?_ _ | refine blk_drew ?_ | refine blk_alloc ?_ _)); refine blk_far ?_ NB428_447.out _; (with_reducible repeat (first | refine blk_drewN ?_ _ | refine blk_drew ?_ | refine blk_alloc ?_ _)); exact BK428.out⟩
                              have n2_ : Aside0 (((((w34.setCell ⟨gb447, 0, none⟩ (.int .i64 t443)).setCell ⟨gb447, 1, none⟩ (.int .i64 t444)).setCell ⟨gb447, 2, none⟩ (.string t445)).setCell ⟨gb447, 3, none⟩ (.string t446)).heap[gb447]? = some (.cells #[.int .i64 t443, .int .i64 t444, .string t445, .string t446] 32 (0, 0))) := ⟨by (with_reducible repeat (first | refine blk_drewN ?_ _ | refine blk_drew ?_ | refine blk_alloc ?_ _)); refine blk_put (cs := #[.int .i64 t443, .int .i64 t444, .string t445, .string (⟨#[]⟩ : ByteArray)]) ?_ 3 _ rfl; (with_reducible repeat (first | refine blk_drewN ?_ _ | refine blk_drew ?_ | refine blk_alloc ?_ _)); refine blk_put (cs := #[.int .i64 t443, .int .i64 t444, .string (⟨#[]⟩ : ByteArray), .string (⟨#[]⟩ : ByteArray)]) ?_ 2 _ rfl; (with_reducible repeat (first | refine blk_drewN ?_ _ | refine blk_drew ?_ | refine blk_alloc ?_ _)); refine blk_put (cs := #[.int .i64 t443, .int .i64 0, .string (⟨#[]⟩ : ByteArray), .string (⟨#[]⟩ : ByteArray)]) ?_ 1 _ rfl; (with_reducible repeat (first | refine blk_drewN ?_ _ | refine blk_drew ?_ | refine blk_alloc ?_ _)); refine blk_put (cs := #[.int .i64 0, .int .i64 0, .string (⟨#[]⟩ : ByteArray), .string (⟨#[]⟩ : ByteArray)]) ?_ 0 _ rfl; (with_reducible repeat (first | refine blk_drewN ?_ _ | refine blk_drew ?_ | refine blk_alloc ?_ _)); exact BK447.out⟩
                              have n3_ : Aside0 (Below w.heap.size w ((((w34.setCell ⟨gb447, 0, none⟩ (.int .i64 t443)).setCell ⟨gb447, 1, none⟩ (.int .i64 t444)).setCell ⟨gb447, 2, none⟩ (.string t445)).setCell ⟨gb447, 3, none⟩ (.string t446))) := ⟨belowG⟩
                              (try clear HO_9)
                              (try clear BK428)
                              (try clear BK447)
                              (try clear HB)
                              generalize ((((w34.setCell ⟨gb447, 0, none⟩ (.int .i64 t443)).setCell ⟨gb447, 1, none⟩ (.int .i64 t444)).setCell ⟨gb447, 2, none⟩ (.string t445)).setCell ⟨gb447, 3, none⟩ (.string t446)) = w44 at n0_ n1_ n2_ n3_ ⊢
                              have HO_9 := n0_; have BK428 := n1_; have BK447 := n2_; have HB := n3_; clear n0_ n1_ n2_ n3_; have n0_ := Aside0.mk (Kd.Q_drew HO_9.out); have n1_ := Aside0.mk (blk_drew BK428.out); have n2_ := Aside0.mk (blk_drew BK447.out); have n3_ := Aside0.mk (below_drew1 HB.out); clear HO_9; clear BK428; clear BK447; clear HB; have HO_9 := n0_; have BK428 := n1_; have BK447 := n2_; have HB := n3_; clear n0_ n1_ n2_ n3_; have q46 : (x12_20 : Int) ≤ ((x9_3.length : Int) : Int) := ode; obtain ⟨i046, hi046, _, hsz46, _⟩ := info_parts info2; have hroom46 : x9_3.length ≤ co22 := (Kd.Q_reads' HO_9.out).2.1; have hC46 : Kd.C (Kd.int .i64) _ Ao22 x9_3.length x9_3 := (Kd.Q_reads' HO_9.out).2.2; (try clear hcut30); have hcut46 := cut_to (P := Tryd.prog) 28 2 .i64 Tryd.underlying28 hi046 Ao22 x9_3.length co22 x12_20 (ode) q46 hroom46
                              have hr46 := Kd.C_take (m := (x12_20 : Int).toNat) hC46 (by omega)
                              have hy46 : y448.length = (x12_20 : Int).toNat := (by rw [Ny448.out, List.length_take]; omega)
                              rw [← Ny448.out] at hr46; rw [← hy46] at hcut46; have HR451 := Aside0.mk hr46
                              have HC451 := Aside0.mk (show y448.length ≤ co22 from by omega)
                              clear hr46 hC46 hroom46 hi046 hsz46; have KY46 := Aside0.mk hy46; clear hy46
                              have KL46 := Aside0.mk (show (x12_20 : Int).toNat ≤ x9_3.length from by omega)
                              replace q46 := eq_true q46
                              refine start_ (n := 13) (S := fun w' => w'.cell? ⟨gb447, 0, none⟩ = some (.int .i64 t443) ∧ w'.cell? ⟨gb447, 1, none⟩ = some (.int .i64 t444) ∧ w'.cell? ⟨gb447, 2, none⟩ = some (.string t445) ∧ w'.cell? ⟨gb447, 3, none⟩ = some (.string t446) ∧ w'.cell? ⟨gb428, 0, none⟩ = some (.int .i64 x429000_3) ∧ w'.cell? ⟨gb428, 1, none⟩ = some (.string x429001_3)) (ds := []) #[false,false,false,false,false,false,false,false,false,false,false,false,false] (by kernel_rfl) rfl rfl ⟨(blk_cell BK447.out 0).trans rfl, (blk_cell BK447.out 1).trans rfl, (blk_cell BK447.out 2).trans rfl, (blk_cell BK447.out 3).trans rfl, (blk_cell BK428.out 0).trans rfl, (blk_cell BK428.out 1).trans rfl⟩ (fun hHeld => ?_); refine with_tabW laws_FnNormer.tab17 laws_FnNormer.bits17 (fun HT_ HW_ => ?_)
                              generalize w44.drew = w45 at HO_9 BK428 BK447 HB HR451 hHeld ⊢
                              refine pure_ (i := 0) (N := some 68) (v := ?_) (a' := ?_) #[true,false,false,false,false,false,false,false,false,false,false,false,false] rfl rfl (any_of HT_.out (by kernel_rfl)) (fun _ _ _ h => h) (Or.inl ⟨by rfl, ?_⟩) ?_ ?_
                              rotate_left
                              · intro w'
                                go_simp; with_reducible rfl
                              rotate_left
                              · simp only [Act.put, List.setIfInBounds_toArray, List.set_cons_zero, List.set_cons_succ, i64_w, i32_w]
                                rfl
                              refine take_ (i := 1) (N := some 69) (v := ?_) (a' := ?_) #[true,true,false,false,false,false,false,false,false,false,false,false,false] rfl rfl (take_ofW HT_.out HW_.out (by kernel_rfl)) (fun _ _ _ h => h) (Or.inl ⟨by rfl, ?_⟩) hHeld ?_ ?_
                              rotate_left
                              · rintro w' ⟨s0, s1, s2, s3, s4, s5⟩
                                go_simp; with_reducible rfl
                              rotate_left
                              · simp only [Act.put, List.setIfInBounds_toArray, List.set_cons_zero, List.set_cons_succ, i64_w, i32_w]
                                rfl
                              refine pure_ (i := 2) (N := some 70) (v := ?_) (a' := ?_) #[true,true,true,false,false,false,false,false,false,false,false,false,false] rfl rfl (any_of HT_.out (by kernel_rfl)) (fun _ _ _ h => h) (Or.inl ⟨by rfl, ?_⟩) ?_ ?_
                              rotate_left
                              · intro w'
                                go_simp; with_reducible rfl
                              rotate_left
                              · simp only [Act.put, List.setIfInBounds_toArray, List.set_cons_zero, List.set_cons_succ, i64_w, i32_w]
                                rfl
                              refine pure_ (i := 3) (N := some 71) (v := ?_) (a' := ?_) #[true,true,true,true,false,false,false,false,false,false,false,false,false] rfl rfl (any_of HT_.out (by kernel_rfl)) (fun _ _ _ h => h) (Or.inl ⟨by rfl, ?_⟩) ?_ ?_
                              rotate_left
                              · intro w'
                                go_simp; with_reducible rfl
                              rotate_left
                              · simp only [Act.put, List.setIfInBounds_toArray, List.set_cons_zero, List.set_cons_succ, i64_w, i32_w]
                                rfl
                              refine pure_ (i := 5) (N := some 73) (v := ?_) (a' := ?_) #[true,true,true,true,false,true,false,false,false,false,false,false,false] rfl rfl (any_of HT_.out (by kernel_rfl)) (fun _ _ _ h => h) (Or.inl ⟨by rfl, ?_⟩) ?_ ?_
                              rotate_left
                              · intro w'
                                go_simp; with_reducible rfl
                              rotate_left
                              · simp only [Act.put, List.setIfInBounds_toArray, List.set_cons_zero, List.set_cons_succ, i64_w, i32_w]
                                rfl
                              refine pure_ (i := 6) (N := some 74) (v := ?_) (a' := ?_) #[true,true,true,true,false,true,true,false,false,false,false,false,false] rfl rfl (any_of HT_.out (by kernel_rfl)) (fun _ _ _ h => h) (Or.inl ⟨by rfl, ?_⟩) ?_ ?_
                              rotate_left
                              · intro w'
                                go_simp; with_reducible rfl
                              rotate_left
                              · simp only [Act.put, List.setIfInBounds_toArray, List.set_cons_zero, List.set_cons_succ, i64_w, i32_w]
                                rfl
                              refine pure_ (i := 7) (N := some 75) (v := ?_) (a' := ?_) #[true,true,true,true,false,true,true,true,false,false,false,false,false] rfl rfl (any_of HT_.out (by kernel_rfl)) (fun _ _ _ h => h) (Or.inl ⟨by rfl, ?_⟩) ?_ ?_
                              rotate_left
                              · intro w'
                                go_simp; with_reducible rfl
                              rotate_left
                              · simp only [Act.put, List.setIfInBounds_toArray, List.set_cons_zero, List.set_cons_succ, i64_w, i32_w]
                                rfl
                              refine take_ (i := 4) (N := some 72) (v := ?_) (a' := ?_) #[true,true,true,true,true,true,true,true,false,false,false,false,false] rfl rfl (take_ofW HT_.out HW_.out (by kernel_rfl)) (fun _ _ _ h => h) (Or.inl ⟨by rfl, ?_⟩) hHeld ?_ ?_
                              rotate_left
                              · rintro w' ⟨s0, s1, s2, s3, s4, s5⟩
                                go_simp; with_reducible rfl
                              rotate_left
                              · simp only [Act.put, List.setIfInBounds_toArray, List.set_cons_zero, List.set_cons_succ, i64_w, i32_w]
                                rfl
                              refine one_ (i := 8) (N := some 76) #[true,true,true,true,true,true,true,true,true,false,false,false,false] rfl rfl (one_of HT_.out (by kernel_rfl)) (by decide) (fun K hK => ?_)
                              refine goes_ Tryd.func20 (by kernel_rfl) rfl #[.slice Ao22 y448.length co22] (by rfl) rfl rfl (by (try simp only [List.map_toArray, List.map_cons, List.map_nil]); first | done | rfl | (simp only [List.length_drop, List.length_take]; rfl)) ?_
                              with_reducible refine (spec_TextOf.calls _ _ y448 t452 _ ?side1 ?side2 A42.out).mono ?_
                              (case side1 => repeat (first | exact (by repeat (first | (with_reducible exact HR451.out) | (with_reducible refine Kd.C_alloc ?_ _) | (with_reducible refine Kd.C_drewN ?_ _) | (with_reducible refine Kd.C_drew ?_) | exact HR451.out)) | (with_reducible refine Kd.C_alloc ?_ _) | (with_reducible refine Kd.C_drewN ?_ _) | (with_reducible refine Kd.C_drew ?_)))
                              (case side2 => exact HC451.out)
                              rintro e w47 ⟨rfl, hb⟩; refine ⟨_, rfl, ?_⟩; have n0_ := qbb HO_9.out hb; have n1_ := bkb BK428.out hb; have n2_ := bkb BK447.out hb; have n3_ := cbb HR451.out hb; have n4_ := Aside0.mk (below_step (belowG) hb); clear HO_9; clear BK428; clear BK447; clear HR451; clear HB; have HO_9 := n0_; have BK428 := n1_; have BK447 := n2_; have HR451 := n3_; have HB := n4_; clear n0_ n1_ n2_ n3_ n4_
                              (try clear hb)
                              (try clear hb2)
                              (try clear hk)
                              (try clear hi)
                              refine hK.out _ _ ⟨(blk_cell BK447.out 0).trans rfl, (blk_cell BK447.out 1).trans rfl, (blk_cell BK447.out 2).trans rfl, (blk_cell BK447.out 3).trans rfl, (blk_cell BK428.out 0).trans rfl, (blk_cell BK428.out 1).trans rfl⟩ (fun hHeld => ?_)
                              clear hK K
                              refine norm_ (a' := ?_) ?_ ?_
                              rotate_left
                              · show Act.put _ (some 76) _ = _
                                simp only [Act.put, List.setIfInBounds_toArray, List.set_cons_zero, List.set_cons_succ, i64_w, i32_w]; rfl
                              refine one_ (i := 9) (N := some 77) #[true,true,true,true,true,true,true,true,true,true,false,false,false] rfl rfl (one_of HT_.out (by kernel_rfl)) (by decide) (fun K hK => ?_)
                              refine goes_ Tryd.func21 (by kernel_rfl) rfl #[.agg #[.int .i64 x429000_3, .string x429001_3], .string t452] (by rfl) rfl rfl (by (try simp only [List.map_toArray, List.map_cons, List.map_nil]); first | done | rfl | (simp only [List.length_drop, List.length_take]; rfl)) ?_
                              with_reducible refine (W_spec_FeedNormer.calls x429000_3 x429001_3 t452 t453 t454 t455 t456 _ A43.out).mono ?_
                              rintro e w48 ⟨rfl, hb⟩; refine ⟨_, rfl, ?_⟩; have hfld_ : ∀ W : World, Sem.run Tryd.prog (Instr.field 32 (.agg #[.int .i64 t453, .int .i64 t454, .string t455, .string t456]) 0) W = .ok (.int .i64 t453) W := fun W => (by kernel_rfl); have n0_ := qbb HO_9.out hb; have n1_ := bkb BK428.out hb; have n2_ := bkb BK447.out hb; have n3_ := cbb HR451.out hb; have n4_ := Aside0.mk (below_step (belowG) hb); clear HO_9; clear BK428; clear BK447; clear HR451; clear HB; have HO_9 := n0_; have BK428 := n1_; have BK447 := n2_; have HR451 := n3_; have HB := n4_; clear n0_ n1_ n2_ n3_ n4_
                              (try clear hb)
                              (try clear hb2)
                              (try clear hk)
                              (try clear hi)
                              refine hK.out _ _ ⟨(blk_cell BK447.out 0).trans rfl, (blk_cell BK447.out 1).trans rfl, (blk_cell BK447.out 2).trans rfl, (blk_cell BK447.out 3).trans rfl, (blk_cell BK428.out 0).trans rfl, (blk_cell BK428.out 1).trans rfl⟩ (fun hHeld => ?_)
                              clear hK K
                              refine norm_ (a' := ?_) ?_ ?_
                              rotate_left
                              · show Act.put _ (some 77) _ = _
                                simp only [Act.put, List.setIfInBounds_toArray, List.set_cons_zero, List.set_cons_succ, i64_w, i32_w]; rfl
                              refine pure_ (i := 10) (N := some 78) (v := ?_) (a' := ?_) #[true,true,true,true,true,true,true,true,true,true,true,false,false] rfl rfl (any_of HT_.out (by kernel_rfl)) (fun _ _ _ h => h) (Or.inl ⟨by rfl, ?_⟩) ?_ ?_
                              rotate_left
                              · intro w'
                                go_simp; with_reducible rfl
                              rotate_left
                              · simp only [Act.put, List.setIfInBounds_toArray, List.set_cons_zero, List.set_cons_succ, i64_w, i32_w]
                                rfl
                              refine pure_ (i := 11) (N := some 79) (v := ?_) (a' := ?_) #[true,true,true,true,true,true,true,true,true,true,true,true,false] rfl rfl (any_of HT_.out (by kernel_rfl)) (fun _ _ _ h => h) (Or.inl ⟨by rfl, ?_⟩) ?_ ?_
                              rotate_left
                              · intro w'
                                go_simp; with_reducible rfl
                              rotate_left
                              · simp only [Act.put, List.setIfInBounds_toArray, List.set_cons_zero, List.set_cons_succ, i64_w, i32_w]
                                rfl
                              refine pure_ (i := 12) (N := some 80) (v := ?_) (a' := ?_) #[true,true,true,true,true,true,true,true,true,true,true,true,true] rfl rfl (any_of HT_.out (by kernel_rfl)) (fun _ _ _ h => h) (Or.inl ⟨by rfl, ?_⟩) ?_ ?_
                              rotate_left
                              · intro w'
                                go_simp; with_reducible rfl
                              rotate_left
                              · simp only [Act.put, List.setIfInBounds_toArray, List.set_cons_zero, List.set_cons_succ, i64_w, i32_w]
                                rfl
                              refine done_ (done_of HT_.out (by kernel_rfl)) ?_
                              try go_wp2
                              go_meet
                              case rel => exact ⟨_, ((t453 == 8)), (by first | rfl | (simp; done) | (simp [*]; done)), H', ⟨by have := HJ2.out; have := HJ7.out; have := HK3.out; have := HJ20.out; first | omega | exact Nat.le_refl _⟩, ⟨by (with_reducible repeat (first | apply Kd.Q_alloc | apply Kd.Q_drewN | apply Kd.Q_drew)); exact HO_9.out⟩, ⟨by (with_reducible repeat (first | refine blk_drewN ?_ _ | refine blk_drew ?_ | refine blk_alloc ?_ _)); exact BK428.out⟩, ⟨by (with_reducible repeat (first | refine blk_drewN ?_ _ | refine blk_drew ?_ | refine blk_alloc ?_ _)); exact BK447.out⟩, ⟨belowG⟩⟩
                            rw [if_neg c39] at H; have c39b0 : (t443 == 8) = false := beq_eq_false_iff_ne.mpr c39; have c39b1 : (t443 != 8) = true := bne_iff_ne.mpr c39
                            (first | rw [c39b0] | (simp only [i64_w, i32_w]; rw [c39b0]) | skip)
                            have H' := Aside0.mk H; clear H
                            try go_wp2
                            have n0_ : Aside0 (Kd.Q (Kd.int .i64) 2 ((((w34.setCell ⟨gb447, 0, none⟩ (.int .i64 t443)).setCell ⟨gb447, 1, none⟩ (.int .i64 t444)).setCell ⟨gb447, 2, none⟩ (.string t445)).setCell ⟨gb447, 3, none⟩ (.string t446)) w.heap.size (fun _ => True) (.slice Ao22 x9_3.length co22) x9_3) := ⟨by (with_reducible repeat (first | apply Kd.Q_alloc | apply Kd.Q_drewN | apply Kd.Q_drew)); exact Kd.Q_mono (Kd.Q_far (p := ⟨gb447, 3, none⟩) (Kd.Q_far (p := ⟨gb447, 2, none⟩) (Kd.Q_far (p := ⟨gb447, 1, none⟩) (Kd.Q_far (p := ⟨gb447, 0, none⟩) (Kd.Q_types HO_9.out BK447.out (by decide)) (fun _ hk => hk.2) (.int .i64 t443)) (fun _ hk => hk.2) (.int .i64 t444)) (fun _ hk => hk.2) (.string t445)) (fun _ hk => hk.2) (.string t446)) (fun _ hk => trivial)⟩
                            have n1_ : Aside0 (((((w34.setCell ⟨gb447, 0, none⟩ (.int .i64 t443)).setCell ⟨gb447, 1, none⟩ (.int .i64 t444)).setCell ⟨gb447, 2, none⟩ (.string t445)).setCell ⟨gb447, 3, none⟩ (.string t446)).heap[gb428]? = some (.cells #[.int .i64 x429000_3, .string x429001_3] 27 (0, 0))) := ⟨by (with_reducible repeat (first | refine blk_drewN ?_ _ | refine blk_drew ?_ | refine blk_alloc ?_ _)); refine blk_far ?_ NB428_447.out _; (with_reducible repeat (first | refine blk_drewN ?_ _ | refine blk_drew ?_ | refine blk_alloc ?_ _)); refine blk_far ?_ NB428_447.out _; (with_reducible repeat (first | refine blk_drewN ?_ _ | refine blk_drew ?_ | refine blk_alloc ?_ _)); refine blk_far ?_ NB428_447.out _; (with_reducible repeat (first | refine blk_drewN ?_ _ | refine blk_drew ?_ | refine blk_alloc ?_ _)); refine blk_far ?_ NB428_447.out _; (with_reducible repeat (first | refine blk_drewN ?_ _ | refine blk_drew ?_ | refine blk_alloc ?_ _)); exact BK428.out⟩
                            have n2_ : Aside0 (((((w34.setCell ⟨gb447, 0, none⟩ (.int .i64 t443)).setCell ⟨gb447, 1, none⟩ (.int .i64 t444)).setCell ⟨gb447, 2, none⟩ (.string t445)).setCell ⟨gb447, 3, none⟩ (.string t446)).heap[gb447]? = some (.cells #[.int .i64 t443, .int .i64 t444, .string t445, .string t446] 32 (0, 0))) := ⟨by (with_reducible repeat (first | refine blk_drewN ?_ _ | refine blk_drew ?_ | refine blk_alloc ?_ _)); refine blk_put (cs := #[.int .i64 t443, .int .i64 t444, .string t445, .string (⟨#[]⟩ : ByteArray)]) ?_ 3 _ rfl; (with_reducible repeat (first | refine blk_drewN ?_ _ | refine blk_drew ?_ | refine blk_alloc ?_ _)); refine blk_put (cs := #[.int .i64 t443, .int .i64 t444, .string (⟨#[]⟩ : ByteArray), .string (⟨#[]⟩ : ByteArray)]) ?_ 2 _ rfl; (with_reducible repeat (first | refine blk_drewN ?_ _ | refine blk_drew ?_ | refine blk_alloc ?_ _)); refine blk_put (cs := #[.int .i64 t443, .int .i64 0, .string (⟨#[]⟩ : ByteArray), .string (⟨#[]⟩ : ByteArray)]) ?_ 1 _ rfl; (with_reducible repeat (first | refine blk_drewN ?_ _ | refine blk_drew ?_ | refine blk_alloc ?_ _)); refine blk_put (cs := #[.int .i64 0, .int .i64 0, .string (⟨#[]⟩ : ByteArray), .string (⟨#[]⟩ : ByteArray)]) ?_ 0 _ rfl; (with_reducible repeat (first | refine blk_drewN ?_ _ | refine blk_drew ?_ | refine blk_alloc ?_ _)); exact BK447.out⟩
                            have n3_ : Aside0 (Below w.heap.size w ((((w34.setCell ⟨gb447, 0, none⟩ (.int .i64 t443)).setCell ⟨gb447, 1, none⟩ (.int .i64 t444)).setCell ⟨gb447, 2, none⟩ (.string t445)).setCell ⟨gb447, 3, none⟩ (.string t446))) := ⟨belowG⟩
                            (try clear HO_9)
                            (try clear BK428)
                            (try clear BK447)
                            (try clear HB)
                            generalize ((((w34.setCell ⟨gb447, 0, none⟩ (.int .i64 t443)).setCell ⟨gb447, 1, none⟩ (.int .i64 t444)).setCell ⟨gb447, 2, none⟩ (.string t445)).setCell ⟨gb447, 3, none⟩ (.string t446)) = w49 at n0_ n1_ n2_ n3_ ⊢
                            have HO_9 := n0_; have BK428 := n1_; have BK447 := n2_; have HB := n3_; clear n0_ n1_ n2_ n3_; have n0_ := Aside0.mk (Kd.Q_drew HO_9.out); have n1_ := Aside0.mk (blk_drew BK428.out); have n2_ := Aside0.mk (blk_drew BK447.out); have n3_ := Aside0.mk (below_drew1 HB.out); clear HO_9; clear BK428; clear BK447; clear HB; have HO_9 := n0_; have BK428 := n1_; have BK447 := n2_; have HB := n3_; clear n0_ n1_ n2_ n3_
                            refine start_ (n := 13) (S := fun w' => w'.cell? ⟨gb447, 0, none⟩ = some (.int .i64 t443) ∧ w'.cell? ⟨gb447, 1, none⟩ = some (.int .i64 t444) ∧ w'.cell? ⟨gb447, 2, none⟩ = some (.string t445) ∧ w'.cell? ⟨gb447, 3, none⟩ = some (.string t446)) (ds := []) #[false,false,false,false,false,false,false,false,false,false,false,false,false] (by kernel_rfl) rfl rfl ⟨(blk_cell BK447.out 0).trans rfl, (blk_cell BK447.out 1).trans rfl, (blk_cell BK447.out 2).trans rfl, (blk_cell BK447.out 3).trans rfl⟩ (fun hHeld => ?_); refine with_tabW laws_FnNormer.tab17 laws_FnNormer.bits17 (fun HT_ HW_ => ?_)
                            generalize w49.drew = w50 at HO_9 BK428 BK447 HB hHeld ⊢
                            refine pure_ (i := 0) (N := some 68) (v := ?_) (a' := ?_) #[true,false,false,false,false,false,false,false,false,false,false,false,false] rfl rfl (any_of HT_.out (by kernel_rfl)) (fun _ _ _ h => h) (Or.inl ⟨by rfl, ?_⟩) ?_ ?_
                            rotate_left
                            · intro w'
                              go_simp; with_reducible rfl
                            rotate_left
                            · simp only [Act.put, List.setIfInBounds_toArray, List.set_cons_zero, List.set_cons_succ, i64_w, i32_w]
                              rfl
                            refine take_ (i := 1) (N := some 69) (v := ?_) (a' := ?_) #[true,true,false,false,false,false,false,false,false,false,false,false,false] rfl rfl (take_ofW HT_.out HW_.out (by kernel_rfl)) (fun _ _ _ h => h) (Or.inl ⟨by rfl, ?_⟩) hHeld ?_ ?_
                            rotate_left
                            · rintro w' ⟨s0, s1, s2, s3⟩
                              go_simp; with_reducible rfl
                            rotate_left
                            · simp only [Act.put, List.setIfInBounds_toArray, List.set_cons_zero, List.set_cons_succ, i64_w, i32_w]
                              rfl
                            refine pure_ (i := 2) (N := some 70) (v := ?_) (a' := ?_) #[true,true,true,false,false,false,false,false,false,false,false,false,false] rfl rfl (any_of HT_.out (by kernel_rfl)) (fun _ _ _ h => h) (Or.inl ⟨by rfl, ?_⟩) ?_ ?_
                            rotate_left
                            · intro w'
                              go_simp; with_reducible rfl
                            rotate_left
                            · simp only [Act.put, List.setIfInBounds_toArray, List.set_cons_zero, List.set_cons_succ, i64_w, i32_w]
                              rfl
                            refine pure_ (i := 3) (N := some 71) (v := ?_) (a' := ?_) #[true,true,true,true,false,false,false,false,false,false,false,false,false] rfl rfl (any_of HT_.out (by kernel_rfl)) (fun _ _ _ h => h) (Or.inl ⟨by rfl, ?_⟩) ?_ ?_
                            rotate_left
                            · intro w'
                              go_simp; with_reducible rfl
                            rotate_left
                            · simp only [Act.put, List.setIfInBounds_toArray, List.set_cons_zero, List.set_cons_succ, i64_w, i32_w]
                              rfl
                            refine pure_ (i := 4) (N := some 72) (v := undef) (a' := ?_) #[true,true,true,true,true,false,false,false,false,false,false,false,false] rfl rfl (any_of HT_.out (by kernel_rfl)) (fun _ _ _ h => h) (Or.inr ⟨by rfl, rfl⟩) ?_ ?_
                            rotate_left
                            · simp only [Act.put, List.setIfInBounds_toArray, List.set_cons_zero, List.set_cons_succ, i64_w, i32_w]
                              rfl
                            refine pure_ (i := 5) (N := some 73) (v := undef) (a' := ?_) #[true,true,true,true,true,true,false,false,false,false,false,false,false] rfl rfl (any_of HT_.out (by kernel_rfl)) (fun _ _ _ h => h) (Or.inr ⟨by rfl, rfl⟩) ?_ ?_
                            rotate_left
                            · simp only [Act.put, List.setIfInBounds_toArray, List.set_cons_zero, List.set_cons_succ, i64_w, i32_w]
                              rfl
                            refine pure_ (i := 6) (N := some 74) (v := undef) (a' := ?_) #[true,true,true,true,true,true,true,false,false,false,false,false,false] rfl rfl (any_of HT_.out (by kernel_rfl)) (fun _ _ _ h => h) (Or.inr ⟨by rfl, rfl⟩) ?_ ?_
                            rotate_left
                            · simp only [Act.put, List.setIfInBounds_toArray, List.set_cons_zero, List.set_cons_succ, i64_w, i32_w]
                              rfl
                            refine pure_ (i := 7) (N := some 75) (v := undef) (a' := ?_) #[true,true,true,true,true,true,true,true,false,false,false,false,false] rfl rfl (any_of HT_.out (by kernel_rfl)) (fun _ _ _ h => h) (Or.inr ⟨by rfl, rfl⟩) ?_ ?_
                            rotate_left
                            · simp only [Act.put, List.setIfInBounds_toArray, List.set_cons_zero, List.set_cons_succ, i64_w, i32_w]
                              rfl
                            refine pure_ (i := 8) (N := some 76) (v := undef) (a' := ?_) #[true,true,true,true,true,true,true,true,true,false,false,false,false] rfl rfl (any_of HT_.out (by kernel_rfl)) (fun _ _ _ h => h) (Or.inr ⟨by rfl, rfl⟩) ?_ ?_
                            rotate_left
                            · simp only [Act.put, List.setIfInBounds_toArray, List.set_cons_zero, List.set_cons_succ, i64_w, i32_w]
                              rfl
                            refine pure_ (i := 9) (N := some 77) (v := undef) (a' := ?_) #[true,true,true,true,true,true,true,true,true,true,false,false,false] rfl rfl (any_of HT_.out (by kernel_rfl)) (fun _ _ _ h => h) (Or.inr ⟨by rfl, rfl⟩) ?_ ?_
                            rotate_left
                            · simp only [Act.put, List.setIfInBounds_toArray, List.set_cons_zero, List.set_cons_succ, i64_w, i32_w]
                              rfl
                            refine pure_ (i := 10) (N := some 78) (v := undef) (a' := ?_) #[true,true,true,true,true,true,true,true,true,true,true,false,false] rfl rfl (any_of HT_.out (by kernel_rfl)) (fun _ _ _ h => h) (Or.inr ⟨by rfl, rfl⟩) ?_ ?_
                            rotate_left
                            · simp only [Act.put, List.setIfInBounds_toArray, List.set_cons_zero, List.set_cons_succ, i64_w, i32_w]
                              rfl
                            refine pure_ (i := 11) (N := some 79) (v := undef) (a' := ?_) #[true,true,true,true,true,true,true,true,true,true,true,true,false] rfl rfl (any_of HT_.out (by kernel_rfl)) (fun _ _ _ h => h) (Or.inr ⟨by rfl, rfl⟩) ?_ ?_
                            rotate_left
                            · simp only [Act.put, List.setIfInBounds_toArray, List.set_cons_zero, List.set_cons_succ, i64_w, i32_w]
                              rfl
                            refine pure_ (i := 12) (N := some 80) (v := ?_) (a' := ?_) #[true,true,true,true,true,true,true,true,true,true,true,true,true] rfl rfl (any_of HT_.out (by kernel_rfl)) (fun _ _ _ h => h) (Or.inl ⟨by rfl, ?_⟩) ?_ ?_
                            rotate_left
                            · intro w'
                              go_simp; with_reducible rfl
                            rotate_left
                            · simp only [Act.put, List.setIfInBounds_toArray, List.set_cons_zero, List.set_cons_succ, i64_w, i32_w]
                              rfl
                            refine done_ (done_of HT_.out (by kernel_rfl)) ?_
                            try go_wp2
                            go_meet
                            case rel => exact ⟨_, (false), (by first | rfl | (simp; done) | (simp [*]; done)), H', ⟨by have := HJ2.out; have := HJ7.out; have := HK3.out; have := HJ20.out; first | omega | exact Nat.le_refl _⟩, ⟨by (with_reducible repeat (first | apply Kd.Q_alloc | apply Kd.Q_drewN | apply Kd.Q_drew)); exact HO_9.out⟩, ⟨by (with_reducible repeat (first | refine blk_drewN ?_ _ | refine blk_drew ?_ | refine blk_alloc ?_ _)); exact BK428.out⟩, ⟨by (with_reducible repeat (first | refine blk_drewN ?_ _ | refine blk_drew ?_ | refine blk_alloc ?_ _)); exact BK447.out⟩, ⟨belowG⟩⟩
                          case rest =>
                            clear HC28
                            try clear c1; try clear c2; try clear p2; try clear c3; try clear c4; try clear q4; try clear c19; try clear c20; try clear c21; try clear c39; try clear c39b0; try clear c39b1; try clear c40; try clear c40b0; try clear c41; try clear c41b0; try clear q46; try clear q46
                            obtain ⟨kq, x80_27, rfl, HA, HJ27, HO_9, BK428, BK447, HB⟩ := hcut
                            cases kq with
                            | zero => exact absurd HA.out (by simp [laws_FnNormer.j4])
                            | succ kj27 =>
                              have H := HA.out; clear HA; simp only [laws_FnNormer.j4] at H
                              by_cases c51 : x80_27 = true
                              · subst c51
                                have H1 : (some true) = some r := by rw [if_pos rfl] at H; exact H
                                clear H; have H := H1; clear H1; obtain rfl := Option.some.inj H
                                go_wp2
                                go_ret
                                exact ⟨by first | rfl | (simp [errW_none, errW_some] <;> rfl) | (simp [*, errW_none, errW_some] <;> rfl), belowG⟩
                              replace c51 := Bool.eq_false_iff.mpr c51; subst c51
                              have H1 : (if t443 = 0 then ((W_impl_NormerFault.f t444 t445).bind fun t457 => (if t457 = 0 then (if x10_3.size + t446.size ≤ 9223372036854775807 then (if 0 ≤ x12_20 then (if x12_20 ≤ (x9_3.length : Int) then (laws_FnNormer.l0 (t424, t425) kj27 l1 t426 (x9_3.drop (x12_20 : Int).toNat) (x10_3 ++ t446) (wrap64 (x11_3 + 1)) t444 t445) else (none)) else (none)) else (none)) else (some false))) else (some false)) = some r := by rw [if_neg (show ¬ (false = true) by decide)] at H; exact H
                              clear H; have H := H1; clear H1
                              by_cases c52 : t443 = 0
                              · rw [if_pos c52] at H
                                have c52b0 : (t443 == 0) = true := beq_iff_eq.mpr c52; have c52b1 : (t443 != 0) = false := bne_eq_false_iff_eq.mpr c52; clear c52; replace H := Option.bind_eq_some_iff.mp H; obtain ⟨t457, A530, H⟩ := H
                                try dsimp only at H
                                have A53 := Aside0.mk A530; clear A530
                                by_cases c54 : t457 = 0
                                · rw [if_pos c54] at H
                                  have c54b0 : (t457 == 0) = true := beq_iff_eq.mpr c54; have c54b1 : (t457 != 0) = false := bne_eq_false_iff_eq.mpr c54; clear c54
                                  by_cases c55 : x10_3.size + t446.size ≤ 9223372036854775807
                                  · rw [if_pos c55] at H
                                    have c55b0 := eq_true c55; have c55b1 : decide (x10_3.size + t446.size ≤ 9223372036854775807) = true := decide_eq_true c55
                                    try have c55b2 : (9223372036854775807 < x10_3.size + t446.size) = False := eq_false (Nat.not_lt.2 c55)
                                    by_cases c56 : 0 ≤ x12_20
                                    · rw [if_pos c56] at H
                                      have c56b0 := eq_true c56; have c56b1 : decide (0 ≤ x12_20) = true := decide_eq_true c56; clear c56
                                      by_cases c57 : x12_20 ≤ (x9_3.length : Int)
                                      · rw [if_pos c57] at H
                                        have c57b0 := eq_true c57; have c57b1 : decide (x12_20 ≤ (x9_3.length : Int)) = true := decide_eq_true c57; clear c57; obtain ⟨y458, hy458⟩ : ∃ y_ : List Int, y_ = (x9_3.drop (x12_20 : Int).toNat) := ⟨_, rfl⟩
                                        replace H : (laws_FnNormer.l0 (t424, t425) kj27 l1 t426 y458 (x10_3 ++ t446) (wrap64 (x11_3 + 1)) t444 t445) = some r := by first | (rw [hy458]; with_reducible exact H) | (have H2_ := (Option.bind_some _ _).symm.trans H; rw [hy458]; with_reducible exact H2_) | (have H2_ := (Option.bind_some _ _).symm.trans H; with_reducible exact H2_) | with_reducible exact H | (rw [hy458]; exact H) | exact H
                                        have Ny458 := Aside0.mk hy458; clear hy458; have H' := Aside0.mk H; clear H; have hnb58 := NB447_428.out; have hnc58 := NB428_447.out; have hcz59_0 : wc.cell? ⟨gb447, 0, none⟩ = some (.int .i64 t443) := (blk_cell BK447.out 0).trans rfl; have hcz59_1 : wc.cell? ⟨gb447, 1, none⟩ = some (.int .i64 t444) := (blk_cell BK447.out 1).trans rfl; have hcz59_2 : wc.cell? ⟨gb447, 2, none⟩ = some (.string t445) := (blk_cell BK447.out 2).trans rfl; have hcz59_3 : wc.cell? ⟨gb447, 3, none⟩ = some (.string t446) := (blk_cell BK447.out 3).trans rfl; have hfz59_0 := blk_frozen BK447.out 0; have hfz59_1 := blk_frozen BK447.out 1; have hfz59_2 := blk_frozen BK447.out 2; have hfz59_3 := blk_frozen BK447.out 3
                                        go_wp2_with (first | (go_at_call 22; (with_reducible refine (W_impl_NormerFault.calls t444 t445 t457 _ A53.out gtA).mono ?_); rintro e w60 ⟨rfl, hb⟩; have n0_ := qbb HO_9.out hb; have n1_ := bkb BK428.out hb; have n2_ := bkb BK447.out hb; have n3_ := Aside0.mk (below_step (belowG) hb); replace HO_9 := n0_; replace BK428 := n1_; replace BK447 := n2_; replace HB := n3_; clear n0_ n1_ n2_ n3_; clear hb; have hcz61_0 : w60.cell? ⟨gb447, 0, none⟩ = some (.int .i64 t443) := (blk_cell BK447.out 0).trans rfl; have hcz61_1 : w60.cell? ⟨gb447, 1, none⟩ = some (.int .i64 t444) := (blk_cell BK447.out 1).trans rfl; have hcz61_2 : w60.cell? ⟨gb447, 2, none⟩ = some (.string t445) := (blk_cell BK447.out 2).trans rfl; have hcz61_3 : w60.cell? ⟨gb447, 3, none⟩ = some (.string t446) := (blk_cell BK447.out 3).trans rfl; have hfz61_0 := blk_frozen BK447.out 0; have hfz61_1 := blk_frozen BK447.out 1; have hfz61_2 := blk_frozen BK447.out 2; have hfz61_3 := blk_frozen BK447.out 3; have hcz62_0 : w60.cell? ⟨gb428, 0, none⟩ = some (.int .i64 x429000_3) := (blk_cell BK428.out 0).trans rfl; have hcz62_1 : w60.cell? ⟨gb428, 1, none⟩ = some (.string x429001_3) := (blk_cell BK428.out 1).trans rfl; have hfz62_0 := blk_frozen BK428.out 0; have hfz62_1 := blk_frozen BK428.out 1) | ((with_reducible refine gate_store (t := 27) (p := 8) rfl ?_); refine store_event (t := 27) (p := 8) (v := ?vo_w63) (w1 := ((w60.setCell ⟨gb428, 0, none⟩ (.int .i64 t444)).setCell ⟨gb428, 1, none⟩ (.string t445))) ?hg ?ho ?hn ?hr ?_; (case ho => rfl); (case hg => rfl); (case hn => rfl); (case hr => first | (go_simp; done) | (go_simp; rfl)); intro w63 hw; have n0_ : Aside0 (Kd.Q (Kd.int .i64) 2 w63 w.heap.size (fun _ => True) (.slice Ao22 x9_3.length co22) x9_3) := ⟨(by rw [hw]; exact (by (with_reducible repeat (first | apply Kd.Q_alloc | apply Kd.Q_drewN | apply Kd.Q_drew)); exact Kd.Q_mono (Kd.Q_far (p := ⟨gb428, 1, none⟩) (Kd.Q_far (p := ⟨gb428, 0, none⟩) (Kd.Q_types HO_9.out BK428.out (by decide)) (fun _ hk => hk.2) (.int .i64 t444)) (fun _ hk => hk.2) (.string t445)) (fun _ hk => trivial)))⟩; have n1_ : Aside0 (w63.heap[gb428]? = some (.cells #[.int .i64 t444, .string t445] 27 (0, 0))) := ⟨(by rw [hw]; exact (by (with_reducible repeat (first | refine blk_drewN ?_ _ | refine blk_drew ?_ | refine blk_alloc ?_ _)); refine blk_put (cs := #[.int .i64 t444, .string x429001_3]) ?_ 1 _ rfl; (with_reducible repeat (first | refine blk_drewN ?_ _ | refine blk_drew ?_ | refine blk_alloc ?_ _)); refine blk_put (cs := #[.int .i64 x429000_3, .string x429001_3]) ?_ 0 _ rfl; (with_reducible repeat (first | refine blk_drewN ?_ _ | refine blk_drew ?_ | refine blk_alloc ?_ _)); exact BK428.out))⟩; have n2_ : Aside0 (w63.heap[gb447]? = some (.cells #[.int .i64 t443, .int .i64 t444, .string t445, .string t446] 32 (0, 0))) := ⟨(by rw [hw]; exact (by (with_reducible repeat (first | refine blk_drewN ?_ _ | refine blk_drew ?_ | refine blk_alloc ?_ _)); refine blk_far ?_ NB447_428.out _; (with_reducible repeat (first | refine blk_drewN ?_ _ | refine blk_drew ?_ | refine blk_alloc ?_ _)); refine blk_far ?_ NB447_428.out _; (with_reducible repeat (first | refine blk_drewN ?_ _ | refine blk_drew ?_ | refine blk_alloc ?_ _)); exact BK447.out))⟩; have n3_ : Aside0 (Below w.heap.size w w63) := ⟨(by rw [hw]; exact (belowG))⟩; clear hw; clear HO_9; clear BK428; clear BK447; clear HB; have HO_9 := n0_; have BK428 := n1_; have BK447 := n2_; have HB := n3_; clear n0_ n1_ n2_ n3_; have q64 : (x12_20 : Int) ≤ ((x9_3.length : Int) : Int) := ode; obtain ⟨i064, hi064, _, hsz64, _⟩ := info_parts info2; have hcut64 := cut_from (P := Tryd.prog) 28 2 .i64 Tryd.underlying28 hi064 1 hsz64 Ao22 x9_3.length co22 x12_20 (ode) q64; have hr64 := Kd.Q_drop (k := (x12_20 : Int).toNat) HO_9.out (by omega); obtain ⟨A64, hA64⟩ : ∃ A1, A1 = (if co22 = (x12_20 : Int).toNat then Ao22 else (Ao22 : Option Addr).map (·.add ((x12_20 : Int).toNat * 1))) := ⟨_, rfl⟩; obtain ⟨c64, hc64⟩ : ∃ c1, c1 = co22 - (x12_20 : Int).toNat := ⟨_, rfl⟩; have hy64 : y458.length = x9_3.length - (x12_20 : Int).toNat := (by rw [Ny458.out, List.length_drop]); rw [← Ny458.out] at hr64; rw [← hy64, ← hA64, ← hc64] at hcut64; replace hr64 : Kd.Q (Kd.int .i64) 2 w63 w.heap.size (fun _ => True) (.slice A64 y458.length c64) y458 := (by rw [hA64, hc64, hy64]; exact hr64); have HE64 : Aside0 ((Value.slice A64 y458.length c64).ownBlock = (.slice Ao22 x9_3.length co22 : Value).ownBlock) := ⟨by rw [hA64]; split <;> (cases (Ao22 : Option Addr) <;> first | rfl | (simp only [Option.map, Value.ownBlock, Addr.add]; split <;> rfl))⟩; clear hy64 hi064 hsz64 HO_9 hA64 hc64; have HO460 := Aside0.mk hr64; clear hr64; replace q64 := eq_true q64))
                                        go_roundg kj27
                                        case measure => have := HJ2.out; have := HJ7.out; have := HK3.out; have := HJ20.out; have := HJ27.out; omega
                                        case rel => exact ⟨(y458), (x10_3 ++ t446), (wrap64 (x11_3 + 1)), (t444), (t445), (by first | rfl | (simp; done) | (simp [*]; done)), (by first | rfl | (simp; done) | (simp [*]; done)), H', ⟨by have := HJ2.out; have := HJ7.out; have := HK3.out; have := HJ20.out; have := HJ27.out; omega⟩, ⟨by (with_reducible repeat (first | apply Kd.Q_alloc | apply Kd.Q_drewN | apply Kd.Q_drew)); exact HO460.out⟩, ⟨by (with_reducible repeat (first | refine blk_drewN ?_ _ | refine blk_drew ?_ | refine blk_alloc ?_ _)); exact BK428.out⟩, ⟨belowG⟩⟩
                                      rw [if_neg c57] at H
                                      exact absurd H (by simp)
                                    rw [if_neg c56] at H
                                    exact absurd H (by simp)
                                  rw [if_neg c55] at H
                                  exact absurd H (by simp)
                                rw [if_neg c54] at H; have c54b0 : (t457 == 0) = false := beq_eq_false_iff_ne.mpr c54; have c54b1 : (t457 != 0) = true := bne_iff_ne.mpr c54; obtain rfl := Option.some.inj H; have hnb65 := NB447_428.out; have hnc65 := NB428_447.out; have hcz66_0 : wc.cell? ⟨gb447, 0, none⟩ = some (.int .i64 t443) := (blk_cell BK447.out 0).trans rfl; have hcz66_1 : wc.cell? ⟨gb447, 1, none⟩ = some (.int .i64 t444) := (blk_cell BK447.out 1).trans rfl; have hcz66_2 : wc.cell? ⟨gb447, 2, none⟩ = some (.string t445) := (blk_cell BK447.out 2).trans rfl; have hcz66_3 : wc.cell? ⟨gb447, 3, none⟩ = some (.string t446) := (blk_cell BK447.out 3).trans rfl; have hfz66_0 := blk_frozen BK447.out 0; have hfz66_1 := blk_frozen BK447.out 1; have hfz66_2 := blk_frozen BK447.out 2; have hfz66_3 := blk_frozen BK447.out 3
                                go_wp2_with (first | (go_at_call 22; (with_reducible refine (W_impl_NormerFault.calls t444 t445 t457 _ A53.out gtA).mono ?_); rintro e w67 ⟨rfl, hb⟩; have n0_ := qbb HO_9.out hb; have n1_ := bkb BK428.out hb; have n2_ := bkb BK447.out hb; have n3_ := Aside0.mk (below_step (belowG) hb); replace HO_9 := n0_; replace BK428 := n1_; replace BK447 := n2_; replace HB := n3_; clear n0_ n1_ n2_ n3_; clear hb))
                                go_ret
                                exact ⟨by first | rfl | (simp [errW_none, errW_some] <;> rfl) | (simp [*, errW_none, errW_some] <;> rfl), belowG⟩
                              rw [if_neg c52] at H; have c52b0 : (t443 == 0) = false := beq_eq_false_iff_ne.mpr c52; have c52b1 : (t443 != 0) = true := bne_iff_ne.mpr c52; obtain rfl := Option.some.inj H; have hnb68 := NB447_428.out; have hnc68 := NB428_447.out; have hcz69_0 : wc.cell? ⟨gb447, 0, none⟩ = some (.int .i64 t443) := (blk_cell BK447.out 0).trans rfl; have hcz69_1 : wc.cell? ⟨gb447, 1, none⟩ = some (.int .i64 t444) := (blk_cell BK447.out 1).trans rfl; have hcz69_2 : wc.cell? ⟨gb447, 2, none⟩ = some (.string t445) := (blk_cell BK447.out 2).trans rfl; have hcz69_3 : wc.cell? ⟨gb447, 3, none⟩ = some (.string t446) := (blk_cell BK447.out 3).trans rfl; have hfz69_0 := blk_frozen BK447.out 0; have hfz69_1 := blk_frozen BK447.out 1; have hfz69_2 := blk_frozen BK447.out 2; have hfz69_3 := blk_frozen BK447.out 3
                              go_wp2
                              go_ret
                              exact ⟨by first | rfl | (simp [errW_none, errW_some] <;> rfl) | (simp [*, errW_none, errW_some] <;> rfl), belowG⟩
                        rw [if_neg c25] at H
                        exact absurd H (by simp)
                      rw [if_neg c24] at H
                      exact absurd H (by simp)
                rw [if_neg c19] at H; have c19b0 : decide (0 < (x9_3.length : Int)) = false := decide_eq_false c19
                have c19b1 : decide (0 < x9_3.length) = false := decide_eq_false (by omega)
                clear c19; replace H := Option.bind_eq_some_iff.mp H; obtain ⟨⟨t432, t433, t434, t435⟩, A700, H⟩ := H
                try dsimp only at H
                have A70 := Aside0.mk A700; clear A700
                by_cases c71 : t432 = 0
                · rw [if_pos c71] at H
                  have c71b0 : (t432 == 0) = true := beq_iff_eq.mpr c71; have c71b1 : (t432 != 0) = false := bne_eq_false_iff_eq.mpr c71; clear c71
                  by_cases c72 : t434.toList = ([] : List UInt8)
                  · rw [if_pos c72] at H
                    have c72b0 : (t434.toList == ([] : List UInt8)) = true := beq_iff_eq.mpr c72; have c72b1 : (t434.toList != ([] : List UInt8)) = false := bne_eq_false_iff_eq.mpr c72; clear c72
                    by_cases c73 : x10_3.size + t435.size ≤ 9223372036854775807
                    · rw [if_pos c73] at H
                      have c73b0 := eq_true c73; have c73b1 : decide (x10_3.size + t435.size ≤ 9223372036854775807) = true := decide_eq_true c73
                      try have c73b2 : (9223372036854775807 < x10_3.size + t435.size) = False := eq_false (Nat.not_lt.2 c73)
                      obtain rfl := Option.some.inj H; obtain ⟨Ao74, co74, eo74, _⟩ := Kd.Q_slice HO_9.out; subst eo74; have hcz75_0 : wr.cell? ⟨gb428, 0, none⟩ = some (.int .i64 x429000_3) := (blk_cell BK428.out 0).trans rfl; have hcz75_1 : wr.cell? ⟨gb428, 1, none⟩ = some (.string x429001_3) := (blk_cell BK428.out 1).trans rfl; have hfz75_0 := blk_frozen BK428.out 0; have hfz75_1 := blk_frozen BK428.out 1
                      go_wp2_with (first | (go_at_call 23; (with_reducible refine (impl_EndNormer.calls x429000_3 x429001_3 t432 t433 t434 t435 _ A70.out gtA).mono ?_); rintro e w76 ⟨rfl, hb⟩; have n0_ := qbb HO_9.out hb; have n1_ := bkb BK428.out hb; have n2_ := Aside0.mk (below_step (belowG) hb); replace HO_9 := n0_; replace BK428 := n1_; replace HB := n2_; clear n0_ n1_ n2_; clear hb) | ((with_reducible refine gate_dst (N := 14) rfl ?_); (try (refine gate_guard (by rfl) ?_; dsimp only)); refine box_event ?hg (N := 14) ?hd (cs := #[.int .i64 0, .int .i64 0, .string (⟨#[]⟩ : ByteArray), .string (⟨#[]⟩ : ByteArray)]) (t := 32) ?hr ?_; (case hd => rfl); (case hg => rfl); (case hr => first | (go_simp; done) | (go_simp; rfl)); intro gb436 hg w77 hbox hb; have n0_ := qbb HO_9.out hb; have n1_ := bkb BK428.out hb; have n2_ := Aside0.mk (below_step (belowG) hb); have n3_ := Aside0.mk (hbox); have n4_ := Aside0.mk ((by rw [hg]; exact (below_size (belowG)) : w.heap.size ≤ gb436)); have n5_ := Aside0.mk ((by rw [hg]; exact (below_size (belowG)) : w.heap.size ≤ gb436)); have n6_ := Aside0.mk ((by rw [hg]; exact Nat.ne_of_lt (blk_lt (g := gb428) (o := .cells #[.int .i64 x429000_3, .string x429001_3] 27 (0, 0)) (by (with_reducible repeat (first | refine blk_drewN ?_ _ | refine blk_drew ?_ | refine blk_alloc ?_ _)); exact BK428.out)) : gb428 ≠ gb436)); have n7_ := Aside0.mk ((by rw [hg]; exact Nat.ne_of_gt (blk_lt (g := gb428) (o := .cells #[.int .i64 x429000_3, .string x429001_3] 27 (0, 0)) (by (with_reducible repeat (first | refine blk_drewN ?_ _ | refine blk_drew ?_ | refine blk_alloc ?_ _)); exact BK428.out)) : gb436 ≠ gb428)); replace HO_9 := n0_; replace BK428 := n1_; replace HB := n2_; have BK436 := n3_; have GW436 := n4_; have GE436 := n5_; have NB428_436 := n6_; have NB436_428 := n7_; clear n0_ n1_ n2_ n3_ n4_ n5_ n6_ n7_; clear hb hbox hg; have hnb78 := NB436_428.out; have hnc78 := NB428_436.out; have hcz79_0 : w77.cell? ⟨gb436, 0, none⟩ = some (.int .i64 0) := (blk_cell BK436.out 0).trans rfl; have hcz79_1 : w77.cell? ⟨gb436, 1, none⟩ = some (.int .i64 0) := (blk_cell BK436.out 1).trans rfl; have hcz79_2 : w77.cell? ⟨gb436, 2, none⟩ = some (.string (⟨#[]⟩ : ByteArray)) := (blk_cell BK436.out 2).trans rfl; have hcz79_3 : w77.cell? ⟨gb436, 3, none⟩ = some (.string (⟨#[]⟩ : ByteArray)) := (blk_cell BK436.out 3).trans rfl; have hfz79_0 := blk_frozen BK436.out 0; have hfz79_1 := blk_frozen BK436.out 1; have hfz79_2 := blk_frozen BK436.out 2; have hfz79_3 := blk_frozen BK436.out 3))
                      go_ret
                      exact ⟨by first | rfl | (simp [errW_none, errW_some] <;> rfl) | (simp [*, errW_none, errW_some] <;> rfl), belowG⟩
                    rw [if_neg c73] at H
                    exact absurd H (by simp)
                  rw [if_neg c72] at H; have c72b0 : (t434.toList == ([] : List UInt8)) = false := beq_eq_false_iff_ne.mpr c72; have c72b1 : (t434.toList != ([] : List UInt8)) = true := bne_iff_ne.mpr c72; obtain rfl := Option.some.inj H; obtain ⟨Ao80, co80, eo80, _⟩ := Kd.Q_slice HO_9.out; subst eo80; have hcz81_0 : wr.cell? ⟨gb428, 0, none⟩ = some (.int .i64 x429000_3) := (blk_cell BK428.out 0).trans rfl; have hcz81_1 : wr.cell? ⟨gb428, 1, none⟩ = some (.string x429001_3) := (blk_cell BK428.out 1).trans rfl; have hfz81_0 := blk_frozen BK428.out 0; have hfz81_1 := blk_frozen BK428.out 1
                  go_wp2_with (first | (go_at_call 23; (with_reducible refine (impl_EndNormer.calls x429000_3 x429001_3 t432 t433 t434 t435 _ A70.out gtA).mono ?_); rintro e w82 ⟨rfl, hb⟩; have n0_ := qbb HO_9.out hb; have n1_ := bkb BK428.out hb; have n2_ := Aside0.mk (below_step (belowG) hb); replace HO_9 := n0_; replace BK428 := n1_; replace HB := n2_; clear n0_ n1_ n2_; clear hb) | ((with_reducible refine gate_dst (N := 14) rfl ?_); (try (refine gate_guard (by rfl) ?_; dsimp only)); refine box_event ?hg (N := 14) ?hd (cs := #[.int .i64 0, .int .i64 0, .string (⟨#[]⟩ : ByteArray), .string (⟨#[]⟩ : ByteArray)]) (t := 32) ?hr ?_; (case hd => rfl); (case hg => rfl); (case hr => first | (go_simp; done) | (go_simp; rfl)); intro gb436 hg w83 hbox hb; have n0_ := qbb HO_9.out hb; have n1_ := bkb BK428.out hb; have n2_ := Aside0.mk (below_step (belowG) hb); have n3_ := Aside0.mk (hbox); have n4_ := Aside0.mk ((by rw [hg]; exact (below_size (belowG)) : w.heap.size ≤ gb436)); have n5_ := Aside0.mk ((by rw [hg]; exact (below_size (belowG)) : w.heap.size ≤ gb436)); have n6_ := Aside0.mk ((by rw [hg]; exact Nat.ne_of_lt (blk_lt (g := gb428) (o := .cells #[.int .i64 x429000_3, .string x429001_3] 27 (0, 0)) (by (with_reducible repeat (first | refine blk_drewN ?_ _ | refine blk_drew ?_ | refine blk_alloc ?_ _)); exact BK428.out)) : gb428 ≠ gb436)); have n7_ := Aside0.mk ((by rw [hg]; exact Nat.ne_of_gt (blk_lt (g := gb428) (o := .cells #[.int .i64 x429000_3, .string x429001_3] 27 (0, 0)) (by (with_reducible repeat (first | refine blk_drewN ?_ _ | refine blk_drew ?_ | refine blk_alloc ?_ _)); exact BK428.out)) : gb436 ≠ gb428)); replace HO_9 := n0_; replace BK428 := n1_; replace HB := n2_; have BK436 := n3_; have GW436 := n4_; have GE436 := n5_; have NB428_436 := n6_; have NB436_428 := n7_; clear n0_ n1_ n2_ n3_ n4_ n5_ n6_ n7_; clear hb hbox hg; have hnb84 := NB436_428.out; have hnc84 := NB428_436.out; have hcz85_0 : w83.cell? ⟨gb436, 0, none⟩ = some (.int .i64 0) := (blk_cell BK436.out 0).trans rfl; have hcz85_1 : w83.cell? ⟨gb436, 1, none⟩ = some (.int .i64 0) := (blk_cell BK436.out 1).trans rfl; have hcz85_2 : w83.cell? ⟨gb436, 2, none⟩ = some (.string (⟨#[]⟩ : ByteArray)) := (blk_cell BK436.out 2).trans rfl; have hcz85_3 : w83.cell? ⟨gb436, 3, none⟩ = some (.string (⟨#[]⟩ : ByteArray)) := (blk_cell BK436.out 3).trans rfl; have hfz85_0 := blk_frozen BK436.out 0; have hfz85_1 := blk_frozen BK436.out 1; have hfz85_2 := blk_frozen BK436.out 2; have hfz85_3 := blk_frozen BK436.out 3))
                  go_ret
                  exact ⟨by first | rfl | (simp [errW_none, errW_some] <;> rfl) | (simp [*, errW_none, errW_some] <;> rfl), belowG⟩
                rw [if_neg c71] at H; have c71b0 : (t432 == 0) = false := beq_eq_false_iff_ne.mpr c71; have c71b1 : (t432 != 0) = true := bne_iff_ne.mpr c71; obtain rfl := Option.some.inj H; obtain ⟨Ao86, co86, eo86, _⟩ := Kd.Q_slice HO_9.out; subst eo86; have hcz87_0 : wr.cell? ⟨gb428, 0, none⟩ = some (.int .i64 x429000_3) := (blk_cell BK428.out 0).trans rfl; have hcz87_1 : wr.cell? ⟨gb428, 1, none⟩ = some (.string x429001_3) := (blk_cell BK428.out 1).trans rfl; have hfz87_0 := blk_frozen BK428.out 0; have hfz87_1 := blk_frozen BK428.out 1
                go_wp2_with (first | (go_at_call 23; (with_reducible refine (impl_EndNormer.calls x429000_3 x429001_3 t432 t433 t434 t435 _ A70.out gtA).mono ?_); rintro e w88 ⟨rfl, hb⟩; have n0_ := qbb HO_9.out hb; have n1_ := bkb BK428.out hb; have n2_ := Aside0.mk (below_step (belowG) hb); replace HO_9 := n0_; replace BK428 := n1_; replace HB := n2_; clear n0_ n1_ n2_; clear hb) | ((with_reducible refine gate_dst (N := 14) rfl ?_); (try (refine gate_guard (by rfl) ?_; dsimp only)); refine box_event ?hg (N := 14) ?hd (cs := #[.int .i64 0, .int .i64 0, .string (⟨#[]⟩ : ByteArray), .string (⟨#[]⟩ : ByteArray)]) (t := 32) ?hr ?_; (case hd => rfl); (case hg => rfl); (case hr => first | (go_simp; done) | (go_simp; rfl)); intro gb436 hg w89 hbox hb; have n0_ := qbb HO_9.out hb; have n1_ := bkb BK428.out hb; have n2_ := Aside0.mk (below_step (belowG) hb); have n3_ := Aside0.mk (hbox); have n4_ := Aside0.mk ((by rw [hg]; exact (below_size (belowG)) : w.heap.size ≤ gb436)); have n5_ := Aside0.mk ((by rw [hg]; exact (below_size (belowG)) : w.heap.size ≤ gb436)); have n6_ := Aside0.mk ((by rw [hg]; exact Nat.ne_of_lt (blk_lt (g := gb428) (o := .cells #[.int .i64 x429000_3, .string x429001_3] 27 (0, 0)) (by (with_reducible repeat (first | refine blk_drewN ?_ _ | refine blk_drew ?_ | refine blk_alloc ?_ _)); exact BK428.out)) : gb428 ≠ gb436)); have n7_ := Aside0.mk ((by rw [hg]; exact Nat.ne_of_gt (blk_lt (g := gb428) (o := .cells #[.int .i64 x429000_3, .string x429001_3] 27 (0, 0)) (by (with_reducible repeat (first | refine blk_drewN ?_ _ | refine blk_drew ?_ | refine blk_alloc ?_ _)); exact BK428.out)) : gb436 ≠ gb428)); replace HO_9 := n0_; replace BK428 := n1_; replace HB := n2_; have BK436 := n3_; have GW436 := n4_; have GE436 := n5_; have NB428_436 := n6_; have NB436_428 := n7_; clear n0_ n1_ n2_ n3_ n4_ n5_ n6_ n7_; clear hb hbox hg; have hnb90 := NB436_428.out; have hnc90 := NB428_436.out; have hcz91_0 : w89.cell? ⟨gb436, 0, none⟩ = some (.int .i64 0) := (blk_cell BK436.out 0).trans rfl; have hcz91_1 : w89.cell? ⟨gb436, 1, none⟩ = some (.int .i64 0) := (blk_cell BK436.out 1).trans rfl; have hcz91_2 : w89.cell? ⟨gb436, 2, none⟩ = some (.string (⟨#[]⟩ : ByteArray)) := (blk_cell BK436.out 2).trans rfl; have hcz91_3 : w89.cell? ⟨gb436, 3, none⟩ = some (.string (⟨#[]⟩ : ByteArray)) := (blk_cell BK436.out 3).trans rfl; have hfz91_0 := blk_frozen BK436.out 0; have hfz91_1 := blk_frozen BK436.out 1; have hfz91_2 := blk_frozen BK436.out 2; have hfz91_3 := blk_frozen BK436.out 3))
                go_ret
                exact ⟨by first | rfl | (simp [errW_none, errW_some] <;> rfl) | (simp [*, errW_none, errW_some] <;> rfl), belowG⟩

/-- THE ONE PURE STATEMENT of laws_FnNormer: yours. -/
def laws_FnNormer.Pure : Prop := ∀ (l0 : List Int) (l1 : List Int), l0.length ≤ maxLen → l0.length * 1 ≤ 140737488351232 → (∀ x ∈ l0, (Lit.int .u8 x).wf = true) → l1.length ≤ maxLen → l1.length * 1 ≤ 140737488351232 → (∀ x ∈ l1, (Lit.int .u8 x).wf = true) → ∀ d_ : Int × ByteArray, (fun d_ => d_.2.size ≤ 100000) d_ → ∃ k, laws_FnNormer.f d_ k l0 l1 = some true
theorem laws_FnNormer.walk (P : laws_FnNormer.Pure) (a0 : Option Addr) (len0 cap0 : Nat) (z0 : List Int) (a1 : Option Addr) (len1 cap1 : Nat) (z1 : List Int) (w : World) (hG : GT w) (w0 : (a0 = none ∧ len0 = 0 ∧ cap0 = 0 ∧ z0 = []) ∨ ∃ x, a0 = some x ∧ len0 ≤ cap0 ∧ cap0 ≤ maxLen ∧ z0.length = cap0 ∧ (∀ i, i < z0.length → w.cell? (x.add i) = some (.int .u8 (z0.getD i 0))) ∧ ∀ n ∈ z0, (Lit.int .u8 n).wf = true) (y0 : len0 * 1 ≤ 140737488351232) (w1 : (a1 = none ∧ len1 = 0 ∧ cap1 = 0 ∧ z1 = []) ∨ ∃ x, a1 = some x ∧ len1 ≤ cap1 ∧ cap1 ≤ maxLen ∧ z1.length = cap1 ∧ (∀ i, i < z1.length → w.cell? (x.add i) = some (.int .u8 (z1.getD i 0))) ∧ ∀ n ∈ z1, (Lit.int .u8 n).wf = true) (y1 : len1 * 1 ≤ 140737488351232) :
    Calls Tryd.prog 3 #[.slice a0 len0 cap0, .slice a1 len1 cap1] w fun e w' => e = .returned (.bool true) ∧ Below w.heap.size w w' := by
  obtain ⟨l0, rfl, hr0, hm0, hw0, hc0⟩ := ReadsInt.ofRowC w0; obtain ⟨l1, rfl, hr1, hm1, hw1, hc1⟩ := ReadsInt.ofRowC w1; have h := P l0 l1 hm0 y0 hw0 hm1 y1 hw1
  refine (laws_FnNormer.calls _ _ l0 _ _ l1 true w (Kd.C_of_reads (d := (0 : Int)) (h1 := fun _ => rfl) hr0) hc0 (Kd.C_of_reads (d := (0 : Int)) (h1 := fun _ => rfl) hr1) hc1 h hG).mono ?_
  rintro e w' ⟨rfl, hd⟩; exact ⟨rfl, hd⟩

end Go.Proofs.YtiabgmddnddeiaaDoor.QFnNormer
