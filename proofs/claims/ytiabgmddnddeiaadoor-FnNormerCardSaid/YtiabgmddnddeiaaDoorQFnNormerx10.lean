/- The law FnNormer: at every input the call answers true (this text: contracts on its way, by a program of this session's; no condition of ours). -/
import Derived.Test.YtiabgmddnddeiaaDoorQFnNormerx0
import Derived.Test.YtiabgmddnddeiaaDoorQFnNormerx1
import Derived.Test.YtiabgmddnddeiaaDoorQFnNormerx8
import Derived.Test.YtiabgmddnddeiaaDoorQFnNormerx9
namespace Go.Proofs.YtiabgmddnddeiaaDoor.QFnNormer
open Go.RowKit Go.Proofs.YtiabgmddnddeiaaDoorW.PrintWords Go.Proofs.YtiabgmddnddeiaaDoorW.PrintLast Go.Proofs.YtiabgmddnddeiaaDoorW.PrintMore
attribute [local go_sem] max2_int min2_int max_two min_two max_three min_three max_four min_four   -- for this text's walks alone
set_option linter.unusedVariables false
set_option linter.unusedSimpArgs false

/-! ### impl_write: function 93 -/
def impl_write.l0 : Nat → List Int → List Int → Int → Int → Option (ByteArray)
 | 0, _, _, _, _ => none
 | k + 1, x3, x6, x7, x8 => if x8 < x7 then (if 0 ≤ x8 then (if x8 < (x6.length : Int) then ((impl_isPoint.f (rd x6 x8)).bind fun t293 => (if t293 = true then ((W_utf8_AppendRune.f x3 (wrap32 (rd x6 x8))).bind fun t294 => (impl_write.l0 k t294 x6 x7 (wrap64 (x8 + 1)))) else ((W_utf8_AppendRune.f x3 65533).bind fun t297 => (impl_write.l0 k t297 x6 x7 (wrap64 (x8 + 1)))))) else (none)) else (none)) else (some (strOfNums x3))
def impl_write.f (k : Nat) (l0 : List Int) : Option (ByteArray) := impl_write.l0 k ([] : List Int) l0 (l0.length : Int) 0
theorem impl_write.mono_l : ∀ k, (∀ y0 y1 y2 y3, LeO (impl_write.l0 k y0 y1 y2 y3) (impl_write.l0 (k + 1) y0 y1 y2 y3))
 | 0 => fun _ _ _ _ r h => by simp [impl_write.l0] at h
 | k + 1 => by
  have ih0 := impl_write.mono_l k; intro y0 y1 y2 y3
  unfold impl_write.l0
  repeat' first
  | (with_reducible exact ih0 _ _ _ _)
  | (with_reducible exact LeO.refl _)
  | (with_reducible exact LeO.none _)
  | (with_reducible refine LeO.ite ?_ ?_)
  | (with_reducible refine LeO.bind ?_ (fun _ => ?_))
  | exact ih0 _ _ _ _
  | exact LeO.none _
  | refine LeO.ite ?_ ?_
  | refine LeO.bind ?_ (fun _ => ?_)
theorem impl_write.mono : ∀ a0 k, LeO (impl_write.f k a0) (impl_write.f (k + 1) a0) := by
 intro a0 k
 have ih0 := impl_write.mono_l k
 unfold impl_write.f
 repeat' first
   | (with_reducible exact ih0 _ _ _ _)
   | (with_reducible exact LeO.refl _)
   | (with_reducible exact LeO.none _)
   | (with_reducible refine LeO.ite ?_ ?_)
   | (with_reducible refine LeO.bind ?_ (fun _ => ?_))
   | exact ih0 _ _ _ _
   | exact LeO.none _
   | refine LeO.ite ?_ ?_
   | refine LeO.bind ?_ (fun _ => ?_)
set_option maxHeartbeats 8000000 in
set_option maxRecDepth 100000 in
theorem impl_write.calls (k : Nat) (A0 : Option Addr) (c0 : Nat) (l0 : List Int) (r : ByteArray) (w : World) (hr0 : Kd.C (Kd.int .i64) w A0 l0.length l0) (hc0 : l0.length ≤ c0) (h : impl_write.f k l0 = some r) :
  Calls Tryd.prog 93 #[.slice A0 l0.length c0] w fun e w' => e = .returned (.string r) ∧ Below w.heap.size w w' := by
 have HR0 := Aside0.mk hr0
 have HC0 := Aside0.mk hc0
 clear hr0 hc0
 have HB := Aside0.mk (Below.refl w.heap.size w)
 have H : (impl_write.l0 k ([] : List Int) l0 (l0.length : Int) 0) = some r := h
 clear h
 have H' := Aside0.mk H
 clear H
 go_enter Tryd.func93, Tryd.ntmps93
 go_wp2
 go_loopg [3, 8] k (fun kq v3 v8 w' => ∃ (x3_1 : List Int) (x8_1 : Int), v8 = .int .i64 x8_1 ∧ Aside0 (impl_write.l0 kq x3_1 l0 (l0.length : Int) x8_1 = some r) ∧ Aside0 (kq ≤ k) ∧ Aside0 (Kd.R (Kd.int .u8) 5 w' w.heap.size (fun _ => True) v3 x3_1) ∧ Aside0 (Below w.heap.size w w'))
 case atStart => exact ⟨(([] : List Int)), (0), (by first | rfl | (simp; done) | (simp [*]; done)), H', ⟨Nat.le_refl _⟩, ⟨by first | exact Kd.R_nil _ _ _ _ _ | exact Kd.N_nil _ _ _ _ _ | exact Kd.V_nil _ _ _ _ _ | exact Kd.Q_nil _ _ _ _ _ | exact Kd.S_nil _ _ _ _ _⟩, ⟨belowA⟩⟩
 case round =>
  clear H'; obtain ⟨x3_1, x8_1, rfl, HA, HK1, HO_3, HB⟩ := hrel
  cases gk with
  | zero => exact absurd HA.out (by simp [impl_write.l0])
  | succ k1 =>
   have H := HA.out; clear HA; simp only [impl_write.l0] at H
   by_cases c2 : x8_1 < (l0.length : Int)
   ·rw [if_pos c2] at H
    have c2b0 : decide (x8_1 < (l0.length : Int)) = true := decide_eq_true c2; clear c2
    by_cases c3 : 0 ≤ x8_1
    ·rw [if_pos c3] at H
     have c3b0 : decide (0 ≤ x8_1) = true := decide_eq_true c3; clear c3
     by_cases c4 : x8_1 < (l0.length : Int)
     ·rw [if_pos c4] at H
      have c4b0 : decide (x8_1 < (l0.length : Int)) = true := decide_eq_true c4; clear c4; replace H := Option.bind_eq_some_iff.mp H; obtain ⟨t293, A50, H⟩ := H
      try dsimp only at H
      have A5 := Aside0.mk A50; clear A50
      by_cases c6 : t293 = true
      ·subst c6
       have H1 : ((W_utf8_AppendRune.f x3_1 (wrap32 (rd l0 x8_1))).bind fun t294 => (impl_write.l0 k1 t294 l0 (l0.length : Int) (wrap64 (x8_1 + 1)))) = some r := by rw [if_pos rfl] at H; exact H
       clear H; have H := H1; clear H1; replace H := Option.bind_eq_some_iff.mp H; obtain ⟨t294, A70, H⟩ := H
       try dsimp only at H
       have A7 := Aside0.mk A70; clear A70; have H' := Aside0.mk H; clear H; have p292 : 0 ≤ (x8_1 : Int) := ode; have q292 : x8_1 < (l0.length : Int) := ode; obtain ⟨ad292, e292, hx292_0⟩ := Kd.at_int HR0.out x8_1 p292 q292; cases e292; replace hx292_0 := (HB.out.cell (World.block_lt_of_cell? w _ hx292_0)).trans hx292_0; replace p292 := eq_true p292; replace q292 := eq_true q292
       go_wp2_with (first | (go_at_call 107; (with_reducible refine (impl_isPoint.calls (rd l0 x8_1) true _ A5.out).mono ?_); rintro e w' ⟨rfl, ⟨nd, rfl⟩⟩; obtain ⟨Ao8, co8, eo8⟩ := Kd.R_slice HO_3.out; subst eo8) | (go_at_call 169; (with_reducible refine (W_utf8_AppendRune.calls (fun k_ => some k_ = (.slice Ao8 x3_1.length co8 : Value).ownBlock) (.slice Ao8 x3_1.length co8) x3_1 (wrap32 (rd l0 x8_1)) t294 w _ ?side1 ?side2 A7.out).mono ?_); (case side1 => repeat (first | (with_reducible first | exact HB.out | apply below_alloc | apply pw_below_drewN | apply below_drew1) | exact HB.out)); (case side2 => exact Kd.R_tight rfl HO_3.out); rintro e w9 ⟨v295, rfl, ho0, hb, hkp⟩; have n0_ := Aside0.mk (Kd.R_mono (ok' := fun k_ => True) ho0 (fun k_ hk_ => trivial)); have n1_ := Aside0.mk (hb); have HO296 := n0_; replace HB := n1_; clear HO_3; clear n0_ n1_; (try clear hb); (try clear hkp); (try clear ho0)))
       go_roundg k1
       case measure => have := HK1.out; omega
       case rel => exact ⟨(t294), (wrap64 (x8_1 + 1)), (by first | rfl | (simp; done) | (simp [*]; done)), H', ⟨by have := HK1.out; omega⟩, ⟨by (with_reducible repeat (first | apply Kd.R_alloc | apply Kd.R_drewN | apply Kd.R_drew)); exact HO296.out⟩, ⟨belowA⟩⟩
      replace c6 := Bool.eq_false_iff.mpr c6; subst c6
      have H1 : ((W_utf8_AppendRune.f x3_1 65533).bind fun t297 => (impl_write.l0 k1 t297 l0 (l0.length : Int) (wrap64 (x8_1 + 1)))) = some r := by rw [if_neg (show ¬ (false = true) by decide)] at H; exact H
      clear H; have H := H1; clear H1; replace H := Option.bind_eq_some_iff.mp H; obtain ⟨t297, A100, H⟩ := H
      try dsimp only at H
      have A10 := Aside0.mk A100; clear A100; have H' := Aside0.mk H; clear H; have p292 : 0 ≤ (x8_1 : Int) := ode; have q292 : x8_1 < (l0.length : Int) := ode; obtain ⟨ad292, e292, hx292_0⟩ := Kd.at_int HR0.out x8_1 p292 q292; cases e292; replace hx292_0 := (HB.out.cell (World.block_lt_of_cell? w _ hx292_0)).trans hx292_0; replace p292 := eq_true p292; replace q292 := eq_true q292
      go_wp2_with (first | (go_at_call 107; (with_reducible refine (impl_isPoint.calls (rd l0 x8_1) false _ A5.out).mono ?_); rintro e w' ⟨rfl, ⟨nd, rfl⟩⟩; obtain ⟨Ao11, co11, eo11⟩ := Kd.R_slice HO_3.out; subst eo11) | (go_at_call 169; (with_reducible refine (W_utf8_AppendRune.calls (fun k_ => some k_ = (.slice Ao11 x3_1.length co11 : Value).ownBlock) (.slice Ao11 x3_1.length co11) x3_1 65533 t297 w _ ?side1 ?side2 A10.out).mono ?_); (case side1 => repeat (first | (with_reducible first | exact HB.out | apply below_alloc | apply pw_below_drewN | apply below_drew1) | exact HB.out)); (case side2 => exact Kd.R_tight rfl HO_3.out); rintro e w12 ⟨v298, rfl, ho0, hb, hkp⟩; have n0_ := Aside0.mk (Kd.R_mono (ok' := fun k_ => True) ho0 (fun k_ hk_ => trivial)); have n1_ := Aside0.mk (hb); have HO299 := n0_; replace HB := n1_; clear HO_3; clear n0_ n1_; (try clear hb); (try clear hkp); (try clear ho0)))
      go_roundg k1
      case measure => have := HK1.out; omega
      case rel => exact ⟨(t297), (wrap64 (x8_1 + 1)), (by first | rfl | (simp; done) | (simp [*]; done)), H', ⟨by have := HK1.out; omega⟩, ⟨by (with_reducible repeat (first | apply Kd.R_alloc | apply Kd.R_drewN | apply Kd.R_drew)); exact HO299.out⟩, ⟨belowA⟩⟩
     rw [if_neg c4] at H
     exact absurd H (by simp)
    rw [if_neg c3] at H
    exact absurd H (by simp)
   rw [if_neg c2] at H; have c2b0 : decide (x8_1 < (l0.length : Int)) = false := decide_eq_false c2; clear c2; obtain rfl := Option.some.inj H; have hcv13 := own_string (P := Tryd.prog) Tryd.underlying22 Tryd.underlying5 Tryd.underlying9 (Kd.own_of_R HO_3.out)
   go_wp2
   go_ret
   exact ⟨by first | rfl | (simp [errW_none, errW_some] <;> rfl) | (simp [*, errW_none, errW_some] <;> rfl), belowA⟩

def W_impl_write.f (l0 : List Int) : Option (ByteArray) := if l0.length ≤ 1099511627776 then some (strOfNums (YtiabgmddnddeiaaDoorPts.encs l0)) else none
theorem impl_write.run (l : List Int) (hl : l.length ≤ 1099511627776) (d : Nat) : ∀ (k i : Nat), i ≤ l.length → l.length - i = d → d < k →
    impl_write.l0 k (YtiabgmddnddeiaaDoorPts.encs (l.take i)) l (l.length : Int) (i : Int) = some (strOfNums (YtiabgmddnddeiaaDoorPts.encs l)) := by
  induction d with
  | zero =>
    intro k i h1 h2 h3
    obtain ⟨k, rfl⟩ : ∃ m, k = m + 1 := ⟨k - 1, by omega⟩
    simp only [impl_write.l0]
    rw [if_neg (by omega), List.take_of_length_le (by omega)]
  | succ d ih =>
    intro k i h1 h2 h3
    obtain ⟨k, rfl⟩ : ∃ m, k = m + 1 := ⟨k - 1, by omega⟩
    have hlt : i < l.length := by omega
    simp only [impl_write.l0]
    rw [if_pos (by omega), if_pos (by omega), if_pos (by omega)]
    have hw : wrap64 ((i : Int) + 1) = ((i + 1 : Nat) : Int) := by unfold wrap64; omega
    have hr : rd l (i : Int) = l[i] := by simp [rd, List.getD, hlt]
    have ht : YtiabgmddnddeiaaDoorPts.encs (l.take (i + 1)) = YtiabgmddnddeiaaDoorPts.encs (l.take i) ++ YtiabgmddnddeiaaDoorPts.enc l[i] := by
      rw [List.take_succ_eq_append_getElem hlt, YtiabgmddnddeiaaDoorPts.encs_append]
      simp [YtiabgmddnddeiaaDoorPts.encs]
    have hlen := YtiabgmddnddeiaaDoorPts.encs_length (l.take i)
    rw [List.length_take] at hlen
    rw [hr]
    obtain ⟨p, hp⟩ : ∃ p, l[i] = p := ⟨_, rfl⟩
    rw [hp] at ht ⊢
    have hq : impl_isPoint.f p = some (decide (YtiabgmddnddeiaaDoorPts.isP p)) := by
      unfold impl_isPoint.f YtiabgmddnddeiaaDoorPts.isP
      by_cases a : 0 ≤ p
      · by_cases b : p ≤ 1114111
        · by_cases c : p < 55296
          · rw [if_pos a, if_pos b, if_pos c]; simp [a, b, c]
          · rw [if_pos a, if_pos b, if_neg c]; simp [a, b, c]
        · rw [if_pos a, if_neg b]; simp [b]
      · rw [if_neg a]; simp [a]
    rw [hq]
    simp only [Option.bind_some]
    have hih := ih k (i + 1) (by omega) (by omega) (by omega)
    rw [ht] at hih
    unfold W_utf8_AppendRune.f
    by_cases h : YtiabgmddnddeiaaDoorPts.isP p
    · have hv : wrap32 p = p := by unfold YtiabgmddnddeiaaDoorPts.isP at h; unfold wrap32; omega
      rw [if_pos (decide_eq_true h), hv, if_pos ⟨h, by omega⟩]
      simp only [Option.bind_some]
      rw [hw]
      unfold YtiabgmddnddeiaaDoorPts.enc at hih
      rw [YtiabgmddnddeiaaDoorPts.fix_of h] at hih
      exact hih
    · rw [if_neg (by simpa using h), if_pos ⟨by unfold YtiabgmddnddeiaaDoorPts.isP; omega, by omega⟩]
      simp only [Option.bind_some]
      rw [hw]
      unfold YtiabgmddnddeiaaDoorPts.enc YtiabgmddnddeiaaDoorPts.fix at hih
      rw [if_neg h] at hih
      exact hih
theorem W_impl_write.to {l0 : List Int} {r : ByteArray} (h : W_impl_write.f l0 = some r) : ∃ k, impl_write.f k l0 = some r := by
  unfold W_impl_write.f at h
  split at h
  · rename_i hl
    refine ⟨l0.length + 1, ?_⟩
    rw [← h]
    exact impl_write.run l0 hl l0.length (l0.length + 1) 0 (by omega) (by omega) (by omega)
  · cases h
theorem W_impl_write.calls (A0 : Option Addr) (c0 : Nat) (l0 : List Int) (r : ByteArray) (w : World) (hr0 : Kd.C (Kd.int .i64) w A0 l0.length l0) (hc0 : l0.length ≤ c0) (h : W_impl_write.f l0 = some r) :
    Calls Tryd.prog 93 #[.slice A0 l0.length c0] w fun e w' => e = .returned (.string r) ∧ Below w.heap.size w w' := by
  obtain ⟨k, hk⟩ := W_impl_write.to h
  exact impl_write.calls k A0 c0 l0 r w hr0 hc0 hk

/-! ### impl_MarkClass: function 141 -/
def impl_MarkClass.f (a0 : Int) : Option (Int) := if a0 = 1584 then (some 9) else (if a0 = 1585 then (some 7) else ((impl_in.f a0 4096 4159).bind fun t300 => (if t300 = true then (if a0 < 4112 then (some 230) else (if a0 < 4128 then (some 220) else (if a0 < 4136 then (some 202) else (if a0 < 4144 then (some 1) else (if a0 < 4152 then (some 232) else (some 0)))))) else (some 0))))
set_option maxHeartbeats 8000000 in
set_option maxRecDepth 100000 in
theorem impl_MarkClass.calls (a0 : Int) (r : Int) (w : World) (h : impl_MarkClass.f a0 = some r) :
  Calls Tryd.prog 141 #[.int .i64 a0] w fun e w' => e = .returned (.int .i64 r) ∧ Drawn0 w w' := by
 have H : (if a0 = 1584 then (some 9) else (if a0 = 1585 then (some 7) else ((impl_in.f a0 4096 4159).bind fun t300 => (if t300 = true then (if a0 < 4112 then (some 230) else (if a0 < 4128 then (some 220) else (if a0 < 4136 then (some 202) else (if a0 < 4144 then (some 1) else (if a0 < 4152 then (some 232) else (some 0)))))) else (some 0))))) = some r := h
 clear h
 by_cases c2 : a0 = 1584
 ·rw [if_pos c2] at H
  have c2b0 : (a0 == 1584) = true := beq_iff_eq.mpr c2; have c2b1 : (a0 != 1584) = false := bne_eq_false_iff_eq.mpr c2; clear c2; obtain rfl := Option.some.inj H
  go_enter Tryd.func141, Tryd.ntmps141
  go_wp2
  go_ret
  exact ⟨by first | rfl | (simp; done) | (simp [*]; done), drw0⟩
 rw [if_neg c2] at H
 have c2b0 : (a0 == 1584) = false := beq_eq_false_iff_ne.mpr c2
 have c2b1 : (a0 != 1584) = true := bne_iff_ne.mpr c2
 by_cases c3 : a0 = 1585
 ·rw [if_pos c3] at H
  have c3b0 : (a0 == 1585) = true := beq_iff_eq.mpr c3; have c3b1 : (a0 != 1585) = false := bne_eq_false_iff_eq.mpr c3; clear c3; obtain rfl := Option.some.inj H
  go_enter Tryd.func141, Tryd.ntmps141
  go_wp2
  go_ret
  exact ⟨by first | rfl | (simp; done) | (simp [*]; done), drw0⟩
 rw [if_neg c3] at H
 have c3b0 : (a0 == 1585) = false := beq_eq_false_iff_ne.mpr c3
 have c3b1 : (a0 != 1585) = true := bne_iff_ne.mpr c3
 replace H := Option.bind_eq_some_iff.mp H
 obtain ⟨t300, A40, H⟩ := H
 try dsimp only at H
 have A4 := Aside0.mk A40
 clear A40
 by_cases c5 : t300 = true
 ·subst c5
  have H1 : (if a0 < 4112 then (some 230) else (if a0 < 4128 then (some 220) else (if a0 < 4136 then (some 202) else (if a0 < 4144 then (some 1) else (if a0 < 4152 then (some 232) else (some 0)))))) = some r := by rw [if_pos rfl] at H; exact H
  clear H; have H := H1; clear H1
  by_cases c6 : a0 < 4112
  ·rw [if_pos c6] at H
   have c6b0 : decide (a0 < 4112) = true := decide_eq_true c6; clear c6; obtain rfl := Option.some.inj H
   go_enter Tryd.func141, Tryd.ntmps141
   go_wp2_with (first | (go_at_call 105; (with_reducible refine (impl_in.calls a0 4096 4159 true _ A4.out).mono ?_); rintro e w' ⟨rfl, ⟨nd, rfl⟩⟩))
   go_ret
   exact ⟨by first | rfl | (simp; done) | (simp [*]; done), drw0⟩
  rw [if_neg c6] at H; have c6b0 : decide (a0 < 4112) = false := decide_eq_false c6; clear c6
  by_cases c7 : a0 < 4128
  ·rw [if_pos c7] at H
   have c7b0 : decide (a0 < 4128) = true := decide_eq_true c7; clear c7; obtain rfl := Option.some.inj H
   go_enter Tryd.func141, Tryd.ntmps141
   go_wp2_with (first | (go_at_call 105; (with_reducible refine (impl_in.calls a0 4096 4159 true _ A4.out).mono ?_); rintro e w' ⟨rfl, ⟨nd, rfl⟩⟩))
   go_ret
   exact ⟨by first | rfl | (simp; done) | (simp [*]; done), drw0⟩
  rw [if_neg c7] at H; have c7b0 : decide (a0 < 4128) = false := decide_eq_false c7; clear c7
  by_cases c8 : a0 < 4136
  ·rw [if_pos c8] at H
   have c8b0 : decide (a0 < 4136) = true := decide_eq_true c8; clear c8; obtain rfl := Option.some.inj H
   go_enter Tryd.func141, Tryd.ntmps141
   go_wp2_with (first | (go_at_call 105; (with_reducible refine (impl_in.calls a0 4096 4159 true _ A4.out).mono ?_); rintro e w' ⟨rfl, ⟨nd, rfl⟩⟩))
   go_ret
   exact ⟨by first | rfl | (simp; done) | (simp [*]; done), drw0⟩
  rw [if_neg c8] at H; have c8b0 : decide (a0 < 4136) = false := decide_eq_false c8; clear c8
  by_cases c9 : a0 < 4144
  ·rw [if_pos c9] at H
   have c9b0 : decide (a0 < 4144) = true := decide_eq_true c9; clear c9; obtain rfl := Option.some.inj H
   go_enter Tryd.func141, Tryd.ntmps141
   go_wp2_with (first | (go_at_call 105; (with_reducible refine (impl_in.calls a0 4096 4159 true _ A4.out).mono ?_); rintro e w' ⟨rfl, ⟨nd, rfl⟩⟩))
   go_ret
   exact ⟨by first | rfl | (simp; done) | (simp [*]; done), drw0⟩
  rw [if_neg c9] at H; have c9b0 : decide (a0 < 4144) = false := decide_eq_false c9; clear c9
  by_cases c10 : a0 < 4152
  ·rw [if_pos c10] at H
   have c10b0 : decide (a0 < 4152) = true := decide_eq_true c10; clear c10; obtain rfl := Option.some.inj H
   go_enter Tryd.func141, Tryd.ntmps141
   go_wp2_with (first | (go_at_call 105; (with_reducible refine (impl_in.calls a0 4096 4159 true _ A4.out).mono ?_); rintro e w' ⟨rfl, ⟨nd, rfl⟩⟩))
   go_ret
   exact ⟨by first | rfl | (simp; done) | (simp [*]; done), drw0⟩
  rw [if_neg c10] at H; have c10b0 : decide (a0 < 4152) = false := decide_eq_false c10; clear c10; obtain rfl := Option.some.inj H
  go_enter Tryd.func141, Tryd.ntmps141
  go_wp2_with (first | (go_at_call 105; (with_reducible refine (impl_in.calls a0 4096 4159 true _ A4.out).mono ?_); rintro e w' ⟨rfl, ⟨nd, rfl⟩⟩))
  go_ret
  exact ⟨by first | rfl | (simp; done) | (simp [*]; done), drw0⟩
 replace c5 := Bool.eq_false_iff.mpr c5
 subst c5
 have H1 : (some 0) = some r := by rw [if_neg (show ¬ (false = true) by decide)] at H; exact H
 clear H
 have H := H1
 clear H1
 obtain rfl := Option.some.inj H
 go_enter Tryd.func141, Tryd.ntmps141
 go_wp2_with (first | (go_at_call 105; (with_reducible refine (impl_in.calls a0 4096 4159 false _ A4.out).mono ?_); rintro e w' ⟨rfl, ⟨nd, rfl⟩⟩))
 go_ret
 exact ⟨by first | rfl | (simp; done) | (simp [*]; done), drw0⟩

/-! ### impl_letter: function 244 -/
def impl_letter.f (a0 : Int) : Option (Int) := if a0 < 26 then (some (wrap64 (65 + a0))) else (some (wrap64 ((wrap64 (97 + a0)) - 26)))
set_option maxHeartbeats 8000000 in
set_option maxRecDepth 100000 in
theorem impl_letter.calls (a0 : Int) (r : Int) (w : World) (h : impl_letter.f a0 = some r) :
    Calls Tryd.prog 244 #[.int .i64 a0] w fun e w' => e = .returned (.int .i64 r) ∧ Drawn0 w w' := by
  have H : (if a0 < 26 then (some (wrap64 (65 + a0))) else (some (wrap64 ((wrap64 (97 + a0)) - 26)))) = some r := h
  clear h
  by_cases c2 : a0 < 26
  · rw [if_pos c2] at H
    have c2b0 : decide (a0 < 26) = true := decide_eq_true c2
    clear c2
    obtain rfl := Option.some.inj H
    go_enter Tryd.func244, Tryd.ntmps244
    go_wp2
    go_ret
    exact ⟨by first | rfl | (simp; done) | (simp [*]; done), by repeat (first | exact Drawn0.refl _ | apply Drawn0.step)⟩
  · rw [if_neg c2] at H
    have c2b0 : decide (a0 < 26) = false := decide_eq_false c2
    clear c2
    obtain rfl := Option.some.inj H
    go_enter Tryd.func244, Tryd.ntmps244
    go_wp2
    go_ret
    exact ⟨by first | rfl | (simp; done) | (simp [*]; done), by repeat (first | exact Drawn0.refl _ | apply Drawn0.step)⟩

/-! ### impl_parts: function 219 (by hand) -/
theorem litR (W : World) (base : Nat) (ok : Nat → Prop) (hb : base ≤ W.heap.size) (h : ok W.heap.size) (l : List Int) (hl : l.length ≤ 100) :
    Kd.R (Kd.int .i64) 2 (W.alloc (.cells (l.map (Value.int .i64)).toArray 2)) base ok (.slice (some ⟨W.heap.size, 0, none⟩) l.length l.length) l := by
  have hrep : Reps (Kd.M (Kd.int .i64) W base (fun _ => True)) (Kd.int .i64).sz l (l.map (Value.int .i64)) := by
    clear hl
    induction l with
    | nil => exact Reps.none _ _
    | cons x t ih => exact Reps.one (show Kd.M (Kd.int .i64) _ _ _ x [.int .i64 x] from rfl) ih
  refine ⟨fun k hk => ?_, l.map (Value.int .i64), ?_, ?_⟩
  · have : W.heap.size = k := by simpa [Value.ownBlock] using hk
    subst this
    exact h
  · have h2 := World.ownsRow_lit (base := base) (e := 2) (size := (Kd.int .i64).sz) W (l.map (Value.int .i64)).toArray l.length hb (by simp [maxLen]; omega) (by simpa using hrep.1)
    simpa using h2
  · refine hrep.imp_ (fun p c hp => hp)
theorem impl_parts.inT (x a b : Int) (W : World) (h1 : a ≤ x) (h2 : x ≤ b) : Calls Tryd.prog 105 #[.int .i64 x, .int .i64 a, .int .i64 b] W fun e w' => e = .returned (.bool true) ∧ Drawn0 W w' :=
  impl_in.calls x a b true W (by unfold impl_in.f; rw [if_pos h1, decide_eq_true h2])
theorem impl_parts.inF (x a b : Int) (W : World) (h : x < a ∨ b < x) : Calls Tryd.prog 105 #[.int .i64 x, .int .i64 a, .int .i64 b] W fun e w' => e = .returned (.bool false) ∧ Drawn0 W w' :=
  impl_in.calls x a b false W (by
    unfold impl_in.f
    by_cases c : x ≥ a
    · rw [if_pos c, decide_eq_false (by omega)]
    · rw [if_neg c])
theorem impl_parts.letter (i : Int) (W : World) (h0 : 0 ≤ i) (h1 : i < 52) : Calls Tryd.prog 244 #[.int .i64 i] W fun e w' => e = .returned (.int .i64 (YtiabgmddnddeiaaDoorNrm.letter i)) ∧ Drawn0 W w' :=
  impl_letter.calls i _ W (by
    unfold impl_letter.f YtiabgmddnddeiaaDoorNrm.letter
    by_cases c : i < 26
    · rw [if_pos c, if_pos c]; unfold wrap64; congr 1; omega
    · rw [if_neg c, if_neg c]; unfold wrap64; congr 1; omega)
def impl_parts.Post (l : List Int) (w : World) (e : Ending) (w' : World) : Prop := ∃ v0_ : Value, e = .returned (v0_) ∧ Kd.R (Kd.int .i64) 2 w' w.heap.size (fun _ => True) v0_ l ∧ (l = [] → v0_ = .slice none 0 0) ∧ Below w.heap.size w w'
theorem impl_parts.post {w W : World} (hB : Below w.heap.size w W) (l m : List Int) (hl : l.length ≤ 100) (hm : m = l) (hne : m ≠ []) : impl_parts.Post m w (.returned (.slice (some ⟨W.heap.size, 0, none⟩) l.length l.length)) (W.alloc (.cells (l.map (Value.int .i64)).toArray 2)) := by
  subst hm
  exact ⟨_, rfl, litR W _ _ hB.size trivial m hl, fun h => absurd h hne, below_alloc hB _⟩
theorem impl_parts.post1 {w W : World} {g : Nat} {x : Int} (m : List Int) (hB : Below w.heap.size w W) (hg : g = W.heap.size) (hm : m = [x]) : impl_parts.Post m w (.returned (.slice (some ⟨g, 0, none⟩) 1 1)) (W.alloc (.cells #[.int .i64 x] 2)) := by
  subst hg
  exact impl_parts.post hB [x] m (by simp) hm (by rw [hm]; simp)
theorem impl_parts.post2 {w W : World} {g : Nat} {x y : Int} (m : List Int) (hB : Below w.heap.size w W) (hg : g = W.heap.size) (hm : m = [x, y]) : impl_parts.Post m w (.returned (.slice (some ⟨g, 0, none⟩) 2 2)) (W.alloc (.cells #[.int .i64 x, .int .i64 y] 2)) := by
  subst hg
  exact impl_parts.post hB [x, y] m (by simp) hm (by rw [hm]; simp)
theorem lit2R {W : World} {g base : Nat} (x y : Int) (hb : base ≤ W.heap.size) (hg : g = W.heap.size) : Kd.R (Kd.int .i64) 2 (W.alloc (.cells #[.int .i64 x, .int .i64 y] 2)) base (fun _ => True) (.slice (some ⟨g, 0, none⟩) 2 2) [x, y] := by
  subst hg
  exact litR W base _ hb trivial [x, y] (by simp)
set_option maxHeartbeats 4000000 in
set_option maxRecDepth 100000 in
theorem impl_parts.calls1 (p : Int) (k : Bool) (w : World) (h0 : 8192 ≤ p) (h1 : p ≤ 9631) (h2 : p % 512 < 416) : Calls Tryd.prog 219 #[.int .i64 p, .bool k] w (impl_parts.Post (YtiabgmddnddeiaaDoorNrm.prt k p) w) := by
  have hpt : YtiabgmddnddeiaaDoorNrm.prt k p = if p < 8704 then [YtiabgmddnddeiaaDoorNrm.letter (p % 512 / 8), 4096 + p % 8] else if p < 9216 then [YtiabgmddnddeiaaDoorNrm.letter (p % 512 / 8), 4112 + p % 8] else [8704 + p % 512, 4096] := by
    unfold YtiabgmddnddeiaaDoorNrm.prt; rw [if_pos ⟨h0, h1, h2⟩]
  rw [hpt]
  clear hpt
  have z1 : (p - 8192) % 512 = p % 512 := by omega
  have z2 : (p - 8192) % 8 = p % 8 := by omega
  have Z1 := Aside0.mk z1
  have Z2 := Aside0.mk z2
  clear z1 z2
  by_cases c1 : p < 8704
  · rw [if_pos c1]
    have q0 : ((p - 8192) / 512 == 0) = true := beq_iff_eq.mpr (by omega)
    go_enter Tryd.func219, Tryd.ntmps219
    go_wp2_with (first
      | (go_at_call 105; ((with_reducible refine (impl_parts.inT _ _ _ _ (by omega) (by omega)).mono ?_); rintro e w1 ⟨rfl, ⟨nd, rfl⟩⟩))
      | (go_at_call 105; ((with_reducible refine (impl_parts.inF _ _ _ _ (by omega)).mono ?_); rintro e w1 ⟨rfl, ⟨nd, rfl⟩⟩))
      | (go_at_call 244; ((with_reducible refine (impl_parts.letter _ _ (by omega) (by omega)).mono ?_); rintro e w1 ⟨rfl, ⟨nd, rfl⟩⟩)))
    go_ret
    refine impl_parts.post2 _ ?hb rfl ?he
    case hb => repeat (first | exact Below.refl _ _ | apply pw_below_drewN | apply below_drew1)
    case he => first | rfl | (rw [Z1.out, Z2.out])
  · rw [if_neg c1]
    have q0 : ((p - 8192) / 512 == 0) = false := beq_eq_false_iff_ne.mpr (by omega)
    by_cases c2 : p < 9216
    · rw [if_pos c2]
      have q1 : ((p - 8192) / 512 == 1) = true := beq_iff_eq.mpr (by omega)
      go_enter Tryd.func219, Tryd.ntmps219
      go_wp2_with (first
        | (go_at_call 105; ((with_reducible refine (impl_parts.inT _ _ _ _ (by omega) (by omega)).mono ?_); rintro e w1 ⟨rfl, ⟨nd, rfl⟩⟩))
        | (go_at_call 105; ((with_reducible refine (impl_parts.inF _ _ _ _ (by omega)).mono ?_); rintro e w1 ⟨rfl, ⟨nd, rfl⟩⟩))
        | (go_at_call 244; ((with_reducible refine (impl_parts.letter _ _ (by omega) (by omega)).mono ?_); rintro e w1 ⟨rfl, ⟨nd, rfl⟩⟩)))
      go_ret
      refine impl_parts.post2 _ ?hb rfl ?he
      case hb => repeat (first | exact Below.refl _ _ | apply pw_below_drewN | apply below_drew1)
      case he => first | rfl | (rw [Z1.out, Z2.out])
    · rw [if_neg c2]
      have q1 : ((p - 8192) / 512 == 1) = false := beq_eq_false_iff_ne.mpr (by omega)
      go_enter Tryd.func219, Tryd.ntmps219
      go_wp2_with (first
        | (go_at_call 105; ((with_reducible refine (impl_parts.inT _ _ _ _ (by omega) (by omega)).mono ?_); rintro e w1 ⟨rfl, ⟨nd, rfl⟩⟩))
        | (go_at_call 105; ((with_reducible refine (impl_parts.inF _ _ _ _ (by omega)).mono ?_); rintro e w1 ⟨rfl, ⟨nd, rfl⟩⟩))
        | (go_at_call 244; ((with_reducible refine (impl_parts.letter _ _ (by omega) (by omega)).mono ?_); rintro e w1 ⟨rfl, ⟨nd, rfl⟩⟩)))
      go_ret
      refine impl_parts.post2 _ ?hb rfl ?he
      case hb => repeat (first | exact Below.refl _ _ | apply pw_below_drewN | apply below_drew1)
      case he => first | rfl | (rw [Z1.out])
set_option maxHeartbeats 4000000 in
set_option maxRecDepth 100000 in
theorem impl_parts.calls2 (p : Int) (k : Bool) (w : World) (h0 : 9728 ≤ p) (h1 : p ≤ 9753) : Calls Tryd.prog 219 #[.int .i64 p, .bool k] w (impl_parts.Post [p - 9663] w) := by
  go_enter Tryd.func219, Tryd.ntmps219
  go_wp2_with (first
    | (go_at_call 105; ((with_reducible refine (impl_parts.inT _ _ _ _ (by omega) (by omega)).mono ?_); rintro e w1 ⟨rfl, ⟨nd, rfl⟩⟩))
    | (go_at_call 105; ((with_reducible refine (impl_parts.inF _ _ _ _ (by omega)).mono ?_); rintro e w1 ⟨rfl, ⟨nd, rfl⟩⟩))
    | (go_at_call 244; ((with_reducible refine (impl_parts.letter _ _ (by omega) (by omega)).mono ?_); rintro e w1 ⟨rfl, ⟨nd, rfl⟩⟩)))
  go_ret
  refine impl_parts.post1 _ ?hb rfl ?he
  case hb => repeat (first | exact Below.refl _ _ | apply pw_below_drewN | apply below_drew1)
  case he => first | rfl | (congr 1; omega)
set_option maxHeartbeats 4000000 in
set_option maxRecDepth 100000 in
theorem impl_parts.calls3 (p : Int) (k : Bool) (w : World) (h0 : 12288 ≤ p) (h1 : p ≤ 23459) : Calls Tryd.prog 219 #[.int .i64 p, .bool k] w (impl_parts.Post (if 0 < (p - 12288) % 28 then [p - (p - 12288) % 28, 1856 + (p - 12288) % 28] else [1792 + (p - 12288) / 588, 1824 + (p - 12288) / 28 % 21]) w) := by
  have z1 : (p - 12288) / 28 / 21 = (p - 12288) / 588 := by omega
  have Z1 := Aside0.mk z1
  clear z1
  by_cases c1 : 0 < (p - 12288) % 28
  · rw [if_pos c1]
    go_enter Tryd.func219, Tryd.ntmps219
    go_wp2_with (first
      | (go_at_call 105; ((with_reducible refine (impl_parts.inT _ _ _ _ (by omega) (by omega)).mono ?_); rintro e w1 ⟨rfl, ⟨nd, rfl⟩⟩))
      | (go_at_call 105; ((with_reducible refine (impl_parts.inF _ _ _ _ (by omega)).mono ?_); rintro e w1 ⟨rfl, ⟨nd, rfl⟩⟩))
      | (go_at_call 244; ((with_reducible refine (impl_parts.letter _ _ (by omega) (by omega)).mono ?_); rintro e w1 ⟨rfl, ⟨nd, rfl⟩⟩)))
    go_ret
    refine impl_parts.post2 _ ?hb rfl ?he
    case hb => repeat (first | exact Below.refl _ _ | apply pw_below_drewN | apply below_drew1)
    case he => first | rfl | (skip)
  · rw [if_neg c1]
    go_enter Tryd.func219, Tryd.ntmps219
    go_wp2_with (first
      | (go_at_call 105; ((with_reducible refine (impl_parts.inT _ _ _ _ (by omega) (by omega)).mono ?_); rintro e w1 ⟨rfl, ⟨nd, rfl⟩⟩))
      | (go_at_call 105; ((with_reducible refine (impl_parts.inF _ _ _ _ (by omega)).mono ?_); rintro e w1 ⟨rfl, ⟨nd, rfl⟩⟩))
      | (go_at_call 244; ((with_reducible refine (impl_parts.letter _ _ (by omega) (by omega)).mono ?_); rintro e w1 ⟨rfl, ⟨nd, rfl⟩⟩)))
    go_ret
    refine impl_parts.post2 _ ?hb rfl ?he
    case hb => repeat (first | exact Below.refl _ _ | apply pw_below_drewN | apply below_drew1)
    case he => first | rfl | (rw [Z1.out])
set_option maxHeartbeats 4000000 in
set_option maxRecDepth 100000 in
theorem impl_parts.calls4 (p : Int) (w : World) (h0 : 9984 ≤ p) (h1 : p ≤ 10009) : Calls Tryd.prog 219 #[.int .i64 p, .bool true] w (impl_parts.Post [p - 9919] w) := by
  go_enter Tryd.func219, Tryd.ntmps219
  go_wp2_with (first
    | (go_at_call 105; ((with_reducible refine (impl_parts.inT _ _ _ _ (by omega) (by omega)).mono ?_); rintro e w1 ⟨rfl, ⟨nd, rfl⟩⟩))
    | (go_at_call 105; ((with_reducible refine (impl_parts.inF _ _ _ _ (by omega)).mono ?_); rintro e w1 ⟨rfl, ⟨nd, rfl⟩⟩))
    | (go_at_call 244; ((with_reducible refine (impl_parts.letter _ _ (by omega) (by omega)).mono ?_); rintro e w1 ⟨rfl, ⟨nd, rfl⟩⟩)))
  go_ret
  refine impl_parts.post1 _ ?hb rfl ?he
  case hb => repeat (first | exact Below.refl _ _ | apply pw_below_drewN | apply below_drew1)
  case he => first | rfl | (congr 1; omega)
set_option maxHeartbeats 4000000 in
set_option maxRecDepth 100000 in
theorem impl_parts.calls5 (p : Int) (w : World) (h0 : 10016 ≤ p) (h1 : p ≤ 10025) : Calls Tryd.prog 219 #[.int .i64 p, .bool true] w (impl_parts.Post [p - 9968] w) := by
  go_enter Tryd.func219, Tryd.ntmps219
  go_wp2_with (first
    | (go_at_call 105; ((with_reducible refine (impl_parts.inT _ _ _ _ (by omega) (by omega)).mono ?_); rintro e w1 ⟨rfl, ⟨nd, rfl⟩⟩))
    | (go_at_call 105; ((with_reducible refine (impl_parts.inF _ _ _ _ (by omega)).mono ?_); rintro e w1 ⟨rfl, ⟨nd, rfl⟩⟩))
    | (go_at_call 244; ((with_reducible refine (impl_parts.letter _ _ (by omega) (by omega)).mono ?_); rintro e w1 ⟨rfl, ⟨nd, rfl⟩⟩)))
  go_ret
  refine impl_parts.post1 _ ?hb rfl ?he
  case hb => repeat (first | exact Below.refl _ _ | apply pw_below_drewN | apply below_drew1)
  case he => first | rfl | (congr 1; omega)
set_option maxHeartbeats 4000000 in
set_option maxRecDepth 100000 in
theorem impl_parts.calls6 (w : World) : Calls Tryd.prog 219 #[.int .i64 8064, .bool true] w (impl_parts.Post [32] w) := by
  go_enter Tryd.func219, Tryd.ntmps219
  go_wp2_with (first
    | (go_at_call 105; ((with_reducible refine (impl_parts.inT _ _ _ _ (by omega) (by omega)).mono ?_); rintro e w1 ⟨rfl, ⟨nd, rfl⟩⟩))
    | (go_at_call 105; ((with_reducible refine (impl_parts.inF _ _ _ _ (by omega)).mono ?_); rintro e w1 ⟨rfl, ⟨nd, rfl⟩⟩))
    | (go_at_call 244; ((with_reducible refine (impl_parts.letter _ _ (by omega) (by omega)).mono ?_); rintro e w1 ⟨rfl, ⟨nd, rfl⟩⟩)))
  go_ret
  refine impl_parts.post1 _ ?hb rfl ?he
  case hb => repeat (first | exact Below.refl _ _ | apply pw_below_drewN | apply below_drew1)
  case he => first | rfl | (skip)
set_option maxHeartbeats 4000000 in
set_option maxRecDepth 100000 in
theorem impl_parts.calls7 (w : World) : Calls Tryd.prog 219 #[.int .i64 160, .bool true] w (impl_parts.Post [32] w) := by
  go_enter Tryd.func219, Tryd.ntmps219
  go_wp2_with (first
    | (go_at_call 105; ((with_reducible refine (impl_parts.inT _ _ _ _ (by omega) (by omega)).mono ?_); rintro e w1 ⟨rfl, ⟨nd, rfl⟩⟩))
    | (go_at_call 105; ((with_reducible refine (impl_parts.inF _ _ _ _ (by omega)).mono ?_); rintro e w1 ⟨rfl, ⟨nd, rfl⟩⟩))
    | (go_at_call 244; ((with_reducible refine (impl_parts.letter _ _ (by omega) (by omega)).mono ?_); rintro e w1 ⟨rfl, ⟨nd, rfl⟩⟩)))
  go_ret
  refine impl_parts.post1 _ ?hb rfl ?he
  case hb => repeat (first | exact Below.refl _ _ | apply pw_below_drewN | apply below_drew1)
  case he => first | rfl | (skip)
set_option maxHeartbeats 4000000 in
set_option maxRecDepth 100000 in
theorem impl_parts.calls8 (w : World) : Calls Tryd.prog 219 #[.int .i64 10032, .bool true] w (impl_parts.Post [102, 102] w) := by
  go_enter Tryd.func219, Tryd.ntmps219
  go_wp2_with (first
    | (go_at_call 105; ((with_reducible refine (impl_parts.inT _ _ _ _ (by omega) (by omega)).mono ?_); rintro e w1 ⟨rfl, ⟨nd, rfl⟩⟩))
    | (go_at_call 105; ((with_reducible refine (impl_parts.inF _ _ _ _ (by omega)).mono ?_); rintro e w1 ⟨rfl, ⟨nd, rfl⟩⟩))
    | (go_at_call 244; ((with_reducible refine (impl_parts.letter _ _ (by omega) (by omega)).mono ?_); rintro e w1 ⟨rfl, ⟨nd, rfl⟩⟩)))
  go_ret
  refine ⟨.slice (some ⟨w.heap.size, 0, none⟩) 2 2, rfl, ?_, fun h => absurd h (by simp), by repeat (first | exact Below.refl _ _ | apply pw_below_drewN | apply below_drew1 | apply below_alloc)⟩
  refine Kd.R_alloc (Kd.R_alloc (Kd.R_alloc (Kd.R_alloc (lit2R _ _ ?_ ?_) _) _) _) _
  · first | (simp [World.alloc]; done) | (simp [World.alloc]; omega)
  · simp [World.alloc]
set_option maxHeartbeats 4000000 in
set_option maxRecDepth 100000 in
theorem impl_parts.calls9 (w : World) : Calls Tryd.prog 219 #[.int .i64 10033, .bool true] w (impl_parts.Post [102, 105] w) := by
  go_enter Tryd.func219, Tryd.ntmps219
  go_wp2_with (first
    | (go_at_call 105; ((with_reducible refine (impl_parts.inT _ _ _ _ (by omega) (by omega)).mono ?_); rintro e w1 ⟨rfl, ⟨nd, rfl⟩⟩))
    | (go_at_call 105; ((with_reducible refine (impl_parts.inF _ _ _ _ (by omega)).mono ?_); rintro e w1 ⟨rfl, ⟨nd, rfl⟩⟩))
    | (go_at_call 244; ((with_reducible refine (impl_parts.letter _ _ (by omega) (by omega)).mono ?_); rintro e w1 ⟨rfl, ⟨nd, rfl⟩⟩)))
  go_ret
  refine ⟨.slice (some ⟨w.heap.size + 1, 0, none⟩) 2 2, rfl, ?_, fun h => absurd h (by simp), by repeat (first | exact Below.refl _ _ | apply pw_below_drewN | apply below_drew1 | apply below_alloc)⟩
  refine Kd.R_alloc (Kd.R_alloc (Kd.R_alloc (lit2R _ _ ?_ ?_) _) _) _
  · first | (simp [World.alloc]; done) | (simp [World.alloc]; omega)
  · simp [World.alloc]
set_option maxHeartbeats 4000000 in
set_option maxRecDepth 100000 in
theorem impl_parts.calls10 (w : World) : Calls Tryd.prog 219 #[.int .i64 10034, .bool true] w (impl_parts.Post [102, 108] w) := by
  go_enter Tryd.func219, Tryd.ntmps219
  go_wp2_with (first
    | (go_at_call 105; ((with_reducible refine (impl_parts.inT _ _ _ _ (by omega) (by omega)).mono ?_); rintro e w1 ⟨rfl, ⟨nd, rfl⟩⟩))
    | (go_at_call 105; ((with_reducible refine (impl_parts.inF _ _ _ _ (by omega)).mono ?_); rintro e w1 ⟨rfl, ⟨nd, rfl⟩⟩))
    | (go_at_call 244; ((with_reducible refine (impl_parts.letter _ _ (by omega) (by omega)).mono ?_); rintro e w1 ⟨rfl, ⟨nd, rfl⟩⟩)))
  go_ret
  refine ⟨.slice (some ⟨w.heap.size + 1 + 1, 0, none⟩) 2 2, rfl, ?_, fun h => absurd h (by simp), by repeat (first | exact Below.refl _ _ | apply pw_below_drewN | apply below_drew1 | apply below_alloc)⟩
  refine Kd.R_alloc (Kd.R_alloc (lit2R _ _ ?_ ?_) _) _
  · first | (simp [World.alloc]; done) | (simp [World.alloc]; omega)
  · simp [World.alloc]
set_option maxHeartbeats 4000000 in
set_option maxRecDepth 100000 in
theorem impl_parts.calls11 (w : World) : Calls Tryd.prog 219 #[.int .i64 10035, .bool true] w (impl_parts.Post [115, 116] w) := by
  go_enter Tryd.func219, Tryd.ntmps219
  go_wp2_with (first
    | (go_at_call 105; ((with_reducible refine (impl_parts.inT _ _ _ _ (by omega) (by omega)).mono ?_); rintro e w1 ⟨rfl, ⟨nd, rfl⟩⟩))
    | (go_at_call 105; ((with_reducible refine (impl_parts.inF _ _ _ _ (by omega)).mono ?_); rintro e w1 ⟨rfl, ⟨nd, rfl⟩⟩))
    | (go_at_call 244; ((with_reducible refine (impl_parts.letter _ _ (by omega) (by omega)).mono ?_); rintro e w1 ⟨rfl, ⟨nd, rfl⟩⟩)))
  go_ret
  refine ⟨.slice (some ⟨w.heap.size + 1 + 1 + 1, 0, none⟩) 2 2, rfl, ?_, fun h => absurd h (by simp), by repeat (first | exact Below.refl _ _ | apply pw_below_drewN | apply below_drew1 | apply below_alloc)⟩
  refine Kd.R_alloc (lit2R _ _ ?_ ?_) _
  · first | (simp [World.alloc]; done) | (simp [World.alloc]; omega)
  · simp [World.alloc]
set_option maxHeartbeats 4000000 in
set_option maxRecDepth 100000 in
theorem impl_parts.callsN (p : Int) (k : Bool) (w : World) (h0 : 0 ≤ p) (h1 : p ≤ 1114111) (h2 : YtiabgmddnddeiaaDoorNrm.prt k p = []) (c1 : ¬ (8192 ≤ p ∧ p ≤ 9631 ∧ p % 512 < 416)) (c2 : ¬ (9728 ≤ p ∧ p ≤ 9753)) (c3 : ¬ (12288 ≤ p ∧ p ≤ 23459)) : Calls Tryd.prog 219 #[.int .i64 p, .bool k] w (impl_parts.Post [] w) := by
  have n2 : p < 9728 ∨ 9753 < p := by omega
  have n3 : p < 12288 ∨ 23459 < p := by omega
  cases k with
  | false =>
    clear h2
    by_cases d : 8192 ≤ p ∧ p ≤ 9631
    · have d1 := d.1
      have d2 := d.2
      have d3 : 416 ≤ (p - 8192) % 512 := by omega
      clear c1 c2 c3 d
      go_enter Tryd.func219, Tryd.ntmps219
      go_wp2_with (first
        | (go_at_call 105; ((with_reducible refine (impl_parts.inT _ _ _ _ (by omega) (by omega)).mono ?_); rintro e w1 ⟨rfl, ⟨nd, rfl⟩⟩))
        | (go_at_call 105; ((with_reducible refine (impl_parts.inF _ _ _ _ (by omega)).mono ?_); rintro e w1 ⟨rfl, ⟨nd, rfl⟩⟩))
        | (go_at_call 244; ((with_reducible refine (impl_parts.letter _ _ (by omega) (by omega)).mono ?_); rintro e w1 ⟨rfl, ⟨nd, rfl⟩⟩)))
      go_ret
      exact ⟨_, rfl, Kd.R_nil _ _ _ _ _, fun _ => rfl, (by repeat (first | exact Below.refl _ _ | apply pw_below_drewN | apply below_drew1))⟩
    · have d3 : p < 8192 ∨ 9631 < p := by omega
      clear c1 c2 c3 d
      go_enter Tryd.func219, Tryd.ntmps219
      go_wp2_with (first
        | (go_at_call 105; ((with_reducible refine (impl_parts.inT _ _ _ _ (by omega) (by omega)).mono ?_); rintro e w1 ⟨rfl, ⟨nd, rfl⟩⟩))
        | (go_at_call 105; ((with_reducible refine (impl_parts.inF _ _ _ _ (by omega)).mono ?_); rintro e w1 ⟨rfl, ⟨nd, rfl⟩⟩))
        | (go_at_call 244; ((with_reducible refine (impl_parts.letter _ _ (by omega) (by omega)).mono ?_); rintro e w1 ⟨rfl, ⟨nd, rfl⟩⟩)))
      go_ret
      exact ⟨_, rfl, Kd.R_nil _ _ _ _ _, fun _ => rfl, (by repeat (first | exact Below.refl _ _ | apply pw_below_drewN | apply below_drew1))⟩
  | true =>
    have e : ¬ (9984 ≤ p ∧ p ≤ 10009) ∧ ¬ (10016 ≤ p ∧ p ≤ 10025) ∧ ¬ (p = 8064 ∨ p = 160) ∧ ¬ (10032 ≤ p ∧ p ≤ 10035) := by
      unfold YtiabgmddnddeiaaDoorNrm.prt at h2
      rw [if_neg c1, if_neg c2, if_neg c3] at h2
      refine ⟨fun z => ?_, fun z => ?_, fun z => ?_, fun z => ?_⟩
      · rw [if_pos ⟨rfl, z⟩] at h2; cases h2
      · rw [if_neg (by omega), if_pos ⟨rfl, z⟩] at h2; cases h2
      · rw [if_neg (by omega), if_neg (by omega), if_pos ⟨rfl, z⟩] at h2; cases h2
      · rw [if_neg (by omega), if_neg (by omega), if_neg (by omega)] at h2
        have : p = 10032 ∨ p = 10033 ∨ p = 10034 ∨ p = 10035 := by omega
        rcases this with rfl | rfl | rfl | rfl <;> simp at h2
    obtain ⟨e1, e2, e3, e4⟩ := e
    have e1 : p < 9984 ∨ 10009 < p := by omega
    have e2 : p < 10016 ∨ 10025 < p := by omega
    have e5 : (p == 8064) = false := beq_eq_false_iff_ne.mpr (by omega)
    have e6 : (p == 160) = false := beq_eq_false_iff_ne.mpr (by omega)
    have e4 : p < 10032 ∨ 10035 < p := by omega
    clear h2 e3
    by_cases d : 8192 ≤ p ∧ p ≤ 9631
    · have d1 := d.1
      have d2 := d.2
      have d3 : 416 ≤ (p - 8192) % 512 := by omega
      clear c1 c2 c3 d
      go_enter Tryd.func219, Tryd.ntmps219
      go_wp2_with (first
        | (go_at_call 105; ((with_reducible refine (impl_parts.inT _ _ _ _ (by omega) (by omega)).mono ?_); rintro e w1 ⟨rfl, ⟨nd, rfl⟩⟩))
        | (go_at_call 105; ((with_reducible refine (impl_parts.inF _ _ _ _ (by omega)).mono ?_); rintro e w1 ⟨rfl, ⟨nd, rfl⟩⟩))
        | (go_at_call 244; ((with_reducible refine (impl_parts.letter _ _ (by omega) (by omega)).mono ?_); rintro e w1 ⟨rfl, ⟨nd, rfl⟩⟩)))
      go_ret
      exact ⟨_, rfl, Kd.R_nil _ _ _ _ _, fun _ => rfl, (by repeat (first | exact Below.refl _ _ | apply pw_below_drewN | apply below_drew1))⟩
    · have d3 : p < 8192 ∨ 9631 < p := by omega
      clear c1 c2 c3 d
      go_enter Tryd.func219, Tryd.ntmps219
      go_wp2_with (first
        | (go_at_call 105; ((with_reducible refine (impl_parts.inT _ _ _ _ (by omega) (by omega)).mono ?_); rintro e w1 ⟨rfl, ⟨nd, rfl⟩⟩))
        | (go_at_call 105; ((with_reducible refine (impl_parts.inF _ _ _ _ (by omega)).mono ?_); rintro e w1 ⟨rfl, ⟨nd, rfl⟩⟩))
        | (go_at_call 244; ((with_reducible refine (impl_parts.letter _ _ (by omega) (by omega)).mono ?_); rintro e w1 ⟨rfl, ⟨nd, rfl⟩⟩)))
      go_ret
      exact ⟨_, rfl, Kd.R_nil _ _ _ _ _, fun _ => rfl, (by repeat (first | exact Below.refl _ _ | apply pw_below_drewN | apply below_drew1))⟩
theorem impl_parts.calls (p : Int) (k : Bool) (w : World) (h0 : 0 ≤ p) (h1 : p ≤ 1114111) : Calls Tryd.prog 219 #[.int .i64 p, .bool k] w (impl_parts.Post (YtiabgmddnddeiaaDoorNrm.prt k p) w) := by
  by_cases c1 : 8192 ≤ p ∧ p ≤ 9631 ∧ p % 512 < 416
  · exact impl_parts.calls1 p k w c1.1 c1.2.1 c1.2.2
  by_cases c2 : 9728 ≤ p ∧ p ≤ 9753
  · have e : YtiabgmddnddeiaaDoorNrm.prt k p = [p - 9663] := by unfold YtiabgmddnddeiaaDoorNrm.prt; rw [if_neg c1, if_pos c2]
    rw [e]; exact impl_parts.calls2 p k w c2.1 c2.2
  by_cases c3 : 12288 ≤ p ∧ p ≤ 23459
  · have e : YtiabgmddnddeiaaDoorNrm.prt k p = if 0 < (p - 12288) % 28 then [p - (p - 12288) % 28, 1856 + (p - 12288) % 28] else [1792 + (p - 12288) / 588, 1824 + (p - 12288) / 28 % 21] := by unfold YtiabgmddnddeiaaDoorNrm.prt; rw [if_neg c1, if_neg c2, if_pos c3]
    rw [e]; exact impl_parts.calls3 p k w c3.1 c3.2
  by_cases h2 : YtiabgmddnddeiaaDoorNrm.prt k p = []
  · rw [h2]; exact impl_parts.callsN p k w h0 h1 h2 c1 c2 c3
  have e0 := h2
  unfold YtiabgmddnddeiaaDoorNrm.prt at e0 ⊢
  rw [if_neg c1, if_neg c2, if_neg c3] at e0 ⊢
  by_cases d1 : k = true ∧ 9984 ≤ p ∧ p ≤ 10009
  · rw [if_pos d1, d1.1]; exact impl_parts.calls4 p w d1.2.1 d1.2.2
  rw [if_neg d1] at e0 ⊢
  by_cases d2 : k = true ∧ 10016 ≤ p ∧ p ≤ 10025
  · rw [if_pos d2, d2.1]; exact impl_parts.calls5 p w d2.2.1 d2.2.2
  rw [if_neg d2] at e0 ⊢
  by_cases d3 : k = true ∧ (p = 8064 ∨ p = 160)
  · rw [if_pos d3, d3.1]
    rcases d3.2 with rfl | rfl
    · exact impl_parts.calls6 w
    · exact impl_parts.calls7 w
  rw [if_neg d3] at e0 ⊢
  by_cases d4 : k = true ∧ p = 10032
  · rw [if_pos d4, d4.1, d4.2]; exact impl_parts.calls8 w
  rw [if_neg d4] at e0 ⊢
  by_cases d5 : k = true ∧ p = 10033
  · rw [if_pos d5, d5.1, d5.2]; exact impl_parts.calls9 w
  rw [if_neg d5] at e0 ⊢
  by_cases d6 : k = true ∧ p = 10034
  · rw [if_pos d6, d6.1, d6.2]; exact impl_parts.calls10 w
  rw [if_neg d6] at e0 ⊢
  by_cases d7 : k = true ∧ p = 10035
  · rw [if_pos d7, d7.1, d7.2]; exact impl_parts.calls11 w
  rw [if_neg d7] at e0
  exact absurd rfl e0

end Go.Proofs.YtiabgmddnddeiaaDoor.QFnNormer
