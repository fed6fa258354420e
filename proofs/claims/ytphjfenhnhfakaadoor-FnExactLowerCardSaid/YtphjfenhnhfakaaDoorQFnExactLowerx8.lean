/- The law FnExactLower: at every input the call answers true (this text: contracts on its way, by a program of this session's; no condition of ours). -/
import Derived.Test.YtphjfenhnhfakaaDoorQFnExactLowerx0
import Derived.Test.YtphjfenhnhfakaaDoorQFnExactLowerx7
namespace Go.Proofs.YtphjfenhnhfakaaDoor.QFnExactLower
open Go.RowKit Go.Proofs.YtphjfenhnhfakaaDoorW.PrintWords Go.Proofs.YtphjfenhnhfakaaDoorW.PrintLast Go.Proofs.YtphjfenhnhfakaaDoorW.PrintMore
attribute [local go_sem] max2_int min2_int max_two min_two max_three min_three max_four min_four   -- for this text's walks alone
set_option linter.unusedVariables false
set_option linter.unusedSimpArgs false

/-! ### impl_write: function 49 -/
def impl_write.l0 : Nat → List Int → List Int → Int → Int → Option (ByteArray)
  | 0, _, _, _, _ => none
  | k + 1, x3, x6, x7, x8 => if x8 < x7 then (if 0 ≤ x8 then (if x8 < (x6.length : Int) then ((impl_isPoint.f (rd x6 x8)).bind fun t237 => (if t237 = true then ((W_utf8_AppendRune.f x3 (wrap32 (rd x6 x8))).bind fun t238 => (impl_write.l0 k t238 x6 x7 (wrap64 (x8 + 1)))) else ((W_utf8_AppendRune.f x3 65533).bind fun t241 => (impl_write.l0 k t241 x6 x7 (wrap64 (x8 + 1)))))) else (none)) else (none)) else (some (strOfNums x3))
def impl_write.f (k : Nat) (l0 : List Int) : Option (ByteArray) := impl_write.l0 k ([] : List Int) l0 (l0.length : Int) 0
theorem impl_write.mono_l : ∀ k, (∀ y0 y1 y2 y3, LeO (impl_write.l0 k y0 y1 y2 y3) (impl_write.l0 (k + 1) y0 y1 y2 y3))
  | 0 => fun _ _ _ _ r h => by simp [impl_write.l0] at h
  | k + 1 => by
    have ih0 := impl_write.mono_l k
    · intro y0 y1 y2 y3
      unfold impl_write.l0
      repeat' first
      | (with_reducible exact ih0 _ _ _ _)
      | (with_reducible exact LeO.refl _)
      | (with_reducible exact LeO.none _)
      | (with_reducible refine LeO.ite ?_ ?_)
      | (with_reducible refine LeO.bind ?_ (fun _ => ?_))
      | exact ih0 _ _ _ _
      | exact LeO.none _
      | refine LeO.ite ?_ ?_
      | refine LeO.bind ?_ (fun _ => ?_)
theorem impl_write.mono : ∀ a0 k, LeO (impl_write.f k a0) (impl_write.f (k + 1) a0) := by
  intro a0 k
  have ih0 := impl_write.mono_l k
  unfold impl_write.f
  repeat' first
      | (with_reducible exact ih0 _ _ _ _)
      | (with_reducible exact LeO.refl _)
      | (with_reducible exact LeO.none _)
      | (with_reducible refine LeO.ite ?_ ?_)
      | (with_reducible refine LeO.bind ?_ (fun _ => ?_))
      | exact ih0 _ _ _ _
      | exact LeO.none _
      | refine LeO.ite ?_ ?_
      | refine LeO.bind ?_ (fun _ => ?_)
set_option maxHeartbeats 8000000 in
set_option maxRecDepth 100000 in
theorem impl_write.calls (k : Nat) (A0 : Option Addr) (c0 : Nat) (l0 : List Int) (r : ByteArray) (w : World) (hr0 : Kd.C (Kd.int .i64) w A0 l0.length l0) (hc0 : l0.length ≤ c0) (h : impl_write.f k l0 = some r) :
    Calls Tryd.prog 49 #[.slice A0 l0.length c0] w fun e w' => e = .returned (.string r) ∧ Below w.heap.size w w' := by
  have HR0 := Aside0.mk hr0
  have HC0 := Aside0.mk hc0
  clear hr0 hc0
  have HB := Aside0.mk (Below.refl w.heap.size w)
  have H : (impl_write.l0 k ([] : List Int) l0 (l0.length : Int) 0) = some r := h
  clear h
  have H' := Aside0.mk H
  clear H
  go_enter Tryd.func49, Tryd.ntmps49
  go_wp2
  go_loopg [3, 8] k (fun kq v3 v8 w' => ∃ (x3_1 : List Int) (x8_1 : Int), v8 = .int .i64 x8_1 ∧ Aside0 (impl_write.l0 kq x3_1 l0 (l0.length : Int) x8_1 = some r) ∧ Aside0 (kq ≤ k) ∧ Aside0 (Kd.R (Kd.int .u8) 5 w' w.heap.size (fun _ => True) v3 x3_1) ∧ Aside0 (Below w.heap.size w w'))
  case atStart => exact ⟨(([] : List Int)), (0), (by first | rfl | (simp; done) | (simp [*]; done)), H', ⟨Nat.le_refl _⟩, ⟨by first | exact Kd.R_nil _ _ _ _ _ | exact Kd.N_nil _ _ _ _ _ | exact Kd.V_nil _ _ _ _ _ | exact Kd.Q_nil _ _ _ _ _ | exact Kd.S_nil _ _ _ _ _⟩, ⟨by repeat (first | (with_reducible first | exact HB.out | apply below_alloc | apply pw_below_drewN | apply below_drew1) | exact HB.out)⟩⟩
  case round =>
    clear H'
    obtain ⟨x3_1, x8_1, rfl, HA, HK1, HO_3, HB⟩ := hrel
    cases gk with
    | zero => exact absurd HA.out (by simp [impl_write.l0])
    | succ k1 =>
      have H := HA.out
      clear HA
      simp only [impl_write.l0] at H
      by_cases c2 : x8_1 < (l0.length : Int)
      · rw [if_pos c2] at H
        have c2b0 : decide (x8_1 < (l0.length : Int)) = true := decide_eq_true c2
        clear c2
        by_cases c3 : 0 ≤ x8_1
        · rw [if_pos c3] at H
          have c3b0 : decide (0 ≤ x8_1) = true := decide_eq_true c3
          clear c3
          by_cases c4 : x8_1 < (l0.length : Int)
          · rw [if_pos c4] at H
            have c4b0 : decide (x8_1 < (l0.length : Int)) = true := decide_eq_true c4
            clear c4
            replace H := Option.bind_eq_some_iff.mp H
            obtain ⟨t237, A50, H⟩ := H
            replace H : (if t237 = true then ((W_utf8_AppendRune.f x3_1 (wrap32 (rd l0 x8_1))).bind fun t238 => (impl_write.l0 k1 t238 l0 (l0.length : Int) (wrap64 (x8_1 + 1)))) else ((W_utf8_AppendRune.f x3_1 65533).bind fun t241 => (impl_write.l0 k1 t241 l0 (l0.length : Int) (wrap64 (x8_1 + 1))))) = some r := H
            have A5 := Aside0.mk A50
            clear A50
            by_cases c6 : t237 = true
            · subst c6
              have H1 : ((W_utf8_AppendRune.f x3_1 (wrap32 (rd l0 x8_1))).bind fun t238 => (impl_write.l0 k1 t238 l0 (l0.length : Int) (wrap64 (x8_1 + 1)))) = some r := by rw [if_pos rfl] at H; exact H
              clear H
              have H := H1
              clear H1
              replace H := Option.bind_eq_some_iff.mp H
              obtain ⟨t238, A70, H⟩ := H
              replace H : (impl_write.l0 k1 t238 l0 (l0.length : Int) (wrap64 (x8_1 + 1))) = some r := H
              have A7 := Aside0.mk A70
              clear A70
              have H' := Aside0.mk H
              clear H
              have p236 : 0 ≤ (x8_1 : Int) := of_decide_eq_true (by first | (with_reducible assumption) | assumption)
              have q236 : x8_1 < (l0.length : Int) := of_decide_eq_true (by first | (with_reducible assumption) | assumption)
              obtain ⟨ad236, e236, hx236_0⟩ := Kd.at_int HR0.out x8_1 p236 q236
              cases e236
              replace hx236_0 := (HB.out.cell (World.block_lt_of_cell? w _ hx236_0)).trans hx236_0
              replace p236 := eq_true p236
              replace q236 := eq_true q236
              go_wp2_with (first | ((with_reducible refine gate_callee (f := 81) rfl ?_); refine goesL_ (some 13) rfl rfl Tryd.func81 (by kernel_rfl) rfl #[.int .i64 (rd l0 x8_1)] rfl (by (try simp only [List.map_toArray, List.map_cons, List.map_nil]); first | done | rfl | (simp only [List.length_drop, List.length_take]; rfl)) ?_; (with_reducible refine (impl_isPoint.calls (rd l0 x8_1) true _ A5.out).mono ?_); rintro e w' ⟨rfl, ⟨nd, rfl⟩⟩; refine ⟨_, rfl, ?_⟩; obtain ⟨Ao8, co8, eo8⟩ := Kd.R_slice HO_3.out; subst eo8) | ((with_reducible refine gate_callee (f := 82) rfl ?_); refine goesL_ (some 18) rfl rfl Tryd.func82 (by kernel_rfl) rfl #[.slice Ao8 x3_1.length co8, .int .i32 (wrap32 (rd l0 x8_1))] rfl (by (try simp only [List.map_toArray, List.map_cons, List.map_nil]); first | done | rfl | (simp only [List.length_drop, List.length_take]; rfl)) ?_; (with_reducible refine (W_utf8_AppendRune.calls (fun k_ => some k_ = (.slice Ao8 x3_1.length co8 : Value).ownBlock) (.slice Ao8 x3_1.length co8) x3_1 (wrap32 (rd l0 x8_1)) t238 w _ ?side1 ?side2 A7.out).mono ?_); (case side1 => repeat (first | (with_reducible first | exact HB.out | apply below_alloc | apply pw_below_drewN | apply below_drew1) | exact HB.out)); (case side2 => exact Kd.R_tight rfl HO_3.out); rintro e w9 ⟨v239, rfl, ho0, hb, hkp⟩; refine ⟨_, rfl, ?_⟩; have n0_ := Aside0.mk (Kd.R_mono (ok' := fun k_ => True) ho0 (fun k_ hk_ => trivial)); have n1_ := Aside0.mk (hb); clear HB; clear HO_3; have HO240 := n0_; have HB := n1_; clear n0_ n1_; (try clear hb); (try clear hkp); (try clear ho0)))
              go_roundg k1
              case measure => have := HK1.out; omega
              case rel => exact ⟨(t238), (wrap64 (x8_1 + 1)), (by first | rfl | (simp; done) | (simp [*]; done)), H', ⟨by have := HK1.out; omega⟩, ⟨by (with_reducible repeat (first | apply Kd.R_alloc | apply Kd.R_drewN | apply Kd.R_drew)); exact HO240.out⟩, ⟨by repeat (first | (with_reducible first | exact HB.out | apply below_alloc | apply pw_below_drewN | apply below_drew1) | exact HB.out)⟩⟩
            · replace c6 := Bool.eq_false_iff.mpr c6
              subst c6
              have H1 : ((W_utf8_AppendRune.f x3_1 65533).bind fun t241 => (impl_write.l0 k1 t241 l0 (l0.length : Int) (wrap64 (x8_1 + 1)))) = some r := by rw [if_neg (show ¬ (false = true) by decide)] at H; exact H
              clear H
              have H := H1
              clear H1
              replace H := Option.bind_eq_some_iff.mp H
              obtain ⟨t241, A100, H⟩ := H
              replace H : (impl_write.l0 k1 t241 l0 (l0.length : Int) (wrap64 (x8_1 + 1))) = some r := H
              have A10 := Aside0.mk A100
              clear A100
              have H' := Aside0.mk H
              clear H
              have p236 : 0 ≤ (x8_1 : Int) := of_decide_eq_true (by first | (with_reducible assumption) | assumption)
              have q236 : x8_1 < (l0.length : Int) := of_decide_eq_true (by first | (with_reducible assumption) | assumption)
              obtain ⟨ad236, e236, hx236_0⟩ := Kd.at_int HR0.out x8_1 p236 q236
              cases e236
              replace hx236_0 := (HB.out.cell (World.block_lt_of_cell? w _ hx236_0)).trans hx236_0
              replace p236 := eq_true p236
              replace q236 := eq_true q236
              go_wp2_with (first | ((with_reducible refine gate_callee (f := 81) rfl ?_); refine goesL_ (some 13) rfl rfl Tryd.func81 (by kernel_rfl) rfl #[.int .i64 (rd l0 x8_1)] rfl (by (try simp only [List.map_toArray, List.map_cons, List.map_nil]); first | done | rfl | (simp only [List.length_drop, List.length_take]; rfl)) ?_; (with_reducible refine (impl_isPoint.calls (rd l0 x8_1) false _ A5.out).mono ?_); rintro e w' ⟨rfl, ⟨nd, rfl⟩⟩; refine ⟨_, rfl, ?_⟩; obtain ⟨Ao11, co11, eo11⟩ := Kd.R_slice HO_3.out; subst eo11) | ((with_reducible refine gate_callee (f := 82) rfl ?_); refine goesL_ (some 18) rfl rfl Tryd.func82 (by kernel_rfl) rfl #[.slice Ao11 x3_1.length co11, .int .i32 65533] rfl (by (try simp only [List.map_toArray, List.map_cons, List.map_nil]); first | done | rfl | (simp only [List.length_drop, List.length_take]; rfl)) ?_; (with_reducible refine (W_utf8_AppendRune.calls (fun k_ => some k_ = (.slice Ao11 x3_1.length co11 : Value).ownBlock) (.slice Ao11 x3_1.length co11) x3_1 65533 t241 w _ ?side1 ?side2 A10.out).mono ?_); (case side1 => repeat (first | (with_reducible first | exact HB.out | apply below_alloc | apply pw_below_drewN | apply below_drew1) | exact HB.out)); (case side2 => exact Kd.R_tight rfl HO_3.out); rintro e w12 ⟨v242, rfl, ho0, hb, hkp⟩; refine ⟨_, rfl, ?_⟩; have n0_ := Aside0.mk (Kd.R_mono (ok' := fun k_ => True) ho0 (fun k_ hk_ => trivial)); have n1_ := Aside0.mk (hb); clear HB; clear HO_3; have HO243 := n0_; have HB := n1_; clear n0_ n1_; (try clear hb); (try clear hkp); (try clear ho0)))
              go_roundg k1
              case measure => have := HK1.out; omega
              case rel => exact ⟨(t241), (wrap64 (x8_1 + 1)), (by first | rfl | (simp; done) | (simp [*]; done)), H', ⟨by have := HK1.out; omega⟩, ⟨by (with_reducible repeat (first | apply Kd.R_alloc | apply Kd.R_drewN | apply Kd.R_drew)); exact HO243.out⟩, ⟨by repeat (first | (with_reducible first | exact HB.out | apply below_alloc | apply pw_below_drewN | apply below_drew1) | exact HB.out)⟩⟩
          · rw [if_neg c4] at H
            exact absurd H (by simp)
        · rw [if_neg c3] at H
          exact absurd H (by simp)
      · rw [if_neg c2] at H
        have c2b0 : decide (x8_1 < (l0.length : Int)) = false := decide_eq_false c2
        clear c2
        obtain rfl := Option.some.inj H
        have hcv13 := own_string (P := Tryd.prog) Tryd.underlying22 Tryd.underlying5 Tryd.underlying9 (Kd.own_of_R HO_3.out)
        go_wp2
        go_ret
        exact ⟨by first | rfl | (simp [errW_none, errW_some] <;> rfl) | (simp [*, errW_none, errW_some] <;> rfl), by repeat (first | (with_reducible first | exact HB.out | apply below_alloc | apply pw_below_drewN | apply below_drew1) | exact HB.out)⟩

def W_impl_write.f (l0 : List Int) : Option (ByteArray) := if l0.length ≤ 1099511627776 then some (strOfNums (YtphjfenhnhfakaaDoorPts.encs l0)) else none
theorem impl_write.run (l : List Int) (hl : l.length ≤ 1099511627776) (d : Nat) : ∀ (k i : Nat), i ≤ l.length → l.length - i = d → d < k →
    impl_write.l0 k (YtphjfenhnhfakaaDoorPts.encs (l.take i)) l (l.length : Int) (i : Int) = some (strOfNums (YtphjfenhnhfakaaDoorPts.encs l)) := by
  induction d with
  | zero =>
    intro k i h1 h2 h3
    obtain ⟨k, rfl⟩ : ∃ m, k = m + 1 := ⟨k - 1, by omega⟩
    simp only [impl_write.l0]
    rw [if_neg (by omega), List.take_of_length_le (by omega)]
  | succ d ih =>
    intro k i h1 h2 h3
    obtain ⟨k, rfl⟩ : ∃ m, k = m + 1 := ⟨k - 1, by omega⟩
    have hlt : i < l.length := by omega
    simp only [impl_write.l0]
    rw [if_pos (by omega), if_pos (by omega), if_pos (by omega)]
    have hw : wrap64 ((i : Int) + 1) = ((i + 1 : Nat) : Int) := by unfold wrap64; omega
    have hr : rd l (i : Int) = l[i] := by simp [rd, List.getD, hlt]
    have ht : YtphjfenhnhfakaaDoorPts.encs (l.take (i + 1)) = YtphjfenhnhfakaaDoorPts.encs (l.take i) ++ YtphjfenhnhfakaaDoorPts.enc l[i] := by
      rw [List.take_succ_eq_append_getElem hlt, YtphjfenhnhfakaaDoorPts.encs_append]
      simp [YtphjfenhnhfakaaDoorPts.encs]
    have hlen := YtphjfenhnhfakaaDoorPts.encs_length (l.take i)
    rw [List.length_take] at hlen
    rw [hr]
    obtain ⟨p, hp⟩ : ∃ p, l[i] = p := ⟨_, rfl⟩
    rw [hp] at ht ⊢
    have hq : impl_isPoint.f p = some (decide (YtphjfenhnhfakaaDoorPts.isP p)) := by
      unfold impl_isPoint.f YtphjfenhnhfakaaDoorPts.isP
      by_cases a : 0 ≤ p
      · by_cases b : p ≤ 1114111
        · by_cases c : p < 55296
          · rw [if_pos a, if_pos b, if_pos c]; simp [a, b, c]
          · rw [if_pos a, if_pos b, if_neg c]; simp [a, b, c]
        · rw [if_pos a, if_neg b]; simp [b]
      · rw [if_neg a]; simp [a]
    rw [hq]
    simp only [Option.bind_some]
    have hih := ih k (i + 1) (by omega) (by omega) (by omega)
    rw [ht] at hih
    unfold W_utf8_AppendRune.f
    by_cases h : YtphjfenhnhfakaaDoorPts.isP p
    · have hv : wrap32 p = p := by unfold YtphjfenhnhfakaaDoorPts.isP at h; unfold wrap32; omega
      rw [if_pos (decide_eq_true h), hv, if_pos ⟨h, by omega⟩]
      simp only [Option.bind_some]
      rw [hw]
      unfold YtphjfenhnhfakaaDoorPts.enc at hih
      rw [YtphjfenhnhfakaaDoorPts.fix_of h] at hih
      exact hih
    · rw [if_neg (by simpa using h), if_pos ⟨by unfold YtphjfenhnhfakaaDoorPts.isP; omega, by omega⟩]
      simp only [Option.bind_some]
      rw [hw]
      unfold YtphjfenhnhfakaaDoorPts.enc YtphjfenhnhfakaaDoorPts.fix at hih
      rw [if_neg h] at hih
      exact hih
theorem W_impl_write.to {l0 : List Int} {r : ByteArray} (h : W_impl_write.f l0 = some r) : ∃ k, impl_write.f k l0 = some r := by
  unfold W_impl_write.f at h
  split at h
  · rename_i hl
    refine ⟨l0.length + 1, ?_⟩
    rw [← h]
    exact impl_write.run l0 hl l0.length (l0.length + 1) 0 (by omega) (by omega) (by omega)
  · cases h
theorem W_impl_write.calls (A0 : Option Addr) (c0 : Nat) (l0 : List Int) (r : ByteArray) (w : World) (hr0 : Kd.C (Kd.int .i64) w A0 l0.length l0) (hc0 : l0.length ≤ c0) (h : W_impl_write.f l0 = some r) :
    Calls Tryd.prog 49 #[.slice A0 l0.length c0] w fun e w' => e = .returned (.string r) ∧ Below w.heap.size w w' := by
  obtain ⟨k, hk⟩ := W_impl_write.to h
  exact impl_write.calls k A0 c0 l0 r w hr0 hc0 hk

/-! ### impl_block: function 89 (by hand) -/
theorem impl_block.bits (p : Int) (h0 : 512 ≤ p) (h1 : p < 1280) : Go.bits .andNot .i64 p 255 = p - p % 256 ∧ Go.bits .and .i64 p 255 = p % 256 := by
  have h : ∀ n : Fin 768, Go.bits .andNot .i64 (512 + (n.val : Int)) 255 = (512 + (n.val : Int)) - (512 + (n.val : Int)) % 256 ∧ Go.bits .and .i64 (512 + (n.val : Int)) 255 = (512 + (n.val : Int)) % 256 := by decide +kernel
  have e : p = 512 + (((⟨(p - 512).toNat, by omega⟩ : Fin 768).val : Nat) : Int) := by simp; omega
  rw [e]; exact h _
def impl_block.f (a0 : Int) : Option (Int × Int) := some (if 512 ≤ a0 ∧ a0 < 1280 then (a0 - a0 % 256, a0 % 256) else (0, 0))
set_option maxHeartbeats 1000000 in
set_option maxRecDepth 100000 in
theorem impl_block.calls (a0 : Int) (r1 : Int) (r2 : Int) (w : World) (h : impl_block.f a0 = some (r1, r2)) :
    Calls Tryd.prog 89 #[.int .i64 a0] w fun e w' => e = .returned (.tuple #[.int .i64 r1, .int .i64 r2]) ∧ Drawn0 w w' := by
  unfold impl_block.f at h
  have h := Option.some.inj h
  by_cases hc : 512 ≤ a0 ∧ a0 < 1280
  · rw [if_pos hc] at h
    obtain ⟨rfl, rfl⟩ := Prod.mk.inj h
    obtain ⟨e1, e2⟩ := impl_block.bits a0 hc.1 hc.2
    rw [← e1, ← e2]
    clear e1 e2 h
    obtain ⟨hc1, hc2⟩ := hc
    go_enter Tryd.func89, Tryd.ntmps89
    go_wp2
    go_ret2
    exact ⟨rfl, Drawn0.refl _⟩
  · rw [if_neg hc] at h
    obtain ⟨rfl, rfl⟩ := Prod.mk.inj h
    clear h
    have hc' : a0 < 512 ∨ 1280 ≤ a0 := by omega
    clear hc
    rcases hc' with hc | hc
    · go_enter Tryd.func89, Tryd.ntmps89
      go_wp2
      go_ret2
      exact ⟨rfl, Drawn0.refl _⟩
    · go_enter Tryd.func89, Tryd.ntmps89
      go_wp2
      go_ret2
      exact ⟨rfl, Drawn0.refl _⟩

/-! ### impl_within: function 88 -/
def impl_within.f (a0 : Int) (a1 : Int) : Option (Bool) := (impl_block.f a0).bind fun bt244 => (if bt244.1 > 0 then (some (bt244.2 == a1)) else (some false))
set_option maxHeartbeats 8000000 in
set_option maxRecDepth 100000 in
theorem impl_within.calls (a0 : Int) (a1 : Int) (r : Bool) (w : World) (h : impl_within.f a0 a1 = some r) :
    Calls Tryd.prog 88 #[.int .i64 a0, .int .i64 a1] w fun e w' => e = .returned (.bool r) ∧ Drawn0 w w' := by
  have H : ((impl_block.f a0).bind fun bt244 => (if bt244.1 > 0 then (some (bt244.2 == a1)) else (some false))) = some r := h
  clear h
  replace H := Option.bind_eq_some_iff.mp H
  obtain ⟨⟨t244, t245⟩, A30, H⟩ := H
  replace H : (if t244 > 0 then (some (t245 == a1)) else (some false)) = some r := H
  have A3 := Aside0.mk A30
  clear A30
  by_cases c4 : t244 > 0
  · rw [if_pos c4] at H
    have c4b0 : decide (0 < t244) = true := decide_eq_true c4
    clear c4
    obtain rfl := Option.some.inj H
    go_enter Tryd.func88, Tryd.ntmps88
    go_wp2_with (first | ((with_reducible refine gate_callee (f := 89) rfl ?_); refine goesL_ (some 9) rfl rfl Tryd.func89 (by kernel_rfl) rfl #[.int .i64 a0] rfl (by (try simp only [List.map_toArray, List.map_cons, List.map_nil]); first | done | rfl | (simp only [List.length_drop, List.length_take]; rfl)) ?_; (with_reducible refine (impl_block.calls a0 t244 t245 _ A3.out).mono ?_); rintro e w' ⟨rfl, ⟨nd, rfl⟩⟩; refine ⟨_, rfl, ?_⟩))
    go_ret
    exact ⟨by first | rfl | (simp; done) | (simp [*]; done), by repeat (first | exact Drawn0.refl _ | apply Drawn0.step)⟩
  · rw [if_neg c4] at H
    have c4b0 : decide (0 < t244) = false := decide_eq_false c4
    clear c4
    obtain rfl := Option.some.inj H
    go_enter Tryd.func88, Tryd.ntmps88
    go_wp2_with (first | ((with_reducible refine gate_callee (f := 89) rfl ?_); refine goesL_ (some 9) rfl rfl Tryd.func89 (by kernel_rfl) rfl #[.int .i64 a0] rfl (by (try simp only [List.map_toArray, List.map_cons, List.map_nil]); first | done | rfl | (simp only [List.length_drop, List.length_take]; rfl)) ?_; (with_reducible refine (impl_block.calls a0 t244 t245 _ A3.out).mono ?_); rintro e w' ⟨rfl, ⟨nd, rfl⟩⟩; refine ⟨_, rfl, ?_⟩))
    go_ret
    exact ⟨by first | rfl | (simp; done) | (simp [*]; done), by repeat (first | exact Drawn0.refl _ | apply Drawn0.step)⟩

/-! ### impl_in: function 91 -/
def impl_in.f (a0 : Int) (a1 : Int) (a2 : Int) : Option (Bool) := if a0 ≥ a1 then (some (decide (a0 ≤ a2))) else (some false)
set_option maxHeartbeats 8000000 in
set_option maxRecDepth 100000 in
theorem impl_in.calls (a0 : Int) (a1 : Int) (a2 : Int) (r : Bool) (w : World) (h : impl_in.f a0 a1 a2 = some r) :
    Calls Tryd.prog 91 #[.int .i64 a0, .int .i64 a1, .int .i64 a2] w fun e w' => e = .returned (.bool r) ∧ Drawn0 w w' := by
  have H : (if a0 ≥ a1 then (some (decide (a0 ≤ a2))) else (some false)) = some r := h
  clear h
  by_cases c4 : a0 ≥ a1
  · rw [if_pos c4] at H
    have c4b0 : decide (a1 ≤ a0) = true := decide_eq_true c4
    clear c4
    obtain rfl := Option.some.inj H
    go_enter Tryd.func91, Tryd.ntmps91
    go_wp2
    go_ret
    exact ⟨by first | rfl | (simp; done) | (simp [*]; done), by repeat (first | exact Drawn0.refl _ | apply Drawn0.step)⟩
  · rw [if_neg c4] at H
    have c4b0 : decide (a1 ≤ a0) = false := decide_eq_false c4
    clear c4
    obtain rfl := Option.some.inj H
    go_enter Tryd.func91, Tryd.ntmps91
    go_wp2
    go_ret
    exact ⟨by first | rfl | (simp; done) | (simp [*]; done), by repeat (first | exact Drawn0.refl _ | apply Drawn0.step)⟩

/-! ### impl_kind: function 122 (by hand) -/
def impl_kind.g (p : Int) : Int × Int :=
  if 512 ≤ p ∧ p < 1280 then
    (if p % 256 < 32 ∨ 64 ≤ p % 256 ∧ p % 256 ≤ 67 then (4, p / 256)
     else if p % 256 < 64 ∨ 72 ≤ p % 256 ∧ p % 256 ≤ 75 ∨ 96 ≤ p % 256 ∧ p % 256 ≤ 97 then (5, p / 256)
     else if 68 ≤ p % 256 ∧ p % 256 ≤ 71 then (6, p / 256)
     else if 80 ≤ p % 256 ∧ p % 256 ≤ 89 then (8, p / 256)
     else (0, 0))
  else if 0 ≤ p ∧ p ≤ 31 ∨ 127 ≤ p ∧ p ≤ 159 then (1, 0)
  else if p = 32 ∨ p = 160 ∨ p = 8064 then (2, 0)
  else if 48 ≤ p ∧ p ≤ 57 then (8, 0)
  else if 65 ≤ p ∧ p ≤ 90 then (4, 1)
  else if 97 ≤ p ∧ p ≤ 122 then (5, 1)
  else if 33 ≤ p ∧ p ≤ 126 then (9, 0)
  else if p = 173 then (11, 0)
  else if 161 ≤ p ∧ p ≤ 191 then (10, 0)
  else if 1280 ≤ p ∧ p ≤ 1311 then (7, 5)
  else if 1360 ≤ p ∧ p ≤ 1369 then (8, 5)
  else if 1536 ≤ p ∧ p ≤ 1567 then (7, 6)
  else if 1568 ≤ p ∧ p ≤ 1579 ∨ p = 1584 ∨ p = 1585 then (3, 6)
  else if 1616 ≤ p ∧ p ≤ 1625 then (8, 6)
  else if 1792 ≤ p ∧ p ≤ 1810 ∨ 1824 ≤ p ∧ p ≤ 1844 ∨ 1857 ≤ p ∧ p ≤ 1883 ∨ 12288 ≤ p ∧ p ≤ 23459 then (7, 7)
  else if 2048 ≤ p ∧ p ≤ 2095 then (7, 8)
  else if 4096 ≤ p ∧ p ≤ 4159 then (3, 0)
  else if 7680 ≤ p ∧ p ≤ 7748 ∨ 7760 ≤ p ∧ p ≤ 7785 then (10, 0)
  else if 7936 ≤ p ∧ p ≤ 7947 ∨ p = 7953 ∨ p = 7954 then (11, 0)
  else if 8192 ≤ p ∧ p ≤ 9631 ∧ (p - 8192) % 512 < 416 then (if (p - 8192) % 512 < 208 then (4, 1) else (5, 1))
  else if 9728 ≤ p ∧ p ≤ 9753 then (4, 1)
  else if 9984 ≤ p ∧ p ≤ 10009 ∨ 10032 ≤ p ∧ p ≤ 10035 then (10, 0)
  else if 10016 ≤ p ∧ p ≤ 10025 then (8, 0)
  else if 24576 ≤ p ∧ p ≤ 26623 then (7, 9)
  else (0, 0)
def impl_kind.f (a0 : Int) : Option (Int × Int) := some (impl_kind.g a0)
def impl_kind.Post (p : Int) (w : World) (e : Ending) (w' : World) : Prop := e = .returned (.tuple #[.int .i64 (impl_kind.g p).1, .int .i64 (impl_kind.g p).2]) ∧ Drawn0 w w'
theorem impl_kind.post {p a b : Int} {w w' : World} (h : impl_kind.g p = (a, b)) (hb : Drawn0 w w') : impl_kind.Post p w (.returned (.tuple #[.int .i64 a, .int .i64 b])) w' := by
  unfold impl_kind.Post; rw [h]; exact ⟨rfl, hb⟩
set_option maxHeartbeats 1000000 in
set_option maxRecDepth 100000 in
theorem impl_kind.inC (p a b : Int) (w : World) : Calls Tryd.prog 91 #[.int .i64 p, .int .i64 a, .int .i64 b] w fun e w' => e = .returned (.bool (decide (a ≤ p ∧ p ≤ b))) ∧ w = w' := by
  by_cases h : a ≤ p
  · have e : decide (a ≤ p ∧ p ≤ b) = decide (p ≤ b) := by simp [h]
    rw [e]; clear e
    go_enter Tryd.func91, Tryd.ntmps91
    go_wp2
    go_ret
    exact ⟨rfl, rfl⟩
  · have e : decide (a ≤ p ∧ p ≤ b) = false := by simp [h]
    rw [e]; clear e
    go_enter Tryd.func91, Tryd.ntmps91
    go_wp2
    go_ret
    exact ⟨rfl, rfl⟩
set_option maxHeartbeats 8000000 in
set_option maxRecDepth 100000 in
theorem impl_kind.walk1 (a0 : Int) (w : World) (hc : 512 ≤ a0 ∧ a0 < 1280) : Calls Tryd.prog 122 #[.int .i64 a0] w (impl_kind.Post a0 w) := by
  have C := fun W => impl_block.calls a0 (a0 - a0 % 256) (a0 % 256) W (by unfold impl_block.f; rw [if_pos hc])
  obtain ⟨hc1, hc2⟩ := hc
  go_enter Tryd.func122, Tryd.ntmps122
  go_wp2_with (first | (go_at_call 89; refine (C _).mono ?_; rintro e w1 ⟨rfl, ⟨nd, rfl⟩⟩) | (go_at_call 91; refine (impl_kind.inC _ _ _ _).mono ?_; rintro e w1 ⟨rfl, rfl⟩))
  all_goals
    go_ret2
    refine impl_kind.post ?_ (by repeat (first | exact Drawn0.refl _ | apply Drawn0.step))
    go_light
    try simp only [beq_iff_eq, beq_eq_false_iff_ne, ne_eq] at *
  all_goals (try (exfalso; omega))
  all_goals (unfold impl_kind.g; repeat (first | rw [if_pos (by omega)] | rw [if_neg (by omega)]))
  all_goals (try (simp only [Prod.mk.injEq, and_true, true_and]; omega))
set_option maxHeartbeats 8000000 in
set_option maxRecDepth 100000 in
theorem impl_kind.walk2 (a0 : Int) (w : World) (hc : ¬ (512 ≤ a0 ∧ a0 < 1280)) (h0 : 0 ≤ a0) : Calls Tryd.prog 122 #[.int .i64 a0] w (impl_kind.Post a0 w) := by
  have C := fun W => impl_block.calls a0 0 0 W (by unfold impl_block.f; rw [if_neg hc])
  have hc' : a0 < 512 ∨ 1280 ≤ a0 := by omega
  have hc1 := Aside0.mk hc'
  clear hc hc'
  go_enter Tryd.func122, Tryd.ntmps122
  go_wp2_with (first | (go_at_call 89; refine (C _).mono ?_; rintro e w1 ⟨rfl, ⟨nd, rfl⟩⟩) | (go_at_call 91; refine (impl_kind.inC _ _ _ _).mono ?_; rintro e w1 ⟨rfl, rfl⟩))
  all_goals
    go_ret2
    refine impl_kind.post ?_ (by repeat (first | exact Drawn0.refl _ | apply Drawn0.step))
    have hc2 := hc1.out
    go_light
    try simp only [beq_iff_eq, beq_eq_false_iff_ne, ne_eq] at *
  all_goals (try (exfalso; omega))
  all_goals (unfold impl_kind.g; repeat (first | rw [if_pos (by omega)] | rw [if_neg (by omega)]))
  all_goals (try (simp only [Prod.mk.injEq, and_true, true_and]; omega))
set_option maxHeartbeats 8000000 in
set_option maxRecDepth 100000 in
theorem impl_kind.walk3 (a0 : Int) (w : World) (h0 : a0 < 0) : Calls Tryd.prog 122 #[.int .i64 a0] w (impl_kind.Post a0 w) := by
  have C := fun W => impl_block.calls a0 0 0 W (by unfold impl_block.f; rw [if_neg (by omega)])
  go_enter Tryd.func122, Tryd.ntmps122
  go_wp2_with (first | (go_at_call 89; refine (C _).mono ?_; rintro e w1 ⟨rfl, ⟨nd, rfl⟩⟩) | (go_at_call 91; refine (impl_kind.inC _ _ _ _).mono ?_; rintro e w1 ⟨rfl, rfl⟩))
  all_goals
    go_ret2
    refine impl_kind.post ?_ (by repeat (first | exact Drawn0.refl _ | apply Drawn0.step))
    go_light
    try simp only [beq_iff_eq, beq_eq_false_iff_ne, ne_eq] at *
  all_goals (try (exfalso; omega))
  all_goals (unfold impl_kind.g; repeat (first | rw [if_pos (by omega)] | rw [if_neg (by omega)]))
  all_goals (try (simp only [Prod.mk.injEq, and_true, true_and]; omega))
theorem impl_kind.walk (a0 : Int) (w : World) : Calls Tryd.prog 122 #[.int .i64 a0] w (impl_kind.Post a0 w) := by
  by_cases hc : 512 ≤ a0 ∧ a0 < 1280
  · exact impl_kind.walk1 a0 w hc
  · by_cases h0 : 0 ≤ a0
    · exact impl_kind.walk2 a0 w hc h0
    · exact impl_kind.walk3 a0 w (by omega)
theorem impl_kind.calls (a0 : Int) (r1 : Int) (r2 : Int) (w : World) (h : impl_kind.f a0 = some (r1, r2)) :
    Calls Tryd.prog 122 #[.int .i64 a0] w fun e w' => e = .returned (.tuple #[.int .i64 r1, .int .i64 r2]) ∧ Drawn0 w w' := by
  have h := Option.some.inj h
  refine (impl_kind.walk a0 w).mono fun e w' hp => ?_
  unfold impl_kind.Post at hp
  rw [h] at hp
  exact hp

/-! ### impl_Category: function 119 -/
def impl_Category.f (a0 : Int) : Option (Int) := (impl_kind.f a0).bind fun bt246 => (some bt246.1)
set_option maxHeartbeats 8000000 in
set_option maxRecDepth 100000 in
theorem impl_Category.calls (a0 : Int) (r : Int) (w : World) (h : impl_Category.f a0 = some r) :
    Calls Tryd.prog 119 #[.int .i64 a0] w fun e w' => e = .returned (.int .i64 r) ∧ Drawn0 w w' := by
  have H : ((impl_kind.f a0).bind fun bt246 => (some bt246.1)) = some r := h
  clear h
  replace H := Option.bind_eq_some_iff.mp H
  obtain ⟨⟨t246, t247⟩, A20, H⟩ := H
  replace H : (some t246) = some r := H
  have A2 := Aside0.mk A20
  clear A20
  obtain rfl := Option.some.inj H
  go_enter Tryd.func119, Tryd.ntmps119
  go_wp2_with (first | ((with_reducible refine gate_callee (f := 122) rfl ?_); refine goesL_ (some 7) rfl rfl Tryd.func122 (by kernel_rfl) rfl #[.int .i64 a0] rfl (by (try simp only [List.map_toArray, List.map_cons, List.map_nil]); first | done | rfl | (simp only [List.length_drop, List.length_take]; rfl)) ?_; (with_reducible refine (impl_kind.calls a0 t246 t247 _ A2.out).mono ?_); rintro e w' ⟨rfl, ⟨nd, rfl⟩⟩; refine ⟨_, rfl, ?_⟩))
  go_ret
  exact ⟨by first | rfl | (simp; done) | (simp [*]; done), by repeat (first | exact Drawn0.refl _ | apply Drawn0.step)⟩

/-! ### impl_cases: function 112 (by hand) -/
def impl_cases.g (p : Int) : Int × Int × Int :=
  if 512 ≤ p ∧ p < 1280 then
    (if p % 256 < 64 then (p - p % 256 + p % 32, p - p % 256 + p % 32, p - p % 256 + 32 + p % 32)
     else if p % 256 < 76 then (p - p % 256 + 64 + p % 4, p - p % 256 + 68 + p % 4, p - p % 256 + 72 + p % 4)
     else if p % 256 = 97 then (p - p % 256 + 18, p - p % 256 + 18, p)
     else (p, p, p))
  else if 65 ≤ p ∧ p ≤ 90 then (p, p, p + 32)
  else if 97 ≤ p ∧ p ≤ 122 then (p - 32, p - 32, p)
  else if 9728 ≤ p ∧ p ≤ 9753 then (p, p, 97 + p - 9728)
  else if 8192 ≤ p ∧ p ≤ 9631 ∧ (impl_kind.g p).1 = 4 then (p, p, p + 208)
  else if 8192 ≤ p ∧ p ≤ 9631 ∧ (impl_kind.g p).1 = 5 then (p - 208, p - 208, p)
  else (p, p, p)
def impl_cases.f (a0 : Int) : Option (Int × Int × Int) := if 0 ≤ a0 ∧ a0 ≤ 1114111 then some (impl_cases.g a0) else none
def impl_cases.Post (p : Int) (w : World) (e : Ending) (w' : World) : Prop := e = .returned (.tuple #[.int .i64 (impl_cases.g p).1, .int .i64 (impl_cases.g p).2.1, .int .i64 (impl_cases.g p).2.2]) ∧ Drawn0 w w'
theorem impl_cases.post {p a b c : Int} {w w' : World} (h : impl_cases.g p = (a, b, c)) (hb : Drawn0 w w') : impl_cases.Post p w (.returned (.tuple #[.int .i64 a, .int .i64 b, .int .i64 c])) w' := by
  unfold impl_cases.Post; rw [h]; exact ⟨rfl, hb⟩
set_option maxHeartbeats 8000000 in
set_option maxRecDepth 100000 in
theorem impl_cases.walk1 (a0 : Int) (w : World) (hc : 512 ≤ a0 ∧ a0 < 1280) : Calls Tryd.prog 112 #[.int .i64 a0] w (impl_cases.Post a0 w) := by
  have C := fun W => impl_block.calls a0 (a0 - a0 % 256) (a0 % 256) W (by unfold impl_block.f; rw [if_pos hc])
  obtain ⟨hc1, hc2⟩ := hc
  go_enter Tryd.func112, Tryd.ntmps112
  go_wp2_with (first | (go_at_call 89; refine (C _).mono ?_; rintro e w1 ⟨rfl, ⟨nd, rfl⟩⟩) | (go_at_call 91; refine (impl_kind.inC _ _ _ _).mono ?_; rintro e w1 ⟨rfl, rfl⟩))
  all_goals
    go_ret3
    refine impl_cases.post ?_ (by repeat (first | exact Drawn0.refl _ | apply Drawn0.step))
    go_light
    try simp only [beq_iff_eq, beq_eq_false_iff_ne, ne_eq] at *
  all_goals (try (exfalso; omega))
  all_goals (unfold impl_cases.g; repeat (first | rw [if_pos (by omega)] | rw [if_neg (by omega)]))
  all_goals (try (simp only [Prod.mk.injEq, and_true, true_and]; omega))
set_option maxHeartbeats 8000000 in
set_option maxRecDepth 100000 in
theorem impl_cases.walk2 (a0 : Int) (w : World) (hc : ¬ (512 ≤ a0 ∧ a0 < 1280)) (h0 : 0 ≤ a0) (h1 : a0 ≤ 1114111) : Calls Tryd.prog 112 #[.int .i64 a0] w (impl_cases.Post a0 w) := by
  have C := fun W => impl_block.calls a0 0 0 W (by unfold impl_block.f; rw [if_neg hc])
  obtain ⟨c, hk⟩ : ∃ c, (impl_kind.g a0).1 = c := ⟨_, rfl⟩
  have CC := fun W => impl_Category.calls a0 c W (by rw [← hk]; rfl)
  have hc' : a0 < 512 ∨ 1280 ≤ a0 := by omega
  have hc1 := Aside0.mk hc'
  have hk1 := Aside0.mk hk
  clear hc hc' hk
  go_enter Tryd.func112, Tryd.ntmps112
  go_wp2_with (first | (go_at_call 89; refine (C _).mono ?_; rintro e w1 ⟨rfl, ⟨nd, rfl⟩⟩) | (go_at_call 91; refine (impl_kind.inC _ _ _ _).mono ?_; rintro e w1 ⟨rfl, rfl⟩) | (go_at_call 119; refine (CC _).mono ?_; rintro e w1 ⟨rfl, ⟨nd1, rfl⟩⟩))
  all_goals
    go_ret3
    refine impl_cases.post ?_ (by repeat (first | exact Drawn0.refl _ | apply Drawn0.step))
    have hc2 := hc1.out
    have hk2 := hk1.out
    go_light
    try simp only [beq_iff_eq, beq_eq_false_iff_ne, ne_eq] at *
  all_goals (try (exfalso; omega))
  all_goals (unfold impl_cases.g; try rw [hk2]; repeat (first | rw [if_pos (by omega)] | rw [if_neg (by omega)]))
  all_goals (try (simp only [Prod.mk.injEq, and_true, true_and]; omega))
theorem impl_cases.calls (a0 : Int) (r1 : Int) (r2 : Int) (r3 : Int) (w : World) (h : impl_cases.f a0 = some (r1, r2, r3)) :
    Calls Tryd.prog 112 #[.int .i64 a0] w fun e w' => e = .returned (.tuple #[.int .i64 r1, .int .i64 r2, .int .i64 r3]) ∧ Drawn0 w w' := by
  unfold impl_cases.f at h
  split at h
  · rename_i hp
    have h := Option.some.inj h
    have hw : Calls Tryd.prog 112 #[.int .i64 a0] w (impl_cases.Post a0 w) := by
      by_cases hc : 512 ≤ a0 ∧ a0 < 1280
      · exact impl_cases.walk1 a0 w hc
      · exact impl_cases.walk2 a0 w hc hp.1 hp.2
    refine hw.mono fun e w' hp => ?_
    unfold impl_cases.Post at hp
    rw [h] at hp
    exact hp
  · cases h

/-! ### impl_SimpleLower: function 95 -/
def impl_SimpleLower.f (a0 : Int) : Option (Int) := (impl_isPoint.f a0).bind fun t248 => (if t248 = true then ((impl_cases.f a0).bind fun bt249 => (some bt249.2.2)) else (some 0))
set_option maxHeartbeats 8000000 in
set_option maxRecDepth 100000 in
theorem impl_SimpleLower.calls (a0 : Int) (r : Int) (w : World) (h : impl_SimpleLower.f a0 = some r) :
    Calls Tryd.prog 95 #[.int .i64 a0] w fun e w' => e = .returned (.int .i64 r) ∧ Drawn0 w w' := by
  have H : ((impl_isPoint.f a0).bind fun t248 => (if t248 = true then ((impl_cases.f a0).bind fun bt249 => (some bt249.2.2)) else (some 0))) = some r := h
  clear h
  replace H := Option.bind_eq_some_iff.mp H
  obtain ⟨t248, A20, H⟩ := H
  replace H : (if t248 = true then ((impl_cases.f a0).bind fun bt249 => (some bt249.2.2)) else (some 0)) = some r := H
  have A2 := Aside0.mk A20
  clear A20
  by_cases c3 : t248 = true
  · subst c3
    have H1 : ((impl_cases.f a0).bind fun bt249 => (some bt249.2.2)) = some r := by rw [if_pos rfl] at H; exact H
    clear H
    have H := H1
    clear H1
    replace H := Option.bind_eq_some_iff.mp H
    obtain ⟨⟨t249, t250, t251⟩, A40, H⟩ := H
    replace H : (some t251) = some r := H
    have A4 := Aside0.mk A40
    clear A40
    obtain rfl := Option.some.inj H
    go_enter Tryd.func95, Tryd.ntmps95
    go_wp2_with (first | ((with_reducible refine gate_callee (f := 81) rfl ?_); refine goesL_ (some 7) rfl rfl Tryd.func81 (by kernel_rfl) rfl #[.int .i64 a0] rfl (by (try simp only [List.map_toArray, List.map_cons, List.map_nil]); first | done | rfl | (simp only [List.length_drop, List.length_take]; rfl)) ?_; (with_reducible refine (impl_isPoint.calls a0 true _ A2.out).mono ?_); rintro e w' ⟨rfl, ⟨nd, rfl⟩⟩; refine ⟨_, rfl, ?_⟩) | ((with_reducible refine gate_callee (f := 112) rfl ?_); refine goesL_ (some 11) rfl rfl Tryd.func112 (by kernel_rfl) rfl #[.int .i64 a0] rfl (by (try simp only [List.map_toArray, List.map_cons, List.map_nil]); first | done | rfl | (simp only [List.length_drop, List.length_take]; rfl)) ?_; (with_reducible refine (impl_cases.calls a0 t249 t250 t251 _ A4.out).mono ?_); rintro e w' ⟨rfl, ⟨nd, rfl⟩⟩; refine ⟨_, rfl, ?_⟩))
    go_ret
    exact ⟨by first | rfl | (simp; done) | (simp [*]; done), by repeat (first | exact Drawn0.refl _ | apply Drawn0.step)⟩
  · replace c3 := Bool.eq_false_iff.mpr c3
    subst c3
    have H1 : (some 0) = some r := by rw [if_neg (show ¬ (false = true) by decide)] at H; exact H
    clear H
    have H := H1
    clear H1
    obtain rfl := Option.some.inj H
    go_enter Tryd.func95, Tryd.ntmps95
    go_wp2_with (first | ((with_reducible refine gate_callee (f := 81) rfl ?_); refine goesL_ (some 7) rfl rfl Tryd.func81 (by kernel_rfl) rfl #[.int .i64 a0] rfl (by (try simp only [List.map_toArray, List.map_cons, List.map_nil]); first | done | rfl | (simp only [List.length_drop, List.length_take]; rfl)) ?_; (with_reducible refine (impl_isPoint.calls a0 false _ A2.out).mono ?_); rintro e w' ⟨rfl, ⟨nd, rfl⟩⟩; refine ⟨_, rfl, ?_⟩))
    go_ret
    exact ⟨by first | rfl | (simp; done) | (simp [*]; done), by repeat (first | exact Drawn0.refl _ | apply Drawn0.step)⟩

/-! ### impl_isMark: function 97 -/
def impl_isMark.f (a0 : Int) : Option (Bool) := (impl_Category.f a0).bind fun t252 => (some (t252 == 3))
set_option maxHeartbeats 8000000 in
set_option maxRecDepth 100000 in
theorem impl_isMark.calls (a0 : Int) (r : Bool) (w : World) (h : impl_isMark.f a0 = some r) :
    Calls Tryd.prog 97 #[.int .i64 a0] w fun e w' => e = .returned (.bool r) ∧ Drawn0 w w' := by
  have H : ((impl_Category.f a0).bind fun t252 => (some (t252 == 3))) = some r := h
  clear h
  replace H := Option.bind_eq_some_iff.mp H
  obtain ⟨t252, A20, H⟩ := H
  replace H : (some (t252 == 3)) = some r := H
  have A2 := Aside0.mk A20
  clear A20
  obtain rfl := Option.some.inj H
  go_enter Tryd.func97, Tryd.ntmps97
  go_wp2_with (first | ((with_reducible refine gate_callee (f := 119) rfl ?_); refine goesL_ (some 4) rfl rfl Tryd.func119 (by kernel_rfl) rfl #[.int .i64 a0] rfl (by (try simp only [List.map_toArray, List.map_cons, List.map_nil]); first | done | rfl | (simp only [List.length_drop, List.length_take]; rfl)) ?_; (with_reducible refine (impl_Category.calls a0 t252 _ A2.out).mono ?_); rintro e w' ⟨rfl, ⟨nd, rfl⟩⟩; refine ⟨_, rfl, ?_⟩))
  go_ret
  exact ⟨by first | rfl | (simp; done) | (simp [*]; done), by repeat (first | exact Drawn0.refl _ | apply Drawn0.step)⟩

/-! ### impl_isCased: function 98 -/
def impl_isCased.f (a0 : Int) : Option (Bool) := (impl_Category.f a0).bind fun t253 => ((impl_in.f t253 4 6).bind fun t254 => (some t254))
set_option maxHeartbeats 8000000 in
set_option maxRecDepth 100000 in
theorem impl_isCased.calls (a0 : Int) (r : Bool) (w : World) (h : impl_isCased.f a0 = some r) :
    Calls Tryd.prog 98 #[.int .i64 a0] w fun e w' => e = .returned (.bool r) ∧ Drawn0 w w' := by
  have H : ((impl_Category.f a0).bind fun t253 => ((impl_in.f t253 4 6).bind fun t254 => (some t254))) = some r := h
  clear h
  replace H := Option.bind_eq_some_iff.mp H
  obtain ⟨t253, A20, H⟩ := H
  replace H : ((impl_in.f t253 4 6).bind fun t254 => (some t254)) = some r := H
  have A2 := Aside0.mk A20
  clear A20
  replace H := Option.bind_eq_some_iff.mp H
  obtain ⟨t254, A30, H⟩ := H
  replace H : (some t254) = some r := H
  have A3 := Aside0.mk A30
  clear A30
  obtain rfl := Option.some.inj H
  go_enter Tryd.func98, Tryd.ntmps98
  go_wp2_with (first | ((with_reducible refine gate_callee (f := 119) rfl ?_); refine goesL_ (some 4) rfl rfl Tryd.func119 (by kernel_rfl) rfl #[.int .i64 a0] rfl (by (try simp only [List.map_toArray, List.map_cons, List.map_nil]); first | done | rfl | (simp only [List.length_drop, List.length_take]; rfl)) ?_; (with_reducible refine (impl_Category.calls a0 t253 _ A2.out).mono ?_); rintro e w' ⟨rfl, ⟨nd, rfl⟩⟩; refine ⟨_, rfl, ?_⟩) | ((with_reducible refine gate_callee (f := 91) rfl ?_); refine goesL_ (some 5) rfl rfl Tryd.func91 (by kernel_rfl) rfl #[.int .i64 t253, .int .i64 4, .int .i64 6] rfl (by (try simp only [List.map_toArray, List.map_cons, List.map_nil]); first | done | rfl | (simp only [List.length_drop, List.length_take]; rfl)) ?_; (with_reducible refine (impl_in.calls t253 4 6 t254 _ A3.out).mono ?_); rintro e w' ⟨rfl, ⟨nd, rfl⟩⟩; refine ⟨_, rfl, ?_⟩))
  go_ret
  exact ⟨by first | rfl | (simp; done) | (simp [*]; done), by repeat (first | exact Drawn0.refl _ | apply Drawn0.step)⟩

end Go.Proofs.YtphjfenhnhfakaaDoor.QFnExactLower
