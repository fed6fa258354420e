/- The law FnExactDecode: at every input the call answers true (this text: contracts on its way, by a program of this session's; no condition of ours). -/
import Derived.Test.YtnonijganceneaaDoorQFnExactDecodex0
import Derived.Test.YtnonijganceneaaDoorQFnExactDecodex9
namespace Go.Proofs.YtnonijganceneaaDoor.QFnExactDecode
open Go.RowKit Go.Proofs.YtnonijganceneaaDoorW.PrintWords Go.Proofs.YtnonijganceneaaDoorW.PrintLast Go.Proofs.YtnonijganceneaaDoorW.PrintMore
attribute [local go_sem] max2_int min2_int max_two min_two max_three min_three max_four min_four   -- for this text's walks alone
set_option linter.unusedVariables false
set_option linter.unusedSimpArgs false

/-! ### impl_write: function 105 -/
def impl_write.l0 : Nat → List Int → List Int → Int → Int → Option (ByteArray)
  | 0, _, _, _, _ => none
  | k + 1, x3, x6, x7, x8 => if x8 < x7 then (if 0 ≤ x8 then (if x8 < (x6.length : Int) then ((impl_isPoint.f (rd x6 x8)).bind fun t217 => (if t217 = true then ((W_utf8_AppendRune.f x3 (wrap32 (rd x6 x8))).bind fun t218 => (impl_write.l0 k t218 x6 x7 (wrap64 (x8 + 1)))) else ((W_utf8_AppendRune.f x3 65533).bind fun t221 => (impl_write.l0 k t221 x6 x7 (wrap64 (x8 + 1)))))) else (none)) else (none)) else (some (strOfNums x3))
def impl_write.f (k : Nat) (l0 : List Int) : Option (ByteArray) := impl_write.l0 k ([] : List Int) l0 (l0.length : Int) 0
theorem impl_write.mono_l : ∀ k, (∀ y0 y1 y2 y3, LeO (impl_write.l0 k y0 y1 y2 y3) (impl_write.l0 (k + 1) y0 y1 y2 y3))
  | 0 => fun _ _ _ _ r h => by simp [impl_write.l0] at h
  | k + 1 => by
    have ih0 := impl_write.mono_l k
    · intro y0 y1 y2 y3
      unfold impl_write.l0
      repeat' first
      | (with_reducible exact ih0 _ _ _ _)
      | (with_reducible exact LeO.refl _)
      | (with_reducible exact LeO.none _)
      | (with_reducible refine LeO.ite ?_ ?_)
      | (with_reducible refine LeO.bind ?_ (fun _ => ?_))
      | exact ih0 _ _ _ _
      | exact LeO.none _
      | refine LeO.ite ?_ ?_
      | refine LeO.bind ?_ (fun _ => ?_)
theorem impl_write.mono : ∀ a0 k, LeO (impl_write.f k a0) (impl_write.f (k + 1) a0) := by
  intro a0 k
  have ih0 := impl_write.mono_l k
  unfold impl_write.f
  repeat' first
      | (with_reducible exact ih0 _ _ _ _)
      | (with_reducible exact LeO.refl _)
      | (with_reducible exact LeO.none _)
      | (with_reducible refine LeO.ite ?_ ?_)
      | (with_reducible refine LeO.bind ?_ (fun _ => ?_))
      | exact ih0 _ _ _ _
      | exact LeO.none _
      | refine LeO.ite ?_ ?_
      | refine LeO.bind ?_ (fun _ => ?_)
set_option maxHeartbeats 8000000 in
set_option maxRecDepth 100000 in
theorem impl_write.calls (k : Nat) (A0 : Option Addr) (c0 : Nat) (l0 : List Int) (r : ByteArray) (w : World) (hr0 : Kd.C (Kd.int .i64) w A0 l0.length l0) (hc0 : l0.length ≤ c0) (h : impl_write.f k l0 = some r) :
    Calls Tryd.prog 105 #[.slice A0 l0.length c0] w fun e w' => e = .returned (.string r) ∧ Below w.heap.size w w' := by
  have HR0 := Aside0.mk hr0
  have HC0 := Aside0.mk hc0
  clear hr0 hc0
  have HB := Aside0.mk (Below.refl w.heap.size w)
  have H : (impl_write.l0 k ([] : List Int) l0 (l0.length : Int) 0) = some r := h
  clear h
  have H' := Aside0.mk H
  clear H
  go_enter Tryd.func105, Tryd.ntmps105
  go_wp2
  go_loopg [3, 8] k (fun kq v3 v8 w' => ∃ (x3_1 : List Int) (x8_1 : Int), v8 = .int .i64 x8_1 ∧ Aside0 (impl_write.l0 kq x3_1 l0 (l0.length : Int) x8_1 = some r) ∧ Aside0 (kq ≤ k) ∧ Aside0 (Kd.R (Kd.int .u8) 5 w' w.heap.size (fun _ => True) v3 x3_1) ∧ Aside0 (Below w.heap.size w w'))
  case atStart => exact ⟨(([] : List Int)), (0), (by first | rfl | (simp; done) | (simp [*]; done)), H', ⟨Nat.le_refl _⟩, ⟨by first | exact Kd.R_nil _ _ _ _ _ | exact Kd.N_nil _ _ _ _ _ | exact Kd.V_nil _ _ _ _ _ | exact Kd.Q_nil _ _ _ _ _ | exact Kd.S_nil _ _ _ _ _⟩, ⟨by repeat (first | (with_reducible first | exact HB.out | apply below_alloc | apply pw_below_drewN | apply below_drew1) | exact HB.out)⟩⟩
  case round =>
    clear H'
    try clear c1
    obtain ⟨x3_1, x8_1, rfl, HA, HK1, HO_3, HB⟩ := hrel
    cases gk with
    | zero => exact absurd HA.out (by simp [impl_write.l0])
    | succ k1 =>
      have H := HA.out
      clear HA
      simp only [impl_write.l0] at H
      by_cases c2 : x8_1 < (l0.length : Int)
      · rw [if_pos c2] at H
        have c2b0 : decide (x8_1 < (l0.length : Int)) = true := decide_eq_true c2
        clear c2
        by_cases c3 : 0 ≤ x8_1
        · rw [if_pos c3] at H
          have c3b0 : decide (0 ≤ x8_1) = true := decide_eq_true c3
          clear c3
          by_cases c4 : x8_1 < (l0.length : Int)
          · rw [if_pos c4] at H
            have c4b0 : decide (x8_1 < (l0.length : Int)) = true := decide_eq_true c4
            clear c4
            replace H := Option.bind_eq_some_iff.mp H
            obtain ⟨t217, A50, H⟩ := H
            replace H : (if t217 = true then ((W_utf8_AppendRune.f x3_1 (wrap32 (rd l0 x8_1))).bind fun t218 => (impl_write.l0 k1 t218 l0 (l0.length : Int) (wrap64 (x8_1 + 1)))) else ((W_utf8_AppendRune.f x3_1 65533).bind fun t221 => (impl_write.l0 k1 t221 l0 (l0.length : Int) (wrap64 (x8_1 + 1))))) = some r := H
            have A5 := Aside0.mk A50
            clear A50
            by_cases c6 : t217 = true
            · subst c6
              have H1 : ((W_utf8_AppendRune.f x3_1 (wrap32 (rd l0 x8_1))).bind fun t218 => (impl_write.l0 k1 t218 l0 (l0.length : Int) (wrap64 (x8_1 + 1)))) = some r := by rw [if_pos rfl] at H; exact H
              clear H
              have H := H1
              clear H1
              replace H := Option.bind_eq_some_iff.mp H
              obtain ⟨t218, A70, H⟩ := H
              replace H : (impl_write.l0 k1 t218 l0 (l0.length : Int) (wrap64 (x8_1 + 1))) = some r := H
              have A7 := Aside0.mk A70
              clear A70
              have H' := Aside0.mk H
              clear H
              have p216 : 0 ≤ (x8_1 : Int) := of_decide_eq_true (by first | (with_reducible assumption) | assumption)
              have q216 : x8_1 < (l0.length : Int) := of_decide_eq_true (by first | (with_reducible assumption) | assumption)
              obtain ⟨ad216, e216, hx216_0⟩ := Kd.at_int HR0.out x8_1 p216 q216
              cases e216
              replace hx216_0 := (HB.out.cell (World.block_lt_of_cell? w _ hx216_0)).trans hx216_0
              replace p216 := eq_true p216
              replace q216 := eq_true q216
              go_wp2_with (first | ((with_reducible refine gate_callee (f := 87) rfl ?_); refine goesL_ (some 13) rfl rfl Tryd.func87 (by kernel_rfl) rfl #[.int .i64 (rd l0 x8_1)] rfl (by (try simp only [List.map_toArray, List.map_cons, List.map_nil]); first | done | rfl | (simp only [List.length_drop, List.length_take]; rfl)) ?_; (with_reducible refine (impl_isPoint.calls (rd l0 x8_1) true _ A5.out).mono ?_); rintro e w' ⟨rfl, ⟨nd, rfl⟩⟩; refine ⟨_, rfl, ?_⟩; obtain ⟨Ao8, co8, eo8⟩ := Kd.R_slice HO_3.out; subst eo8) | ((with_reducible refine gate_callee (f := 167) rfl ?_); refine goesL_ (some 18) rfl rfl Tryd.func167 (by kernel_rfl) rfl #[.slice Ao8 x3_1.length co8, .int .i32 (wrap32 (rd l0 x8_1))] rfl (by (try simp only [List.map_toArray, List.map_cons, List.map_nil]); first | done | rfl | (simp only [List.length_drop, List.length_take]; rfl)) ?_; (with_reducible refine (W_utf8_AppendRune.calls (fun k_ => some k_ = (.slice Ao8 x3_1.length co8 : Value).ownBlock) (.slice Ao8 x3_1.length co8) x3_1 (wrap32 (rd l0 x8_1)) t218 w _ ?side1 ?side2 A7.out).mono ?_); (case side1 => repeat (first | (with_reducible first | exact HB.out | apply below_alloc | apply pw_below_drewN | apply below_drew1) | exact HB.out)); (case side2 => exact Kd.R_tight rfl HO_3.out); rintro e w9 ⟨v219, rfl, ho0, hb, hkp⟩; refine ⟨_, rfl, ?_⟩; have n0_ := Aside0.mk (Kd.R_mono (ok' := fun k_ => True) ho0 (fun k_ hk_ => trivial)); have n1_ := Aside0.mk (hb); clear HB; clear HO_3; have HO220 := n0_; have HB := n1_; clear n0_ n1_; (try clear hb); (try clear hkp); (try clear ho0)))
              go_roundg k1
              case measure => have := HK1.out; omega
              case rel => exact ⟨(t218), (wrap64 (x8_1 + 1)), (by first | rfl | (simp; done) | (simp [*]; done)), H', ⟨by have := HK1.out; omega⟩, ⟨by (with_reducible repeat (first | apply Kd.R_alloc | apply Kd.R_drewN | apply Kd.R_drew)); exact HO220.out⟩, ⟨by repeat (first | (with_reducible first | exact HB.out | apply below_alloc | apply pw_below_drewN | apply below_drew1) | exact HB.out)⟩⟩
            · replace c6 := Bool.eq_false_iff.mpr c6
              subst c6
              have H1 : ((W_utf8_AppendRune.f x3_1 65533).bind fun t221 => (impl_write.l0 k1 t221 l0 (l0.length : Int) (wrap64 (x8_1 + 1)))) = some r := by rw [if_neg (show ¬ (false = true) by decide)] at H; exact H
              clear H
              have H := H1
              clear H1
              replace H := Option.bind_eq_some_iff.mp H
              obtain ⟨t221, A100, H⟩ := H
              replace H : (impl_write.l0 k1 t221 l0 (l0.length : Int) (wrap64 (x8_1 + 1))) = some r := H
              have A10 := Aside0.mk A100
              clear A100
              have H' := Aside0.mk H
              clear H
              have p216 : 0 ≤ (x8_1 : Int) := of_decide_eq_true (by first | (with_reducible assumption) | assumption)
              have q216 : x8_1 < (l0.length : Int) := of_decide_eq_true (by first | (with_reducible assumption) | assumption)
              obtain ⟨ad216, e216, hx216_0⟩ := Kd.at_int HR0.out x8_1 p216 q216
              cases e216
              replace hx216_0 := (HB.out.cell (World.block_lt_of_cell? w _ hx216_0)).trans hx216_0
              replace p216 := eq_true p216
              replace q216 := eq_true q216
              go_wp2_with (first | ((with_reducible refine gate_callee (f := 87) rfl ?_); refine goesL_ (some 13) rfl rfl Tryd.func87 (by kernel_rfl) rfl #[.int .i64 (rd l0 x8_1)] rfl (by (try simp only [List.map_toArray, List.map_cons, List.map_nil]); first | done | rfl | (simp only [List.length_drop, List.length_take]; rfl)) ?_; (with_reducible refine (impl_isPoint.calls (rd l0 x8_1) false _ A5.out).mono ?_); rintro e w' ⟨rfl, ⟨nd, rfl⟩⟩; refine ⟨_, rfl, ?_⟩; obtain ⟨Ao11, co11, eo11⟩ := Kd.R_slice HO_3.out; subst eo11) | ((with_reducible refine gate_callee (f := 167) rfl ?_); refine goesL_ (some 18) rfl rfl Tryd.func167 (by kernel_rfl) rfl #[.slice Ao11 x3_1.length co11, .int .i32 65533] rfl (by (try simp only [List.map_toArray, List.map_cons, List.map_nil]); first | done | rfl | (simp only [List.length_drop, List.length_take]; rfl)) ?_; (with_reducible refine (W_utf8_AppendRune.calls (fun k_ => some k_ = (.slice Ao11 x3_1.length co11 : Value).ownBlock) (.slice Ao11 x3_1.length co11) x3_1 65533 t221 w _ ?side1 ?side2 A10.out).mono ?_); (case side1 => repeat (first | (with_reducible first | exact HB.out | apply below_alloc | apply pw_below_drewN | apply below_drew1) | exact HB.out)); (case side2 => exact Kd.R_tight rfl HO_3.out); rintro e w12 ⟨v222, rfl, ho0, hb, hkp⟩; refine ⟨_, rfl, ?_⟩; have n0_ := Aside0.mk (Kd.R_mono (ok' := fun k_ => True) ho0 (fun k_ hk_ => trivial)); have n1_ := Aside0.mk (hb); clear HB; clear HO_3; have HO223 := n0_; have HB := n1_; clear n0_ n1_; (try clear hb); (try clear hkp); (try clear ho0)))
              go_roundg k1
              case measure => have := HK1.out; omega
              case rel => exact ⟨(t221), (wrap64 (x8_1 + 1)), (by first | rfl | (simp; done) | (simp [*]; done)), H', ⟨by have := HK1.out; omega⟩, ⟨by (with_reducible repeat (first | apply Kd.R_alloc | apply Kd.R_drewN | apply Kd.R_drew)); exact HO223.out⟩, ⟨by repeat (first | (with_reducible first | exact HB.out | apply below_alloc | apply pw_below_drewN | apply below_drew1) | exact HB.out)⟩⟩
          · rw [if_neg c4] at H
            exact absurd H (by simp)
        · rw [if_neg c3] at H
          exact absurd H (by simp)
      · rw [if_neg c2] at H
        have c2b0 : decide (x8_1 < (l0.length : Int)) = false := decide_eq_false c2
        clear c2
        obtain rfl := Option.some.inj H
        have hcv13 := own_string (P := Tryd.prog) Tryd.underlying22 Tryd.underlying5 Tryd.underlying9 (Kd.own_of_R HO_3.out)
        go_wp2
        go_ret
        exact ⟨by first | rfl | (simp [errW_none, errW_some] <;> rfl) | (simp [*, errW_none, errW_some] <;> rfl), by repeat (first | (with_reducible first | exact HB.out | apply below_alloc | apply pw_below_drewN | apply below_drew1) | exact HB.out)⟩

def W_impl_write.f (l0 : List Int) : Option (ByteArray) := if l0.length ≤ 1099511627776 then some (strOfNums (YtnonijganceneaaDoorPts.encs l0)) else none
theorem impl_write.run (l : List Int) (hl : l.length ≤ 1099511627776) (d : Nat) : ∀ (k i : Nat), i ≤ l.length → l.length - i = d → d < k →
    impl_write.l0 k (YtnonijganceneaaDoorPts.encs (l.take i)) l (l.length : Int) (i : Int) = some (strOfNums (YtnonijganceneaaDoorPts.encs l)) := by
  induction d with
  | zero =>
    intro k i h1 h2 h3
    obtain ⟨k, rfl⟩ : ∃ m, k = m + 1 := ⟨k - 1, by omega⟩
    simp only [impl_write.l0]
    rw [if_neg (by omega), List.take_of_length_le (by omega)]
  | succ d ih =>
    intro k i h1 h2 h3
    obtain ⟨k, rfl⟩ : ∃ m, k = m + 1 := ⟨k - 1, by omega⟩
    have hlt : i < l.length := by omega
    simp only [impl_write.l0]
    rw [if_pos (by omega), if_pos (by omega), if_pos (by omega)]
    have hw : wrap64 ((i : Int) + 1) = ((i + 1 : Nat) : Int) := by unfold wrap64; omega
    have hr : rd l (i : Int) = l[i] := by simp [rd, List.getD, hlt]
    have ht : YtnonijganceneaaDoorPts.encs (l.take (i + 1)) = YtnonijganceneaaDoorPts.encs (l.take i) ++ YtnonijganceneaaDoorPts.enc l[i] := by
      rw [List.take_succ_eq_append_getElem hlt, YtnonijganceneaaDoorPts.encs_append]
      simp [YtnonijganceneaaDoorPts.encs]
    have hlen := YtnonijganceneaaDoorPts.encs_length (l.take i)
    rw [List.length_take] at hlen
    rw [hr]
    obtain ⟨p, hp⟩ : ∃ p, l[i] = p := ⟨_, rfl⟩
    rw [hp] at ht ⊢
    have hq : impl_isPoint.f p = some (decide (YtnonijganceneaaDoorPts.isP p)) := by
      unfold impl_isPoint.f YtnonijganceneaaDoorPts.isP
      by_cases a : 0 ≤ p
      · by_cases b : p ≤ 1114111
        · by_cases c : p < 55296
          · rw [if_pos a, if_pos b, if_pos c]; simp [a, b, c]
          · rw [if_pos a, if_pos b, if_neg c]; simp [a, b, c]
        · rw [if_pos a, if_neg b]; simp [b]
      · rw [if_neg a]; simp [a]
    rw [hq]
    simp only [Option.bind_some]
    have hih := ih k (i + 1) (by omega) (by omega) (by omega)
    rw [ht] at hih
    unfold W_utf8_AppendRune.f
    by_cases h : YtnonijganceneaaDoorPts.isP p
    · have hv : wrap32 p = p := by unfold YtnonijganceneaaDoorPts.isP at h; unfold wrap32; omega
      rw [if_pos (decide_eq_true h), hv, if_pos ⟨h, by omega⟩]
      simp only [Option.bind_some]
      rw [hw]
      unfold YtnonijganceneaaDoorPts.enc at hih
      rw [YtnonijganceneaaDoorPts.fix_of h] at hih
      exact hih
    · rw [if_neg (by simpa using h), if_pos ⟨by unfold YtnonijganceneaaDoorPts.isP; omega, by omega⟩]
      simp only [Option.bind_some]
      rw [hw]
      unfold YtnonijganceneaaDoorPts.enc YtnonijganceneaaDoorPts.fix at hih
      rw [if_neg h] at hih
      exact hih
theorem W_impl_write.to {l0 : List Int} {r : ByteArray} (h : W_impl_write.f l0 = some r) : ∃ k, impl_write.f k l0 = some r := by
  unfold W_impl_write.f at h
  split at h
  · rename_i hl
    refine ⟨l0.length + 1, ?_⟩
    rw [← h]
    exact impl_write.run l0 hl l0.length (l0.length + 1) 0 (by omega) (by omega) (by omega)
  · cases h
theorem W_impl_write.calls (A0 : Option Addr) (c0 : Nat) (l0 : List Int) (r : ByteArray) (w : World) (hr0 : Kd.C (Kd.int .i64) w A0 l0.length l0) (hc0 : l0.length ≤ c0) (h : W_impl_write.f l0 = some r) :
    Calls Tryd.prog 105 #[.slice A0 l0.length c0] w fun e w' => e = .returned (.string r) ∧ Below w.heap.size w w' := by
  obtain ⟨k, hk⟩ := W_impl_write.to h
  exact impl_write.calls k A0 c0 l0 r w hr0 hc0 hk

/-- The tables of unicode/utf8 lie in this world as start-up lays them. -/
def GT (w : World) : Prop := Lib.Utf8Tabs 4 5 w
theorem GT.below {w w' : World} (h : GT w) (hb : Below w.heap.size w w') : GT w' := by
  obtain ⟨h1, h2⟩ := h
  refine ⟨fun c hc => ?_, fun i hi => ⟨?_, ?_⟩⟩
  · exact (hb.cell (World.block_lt_of_cell? w _ (h1 c hc))).trans (h1 c hc)
  · exact (hb.cell (World.block_lt_of_cell? w _ (h2 i hi).1)).trans (h2 i hi).1
  · exact (hb.cell (World.block_lt_of_cell? w _ (h2 i hi).2)).trans (h2 i hi).2

/-! ### utf8_DecodeRuneInString: function 209 (by hand) -/
def utf8_DecodeRuneInString.f (a0 : ByteArray) : Option (Int × Int) := some (((Lib.decodeGo a0).1 : Int), ((Lib.decodeGo a0).2 : Int))
theorem utf8_DecodeRuneInString.calls (a0 : ByteArray) (r1 : Int) (r2 : Int) (w : World) (h : utf8_DecodeRuneInString.f a0 = some (r1, r2)) (hG : GT w) :
    Calls Tryd.prog 209 #[.string a0] w fun e w' => e = .returned (.tuple #[.int .i32 r1, .int .i64 r2]) ∧ Below w.heap.size w w' := by
  have h := Option.some.inj h
  obtain ⟨rfl, rfl⟩ := Prod.mk.inj h
  exact Tryd.utf8_DecodeRuneInString a0 w hG

/-! ### impl_read: function 164 -/
def impl_read.l0 : Nat → ByteArray → List (S159) → Int → Option ((List (S159)))
  | 0, _, _, _ => none
  | k + 1, x0, x3, x4 => if x4 < (x0.size : Int) then (if 0 ≤ x4 then (if x4 ≤ (x0.size : Int) then ((utf8_DecodeRuneInString.f (x0.extract (x4 : Int).toNat x0.size)).bind fun bt224 => (if bt224.1 = 65533 then (if x3.length < 4398046511104 then (impl_read.l0 k x0 (x3 ++ [(⟨wrap64 (bt224.1), x4, wrap64 (x4 + bt224.2), (bt224.2 == 1)⟩ : S159)]) (wrap64 (x4 + bt224.2))) else (none)) else (if x3.length < 4398046511104 then (impl_read.l0 k x0 (x3 ++ [(⟨wrap64 (bt224.1), x4, wrap64 (x4 + bt224.2), false⟩ : S159)]) (wrap64 (x4 + bt224.2))) else (none)))) else (none)) else (none)) else (some x3)
def impl_read.f (k : Nat) (a0 : ByteArray) : Option ((List (S159))) := impl_read.l0 k a0 ([] : List (S159)) 0
theorem impl_read.mono_l : ∀ k, (∀ y0 y1 y2, LeO (impl_read.l0 k y0 y1 y2) (impl_read.l0 (k + 1) y0 y1 y2))
  | 0 => fun _ _ _ r h => by simp [impl_read.l0] at h
  | k + 1 => by
    have ih0 := impl_read.mono_l k
    · intro y0 y1 y2
      unfold impl_read.l0
      repeat' first
      | (with_reducible exact ih0 _ _ _)
      | (with_reducible exact LeO.refl _)
      | (with_reducible exact LeO.none _)
      | (with_reducible refine LeO.ite ?_ ?_)
      | (with_reducible refine LeO.bind ?_ (fun _ => ?_))
      | exact ih0 _ _ _
      | exact LeO.none _
      | refine LeO.ite ?_ ?_
      | refine LeO.bind ?_ (fun _ => ?_)
theorem impl_read.mono : ∀ a0 k, LeO (impl_read.f k a0) (impl_read.f (k + 1) a0) := by
  intro a0 k
  have ih0 := impl_read.mono_l k
  unfold impl_read.f
  repeat' first
      | (with_reducible exact ih0 _ _ _)
      | (with_reducible exact LeO.refl _)
      | (with_reducible exact LeO.none _)
      | (with_reducible refine LeO.ite ?_ ?_)
      | (with_reducible refine LeO.bind ?_ (fun _ => ?_))
      | exact ih0 _ _ _
      | exact LeO.none _
      | refine LeO.ite ?_ ?_
      | refine LeO.bind ?_ (fun _ => ?_)
set_option maxHeartbeats 8000000 in
set_option maxRecDepth 100000 in
theorem impl_read.calls (k : Nat) (a0 : ByteArray) (r : List (S159)) (w : World) (h : impl_read.f k a0 = some r) (hG : GT w) :
    Calls Tryd.prog 164 #[.string a0] w fun e w' => ∃ v0_ : Value, e = .returned (v0_) ∧ Kd.R k159 159 w' w.heap.size (fun _ => True) v0_ r ∧ Below w.heap.size w w' := by
  have HG := Aside0.mk hG
  clear hG
  have hu159 := Tryd.underlying159
  have HB := Aside0.mk (Below.refl w.heap.size w)
  have H : (impl_read.l0 k a0 ([] : List (S159)) 0) = some r := h
  clear h
  have H' := Aside0.mk H
  clear H
  go_enter Tryd.func164, Tryd.ntmps164
  go_wp2
  go_loopg [3, 4] k (fun kq v3 v4 w' => ∃ (x3_1 : List (S159)) (x4_1 : Int), v4 = .int .i64 x4_1 ∧ Aside0 (impl_read.l0 kq a0 x3_1 x4_1 = some r) ∧ Aside0 (kq ≤ k) ∧ Aside0 (Kd.R k159 159 w' w.heap.size (fun _ => True) v3 x3_1) ∧ Aside0 (Below w.heap.size w w'))
  case atStart => exact ⟨(([] : List (S159))), (0), (by first | rfl | (simp; done) | (simp [*]; done)), H', ⟨Nat.le_refl _⟩, ⟨by first | exact Kd.R_nil _ _ _ _ _ | exact Kd.N_nil _ _ _ _ _ | exact Kd.V_nil _ _ _ _ _ | exact Kd.Q_nil _ _ _ _ _ | exact Kd.S_nil _ _ _ _ _⟩, ⟨by repeat (first | (with_reducible first | exact HB.out | apply below_alloc | apply pw_below_drewN | apply below_drew1) | exact HB.out)⟩⟩
  case round =>
    clear H'
    try clear c1
    obtain ⟨x3_1, x4_1, rfl, HA, HK1, HO_3, HB⟩ := hrel
    cases gk with
    | zero => exact absurd HA.out (by simp [impl_read.l0])
    | succ k1 =>
      have H := HA.out
      clear HA
      simp only [impl_read.l0] at H
      by_cases c2 : x4_1 < (a0.size : Int)
      · rw [if_pos c2] at H
        have c2b0 : decide (x4_1 < (a0.size : Int)) = true := decide_eq_true c2
        clear c2
        by_cases c3 : 0 ≤ x4_1
        · rw [if_pos c3] at H
          have c3b0 := eq_true c3
          have c3b1 : decide (0 ≤ x4_1) = true := decide_eq_true c3
          clear c3
          by_cases c4 : x4_1 ≤ (a0.size : Int)
          · rw [if_pos c4] at H
            have c4b0 := eq_true c4
            have c4b1 : decide (x4_1 ≤ (a0.size : Int)) = true := decide_eq_true c4
            clear c4
            replace H := Option.bind_eq_some_iff.mp H
            obtain ⟨⟨t224, t225⟩, A50, H⟩ := H
            replace H : (if t224 = 65533 then (if x3_1.length < 4398046511104 then (impl_read.l0 k1 a0 (x3_1 ++ [(⟨wrap64 (t224), x4_1, wrap64 (x4_1 + t225), (t225 == 1)⟩ : S159)]) (wrap64 (x4_1 + t225))) else (none)) else (if x3_1.length < 4398046511104 then (impl_read.l0 k1 a0 (x3_1 ++ [(⟨wrap64 (t224), x4_1, wrap64 (x4_1 + t225), false⟩ : S159)]) (wrap64 (x4_1 + t225))) else (none))) = some r := H
            have A5 := Aside0.mk A50
            clear A50
            by_cases c6 : t224 = 65533
            · rw [if_pos c6] at H
              have c6b0 : (t224 == 65533) = true := beq_iff_eq.mpr c6
              have c6b1 : (t224 != 65533) = false := bne_eq_false_iff_eq.mpr c6
              clear c6
              by_cases c7 : x3_1.length < 4398046511104
              · rw [if_pos c7] at H
                have LMc7 := Aside0.mk c7
                clear c7
                obtain ⟨y226, hy226⟩ : ∃ y_ : List (S159), y_ = (x3_1 ++ [(⟨wrap64 (t224), x4_1, wrap64 (x4_1 + t225), (t225 == 1)⟩ : S159)]) := ⟨_, rfl⟩
                replace H : (impl_read.l0 k1 a0 y226 (wrap64 (x4_1 + t225))) = some r := by first | (rw [hy226]; with_reducible exact H) | (have H2_ := (Option.bind_some _ _).symm.trans H; rw [hy226]; with_reducible exact H2_) | (have H2_ := (Option.bind_some _ _).symm.trans H; with_reducible exact H2_) | with_reducible exact H | (rw [hy226]; exact H) | exact H
                have Ny226 := Aside0.mk hy226
                clear hy226
                have H' := Aside0.mk H
                clear H
                go_wp2_with (first | ((with_reducible refine gate_callee (f := 209) rfl ?_); refine goesL_ (some 16) rfl rfl Tryd.func209 (by kernel_rfl) rfl #[.string (a0.extract (x4_1 : Int).toNat a0.size)] rfl (by (try simp only [List.map_toArray, List.map_cons, List.map_nil]); first | done | rfl | (simp only [List.length_drop, List.length_take]; rfl)) ?_; (with_reducible refine (utf8_DecodeRuneInString.calls (a0.extract (x4_1 : Int).toNat a0.size) t224 t225 _ A5.out (by first | exact HG.out | exact GT.below HG.out (by first | exact HB.out | (repeat (first | (with_reducible first | exact HB.out | apply below_alloc | apply pw_below_drewN | apply below_drew1) | exact HB.out))) | exact GT.below HG.out (HB.out))).mono ?_); rintro e w8 ⟨rfl, hb⟩; refine ⟨_, rfl, ?_⟩; have n0_ := Aside0.mk (Kd.R_below (by (with_reducible repeat (first | apply Kd.R_alloc | apply Kd.R_drewN | apply Kd.R_drew)); exact HO_3.out) hb); have n1_ := Aside0.mk (below_step (by repeat (first | (with_reducible first | exact HB.out | apply below_alloc | apply pw_below_drewN | apply below_drew1) | exact HB.out)) hb); clear HO_3; clear HB; have HO_3 := n0_; have HB := n1_; clear n0_ n1_; (try clear hb); (try clear hb2); (try clear hk); (try clear hi)) | ((with_reducible refine gate_builtin (b := .append) (xs := #[.tmp 25, .tmp 34]) rfl ?_); at_builtin; refine Kd.R_append k159 (w0 := w) w.heap.size rfl (.tmp 25) (.tmp 34) 156 159 (.agg #[(.int .i64 0), (.int .i64 0), (.int .i64 0), (.bool false)]) 32 rfl Tryd.underlying156 info159 rfl (by decide) (by omega) u3 x3_1 (⟨wrap64 (t224), x4_1, wrap64 (x4_1 + t225), (t225 == 1)⟩ : S159) [.int .i64 (wrap64 (t224)), .int .i64 x4_1, .int .i64 (wrap64 (x4_1 + t225)), .bool (t225 == 1)] (fun _ => True) (fun _ => False) rfl rfl ?aP (fun _ hk => hk.elim) ?aF ?aO ?aB ?aS ?aL ?_; (case aP => exact k159_mkM _ _ _ (⟨wrap64 (t224), x4_1, wrap64 (x4_1 + t225), (t225 == 1)⟩ : S159)); (case aB => exact (by repeat (first | (with_reducible first | exact HB.out | apply below_alloc | apply pw_below_drewN | apply below_drew1) | exact HB.out))); (case aF => exact (fun _ _ => trivial)); (case aO => exact (by (with_reducible repeat (first | apply Kd.R_alloc | apply Kd.R_drewN | apply Kd.R_drew)); exact HO_3.out)); (case aS => exact (below_size (by repeat (first | (with_reducible first | exact HB.out | apply below_alloc | apply pw_below_drewN | apply below_drew1) | exact HB.out)))); (case aL => have := LMc7.out; omega); intro v227 w9 ho hb hg hat; rw [← Ny226.out] at ho; have n0_ := Aside0.mk (hb); have n1_ := Aside0.mk (ho); clear HB; clear HO_3; have HB := n0_; have HO228 := n1_; clear n0_ n1_; clear ho hb hg hat))
                go_roundg k1
                case measure => have := HK1.out; omega
                case rel => exact ⟨(y226), (wrap64 (x4_1 + t225)), (by first | rfl | (simp; done) | (simp [*]; done)), H', ⟨by have := HK1.out; omega⟩, ⟨by (with_reducible repeat (first | apply Kd.R_alloc | apply Kd.R_drewN | apply Kd.R_drew)); exact HO228.out⟩, ⟨by repeat (first | (with_reducible first | exact HB.out | apply below_alloc | apply pw_below_drewN | apply below_drew1) | exact HB.out)⟩⟩
              · rw [if_neg c7] at H
                exact absurd H (by simp)
            · rw [if_neg c6] at H
              have c6b0 : (t224 == 65533) = false := beq_eq_false_iff_ne.mpr c6
              have c6b1 : (t224 != 65533) = true := bne_iff_ne.mpr c6
              by_cases c10 : x3_1.length < 4398046511104
              · rw [if_pos c10] at H
                have LMc10 := Aside0.mk c10
                clear c10
                obtain ⟨y229, hy229⟩ : ∃ y_ : List (S159), y_ = (x3_1 ++ [(⟨wrap64 (t224), x4_1, wrap64 (x4_1 + t225), false⟩ : S159)]) := ⟨_, rfl⟩
                replace H : (impl_read.l0 k1 a0 y229 (wrap64 (x4_1 + t225))) = some r := by first | (rw [hy229]; with_reducible exact H) | (have H2_ := (Option.bind_some _ _).symm.trans H; rw [hy229]; with_reducible exact H2_) | (have H2_ := (Option.bind_some _ _).symm.trans H; with_reducible exact H2_) | with_reducible exact H | (rw [hy229]; exact H) | exact H
                have Ny229 := Aside0.mk hy229
                clear hy229
                have H' := Aside0.mk H
                clear H
                go_wp2_with (first | ((with_reducible refine gate_callee (f := 209) rfl ?_); refine goesL_ (some 16) rfl rfl Tryd.func209 (by kernel_rfl) rfl #[.string (a0.extract (x4_1 : Int).toNat a0.size)] rfl (by (try simp only [List.map_toArray, List.map_cons, List.map_nil]); first | done | rfl | (simp only [List.length_drop, List.length_take]; rfl)) ?_; (with_reducible refine (utf8_DecodeRuneInString.calls (a0.extract (x4_1 : Int).toNat a0.size) t224 t225 _ A5.out (by first | exact HG.out | exact GT.below HG.out (by first | exact HB.out | (repeat (first | (with_reducible first | exact HB.out | apply below_alloc | apply pw_below_drewN | apply below_drew1) | exact HB.out))) | exact GT.below HG.out (HB.out))).mono ?_); rintro e w11 ⟨rfl, hb⟩; refine ⟨_, rfl, ?_⟩; have n0_ := Aside0.mk (Kd.R_below (by (with_reducible repeat (first | apply Kd.R_alloc | apply Kd.R_drewN | apply Kd.R_drew)); exact HO_3.out) hb); have n1_ := Aside0.mk (below_step (by repeat (first | (with_reducible first | exact HB.out | apply below_alloc | apply pw_below_drewN | apply below_drew1) | exact HB.out)) hb); clear HO_3; clear HB; have HO_3 := n0_; have HB := n1_; clear n0_ n1_; (try clear hb); (try clear hb2); (try clear hk); (try clear hi)) | ((with_reducible refine gate_builtin (b := .append) (xs := #[.tmp 25, .tmp 34]) rfl ?_); at_builtin; refine Kd.R_append k159 (w0 := w) w.heap.size rfl (.tmp 25) (.tmp 34) 156 159 (.agg #[(.int .i64 0), (.int .i64 0), (.int .i64 0), (.bool false)]) 32 rfl Tryd.underlying156 info159 rfl (by decide) (by omega) u3 x3_1 (⟨wrap64 (t224), x4_1, wrap64 (x4_1 + t225), false⟩ : S159) [.int .i64 (wrap64 (t224)), .int .i64 x4_1, .int .i64 (wrap64 (x4_1 + t225)), .bool false] (fun _ => True) (fun _ => False) rfl rfl ?aP (fun _ hk => hk.elim) ?aF ?aO ?aB ?aS ?aL ?_; (case aP => exact k159_mkM _ _ _ (⟨wrap64 (t224), x4_1, wrap64 (x4_1 + t225), false⟩ : S159)); (case aB => exact (by repeat (first | (with_reducible first | exact HB.out | apply below_alloc | apply pw_below_drewN | apply below_drew1) | exact HB.out))); (case aF => exact (fun _ _ => trivial)); (case aO => exact (by (with_reducible repeat (first | apply Kd.R_alloc | apply Kd.R_drewN | apply Kd.R_drew)); exact HO_3.out)); (case aS => exact (below_size (by repeat (first | (with_reducible first | exact HB.out | apply below_alloc | apply pw_below_drewN | apply below_drew1) | exact HB.out)))); (case aL => have := LMc10.out; omega); intro v230 w12 ho hb hg hat; rw [← Ny229.out] at ho; have n0_ := Aside0.mk (hb); have n1_ := Aside0.mk (ho); clear HB; clear HO_3; have HB := n0_; have HO231 := n1_; clear n0_ n1_; clear ho hb hg hat))
                go_roundg k1
                case measure => have := HK1.out; omega
                case rel => exact ⟨(y229), (wrap64 (x4_1 + t225)), (by first | rfl | (simp; done) | (simp [*]; done)), H', ⟨by have := HK1.out; omega⟩, ⟨by (with_reducible repeat (first | apply Kd.R_alloc | apply Kd.R_drewN | apply Kd.R_drew)); exact HO231.out⟩, ⟨by repeat (first | (with_reducible first | exact HB.out | apply below_alloc | apply pw_below_drewN | apply below_drew1) | exact HB.out)⟩⟩
              · rw [if_neg c10] at H
                exact absurd H (by simp)
          · rw [if_neg c4] at H
            exact absurd H (by simp)
        · rw [if_neg c3] at H
          exact absurd H (by simp)
      · rw [if_neg c2] at H
        have c2b0 : decide (x4_1 < (a0.size : Int)) = false := decide_eq_false c2
        clear c2
        obtain rfl := Option.some.inj H
        go_wp2
        go_ret
        exact ⟨_, by first | rfl | (simp [errW_none, errW_some] <;> rfl) | (simp [*, errW_none, errW_some] <;> rfl), by (with_reducible repeat (first | apply Kd.R_alloc | apply Kd.R_drewN | apply Kd.R_drew)); exact HO_3.out, by repeat (first | (with_reducible first | exact HB.out | apply below_alloc | apply pw_below_drewN | apply below_drew1) | exact HB.out)⟩

def impl_read.mk (x : Int × Int × Int × Bool) : S159 := ⟨x.1, x.2.1, x.2.2.1, x.2.2.2⟩
def W_impl_read.f (a0 : ByteArray) : Option (List (S159)) := if a0.size ≤ 1099511627776 then some ((YtnonijganceneaaDoorDec.reads (bytesOf a0)).map impl_read.mk) else none
theorem impl_read.decodeGo (s : ByteArray) (i : Nat) (h : i < s.size) : (((Lib.decodeGo (s.extract i s.size)).1 : Int), (Lib.decodeGo (s.extract i s.size)).2) = YtnonijganceneaaDoorPts.dec ((bytesOf s).drop i) := by
  have hz : (s.extract i s.size).size = s.size - i := by simp
  unfold Lib.decodeGo
  rw [if_neg (by omega), YtnonijganceneaaDoorPts.decode_dec, List.drop_zero]
  have e : bytesOf (s.extract i s.size) = (bytesOf s).drop i := by
    unfold bytesOf
    rw [← List.map_drop]
    congr 1
    simp only [ByteArray.data_extract, Array.toList_extract, List.extract_eq_take_drop]
    exact List.take_of_length_le (by rw [List.length_drop, data_length]; omega)
  rw [e]
theorem impl_read.run (s : ByteArray) (hs : s.size ≤ 1099511627776) (d : Nat) : ∀ (k i : Nat) (acc : List (S159)), i ≤ s.size → s.size - i ≤ d → d < k → acc.length + (s.size - i) ≤ 1099511627776 →
    impl_read.l0 k s acc (i : Int) = some (acc ++ (YtnonijganceneaaDoorDec.readsAt ((bytesOf s).drop i) (i : Int)).map impl_read.mk) := by
  induction d with
  | zero =>
    intro k i acc h1 h2 h3 h4
    obtain ⟨k, rfl⟩ : ∃ m, k = m + 1 := ⟨k - 1, by omega⟩
    simp only [impl_read.l0]
    rw [if_neg (by omega), List.drop_eq_nil_of_le (by rw [bytesOf_length]; omega)]
    simp [YtnonijganceneaaDoorDec.readsAt, YtnonijganceneaaDoorDec.readsF]
  | succ d ih =>
    intro k i acc h1 h2 h3 h4
    obtain ⟨k, rfl⟩ : ∃ m, k = m + 1 := ⟨k - 1, by omega⟩
    simp only [impl_read.l0]
    by_cases hlt : i < s.size
    · rw [if_pos (by omega), if_pos (by omega), if_pos (by omega)]
      unfold utf8_DecodeRuneInString.f
      simp only [Option.bind_some, Int.toNat_natCast]
      have hne : (bytesOf s).drop i ≠ [] := by intro h; have := congrArg List.length h; rw [List.length_drop, bytesOf_length] at this; simp at this; omega
      have hb := YtnonijganceneaaDoorPts.dec_bound hne
      rw [List.length_drop, bytesOf_length] at hb
      have hg := impl_read.decodeGo s i hlt
      have e1 := congrArg Prod.fst hg
      have e2 := congrArg Prod.snd hg
      simp only [] at e1 e2
      have hcons := YtnonijganceneaaDoorDec.readsAt_cons hne (i : Int)
      obtain ⟨q, hq⟩ : ∃ q, YtnonijganceneaaDoorPts.dec ((bytesOf s).drop i) = q := ⟨_, rfl⟩
      rw [hq] at e1 e2 hb hcons
      rw [e1, e2, hcons]
      have hp := hb.2.2.2
      have hw0 : wrap64 q.1 = q.1 := by unfold YtnonijganceneaaDoorPts.isP at hp; unfold wrap64; omega
      have hw1 : wrap64 ((i : Int) + (q.2 : Int)) = ((i + q.2 : Nat) : Int) := by unfold wrap64; omega
      have hw2 : (i : Int) + (q.2 : Int) = ((i + q.2 : Nat) : Int) := by omega
      rw [hw0, hw1, hw2, List.drop_drop]
      clear hw0 hw1 hw2 hg e1 e2 hcons hq
      have go : ∀ b : Bool, b = decide (q.1 = 65533 ∧ q.2 = 1) → impl_read.l0 k s (acc ++ [(⟨q.1, (i : Int), ((i + q.2 : Nat) : Int), b⟩ : S159)]) ((i + q.2 : Nat) : Int) = some (acc ++ ((q.1, (i : Int), ((i + q.2 : Nat) : Int), decide (q.1 = 65533 ∧ q.2 = 1)) :: YtnonijganceneaaDoorDec.readsAt ((bytesOf s).drop (i + q.2)) ((i + q.2 : Nat) : Int)).map impl_read.mk) := by
        intro b hbq
        rw [ih k (i + q.2) _ (by omega) (by omega) (by omega) (by rw [List.length_append]; simp only [List.length_cons, List.length_nil]; omega), hbq, List.map_cons, List.append_assoc]
        rfl
      by_cases c : q.1 = 65533
      · rw [if_pos c, if_pos (by omega)]
        refine go _ ?_
        by_cases c2 : q.2 = 1
        · rw [decide_eq_true ⟨c, c2⟩, beq_iff_eq]; omega
        · rw [decide_eq_false (fun z => c2 z.2), beq_eq_false_iff_ne]; omega
      · rw [if_neg c, if_pos (by omega)]
        exact go _ (by rw [decide_eq_false (fun z => c z.1)])
    · rw [if_neg (by omega), List.drop_eq_nil_of_le (by rw [bytesOf_length]; omega)]
      simp [YtnonijganceneaaDoorDec.readsAt, YtnonijganceneaaDoorDec.readsF]
theorem W_impl_read.to {a0 : ByteArray} {r : List (S159)} (h : W_impl_read.f a0 = some r) : ∃ k, impl_read.f k a0 = some r := by
  unfold W_impl_read.f at h
  split at h
  · rename_i hs
    refine ⟨a0.size + 1, ?_⟩
    rw [← h]
    unfold impl_read.f
    have := impl_read.run a0 hs a0.size (a0.size + 1) 0 [] (by omega) (by omega) (by omega) (by simp; omega)
    rw [List.drop_zero, List.nil_append] at this
    exact this
  · cases h
theorem W_impl_read.calls (a0 : ByteArray) (r : List (S159)) (w : World) (h : W_impl_read.f a0 = some r) (hG : GT w) :
    Calls Tryd.prog 164 #[.string a0] w fun e w' => ∃ v0_ : Value, e = .returned (v0_) ∧ Kd.R k159 159 w' w.heap.size (fun _ => True) v0_ r ∧ Below w.heap.size w w' := by
  obtain ⟨k, hk⟩ := W_impl_read.to h
  exact impl_read.calls k a0 r w hk hG

end Go.Proofs.YtnonijganceneaaDoor.QFnExactDecode
