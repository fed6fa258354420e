/- The law FnExactTitle: at every input the call answers true (this text: contracts on its way, by a program of this session's; no condition of ours). -/
import Derived.Test.YtnonijganceneaaDoorQFnExactTitlex0
import Derived.Test.YtnonijganceneaaDoorQFnExactTitlex8
namespace Go.Proofs.YtnonijganceneaaDoor.QFnExactTitle
open Go.RowKit Go.Proofs.YtnonijganceneaaDoorW.PrintWords Go.Proofs.YtnonijganceneaaDoorW.PrintLast Go.Proofs.YtnonijganceneaaDoorW.PrintMore
attribute [local go_sem] max2_int min2_int max_two min_two max_three min_three max_four min_four   -- for this text's walks alone
set_option linter.unusedVariables false
set_option linter.unusedSimpArgs false

/-! ### utf8_AppendRune: function 167 -/
def utf8_AppendRune.f (k : Nat) (l0 : List Int) (a1 : Int) : Option (List Int) := if ((a1) % 4294967296) ≤ 127 then (if l0.length < 140737488355328 then (some (l0 ++ [(a1) % 256])) else (none)) else ((utf8_appendRuneNonASCII.f k l0 a1).bind fun t257 => (some t257))
theorem utf8_AppendRune.mono : ∀ a0 a1 k, LeO (utf8_AppendRune.f k a0 a1) (utf8_AppendRune.f (k + 1) a0 a1) := by
  intro a0 a1 k
  unfold utf8_AppendRune.f
  repeat' first
      | (with_reducible exact utf8_appendRuneNonASCII.mono _ _ _)
      | (with_reducible exact LeO.refl _)
      | (with_reducible exact LeO.none _)
      | (with_reducible refine LeO.ite ?_ ?_)
      | (with_reducible refine LeO.bind ?_ (fun _ => ?_))
      | exact utf8_appendRuneNonASCII.mono _ _ _
      | exact LeO.none _
      | refine LeO.ite ?_ ?_
      | refine LeO.bind ?_ (fun _ => ?_)
set_option maxHeartbeats 8000000 in
set_option maxRecDepth 100000 in
theorem utf8_AppendRune.calls (k : Nat) (P0_ : Nat → Prop) (u9000_ : Value) (l0 : List Int) (a1 : Int) (r : List Int) (w0 w : World) (hB : Below w0.heap.size w0 w) (ho0 : Kd.R (Kd.int .u8) 5 w w0.heap.size P0_ u9000_ l0) (h : utf8_AppendRune.f k l0 a1 = some r) :
    Calls Tryd.prog 167 #[u9000_, .int .i32 a1] w fun e w' => ∃ v0_ : Value, e = .returned (v0_) ∧ Kd.R (Kd.int .u8) 5 w' w0.heap.size (fun k_ => (P0_ k_ ∨ w.heap.size ≤ k_)) v0_ r ∧ Below w0.heap.size w0 w' ∧ Kept w w' (fun k_ => P0_ k_) := by
  have HO0 := Aside0.mk (show Kd.R (Kd.int .u8) 5 w w0.heap.size (fun k_ => (P0_ k_ ∨ w.heap.size ≤ k_)) u9000_ l0 from Kd.R_mono ho0 (fun k_ hk => (.inl hk)))
  have HK := Aside0.mk (Kept.refl w (fun k_ => P0_ k_))
  have HW0 := Aside0.mk hB.size
  have HB := Aside0.mk hB
  clear hB
  have H : (if ((a1) % 4294967296) ≤ 127 then (if l0.length < 140737488355328 then (some (l0 ++ [(a1) % 256])) else (none)) else ((utf8_appendRuneNonASCII.f k l0 a1).bind fun t257 => (some t257))) = some r := h
  clear h
  by_cases c3 : ((a1) % 4294967296) ≤ 127
  · rw [if_pos c3] at H
    have c3b0 : decide (((a1) % 4294967296) ≤ 127) = true := decide_eq_true c3
    clear c3
    by_cases c4 : l0.length < 140737488355328
    · rw [if_pos c4] at H
      have LMc4 := Aside0.mk c4
      clear c4
      obtain ⟨y254, hy254⟩ : ∃ y_ : List Int, y_ = (l0 ++ [(a1) % 256]) := ⟨_, rfl⟩
      replace H : (some y254) = some r := by first | (rw [hy254]; with_reducible exact H) | (have H2_ := (Option.bind_some _ _).symm.trans H; rw [hy254]; with_reducible exact H2_) | (have H2_ := (Option.bind_some _ _).symm.trans H; with_reducible exact H2_) | with_reducible exact H | (rw [hy254]; exact H) | exact H
      have Ny254 := Aside0.mk hy254
      clear hy254
      obtain rfl := Option.some.inj H
      go_enter Tryd.func167, Tryd.ntmps167
      go_wp2_with (first | ((with_reducible refine gate_builtin (b := .append) (xs := #[.tmp 8, .tmp 11]) rfl ?_); at_builtin; refine Kd.R_append (Kd.int .u8) (w0 := w0) w0.heap.size rfl (.tmp 8) (.tmp 11) 22 5 (.int .u8 0) 1 rfl Tryd.underlying22 info5 rfl (by decide) (by omega) u9000_ l0 ((a1) % 256) [.int .u8 ((a1) % 256)] (fun k_ => (P0_ k_ ∨ w.heap.size ≤ k_)) (fun _ => False) rfl rfl ?aP (fun _ hk => hk.elim) ?aF ?aO ?aB ?aS ?aL ?_; (case aP => exact rfl); (case aB => exact (by repeat (first | (with_reducible first | exact HB.out | apply below_alloc | apply pw_below_drewN | apply below_drew1) | exact HB.out))); (case aF => exact (fun k_ hk => (.inr (Nat.le_trans (by first | exact HK.out.1 | exact (show Kept w _ (fun k_ => P0_ k_) from by repeat (first | (with_reducible first | exact HK.out | apply Kept.alloc | apply Kept.drewN | apply Kept.drew) | exact HK.out)).1) hk)))); (case aO => exact (by (with_reducible repeat (first | apply Kd.R_alloc | apply Kd.R_drewN | apply Kd.R_drew)); exact HO0.out)); (case aS => exact (below_size (by repeat (first | (with_reducible first | exact HB.out | apply below_alloc | apply pw_below_drewN | apply below_drew1) | exact HB.out)))); (case aL => have := LMc4.out; omega); intro v255 w5 ho hb hg hat; rw [← Ny254.out] at ho; have n0_ := Aside0.mk (hb); have n1_ := Aside0.mk (Kept.of_grown (S := (fun k_ => P0_ k_)) hg (by repeat (first | (with_reducible first | exact HK.out | apply Kept.alloc | apply Kept.drewN | apply Kept.drew) | exact HK.out)) (fun k_ e_ => (HO0.out.1 k_ e_))); have n2_ := Aside0.mk (ho); clear HB; clear HK; clear HO0; have HB := n0_; have HK := n1_; have HO256 := n2_; clear n0_ n1_ n2_; clear ho hb hg hat))
      go_ret
      exact ⟨_, by first | rfl | (simp [errW_none, errW_some] <;> rfl) | (simp [*, errW_none, errW_some] <;> rfl), by (with_reducible repeat (first | apply Kd.R_alloc | apply Kd.R_drewN | apply Kd.R_drew)); exact HO256.out, by repeat (first | (with_reducible first | exact HB.out | apply below_alloc | apply pw_below_drewN | apply below_drew1) | exact HB.out), by repeat (first | (with_reducible first | exact HK.out | apply Kept.alloc | apply Kept.drewN | apply Kept.drew) | exact HK.out)⟩
    · rw [if_neg c4] at H
      exact absurd H (by simp)
  · rw [if_neg c3] at H
    have c3b0 : decide (((a1) % 4294967296) ≤ 127) = false := decide_eq_false c3
    clear c3
    replace H := Option.bind_eq_some_iff.mp H
    obtain ⟨t257, A60, H⟩ := H
    replace H : (some t257) = some r := H
    have A6 := Aside0.mk A60
    clear A60
    obtain rfl := Option.some.inj H
    obtain ⟨Ao7, co7, eo7⟩ := Kd.R_slice HO0.out
    subst eo7
    go_enter Tryd.func167, Tryd.ntmps167
    go_wp2_with (first | ((with_reducible refine gate_callee (f := 211) rfl ?_); refine goesL_ (some 15) rfl rfl Tryd.func211 (by kernel_rfl) rfl #[.slice Ao7 l0.length co7, .int .i32 a1] rfl (by (try simp only [List.map_toArray, List.map_cons, List.map_nil]); first | done | rfl | (simp only [List.length_drop, List.length_take]; rfl)) ?_; (with_reducible refine (utf8_appendRuneNonASCII.calls k (fun k_ => some k_ = (.slice Ao7 l0.length co7 : Value).ownBlock) (.slice Ao7 l0.length co7) l0 a1 t257 w0 _ ?side1 ?side2 A6.out).mono ?_); (case side1 => repeat (first | (with_reducible first | exact HB.out | apply below_alloc | apply pw_below_drewN | apply below_drew1) | exact HB.out)); (case side2 => exact Kd.R_tight rfl HO0.out); rintro e w8 ⟨v258, rfl, ho0, hb, hkp⟩; refine ⟨_, rfl, ?_⟩; have n0_ := Aside0.mk (Kd.R_mono (ok' := fun k_ => (P0_ k_ ∨ w.heap.size ≤ k_)) ho0 (fun k_ hk_ => Or.elim hk_ (fun hs_ => (HO0.out.1 k_ (hs_).symm)) (fun hn_ => (.inr (Nat.le_trans (by first | exact HK.out.1 | exact (show Kept w _ (fun k_ => P0_ k_) from by repeat (first | (with_reducible first | exact HK.out | apply Kept.alloc | apply Kept.drewN | apply Kept.drew) | exact HK.out)).1) hn_))))); have n1_ := Aside0.mk (Kept.then_ (S := (fun k_ => P0_ k_)) (by repeat (first | (with_reducible first | exact HK.out | apply Kept.alloc | apply Kept.drewN | apply Kept.drew) | exact HK.out)) hkp (fun k_ hs_ => (fun e_ => (HO0.out.1 k_ e_.symm)) hs_)); have n2_ := Aside0.mk (hb); clear HK; clear HB; clear HO0; have HO259 := n0_; have HK := n1_; have HB := n2_; clear n0_ n1_ n2_; (try clear hb); (try clear hkp); (try clear ho0)))
    go_ret
    exact ⟨_, by first | rfl | (simp [errW_none, errW_some] <;> rfl) | (simp [*, errW_none, errW_some] <;> rfl), by (with_reducible repeat (first | apply Kd.R_alloc | apply Kd.R_drewN | apply Kd.R_drew)); exact HO259.out, by repeat (first | (with_reducible first | exact HB.out | apply below_alloc | apply pw_below_drewN | apply below_drew1) | exact HB.out), by repeat (first | (with_reducible first | exact HK.out | apply Kept.alloc | apply Kept.drewN | apply Kept.drew) | exact HK.out)⟩

def W_utf8_AppendRune.f (l0 : List Int) (a1 : Int) : Option (List Int) := if YtnonijganceneaaDoorPts.isP a1 ∧ l0.length < 140737488355320 then some (l0 ++ YtnonijganceneaaDoorPts.enc1 a1) else none
theorem utf8_AppendRune.eq (k : Nat) (l : List Int) (p : Int) (hp : YtnonijganceneaaDoorPts.isP p) (hl : l.length < 140737488355320) : utf8_AppendRune.f (k + 2) l p = some (l ++ YtnonijganceneaaDoorPts.enc1 p) := by
  unfold YtnonijganceneaaDoorPts.isP at hp
  obtain ⟨h0, h1, h2⟩ := hp
  have hm : p % 4294967296 = p := by omega
  unfold utf8_AppendRune.f
  rw [hm]
  by_cases c1 : p < 128
  · rw [if_pos (by omega), if_pos (by omega)]
    unfold YtnonijganceneaaDoorPts.enc1
    rw [if_pos c1]
    have : p % 256 = p := by omega
    rw [this]
  · rw [if_neg (by omega)]
    unfold utf8_appendRuneNonASCII.f
    rw [hm]
    unfold YtnonijganceneaaDoorPts.enc1
    rw [if_neg c1]
    by_cases c2 : p < 2048
    · rw [if_pos (by omega), if_pos c2]
      simp only [Option.bind_some]
      have e : (p / 64) % 256 = p / 64 := by omega
      rw [e, u8_or192 (y := p / 64) (by omega) (by omega), if_pos (by simp only [List.length_cons, List.length_nil]; omega)]
      rfl
    · rw [if_neg (by omega), if_neg c2]
      by_cases c3 : p < 65536
      · rw [if_pos c3]
        have fin : utf8_appendRuneNonASCII.j0 (k + 2) l p p true = some (l ++ [224 + p / 4096, 128 + p / 64 % 64, 128 + p % 64]) := by
          simp only [utf8_appendRuneNonASCII.j0, if_true, Option.bind_some]
          have e : (p / 4096) % 256 = p / 4096 := by omega
          rw [e, u8_or224 (y := p / 4096) (by omega) (by omega), if_pos (by simp only [List.length_cons, List.length_nil]; omega)]
        by_cases c4 : p < 55296
        · rw [if_pos c4, decide_eq_true c4, fin]; rfl
        · rw [if_neg c4, if_pos (by omega), decide_eq_true (by omega), fin]; rfl
      · rw [if_neg c3, if_neg (by omega), if_pos (by omega), decide_eq_false (by omega)]
        simp only [utf8_appendRuneNonASCII.j0, Bool.false_eq_true, if_false, Option.bind_some]
        have e : (p / 262144) % 256 = p / 262144 := by omega
        rw [if_pos (by omega), if_pos (by omega), e, u8_or240 (y := p / 262144) (by omega) (by omega), if_pos (by simp only [List.length_cons, List.length_nil]; omega)]
        rfl
theorem W_utf8_AppendRune.to {l0 : List Int} {a1 : Int} {r : List Int} (h : W_utf8_AppendRune.f l0 a1 = some r) : ∃ k, utf8_AppendRune.f k l0 a1 = some r := by
  unfold W_utf8_AppendRune.f at h
  split at h
  · rename_i hc
    exact ⟨2, by rw [← h]; exact utf8_AppendRune.eq 0 l0 a1 hc.1 hc.2⟩
  · cases h
theorem W_utf8_AppendRune.calls (P0_ : Nat → Prop) (u9000_ : Value) (l0 : List Int) (a1 : Int) (r : List Int) (w0 w : World) (hB : Below w0.heap.size w0 w) (ho0 : Kd.R (Kd.int .u8) 5 w w0.heap.size P0_ u9000_ l0) (h : W_utf8_AppendRune.f l0 a1 = some r) :
    Calls Tryd.prog 167 #[u9000_, .int .i32 a1] w fun e w' => ∃ v0_ : Value, e = .returned (v0_) ∧ Kd.R (Kd.int .u8) 5 w' w0.heap.size (fun k_ => (P0_ k_ ∨ w.heap.size ≤ k_)) v0_ r ∧ Below w0.heap.size w0 w' ∧ Kept w w' (fun k_ => P0_ k_) := by
  obtain ⟨k, hk⟩ := W_utf8_AppendRune.to h
  exact utf8_AppendRune.calls k P0_ u9000_ l0 a1 r w0 w hB ho0 hk

/-! ### impl_write: function 105 -/
def impl_write.l0 : Nat → List Int → List Int → Int → Int → Option (ByteArray)
  | 0, _, _, _, _ => none
  | k + 1, x3, x6, x7, x8 => if x8 < x7 then (if 0 ≤ x8 then (if x8 < (x6.length : Int) then ((impl_isPoint.f (rd x6 x8)).bind fun t261 => (if t261 = true then ((W_utf8_AppendRune.f x3 (wrap32 (rd x6 x8))).bind fun t262 => (impl_write.l0 k t262 x6 x7 (wrap64 (x8 + 1)))) else ((W_utf8_AppendRune.f x3 65533).bind fun t265 => (impl_write.l0 k t265 x6 x7 (wrap64 (x8 + 1)))))) else (none)) else (none)) else (some (strOfNums x3))
def impl_write.f (k : Nat) (l0 : List Int) : Option (ByteArray) := impl_write.l0 k ([] : List Int) l0 (l0.length : Int) 0
theorem impl_write.mono_l : ∀ k, (∀ y0 y1 y2 y3, LeO (impl_write.l0 k y0 y1 y2 y3) (impl_write.l0 (k + 1) y0 y1 y2 y3))
  | 0 => fun _ _ _ _ r h => by simp [impl_write.l0] at h
  | k + 1 => by
    have ih0 := impl_write.mono_l k
    · intro y0 y1 y2 y3
      unfold impl_write.l0
      repeat' first
      | (with_reducible exact ih0 _ _ _ _)
      | (with_reducible exact LeO.refl _)
      | (with_reducible exact LeO.none _)
      | (with_reducible refine LeO.ite ?_ ?_)
      | (with_reducible refine LeO.bind ?_ (fun _ => ?_))
      | exact ih0 _ _ _ _
      | exact LeO.none _
      | refine LeO.ite ?_ ?_
      | refine LeO.bind ?_ (fun _ => ?_)
theorem impl_write.mono : ∀ a0 k, LeO (impl_write.f k a0) (impl_write.f (k + 1) a0) := by
  intro a0 k
  have ih0 := impl_write.mono_l k
  unfold impl_write.f
  repeat' first
      | (with_reducible exact ih0 _ _ _ _)
      | (with_reducible exact LeO.refl _)
      | (with_reducible exact LeO.none _)
      | (with_reducible refine LeO.ite ?_ ?_)
      | (with_reducible refine LeO.bind ?_ (fun _ => ?_))
      | exact ih0 _ _ _ _
      | exact LeO.none _
      | refine LeO.ite ?_ ?_
      | refine LeO.bind ?_ (fun _ => ?_)
set_option maxHeartbeats 8000000 in
set_option maxRecDepth 100000 in
theorem impl_write.calls (k : Nat) (A0 : Option Addr) (c0 : Nat) (l0 : List Int) (r : ByteArray) (w : World) (hr0 : Kd.C (Kd.int .i64) w A0 l0.length l0) (hc0 : l0.length ≤ c0) (h : impl_write.f k l0 = some r) :
    Calls Tryd.prog 105 #[.slice A0 l0.length c0] w fun e w' => e = .returned (.string r) ∧ Below w.heap.size w w' := by
  have HR0 := Aside0.mk hr0
  have HC0 := Aside0.mk hc0
  clear hr0 hc0
  have HB := Aside0.mk (Below.refl w.heap.size w)
  have H : (impl_write.l0 k ([] : List Int) l0 (l0.length : Int) 0) = some r := h
  clear h
  have H' := Aside0.mk H
  clear H
  go_enter Tryd.func105, Tryd.ntmps105
  go_wp2
  go_loopg [3, 8] k (fun kq v3 v8 w' => ∃ (x3_1 : List Int) (x8_1 : Int), v8 = .int .i64 x8_1 ∧ Aside0 (impl_write.l0 kq x3_1 l0 (l0.length : Int) x8_1 = some r) ∧ Aside0 (kq ≤ k) ∧ Aside0 (Kd.R (Kd.int .u8) 5 w' w.heap.size (fun _ => True) v3 x3_1) ∧ Aside0 (Below w.heap.size w w'))
  case atStart => exact ⟨(([] : List Int)), (0), (by first | rfl | (simp; done) | (simp [*]; done)), H', ⟨Nat.le_refl _⟩, ⟨by first | exact Kd.R_nil _ _ _ _ _ | exact Kd.N_nil _ _ _ _ _ | exact Kd.V_nil _ _ _ _ _ | exact Kd.Q_nil _ _ _ _ _ | exact Kd.S_nil _ _ _ _ _⟩, ⟨by repeat (first | (with_reducible first | exact HB.out | apply below_alloc | apply pw_below_drewN | apply below_drew1) | exact HB.out)⟩⟩
  case round =>
    clear H'
    try clear c1
    obtain ⟨x3_1, x8_1, rfl, HA, HK1, HO_3, HB⟩ := hrel
    cases gk with
    | zero => exact absurd HA.out (by simp [impl_write.l0])
    | succ k1 =>
      have H := HA.out
      clear HA
      simp only [impl_write.l0] at H
      by_cases c2 : x8_1 < (l0.length : Int)
      · rw [if_pos c2] at H
        have c2b0 : decide (x8_1 < (l0.length : Int)) = true := decide_eq_true c2
        clear c2
        by_cases c3 : 0 ≤ x8_1
        · rw [if_pos c3] at H
          have c3b0 : decide (0 ≤ x8_1) = true := decide_eq_true c3
          clear c3
          by_cases c4 : x8_1 < (l0.length : Int)
          · rw [if_pos c4] at H
            have c4b0 : decide (x8_1 < (l0.length : Int)) = true := decide_eq_true c4
            clear c4
            replace H := Option.bind_eq_some_iff.mp H
            obtain ⟨t261, A50, H⟩ := H
            replace H : (if t261 = true then ((W_utf8_AppendRune.f x3_1 (wrap32 (rd l0 x8_1))).bind fun t262 => (impl_write.l0 k1 t262 l0 (l0.length : Int) (wrap64 (x8_1 + 1)))) else ((W_utf8_AppendRune.f x3_1 65533).bind fun t265 => (impl_write.l0 k1 t265 l0 (l0.length : Int) (wrap64 (x8_1 + 1))))) = some r := H
            have A5 := Aside0.mk A50
            clear A50
            by_cases c6 : t261 = true
            · subst c6
              have H1 : ((W_utf8_AppendRune.f x3_1 (wrap32 (rd l0 x8_1))).bind fun t262 => (impl_write.l0 k1 t262 l0 (l0.length : Int) (wrap64 (x8_1 + 1)))) = some r := by rw [if_pos rfl] at H; exact H
              clear H
              have H := H1
              clear H1
              replace H := Option.bind_eq_some_iff.mp H
              obtain ⟨t262, A70, H⟩ := H
              replace H : (impl_write.l0 k1 t262 l0 (l0.length : Int) (wrap64 (x8_1 + 1))) = some r := H
              have A7 := Aside0.mk A70
              clear A70
              have H' := Aside0.mk H
              clear H
              have p260 : 0 ≤ (x8_1 : Int) := of_decide_eq_true (by first | (with_reducible assumption) | assumption)
              have q260 : x8_1 < (l0.length : Int) := of_decide_eq_true (by first | (with_reducible assumption) | assumption)
              obtain ⟨ad260, e260, hx260_0⟩ := Kd.at_int HR0.out x8_1 p260 q260
              cases e260
              replace hx260_0 := (HB.out.cell (World.block_lt_of_cell? w _ hx260_0)).trans hx260_0
              replace p260 := eq_true p260
              replace q260 := eq_true q260
              go_wp2_with (first | ((with_reducible refine gate_callee (f := 87) rfl ?_); refine goesL_ (some 13) rfl rfl Tryd.func87 (by kernel_rfl) rfl #[.int .i64 (rd l0 x8_1)] rfl (by (try simp only [List.map_toArray, List.map_cons, List.map_nil]); first | done | rfl | (simp only [List.length_drop, List.length_take]; rfl)) ?_; (with_reducible refine (impl_isPoint.calls (rd l0 x8_1) true _ A5.out).mono ?_); rintro e w' ⟨rfl, ⟨nd, rfl⟩⟩; refine ⟨_, rfl, ?_⟩; obtain ⟨Ao8, co8, eo8⟩ := Kd.R_slice HO_3.out; subst eo8) | ((with_reducible refine gate_callee (f := 167) rfl ?_); refine goesL_ (some 18) rfl rfl Tryd.func167 (by kernel_rfl) rfl #[.slice Ao8 x3_1.length co8, .int .i32 (wrap32 (rd l0 x8_1))] rfl (by (try simp only [List.map_toArray, List.map_cons, List.map_nil]); first | done | rfl | (simp only [List.length_drop, List.length_take]; rfl)) ?_; (with_reducible refine (W_utf8_AppendRune.calls (fun k_ => some k_ = (.slice Ao8 x3_1.length co8 : Value).ownBlock) (.slice Ao8 x3_1.length co8) x3_1 (wrap32 (rd l0 x8_1)) t262 w _ ?side1 ?side2 A7.out).mono ?_); (case side1 => repeat (first | (with_reducible first | exact HB.out | apply below_alloc | apply pw_below_drewN | apply below_drew1) | exact HB.out)); (case side2 => exact Kd.R_tight rfl HO_3.out); rintro e w9 ⟨v263, rfl, ho0, hb, hkp⟩; refine ⟨_, rfl, ?_⟩; have n0_ := Aside0.mk (Kd.R_mono (ok' := fun k_ => True) ho0 (fun k_ hk_ => trivial)); have n1_ := Aside0.mk (hb); clear HB; clear HO_3; have HO264 := n0_; have HB := n1_; clear n0_ n1_; (try clear hb); (try clear hkp); (try clear ho0)))
              go_roundg k1
              case measure => have := HK1.out; omega
              case rel => exact ⟨(t262), (wrap64 (x8_1 + 1)), (by first | rfl | (simp; done) | (simp [*]; done)), H', ⟨by have := HK1.out; omega⟩, ⟨by (with_reducible repeat (first | apply Kd.R_alloc | apply Kd.R_drewN | apply Kd.R_drew)); exact HO264.out⟩, ⟨by repeat (first | (with_reducible first | exact HB.out | apply below_alloc | apply pw_below_drewN | apply below_drew1) | exact HB.out)⟩⟩
            · replace c6 := Bool.eq_false_iff.mpr c6
              subst c6
              have H1 : ((W_utf8_AppendRune.f x3_1 65533).bind fun t265 => (impl_write.l0 k1 t265 l0 (l0.length : Int) (wrap64 (x8_1 + 1)))) = some r := by rw [if_neg (show ¬ (false = true) by decide)] at H; exact H
              clear H
              have H := H1
              clear H1
              replace H := Option.bind_eq_some_iff.mp H
              obtain ⟨t265, A100, H⟩ := H
              replace H : (impl_write.l0 k1 t265 l0 (l0.length : Int) (wrap64 (x8_1 + 1))) = some r := H
              have A10 := Aside0.mk A100
              clear A100
              have H' := Aside0.mk H
              clear H
              have p260 : 0 ≤ (x8_1 : Int) := of_decide_eq_true (by first | (with_reducible assumption) | assumption)
              have q260 : x8_1 < (l0.length : Int) := of_decide_eq_true (by first | (with_reducible assumption) | assumption)
              obtain ⟨ad260, e260, hx260_0⟩ := Kd.at_int HR0.out x8_1 p260 q260
              cases e260
              replace hx260_0 := (HB.out.cell (World.block_lt_of_cell? w _ hx260_0)).trans hx260_0
              replace p260 := eq_true p260
              replace q260 := eq_true q260
              go_wp2_with (first | ((with_reducible refine gate_callee (f := 87) rfl ?_); refine goesL_ (some 13) rfl rfl Tryd.func87 (by kernel_rfl) rfl #[.int .i64 (rd l0 x8_1)] rfl (by (try simp only [List.map_toArray, List.map_cons, List.map_nil]); first | done | rfl | (simp only [List.length_drop, List.length_take]; rfl)) ?_; (with_reducible refine (impl_isPoint.calls (rd l0 x8_1) false _ A5.out).mono ?_); rintro e w' ⟨rfl, ⟨nd, rfl⟩⟩; refine ⟨_, rfl, ?_⟩; obtain ⟨Ao11, co11, eo11⟩ := Kd.R_slice HO_3.out; subst eo11) | ((with_reducible refine gate_callee (f := 167) rfl ?_); refine goesL_ (some 18) rfl rfl Tryd.func167 (by kernel_rfl) rfl #[.slice Ao11 x3_1.length co11, .int .i32 65533] rfl (by (try simp only [List.map_toArray, List.map_cons, List.map_nil]); first | done | rfl | (simp only [List.length_drop, List.length_take]; rfl)) ?_; (with_reducible refine (W_utf8_AppendRune.calls (fun k_ => some k_ = (.slice Ao11 x3_1.length co11 : Value).ownBlock) (.slice Ao11 x3_1.length co11) x3_1 65533 t265 w _ ?side1 ?side2 A10.out).mono ?_); (case side1 => repeat (first | (with_reducible first | exact HB.out | apply below_alloc | apply pw_below_drewN | apply below_drew1) | exact HB.out)); (case side2 => exact Kd.R_tight rfl HO_3.out); rintro e w12 ⟨v266, rfl, ho0, hb, hkp⟩; refine ⟨_, rfl, ?_⟩; have n0_ := Aside0.mk (Kd.R_mono (ok' := fun k_ => True) ho0 (fun k_ hk_ => trivial)); have n1_ := Aside0.mk (hb); clear HB; clear HO_3; have HO267 := n0_; have HB := n1_; clear n0_ n1_; (try clear hb); (try clear hkp); (try clear ho0)))
              go_roundg k1
              case measure => have := HK1.out; omega
              case rel => exact ⟨(t265), (wrap64 (x8_1 + 1)), (by first | rfl | (simp; done) | (simp [*]; done)), H', ⟨by have := HK1.out; omega⟩, ⟨by (with_reducible repeat (first | apply Kd.R_alloc | apply Kd.R_drewN | apply Kd.R_drew)); exact HO267.out⟩, ⟨by repeat (first | (with_reducible first | exact HB.out | apply below_alloc | apply pw_below_drewN | apply below_drew1) | exact HB.out)⟩⟩
          · rw [if_neg c4] at H
            exact absurd H (by simp)
        · rw [if_neg c3] at H
          exact absurd H (by simp)
      · rw [if_neg c2] at H
        have c2b0 : decide (x8_1 < (l0.length : Int)) = false := decide_eq_false c2
        clear c2
        obtain rfl := Option.some.inj H
        have hcv13 := own_string (P := Tryd.prog) Tryd.underlying22 Tryd.underlying5 Tryd.underlying9 (Kd.own_of_R HO_3.out)
        go_wp2
        go_ret
        exact ⟨by first | rfl | (simp [errW_none, errW_some] <;> rfl) | (simp [*, errW_none, errW_some] <;> rfl), by repeat (first | (with_reducible first | exact HB.out | apply below_alloc | apply pw_below_drewN | apply below_drew1) | exact HB.out)⟩

def W_impl_write.f (l0 : List Int) : Option (ByteArray) := if l0.length ≤ 1099511627776 then some (strOfNums (YtnonijganceneaaDoorPts.encs l0)) else none
theorem impl_write.run (l : List Int) (hl : l.length ≤ 1099511627776) (d : Nat) : ∀ (k i : Nat), i ≤ l.length → l.length - i = d → d < k →
    impl_write.l0 k (YtnonijganceneaaDoorPts.encs (l.take i)) l (l.length : Int) (i : Int) = some (strOfNums (YtnonijganceneaaDoorPts.encs l)) := by
  induction d with
  | zero =>
    intro k i h1 h2 h3
    obtain ⟨k, rfl⟩ : ∃ m, k = m + 1 := ⟨k - 1, by omega⟩
    simp only [impl_write.l0]
    rw [if_neg (by omega), List.take_of_length_le (by omega)]
  | succ d ih =>
    intro k i h1 h2 h3
    obtain ⟨k, rfl⟩ : ∃ m, k = m + 1 := ⟨k - 1, by omega⟩
    have hlt : i < l.length := by omega
    simp only [impl_write.l0]
    rw [if_pos (by omega), if_pos (by omega), if_pos (by omega)]
    have hw : wrap64 ((i : Int) + 1) = ((i + 1 : Nat) : Int) := by unfold wrap64; omega
    have hr : rd l (i : Int) = l[i] := by simp [rd, List.getD, hlt]
    have ht : YtnonijganceneaaDoorPts.encs (l.take (i + 1)) = YtnonijganceneaaDoorPts.encs (l.take i) ++ YtnonijganceneaaDoorPts.enc l[i] := by
      rw [List.take_succ_eq_append_getElem hlt, YtnonijganceneaaDoorPts.encs_append]
      simp [YtnonijganceneaaDoorPts.encs]
    have hlen := YtnonijganceneaaDoorPts.encs_length (l.take i)
    rw [List.length_take] at hlen
    rw [hr]
    obtain ⟨p, hp⟩ : ∃ p, l[i] = p := ⟨_, rfl⟩
    rw [hp] at ht ⊢
    have hq : impl_isPoint.f p = some (decide (YtnonijganceneaaDoorPts.isP p)) := by
      unfold impl_isPoint.f YtnonijganceneaaDoorPts.isP
      by_cases a : 0 ≤ p
      · by_cases b : p ≤ 1114111
        · by_cases c : p < 55296
          · rw [if_pos a, if_pos b, if_pos c]; simp [a, b, c]
          · rw [if_pos a, if_pos b, if_neg c]; simp [a, b, c]
        · rw [if_pos a, if_neg b]; simp [b]
      · rw [if_neg a]; simp [a]
    rw [hq]
    simp only [Option.bind_some]
    have hih := ih k (i + 1) (by omega) (by omega) (by omega)
    rw [ht] at hih
    unfold W_utf8_AppendRune.f
    by_cases h : YtnonijganceneaaDoorPts.isP p
    · have hv : wrap32 p = p := by unfold YtnonijganceneaaDoorPts.isP at h; unfold wrap32; omega
      rw [if_pos (decide_eq_true h), hv, if_pos ⟨h, by omega⟩]
      simp only [Option.bind_some]
      rw [hw]
      unfold YtnonijganceneaaDoorPts.enc at hih
      rw [YtnonijganceneaaDoorPts.fix_of h] at hih
      exact hih
    · rw [if_neg (by simpa using h), if_pos ⟨by unfold YtnonijganceneaaDoorPts.isP; omega, by omega⟩]
      simp only [Option.bind_some]
      rw [hw]
      unfold YtnonijganceneaaDoorPts.enc YtnonijganceneaaDoorPts.fix at hih
      rw [if_neg h] at hih
      exact hih
theorem W_impl_write.to {l0 : List Int} {r : ByteArray} (h : W_impl_write.f l0 = some r) : ∃ k, impl_write.f k l0 = some r := by
  unfold W_impl_write.f at h
  split at h
  · rename_i hl
    refine ⟨l0.length + 1, ?_⟩
    rw [← h]
    exact impl_write.run l0 hl l0.length (l0.length + 1) 0 (by omega) (by omega) (by omega)
  · cases h
theorem W_impl_write.calls (A0 : Option Addr) (c0 : Nat) (l0 : List Int) (r : ByteArray) (w : World) (hr0 : Kd.C (Kd.int .i64) w A0 l0.length l0) (hc0 : l0.length ≤ c0) (h : W_impl_write.f l0 = some r) :
    Calls Tryd.prog 105 #[.slice A0 l0.length c0] w fun e w' => e = .returned (.string r) ∧ Below w.heap.size w w' := by
  obtain ⟨k, hk⟩ := W_impl_write.to h
  exact impl_write.calls k A0 c0 l0 r w hr0 hc0 hk

/-! ### impl_in: function 76 -/
def impl_in.f (a0 : Int) (a1 : Int) (a2 : Int) : Option (Bool) := if a0 ≥ a1 then (some (decide (a0 ≤ a2))) else (some false)
set_option maxHeartbeats 8000000 in
set_option maxRecDepth 100000 in
theorem impl_in.calls (a0 : Int) (a1 : Int) (a2 : Int) (r : Bool) (w : World) (h : impl_in.f a0 a1 a2 = some r) :
    Calls Tryd.prog 76 #[.int .i64 a0, .int .i64 a1, .int .i64 a2] w fun e w' => e = .returned (.bool r) ∧ Drawn0 w w' := by
  have H : (if a0 ≥ a1 then (some (decide (a0 ≤ a2))) else (some false)) = some r := h
  clear h
  by_cases c4 : a0 ≥ a1
  · rw [if_pos c4] at H
    have c4b0 : decide (a1 ≤ a0) = true := decide_eq_true c4
    clear c4
    obtain rfl := Option.some.inj H
    go_enter Tryd.func76, Tryd.ntmps76
    go_wp2
    go_ret
    exact ⟨by first | rfl | (simp; done) | (simp [*]; done), by repeat (first | exact Drawn0.refl _ | apply Drawn0.step)⟩
  · rw [if_neg c4] at H
    have c4b0 : decide (a1 ≤ a0) = false := decide_eq_false c4
    clear c4
    obtain rfl := Option.some.inj H
    go_enter Tryd.func76, Tryd.ntmps76
    go_wp2
    go_ret
    exact ⟨by first | rfl | (simp; done) | (simp [*]; done), by repeat (first | exact Drawn0.refl _ | apply Drawn0.step)⟩

/-! ### impl_block: function 155 (by hand) -/
theorem impl_block.bits (p : Int) (h0 : 512 ≤ p) (h1 : p < 1280) : Go.bits .andNot .i64 p 255 = p - p % 256 ∧ Go.bits .and .i64 p 255 = p % 256 := by
  have h : ∀ n : Fin 768, Go.bits .andNot .i64 (512 + (n.val : Int)) 255 = (512 + (n.val : Int)) - (512 + (n.val : Int)) % 256 ∧ Go.bits .and .i64 (512 + (n.val : Int)) 255 = (512 + (n.val : Int)) % 256 := by decide +kernel
  have e : p = 512 + (((⟨(p - 512).toNat, by omega⟩ : Fin 768).val : Nat) : Int) := by simp; omega
  rw [e]; exact h _
def impl_block.f (a0 : Int) : Option (Int × Int) := some (if 512 ≤ a0 ∧ a0 < 1280 then (a0 - a0 % 256, a0 % 256) else (0, 0))
set_option maxHeartbeats 1000000 in
set_option maxRecDepth 100000 in
theorem impl_block.calls (a0 : Int) (r1 : Int) (r2 : Int) (w : World) (h : impl_block.f a0 = some (r1, r2)) :
    Calls Tryd.prog 155 #[.int .i64 a0] w fun e w' => e = .returned (.tuple #[.int .i64 r1, .int .i64 r2]) ∧ Drawn0 w w' := by
  unfold impl_block.f at h
  have h := Option.some.inj h
  by_cases hc : 512 ≤ a0 ∧ a0 < 1280
  · rw [if_pos hc] at h
    obtain ⟨rfl, rfl⟩ := Prod.mk.inj h
    obtain ⟨e1, e2⟩ := impl_block.bits a0 hc.1 hc.2
    rw [← e1, ← e2]
    clear e1 e2 h
    obtain ⟨hc1, hc2⟩ := hc
    go_enter Tryd.func155, Tryd.ntmps155
    go_wp2
    go_ret2
    exact ⟨rfl, Drawn0.refl _⟩
  · rw [if_neg hc] at h
    obtain ⟨rfl, rfl⟩ := Prod.mk.inj h
    clear h
    have hc' : a0 < 512 ∨ 1280 ≤ a0 := by omega
    clear hc
    rcases hc' with hc | hc
    · go_enter Tryd.func155, Tryd.ntmps155
      go_wp2
      go_ret2
      exact ⟨rfl, Drawn0.refl _⟩
    · go_enter Tryd.func155, Tryd.ntmps155
      go_wp2
      go_ret2
      exact ⟨rfl, Drawn0.refl _⟩

/-! ### impl_kind: function 75 (by hand) -/
def impl_kind.g (p : Int) : Int × Int :=
  if 512 ≤ p ∧ p < 1280 then
    (if p % 256 < 32 ∨ 64 ≤ p % 256 ∧ p % 256 ≤ 67 then (4, p / 256)
     else if p % 256 < 64 ∨ 72 ≤ p % 256 ∧ p % 256 ≤ 75 ∨ 96 ≤ p % 256 ∧ p % 256 ≤ 97 then (5, p / 256)
     else if 68 ≤ p % 256 ∧ p % 256 ≤ 71 then (6, p / 256)
     else if 80 ≤ p % 256 ∧ p % 256 ≤ 89 then (8, p / 256)
     else (0, 0))
  else if 0 ≤ p ∧ p ≤ 31 ∨ 127 ≤ p ∧ p ≤ 159 then (1, 0)
  else if p = 32 ∨ p = 160 ∨ p = 8064 then (2, 0)
  else if 48 ≤ p ∧ p ≤ 57 then (8, 0)
  else if 65 ≤ p ∧ p ≤ 90 then (4, 1)
  else if 97 ≤ p ∧ p ≤ 122 then (5, 1)
  else if 33 ≤ p ∧ p ≤ 126 then (9, 0)
  else if p = 173 then (11, 0)
  else if 161 ≤ p ∧ p ≤ 191 then (10, 0)
  else if 1280 ≤ p ∧ p ≤ 1311 then (7, 5)
  else if 1360 ≤ p ∧ p ≤ 1369 then (8, 5)
  else if 1536 ≤ p ∧ p ≤ 1567 then (7, 6)
  else if 1568 ≤ p ∧ p ≤ 1579 ∨ p = 1584 ∨ p = 1585 then (3, 6)
  else if 1616 ≤ p ∧ p ≤ 1625 then (8, 6)
  else if 1792 ≤ p ∧ p ≤ 1810 ∨ 1824 ≤ p ∧ p ≤ 1844 ∨ 1857 ≤ p ∧ p ≤ 1883 ∨ 12288 ≤ p ∧ p ≤ 23459 then (7, 7)
  else if 2048 ≤ p ∧ p ≤ 2095 then (7, 8)
  else if 4096 ≤ p ∧ p ≤ 4159 then (3, 0)
  else if 7680 ≤ p ∧ p ≤ 7748 ∨ 7760 ≤ p ∧ p ≤ 7785 then (10, 0)
  else if 7936 ≤ p ∧ p ≤ 7947 ∨ p = 7953 ∨ p = 7954 then (11, 0)
  else if 8192 ≤ p ∧ p ≤ 9631 ∧ (p - 8192) % 512 < 416 then (if (p - 8192) % 512 < 208 then (4, 1) else (5, 1))
  else if 9728 ≤ p ∧ p ≤ 9753 then (4, 1)
  else if 9984 ≤ p ∧ p ≤ 10009 ∨ 10032 ≤ p ∧ p ≤ 10035 then (10, 0)
  else if 10016 ≤ p ∧ p ≤ 10025 then (8, 0)
  else if 24576 ≤ p ∧ p ≤ 26623 then (7, 9)
  else (0, 0)
def impl_kind.f (a0 : Int) : Option (Int × Int) := some (impl_kind.g a0)
def impl_kind.Post (p : Int) (w : World) (e : Ending) (w' : World) : Prop := e = .returned (.tuple #[.int .i64 (impl_kind.g p).1, .int .i64 (impl_kind.g p).2]) ∧ Drawn0 w w'
theorem impl_kind.post {p a b : Int} {w w' : World} (h : impl_kind.g p = (a, b)) (hb : Drawn0 w w') : impl_kind.Post p w (.returned (.tuple #[.int .i64 a, .int .i64 b])) w' := by
  unfold impl_kind.Post; rw [h]; exact ⟨rfl, hb⟩
set_option maxHeartbeats 1000000 in
set_option maxRecDepth 100000 in
theorem impl_kind.inC (p a b : Int) (w : World) : Calls Tryd.prog 76 #[.int .i64 p, .int .i64 a, .int .i64 b] w fun e w' => e = .returned (.bool (decide (a ≤ p ∧ p ≤ b))) ∧ w = w' := by
  by_cases h : a ≤ p
  · have e : decide (a ≤ p ∧ p ≤ b) = decide (p ≤ b) := by simp [h]
    rw [e]; clear e
    go_enter Tryd.func76, Tryd.ntmps76
    go_wp2
    go_ret
    exact ⟨rfl, rfl⟩
  · have e : decide (a ≤ p ∧ p ≤ b) = false := by simp [h]
    rw [e]; clear e
    go_enter Tryd.func76, Tryd.ntmps76
    go_wp2
    go_ret
    exact ⟨rfl, rfl⟩
set_option maxHeartbeats 8000000 in
set_option maxRecDepth 100000 in
theorem impl_kind.walk1 (a0 : Int) (w : World) (hc : 512 ≤ a0 ∧ a0 < 1280) : Calls Tryd.prog 75 #[.int .i64 a0] w (impl_kind.Post a0 w) := by
  have C := fun W => impl_block.calls a0 (a0 - a0 % 256) (a0 % 256) W (by unfold impl_block.f; rw [if_pos hc])
  obtain ⟨hc1, hc2⟩ := hc
  go_enter Tryd.func75, Tryd.ntmps75
  go_wp2_with (first | (go_at_call 155; refine (C _).mono ?_; rintro e w1 ⟨rfl, ⟨nd, rfl⟩⟩) | (go_at_call 76; refine (impl_kind.inC _ _ _ _).mono ?_; rintro e w1 ⟨rfl, rfl⟩))
  all_goals
    go_ret2
    refine impl_kind.post ?_ (by repeat (first | exact Drawn0.refl _ | apply Drawn0.step))
    go_light
    try simp only [beq_iff_eq, beq_eq_false_iff_ne, ne_eq] at *
  all_goals (try (exfalso; omega))
  all_goals (unfold impl_kind.g; repeat (first | rw [if_pos (by omega)] | rw [if_neg (by omega)]))
  all_goals (try (simp only [Prod.mk.injEq, and_true, true_and]; omega))
set_option maxHeartbeats 8000000 in
set_option maxRecDepth 100000 in
theorem impl_kind.walk2 (a0 : Int) (w : World) (hc : ¬ (512 ≤ a0 ∧ a0 < 1280)) (h0 : 0 ≤ a0) : Calls Tryd.prog 75 #[.int .i64 a0] w (impl_kind.Post a0 w) := by
  have C := fun W => impl_block.calls a0 0 0 W (by unfold impl_block.f; rw [if_neg hc])
  have hc' : a0 < 512 ∨ 1280 ≤ a0 := by omega
  have hc1 := Aside0.mk hc'
  clear hc hc'
  go_enter Tryd.func75, Tryd.ntmps75
  go_wp2_with (first | (go_at_call 155; refine (C _).mono ?_; rintro e w1 ⟨rfl, ⟨nd, rfl⟩⟩) | (go_at_call 76; refine (impl_kind.inC _ _ _ _).mono ?_; rintro e w1 ⟨rfl, rfl⟩))
  all_goals
    go_ret2
    refine impl_kind.post ?_ (by repeat (first | exact Drawn0.refl _ | apply Drawn0.step))
    have hc2 := hc1.out
    go_light
    try simp only [beq_iff_eq, beq_eq_false_iff_ne, ne_eq] at *
  all_goals (try (exfalso; omega))
  all_goals (unfold impl_kind.g; repeat (first | rw [if_pos (by omega)] | rw [if_neg (by omega)]))
  all_goals (try (simp only [Prod.mk.injEq, and_true, true_and]; omega))
set_option maxHeartbeats 8000000 in
set_option maxRecDepth 100000 in
theorem impl_kind.walk3 (a0 : Int) (w : World) (h0 : a0 < 0) : Calls Tryd.prog 75 #[.int .i64 a0] w (impl_kind.Post a0 w) := by
  have C := fun W => impl_block.calls a0 0 0 W (by unfold impl_block.f; rw [if_neg (by omega)])
  go_enter Tryd.func75, Tryd.ntmps75
  go_wp2_with (first | (go_at_call 155; refine (C _).mono ?_; rintro e w1 ⟨rfl, ⟨nd, rfl⟩⟩) | (go_at_call 76; refine (impl_kind.inC _ _ _ _).mono ?_; rintro e w1 ⟨rfl, rfl⟩))
  all_goals
    go_ret2
    refine impl_kind.post ?_ (by repeat (first | exact Drawn0.refl _ | apply Drawn0.step))
    go_light
    try simp only [beq_iff_eq, beq_eq_false_iff_ne, ne_eq] at *
  all_goals (try (exfalso; omega))
  all_goals (unfold impl_kind.g; repeat (first | rw [if_pos (by omega)] | rw [if_neg (by omega)]))
  all_goals (try (simp only [Prod.mk.injEq, and_true, true_and]; omega))
theorem impl_kind.walk (a0 : Int) (w : World) : Calls Tryd.prog 75 #[.int .i64 a0] w (impl_kind.Post a0 w) := by
  by_cases hc : 512 ≤ a0 ∧ a0 < 1280
  · exact impl_kind.walk1 a0 w hc
  · by_cases h0 : 0 ≤ a0
    · exact impl_kind.walk2 a0 w hc h0
    · exact impl_kind.walk3 a0 w (by omega)
theorem impl_kind.calls (a0 : Int) (r1 : Int) (r2 : Int) (w : World) (h : impl_kind.f a0 = some (r1, r2)) :
    Calls Tryd.prog 75 #[.int .i64 a0] w fun e w' => e = .returned (.tuple #[.int .i64 r1, .int .i64 r2]) ∧ Drawn0 w w' := by
  have h := Option.some.inj h
  refine (impl_kind.walk a0 w).mono fun e w' hp => ?_
  unfold impl_kind.Post at hp
  rw [h] at hp
  exact hp

/-! ### impl_Category: function 14 -/
def impl_Category.f (a0 : Int) : Option (Int) := (impl_kind.f a0).bind fun bt268 => (some bt268.1)
set_option maxHeartbeats 8000000 in
set_option maxRecDepth 100000 in
theorem impl_Category.calls (a0 : Int) (r : Int) (w : World) (h : impl_Category.f a0 = some r) :
    Calls Tryd.prog 14 #[.int .i64 a0] w fun e w' => e = .returned (.int .i64 r) ∧ Drawn0 w w' := by
  have H : ((impl_kind.f a0).bind fun bt268 => (some bt268.1)) = some r := h
  clear h
  replace H := Option.bind_eq_some_iff.mp H
  obtain ⟨⟨t268, t269⟩, A20, H⟩ := H
  replace H : (some t268) = some r := H
  have A2 := Aside0.mk A20
  clear A20
  obtain rfl := Option.some.inj H
  go_enter Tryd.func14, Tryd.ntmps14
  go_wp2_with (first | ((with_reducible refine gate_callee (f := 75) rfl ?_); refine goesL_ (some 7) rfl rfl Tryd.func75 (by kernel_rfl) rfl #[.int .i64 a0] rfl (by (try simp only [List.map_toArray, List.map_cons, List.map_nil]); first | done | rfl | (simp only [List.length_drop, List.length_take]; rfl)) ?_; (with_reducible refine (impl_kind.calls a0 t268 t269 _ A2.out).mono ?_); rintro e w' ⟨rfl, ⟨nd, rfl⟩⟩; refine ⟨_, rfl, ?_⟩))
  go_ret
  exact ⟨by first | rfl | (simp; done) | (simp [*]; done), by repeat (first | exact Drawn0.refl _ | apply Drawn0.step)⟩

/-! ### impl_isMark: function 115 -/
def impl_isMark.f (a0 : Int) : Option (Bool) := (impl_Category.f a0).bind fun t270 => (some (t270 == 3))
set_option maxHeartbeats 8000000 in
set_option maxRecDepth 100000 in
theorem impl_isMark.calls (a0 : Int) (r : Bool) (w : World) (h : impl_isMark.f a0 = some r) :
    Calls Tryd.prog 115 #[.int .i64 a0] w fun e w' => e = .returned (.bool r) ∧ Drawn0 w w' := by
  have H : ((impl_Category.f a0).bind fun t270 => (some (t270 == 3))) = some r := h
  clear h
  replace H := Option.bind_eq_some_iff.mp H
  obtain ⟨t270, A20, H⟩ := H
  replace H : (some (t270 == 3)) = some r := H
  have A2 := Aside0.mk A20
  clear A20
  obtain rfl := Option.some.inj H
  go_enter Tryd.func115, Tryd.ntmps115
  go_wp2_with (first | ((with_reducible refine gate_callee (f := 14) rfl ?_); refine goesL_ (some 4) rfl rfl Tryd.func14 (by kernel_rfl) rfl #[.int .i64 a0] rfl (by (try simp only [List.map_toArray, List.map_cons, List.map_nil]); first | done | rfl | (simp only [List.length_drop, List.length_take]; rfl)) ?_; (with_reducible refine (impl_Category.calls a0 t270 _ A2.out).mono ?_); rintro e w' ⟨rfl, ⟨nd, rfl⟩⟩; refine ⟨_, rfl, ?_⟩))
  go_ret
  exact ⟨by first | rfl | (simp; done) | (simp [*]; done), by repeat (first | exact Drawn0.refl _ | apply Drawn0.step)⟩

/-! ### impl_isCased: function 206 -/
def impl_isCased.f (a0 : Int) : Option (Bool) := (impl_Category.f a0).bind fun t271 => ((impl_in.f t271 4 6).bind fun t272 => (some t272))
set_option maxHeartbeats 8000000 in
set_option maxRecDepth 100000 in
theorem impl_isCased.calls (a0 : Int) (r : Bool) (w : World) (h : impl_isCased.f a0 = some r) :
    Calls Tryd.prog 206 #[.int .i64 a0] w fun e w' => e = .returned (.bool r) ∧ Drawn0 w w' := by
  have H : ((impl_Category.f a0).bind fun t271 => ((impl_in.f t271 4 6).bind fun t272 => (some t272))) = some r := h
  clear h
  replace H := Option.bind_eq_some_iff.mp H
  obtain ⟨t271, A20, H⟩ := H
  replace H : ((impl_in.f t271 4 6).bind fun t272 => (some t272)) = some r := H
  have A2 := Aside0.mk A20
  clear A20
  replace H := Option.bind_eq_some_iff.mp H
  obtain ⟨t272, A30, H⟩ := H
  replace H : (some t272) = some r := H
  have A3 := Aside0.mk A30
  clear A30
  obtain rfl := Option.some.inj H
  go_enter Tryd.func206, Tryd.ntmps206
  go_wp2_with (first | ((with_reducible refine gate_callee (f := 14) rfl ?_); refine goesL_ (some 4) rfl rfl Tryd.func14 (by kernel_rfl) rfl #[.int .i64 a0] rfl (by (try simp only [List.map_toArray, List.map_cons, List.map_nil]); first | done | rfl | (simp only [List.length_drop, List.length_take]; rfl)) ?_; (with_reducible refine (impl_Category.calls a0 t271 _ A2.out).mono ?_); rintro e w' ⟨rfl, ⟨nd, rfl⟩⟩; refine ⟨_, rfl, ?_⟩) | ((with_reducible refine gate_callee (f := 76) rfl ?_); refine goesL_ (some 5) rfl rfl Tryd.func76 (by kernel_rfl) rfl #[.int .i64 t271, .int .i64 4, .int .i64 6] rfl (by (try simp only [List.map_toArray, List.map_cons, List.map_nil]); first | done | rfl | (simp only [List.length_drop, List.length_take]; rfl)) ?_; (with_reducible refine (impl_in.calls t271 4 6 t272 _ A3.out).mono ?_); rintro e w' ⟨rfl, ⟨nd, rfl⟩⟩; refine ⟨_, rfl, ?_⟩))
  go_ret
  exact ⟨by first | rfl | (simp; done) | (simp [*]; done), by repeat (first | exact Drawn0.refl _ | apply Drawn0.step)⟩

/-! ### impl_within: function 207 -/
def impl_within.f (a0 : Int) (a1 : Int) : Option (Bool) := (impl_block.f a0).bind fun bt273 => (if bt273.1 > 0 then (some (bt273.2 == a1)) else (some false))
set_option maxHeartbeats 8000000 in
set_option maxRecDepth 100000 in
theorem impl_within.calls (a0 : Int) (a1 : Int) (r : Bool) (w : World) (h : impl_within.f a0 a1 = some r) :
    Calls Tryd.prog 207 #[.int .i64 a0, .int .i64 a1] w fun e w' => e = .returned (.bool r) ∧ Drawn0 w w' := by
  have H : ((impl_block.f a0).bind fun bt273 => (if bt273.1 > 0 then (some (bt273.2 == a1)) else (some false))) = some r := h
  clear h
  replace H := Option.bind_eq_some_iff.mp H
  obtain ⟨⟨t273, t274⟩, A30, H⟩ := H
  replace H : (if t273 > 0 then (some (t274 == a1)) else (some false)) = some r := H
  have A3 := Aside0.mk A30
  clear A30
  by_cases c4 : t273 > 0
  · rw [if_pos c4] at H
    have c4b0 : decide (0 < t273) = true := decide_eq_true c4
    clear c4
    obtain rfl := Option.some.inj H
    go_enter Tryd.func207, Tryd.ntmps207
    go_wp2_with (first | ((with_reducible refine gate_callee (f := 155) rfl ?_); refine goesL_ (some 9) rfl rfl Tryd.func155 (by kernel_rfl) rfl #[.int .i64 a0] rfl (by (try simp only [List.map_toArray, List.map_cons, List.map_nil]); first | done | rfl | (simp only [List.length_drop, List.length_take]; rfl)) ?_; (with_reducible refine (impl_block.calls a0 t273 t274 _ A3.out).mono ?_); rintro e w' ⟨rfl, ⟨nd, rfl⟩⟩; refine ⟨_, rfl, ?_⟩))
    go_ret
    exact ⟨by first | rfl | (simp; done) | (simp [*]; done), by repeat (first | exact Drawn0.refl _ | apply Drawn0.step)⟩
  · rw [if_neg c4] at H
    have c4b0 : decide (0 < t273) = false := decide_eq_false c4
    clear c4
    obtain rfl := Option.some.inj H
    go_enter Tryd.func207, Tryd.ntmps207
    go_wp2_with (first | ((with_reducible refine gate_callee (f := 155) rfl ?_); refine goesL_ (some 9) rfl rfl Tryd.func155 (by kernel_rfl) rfl #[.int .i64 a0] rfl (by (try simp only [List.map_toArray, List.map_cons, List.map_nil]); first | done | rfl | (simp only [List.length_drop, List.length_take]; rfl)) ?_; (with_reducible refine (impl_block.calls a0 t273 t274 _ A3.out).mono ?_); rintro e w' ⟨rfl, ⟨nd, rfl⟩⟩; refine ⟨_, rfl, ?_⟩))
    go_ret
    exact ⟨by first | rfl | (simp; done) | (simp [*]; done), by repeat (first | exact Drawn0.refl _ | apply Drawn0.step)⟩

/-! ### impl_cases: function 230 (by hand) -/
def impl_cases.g (p : Int) : Int × Int × Int :=
  if 512 ≤ p ∧ p < 1280 then
    (if p % 256 < 64 then (p - p % 256 + p % 32, p - p % 256 + p % 32, p - p % 256 + 32 + p % 32)
     else if p % 256 < 76 then (p - p % 256 + 64 + p % 4, p - p % 256 + 68 + p % 4, p - p % 256 + 72 + p % 4)
     else if p % 256 = 97 then (p - p % 256 + 18, p - p % 256 + 18, p)
     else (p, p, p))
  else if 65 ≤ p ∧ p ≤ 90 then (p, p, p + 32)
  else if 97 ≤ p ∧ p ≤ 122 then (p - 32, p - 32, p)
  else if 9728 ≤ p ∧ p ≤ 9753 then (p, p, 97 + p - 9728)
  else if 8192 ≤ p ∧ p ≤ 9631 ∧ (impl_kind.g p).1 = 4 then (p, p, p + 208)
  else if 8192 ≤ p ∧ p ≤ 9631 ∧ (impl_kind.g p).1 = 5 then (p - 208, p - 208, p)
  else (p, p, p)
def impl_cases.f (a0 : Int) : Option (Int × Int × Int) := if 0 ≤ a0 ∧ a0 ≤ 1114111 then some (impl_cases.g a0) else none
def impl_cases.Post (p : Int) (w : World) (e : Ending) (w' : World) : Prop := e = .returned (.tuple #[.int .i64 (impl_cases.g p).1, .int .i64 (impl_cases.g p).2.1, .int .i64 (impl_cases.g p).2.2]) ∧ Drawn0 w w'
theorem impl_cases.post {p a b c : Int} {w w' : World} (h : impl_cases.g p = (a, b, c)) (hb : Drawn0 w w') : impl_cases.Post p w (.returned (.tuple #[.int .i64 a, .int .i64 b, .int .i64 c])) w' := by
  unfold impl_cases.Post; rw [h]; exact ⟨rfl, hb⟩
set_option maxHeartbeats 8000000 in
set_option maxRecDepth 100000 in
theorem impl_cases.walk1 (a0 : Int) (w : World) (hc : 512 ≤ a0 ∧ a0 < 1280) : Calls Tryd.prog 230 #[.int .i64 a0] w (impl_cases.Post a0 w) := by
  have C := fun W => impl_block.calls a0 (a0 - a0 % 256) (a0 % 256) W (by unfold impl_block.f; rw [if_pos hc])
  obtain ⟨hc1, hc2⟩ := hc
  go_enter Tryd.func230, Tryd.ntmps230
  go_wp2_with (first | (go_at_call 155; refine (C _).mono ?_; rintro e w1 ⟨rfl, ⟨nd, rfl⟩⟩) | (go_at_call 76; refine (impl_kind.inC _ _ _ _).mono ?_; rintro e w1 ⟨rfl, rfl⟩))
  all_goals
    go_ret3
    refine impl_cases.post ?_ (by repeat (first | exact Drawn0.refl _ | apply Drawn0.step))
    go_light
    try simp only [beq_iff_eq, beq_eq_false_iff_ne, ne_eq] at *
  all_goals (try (exfalso; omega))
  all_goals (unfold impl_cases.g; repeat (first | rw [if_pos (by omega)] | rw [if_neg (by omega)]))
  all_goals (try (simp only [Prod.mk.injEq, and_true, true_and]; omega))
set_option maxHeartbeats 8000000 in
set_option maxRecDepth 100000 in
theorem impl_cases.walk2 (a0 : Int) (w : World) (hc : ¬ (512 ≤ a0 ∧ a0 < 1280)) (h0 : 0 ≤ a0) (h1 : a0 ≤ 1114111) : Calls Tryd.prog 230 #[.int .i64 a0] w (impl_cases.Post a0 w) := by
  have C := fun W => impl_block.calls a0 0 0 W (by unfold impl_block.f; rw [if_neg hc])
  obtain ⟨c, hk⟩ : ∃ c, (impl_kind.g a0).1 = c := ⟨_, rfl⟩
  have CC := fun W => impl_Category.calls a0 c W (by rw [← hk]; rfl)
  have hc' : a0 < 512 ∨ 1280 ≤ a0 := by omega
  have hc1 := Aside0.mk hc'
  have hk1 := Aside0.mk hk
  clear hc hc' hk
  go_enter Tryd.func230, Tryd.ntmps230
  go_wp2_with (first | (go_at_call 155; refine (C _).mono ?_; rintro e w1 ⟨rfl, ⟨nd, rfl⟩⟩) | (go_at_call 76; refine (impl_kind.inC _ _ _ _).mono ?_; rintro e w1 ⟨rfl, rfl⟩) | (go_at_call 14; refine (CC _).mono ?_; rintro e w1 ⟨rfl, ⟨nd1, rfl⟩⟩))
  all_goals
    go_ret3
    refine impl_cases.post ?_ (by repeat (first | exact Drawn0.refl _ | apply Drawn0.step))
    have hc2 := hc1.out
    have hk2 := hk1.out
    go_light
    try simp only [beq_iff_eq, beq_eq_false_iff_ne, ne_eq] at *
  all_goals (try (exfalso; omega))
  all_goals (unfold impl_cases.g; try rw [hk2]; repeat (first | rw [if_pos (by omega)] | rw [if_neg (by omega)]))
  all_goals (try (simp only [Prod.mk.injEq, and_true, true_and]; omega))
theorem impl_cases.calls (a0 : Int) (r1 : Int) (r2 : Int) (r3 : Int) (w : World) (h : impl_cases.f a0 = some (r1, r2, r3)) :
    Calls Tryd.prog 230 #[.int .i64 a0] w fun e w' => e = .returned (.tuple #[.int .i64 r1, .int .i64 r2, .int .i64 r3]) ∧ Drawn0 w w' := by
  unfold impl_cases.f at h
  split at h
  · rename_i hp
    have h := Option.some.inj h
    have hw : Calls Tryd.prog 230 #[.int .i64 a0] w (impl_cases.Post a0 w) := by
      by_cases hc : 512 ≤ a0 ∧ a0 < 1280
      · exact impl_cases.walk1 a0 w hc
      · exact impl_cases.walk2 a0 w hc hp.1 hp.2
    refine hw.mono fun e w' hp => ?_
    unfold impl_cases.Post at hp
    rw [h] at hp
    exact hp
  · cases h

/-! ### impl_SimpleLower: function 229 -/
def impl_SimpleLower.f (a0 : Int) : Option (Int) := (impl_isPoint.f a0).bind fun t275 => (if t275 = true then ((impl_cases.f a0).bind fun bt276 => (some bt276.2.2)) else (some 0))
set_option maxHeartbeats 8000000 in
set_option maxRecDepth 100000 in
theorem impl_SimpleLower.calls (a0 : Int) (r : Int) (w : World) (h : impl_SimpleLower.f a0 = some r) :
    Calls Tryd.prog 229 #[.int .i64 a0] w fun e w' => e = .returned (.int .i64 r) ∧ Drawn0 w w' := by
  have H : ((impl_isPoint.f a0).bind fun t275 => (if t275 = true then ((impl_cases.f a0).bind fun bt276 => (some bt276.2.2)) else (some 0))) = some r := h
  clear h
  replace H := Option.bind_eq_some_iff.mp H
  obtain ⟨t275, A20, H⟩ := H
  replace H : (if t275 = true then ((impl_cases.f a0).bind fun bt276 => (some bt276.2.2)) else (some 0)) = some r := H
  have A2 := Aside0.mk A20
  clear A20
  by_cases c3 : t275 = true
  · subst c3
    have H1 : ((impl_cases.f a0).bind fun bt276 => (some bt276.2.2)) = some r := by rw [if_pos rfl] at H; exact H
    clear H
    have H := H1
    clear H1
    replace H := Option.bind_eq_some_iff.mp H
    obtain ⟨⟨t276, t277, t278⟩, A40, H⟩ := H
    replace H : (some t278) = some r := H
    have A4 := Aside0.mk A40
    clear A40
    obtain rfl := Option.some.inj H
    go_enter Tryd.func229, Tryd.ntmps229
    go_wp2_with (first | ((with_reducible refine gate_callee (f := 87) rfl ?_); refine goesL_ (some 7) rfl rfl Tryd.func87 (by kernel_rfl) rfl #[.int .i64 a0] rfl (by (try simp only [List.map_toArray, List.map_cons, List.map_nil]); first | done | rfl | (simp only [List.length_drop, List.length_take]; rfl)) ?_; (with_reducible refine (impl_isPoint.calls a0 true _ A2.out).mono ?_); rintro e w' ⟨rfl, ⟨nd, rfl⟩⟩; refine ⟨_, rfl, ?_⟩) | ((with_reducible refine gate_callee (f := 230) rfl ?_); refine goesL_ (some 11) rfl rfl Tryd.func230 (by kernel_rfl) rfl #[.int .i64 a0] rfl (by (try simp only [List.map_toArray, List.map_cons, List.map_nil]); first | done | rfl | (simp only [List.length_drop, List.length_take]; rfl)) ?_; (with_reducible refine (impl_cases.calls a0 t276 t277 t278 _ A4.out).mono ?_); rintro e w' ⟨rfl, ⟨nd, rfl⟩⟩; refine ⟨_, rfl, ?_⟩))
    go_ret
    exact ⟨by first | rfl | (simp; done) | (simp [*]; done), by repeat (first | exact Drawn0.refl _ | apply Drawn0.step)⟩
  · replace c3 := Bool.eq_false_iff.mpr c3
    subst c3
    have H1 : (some 0) = some r := by rw [if_neg (show ¬ (false = true) by decide)] at H; exact H
    clear H
    have H := H1
    clear H1
    obtain rfl := Option.some.inj H
    go_enter Tryd.func229, Tryd.ntmps229
    go_wp2_with (first | ((with_reducible refine gate_callee (f := 87) rfl ?_); refine goesL_ (some 7) rfl rfl Tryd.func87 (by kernel_rfl) rfl #[.int .i64 a0] rfl (by (try simp only [List.map_toArray, List.map_cons, List.map_nil]); first | done | rfl | (simp only [List.length_drop, List.length_take]; rfl)) ?_; (with_reducible refine (impl_isPoint.calls a0 false _ A2.out).mono ?_); rintro e w' ⟨rfl, ⟨nd, rfl⟩⟩; refine ⟨_, rfl, ?_⟩))
    go_ret
    exact ⟨by first | rfl | (simp; done) | (simp [*]; done), by repeat (first | exact Drawn0.refl _ | apply Drawn0.step)⟩

end Go.Proofs.YtnonijganceneaaDoor.QFnExactTitle
