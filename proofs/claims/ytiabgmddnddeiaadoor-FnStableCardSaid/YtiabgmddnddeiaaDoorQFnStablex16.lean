/- The law FnStable: at every input the call answers true (this text: contracts on its way, by a program of this session's; no condition of ours). -/
import Derived.Test.YtiabgmddnddeiaaDoorQFnStablex0
import Derived.Test.YtiabgmddnddeiaaDoorQFnStablex1
import Derived.Test.YtiabgmddnddeiaaDoorQFnStablex5
import Derived.Test.YtiabgmddnddeiaaDoorQFnStablex11
import Derived.Test.YtiabgmddnddeiaaDoorQFnStablex12
import Derived.Test.YtiabgmddnddeiaaDoorQFnStablex13
import Derived.Test.YtiabgmddnddeiaaDoorQFnStablex15
namespace Go.Proofs.YtiabgmddnddeiaaDoor.QFnStable
open Go.RowKit Go.Proofs.YtiabgmddnddeiaaDoorW.PrintWords Go.Proofs.YtiabgmddnddeiaaDoorW.PrintLast Go.Proofs.YtiabgmddnddeiaaDoorW.PrintMore
attribute [local go_sem] max2_int min2_int max_two min_two max_three min_three max_four min_four   -- for this text's walks alone
set_option linter.unusedVariables false
set_option linter.unusedSimpArgs false

/-! ### impl_norm: function 89 -/
def impl_norm.f (a0 : Int) (a1 : ByteArray) : Option (ByteArray) := (W_impl_points.f a1).bind fun t746 => ((impl_normal.f a0 t746).bind fun t749 => ((W_impl_write.f t749).bind fun t752 => (some t752)))
set_option maxHeartbeats 8000000 in
set_option maxRecDepth 100000 in
theorem impl_norm.calls (a0 : Int) (a1 : ByteArray) (r : ByteArray) (w : World) (h : impl_norm.f a0 a1 = some r) (hG : GT w) :
    Calls Tryd.prog 89 #[.int .i64 a0, .string a1] w fun e w' => e = .returned (.string r) ∧ Below w.heap.size w w' := by
  have HG := Aside0.mk hG
  clear hG
  have HB := Aside0.mk (Below.refl w.heap.size w)
  have H : ((W_impl_points.f a1).bind fun t746 => ((impl_normal.f a0 t746).bind fun t749 => ((W_impl_write.f t749).bind fun t752 => (some t752)))) = some r := h
  clear h
  replace H := Option.bind_eq_some_iff.mp H
  obtain ⟨t746, A30, H⟩ := H
  replace H : ((impl_normal.f a0 t746).bind fun t749 => ((W_impl_write.f t749).bind fun t752 => (some t752))) = some r := H
  have A3 := Aside0.mk A30
  clear A30
  replace H := Option.bind_eq_some_iff.mp H
  obtain ⟨t749, A40, H⟩ := H
  replace H : ((W_impl_write.f t749).bind fun t752 => (some t752)) = some r := H
  have A4 := Aside0.mk A40
  clear A40
  replace H := Option.bind_eq_some_iff.mp H
  obtain ⟨t752, A50, H⟩ := H
  replace H : (some t752) = some r := H
  have A5 := Aside0.mk A50
  clear A50
  obtain rfl := Option.some.inj H
  go_enter Tryd.func89, Tryd.ntmps89
  go_wp2_with (first | ((with_reducible refine gate_callee (f := 91) rfl ?_); refine goesL_ (some 7) rfl rfl Tryd.func91 (by kernel_rfl) rfl #[.string a1] rfl (by (try simp only [List.map_toArray, List.map_cons, List.map_nil]); first | done | rfl | (simp only [List.length_drop, List.length_take]; rfl)) ?_; (with_reducible refine (W_impl_points.calls a1 t746 _ A3.out (by first | exact HG.out | exact GT.below HG.out (by first | exact HB.out | (repeat (first | (with_reducible first | exact HB.out | apply below_alloc | apply pw_below_drewN | apply below_drew1 | refine below_set ?_ (Aside0.out (by assumption))) | exact HB.out))) | exact GT.below HG.out (HB.out))).mono ?_); rintro e w6 ⟨v747, rfl, ho0, hb⟩; refine ⟨_, rfl, ?_⟩; have n0_ := Aside0.mk (Kd.R_lower ho0 (below_size (by repeat (first | (with_reducible first | exact HB.out | apply below_alloc | apply pw_below_drewN | apply below_drew1) | exact HB.out)))); have n1_ := Aside0.mk (below_step (by repeat (first | (with_reducible first | exact HB.out | apply below_alloc | apply pw_below_drewN | apply below_drew1) | exact HB.out)) hb); clear HB; have HO748 := n0_; have HB := n1_; clear n0_ n1_; (try clear hb); (try clear hb2); (try clear hk); (try clear hi); (try clear ho0); obtain ⟨Ao7, co7, eo7⟩ := Kd.R_slice HO748.out; subst eo7) | ((with_reducible refine gate_callee (f := 94) rfl ?_); refine goesL_ (some 8) rfl rfl Tryd.func94 (by kernel_rfl) rfl #[.int .i64 a0, .slice Ao7 t746.length co7] rfl (by (try simp only [List.map_toArray, List.map_cons, List.map_nil]); first | done | rfl | (simp only [List.length_drop, List.length_take]; rfl)) ?_; (with_reducible refine (impl_normal.calls a0 _ _ t746 t749 _ ?side1 ?side2 A4.out).mono ?_); (case side1 => repeat (first | exact (Kd.R_reads' HO748.out).2.2 | (with_reducible refine Kd.C_alloc ?_ _) | (with_reducible refine Kd.C_drewN ?_ _) | (with_reducible refine Kd.C_drew ?_))); (case side2 => exact (Kd.R_reads' HO748.out).2.1); rintro e w8 ⟨v750, rfl, ho0, hb⟩; refine ⟨_, rfl, ?_⟩; have n0_ := Aside0.mk (Kd.R_elder' (by (with_reducible repeat (first | apply Kd.R_alloc | apply Kd.R_drewN | apply Kd.R_drew)); exact HO748.out) (Kd.R_base ho0) hb); have n1_ := Aside0.mk (Kd.R_lower (Kd.R_new' ho0 (Kd.R_lt (by (with_reducible repeat (first | apply Kd.R_alloc | apply Kd.R_drewN | apply Kd.R_drew)); exact HO748.out))) (below_size (by repeat (first | (with_reducible first | exact HB.out | apply below_alloc | apply pw_below_drewN | apply below_drew1) | exact HB.out)))); have n2_ := Aside0.mk (below_step (by repeat (first | (with_reducible first | exact HB.out | apply below_alloc | apply pw_below_drewN | apply below_drew1) | exact HB.out)) hb); clear HO748; clear HB; have HO748 := n0_; have HO751 := n1_; have HB := n2_; clear n0_ n1_ n2_; (try clear hb); (try clear hb2); (try clear hk); (try clear hi); (try clear ho0); obtain ⟨Ao9, co9, eo9⟩ := Kd.R_slice HO751.out; subst eo9) | ((with_reducible refine gate_callee (f := 93) rfl ?_); refine goesL_ (some 9) rfl rfl Tryd.func93 (by kernel_rfl) rfl #[.slice Ao9 t749.length co9] rfl (by (try simp only [List.map_toArray, List.map_cons, List.map_nil]); first | done | rfl | (simp only [List.length_drop, List.length_take]; rfl)) ?_; (with_reducible refine (W_impl_write.calls _ _ t749 t752 _ ?side1 ?side2 A5.out).mono ?_); (case side1 => repeat (first | exact (Kd.R_reads' HO751.out).2.2 | (with_reducible refine Kd.C_alloc ?_ _) | (with_reducible refine Kd.C_drewN ?_ _) | (with_reducible refine Kd.C_drew ?_))); (case side2 => exact (Kd.R_reads' HO751.out).2.1); rintro e w10 ⟨rfl, hb⟩; refine ⟨_, rfl, ?_⟩; have n0_ := Aside0.mk (Kd.R_below (by (with_reducible repeat (first | apply Kd.R_alloc | apply Kd.R_drewN | apply Kd.R_drew)); exact HO748.out) hb); have n1_ := Aside0.mk (Kd.R_below (by (with_reducible repeat (first | apply Kd.R_alloc | apply Kd.R_drewN | apply Kd.R_drew)); exact HO751.out) hb); have n2_ := Aside0.mk (below_step (by repeat (first | (with_reducible first | exact HB.out | apply below_alloc | apply pw_below_drewN | apply below_drew1) | exact HB.out)) hb); clear HO748; clear HO751; clear HB; have HO748 := n0_; have HO751 := n1_; have HB := n2_; clear n0_ n1_ n2_; (try clear hb); (try clear hb2); (try clear hk); (try clear hi)))
  go_ret
  exact ⟨by first | rfl | (simp [errW_none, errW_some] <;> rfl) | (simp [*, errW_none, errW_some] <;> rfl), by repeat (first | (with_reducible first | exact HB.out | apply below_alloc | apply pw_below_drewN | apply below_drew1) | exact HB.out)⟩

theorem impl_norm.eq {f : Int} {t : ByteArray} (hf : 1 ≤ f ∧ f ≤ 4) (ht : t.size ≤ 100000000) : impl_norm.f f t = some (YtiabgmddnddeiaaDoorNst.N f t) := by
  unfold impl_norm.f W_impl_points.f
  rw [if_pos (by omega)]
  simp only [Option.bind_some]
  have h1 := YtiabgmddnddeiaaDoorNst.P_len t
  have h2 := YtiabgmddnddeiaaDoorNst.P_isP t
  have h3 := YtiabgmddnddeiaaDoorNst.nf_len f (YtiabgmddnddeiaaDoorNst.P t)
  unfold impl_normal.f
  rw [show YtiabgmddnddeiaaDoorPts.pts (bytesOf t) = YtiabgmddnddeiaaDoorNst.P t from rfl, if_pos ⟨hf.1, hf.2, by omega, YtiabgmddnddeiaaDoorNst.range h2⟩]
  simp only [Option.bind_some]
  unfold W_impl_write.f
  rw [if_pos (by omega)]
  rfl

/-! ### impl_Normalize: function 16 -/
def impl_Normalize.j0 : Nat → Int → ByteArray → Bool → Option (ByteArray)
 | 0, _, _, _ => none
 | k + 1, x0, x1, x11 => if x11 = true then (some (⟨#[]⟩ : ByteArray)) else ((impl_norm.f x0 x1).bind fun t755 => ((impl_short.f t755).bind fun t756 => (some t756)))
def impl_Normalize.f (k : Nat) (a0 : Int) (a1 : ByteArray) : Option (ByteArray) := (impl_long.f a1).bind fun t753 => (if t753 = true then (impl_Normalize.j0 k a0 a1 true) else ((impl_isNorm.f a0).bind fun t754 => (impl_Normalize.j0 k a0 a1 (!t754))))
theorem impl_Normalize.mono_l : ∀ k, (∀ y0 y1 y2, LeO (impl_Normalize.j0 k y0 y1 y2) (impl_Normalize.j0 (k + 1) y0 y1 y2))
 | 0 => fun _ _ _ r h => by simp [impl_Normalize.j0] at h
 | k + 1 => by
  have ih0 := impl_Normalize.mono_l k; intro y0 y1 y2
  unfold impl_Normalize.j0
  repeat' first
  | (with_reducible exact ih0 _ _ _)
  | (with_reducible exact LeO.refl _)
  | (with_reducible exact LeO.none _)
  | (with_reducible refine LeO.ite ?_ ?_)
  | (with_reducible refine LeO.bind ?_ (fun _ => ?_))
  | exact ih0 _ _ _
  | exact LeO.none _
  | refine LeO.ite ?_ ?_
  | refine LeO.bind ?_ (fun _ => ?_)
theorem impl_Normalize.mono : ∀ a0 a1 k, LeO (impl_Normalize.f k a0 a1) (impl_Normalize.f (k + 1) a0 a1) := by
 intro a0 a1 k
 have ih0 := impl_Normalize.mono_l k
 unfold impl_Normalize.f
 repeat' first
   | (with_reducible exact ih0 _ _ _)
   | (with_reducible exact LeO.refl _)
   | (with_reducible exact LeO.none _)
   | (with_reducible refine LeO.ite ?_ ?_)
   | (with_reducible refine LeO.bind ?_ (fun _ => ?_))
   | exact ih0 _ _ _
   | exact LeO.none _
   | refine LeO.ite ?_ ?_
   | refine LeO.bind ?_ (fun _ => ?_)
set_option maxHeartbeats 8000000 in
set_option maxRecDepth 100000 in
theorem impl_Normalize.calls (k : Nat) (a0 : Int) (a1 : ByteArray) (r : ByteArray) (w : World) (h : impl_Normalize.f k a0 a1 = some r) (hG : GT w) :
  Calls Tryd.prog 16 #[.int .i64 a0, .string a1] w fun e w' => e = .returned (.string r) ∧ Below w.heap.size w w' := by
 have HG := Aside0.mk hG
 clear hG
 have HB := Aside0.mk (Below.refl w.heap.size w)
 have H : ((impl_long.f a1).bind fun t753 => (if t753 = true then (impl_Normalize.j0 k a0 a1 true) else ((impl_isNorm.f a0).bind fun t754 => (impl_Normalize.j0 k a0 a1 (!t754))))) = some r := h
 clear h
 have HC3 := Aside0.mk H
 clear H
 go_enter Tryd.func16, Tryd.ntmps16
 go_upto_region 1 with (fail)
 go_cut [11] (fun v11 wc => ∃ (kq : Nat) (x11_2 : Bool), v11 = .bool x11_2 ∧ Aside0 (impl_Normalize.j0 kq a0 a1 x11_2 = some r) ∧ Aside0 (kq ≤ k) ∧ Aside0 (Below w.heap.size w wc))
 case first =>
  have H := HC3.out; clear HC3; replace H := Option.bind_eq_some_iff.mp H; obtain ⟨t753, A40, H⟩ := H
  try dsimp only at H
  have A4 := Aside0.mk A40; clear A40
  by_cases c5 : t753 = true
  ·subst c5
   have H1 : (impl_Normalize.j0 k a0 a1 true) = some r := by rw [if_pos rfl] at H; exact H
   clear H; have H := H1; clear H1; have H' := Aside0.mk H; clear H
   go_wp2_with (first | ((with_reducible refine gate_callee (f := 86) rfl ?_); refine goesL_ (some 6) rfl rfl Tryd.func86 (by kernel_rfl) rfl #[.string a1] rfl (by (try simp only [List.map_toArray, List.map_cons, List.map_nil]); first | done | rfl) ?_; (with_reducible refine (impl_long.calls a1 true _ A4.out).mono ?_); rintro e w' ⟨rfl, ⟨nd, rfl⟩⟩; refine ⟨_, rfl, ?_⟩))
   go_meet
   case rel => exact ⟨_, (true), (by first | rfl | (simp; done) | (simp [*]; done)), H', ⟨by first | omega | exact Nat.le_refl _⟩, ⟨belowA⟩⟩
  replace c5 := Bool.eq_false_iff.mpr c5; subst c5
  have H1 : ((impl_isNorm.f a0).bind fun t754 => (impl_Normalize.j0 k a0 a1 (!t754))) = some r := by rw [if_neg (show ¬ (false = true) by decide)] at H; exact H
  clear H; have H := H1; clear H1; replace H := Option.bind_eq_some_iff.mp H; obtain ⟨t754, A60, H⟩ := H
  try dsimp only at H
  have A6 := Aside0.mk A60; clear A60; have H' := Aside0.mk H; clear H
  go_wp2_with (first | ((with_reducible refine gate_callee (f := 86) rfl ?_); refine goesL_ (some 6) rfl rfl Tryd.func86 (by kernel_rfl) rfl #[.string a1] rfl (by (try simp only [List.map_toArray, List.map_cons, List.map_nil]); first | done | rfl) ?_; (with_reducible refine (impl_long.calls a1 false _ A4.out).mono ?_); rintro e w' ⟨rfl, ⟨nd, rfl⟩⟩; refine ⟨_, rfl, ?_⟩) | (go_at_call 87; (with_reducible refine (impl_isNorm.calls a0 t754 _ A6.out).mono ?_); rintro e w' ⟨rfl, ⟨nd, rfl⟩⟩))
  go_meet
  case rel => exact ⟨_, (!t754), (by first | rfl | (simp; done) | (simp [*]; done)), H', ⟨by first | omega | exact Nat.le_refl _⟩, ⟨belowA⟩⟩
 case rest =>
  clear HC3
  try clear c1; try clear p2; try clear c5
  obtain ⟨kq, x11_2, rfl, HA, HJ2, HB⟩ := hcut
  cases kq with
  | zero => exact absurd HA.out (by simp [impl_Normalize.j0])
  | succ kj2 =>
   have H := HA.out; clear HA; simp only [impl_Normalize.j0] at H
   by_cases c7 : x11_2 = true
   ·subst c7
    have H1 : (some (⟨#[]⟩ : ByteArray)) = some r := by rw [if_pos rfl] at H; exact H
    clear H; have H := H1; clear H1; obtain rfl := Option.some.inj H
    go_wp2
    go_ret
    exact ⟨by first | rfl | (simp [errW_none, errW_some] <;> rfl) | (simp [*, errW_none, errW_some] <;> rfl), belowA⟩
   replace c7 := Bool.eq_false_iff.mpr c7; subst c7
   have H1 : ((impl_norm.f a0 a1).bind fun t755 => ((impl_short.f t755).bind fun t756 => (some t756))) = some r := by rw [if_neg (show ¬ (false = true) by decide)] at H; exact H
   clear H; have H := H1; clear H1; replace H := Option.bind_eq_some_iff.mp H; obtain ⟨t755, A80, H⟩ := H
   try dsimp only at H
   have A8 := Aside0.mk A80; clear A80; replace H := Option.bind_eq_some_iff.mp H; obtain ⟨t756, A90, H⟩ := H
   try dsimp only at H
   have A9 := Aside0.mk A90; clear A90; obtain rfl := Option.some.inj H
   go_wp2_with (first | ((with_reducible refine gate_callee (f := 89) rfl ?_); refine goesL_ (some 14) rfl rfl Tryd.func89 (by kernel_rfl) rfl #[.int .i64 a0, .string a1] rfl (by (try simp only [List.map_toArray, List.map_cons, List.map_nil]); first | done | rfl) ?_; (with_reducible refine (impl_norm.calls a0 a1 t755 _ A8.out (by first | exact HG.out | exact GT.below HG.out (by first | exact HB.out | (repeat (first | (with_reducible first | exact HB.out | apply below_alloc | apply pw_below_drewN | apply below_drew1 | refine below_set ?_ (Aside0.out (by assumption))) | exact HB.out))) | exact GT.below HG.out (HB.out))).mono ?_); rintro e w10 ⟨rfl, hb⟩; refine ⟨_, rfl, ?_⟩; have n0_ := Aside0.mk (below_step (belowA) hb); clear HB; have HB := n0_; clear n0_; (try clear hb); (try clear hb2); (try clear hk); (try clear hi)) | ((with_reducible refine gate_callee (f := 88) rfl ?_); refine goesL_ (some 15) rfl rfl Tryd.func88 (by kernel_rfl) rfl #[.string t755] rfl (by (try simp only [List.map_toArray, List.map_cons, List.map_nil]); first | done | rfl) ?_; (with_reducible refine (impl_short.calls t755 t756 _ A9.out).mono ?_); rintro e w' ⟨rfl, ⟨nd, rfl⟩⟩; refine ⟨_, rfl, ?_⟩))
   go_ret
   exact ⟨by first | rfl | (simp [errW_none, errW_some] <;> rfl) | (simp [*, errW_none, errW_some] <;> rfl), belowA⟩

def W_impl_Normalize.f (f : Int) (t : ByteArray) : Option ByteArray := if t.size ≤ 100000000 then some (YtiabgmddnddeiaaDoorNst.NT f t) else none
theorem W_impl_Normalize.to {f : Int} {t : ByteArray} {r : ByteArray} (h : W_impl_Normalize.f f t = some r) : ∃ k, impl_Normalize.f k f t = some r := by
  unfold W_impl_Normalize.f at h
  split at h
  · rename_i ht
    refine ⟨1, ?_⟩
    rw [← h]
    unfold impl_Normalize.f YtiabgmddnddeiaaDoorNst.NT impl_long.f
    simp only [Option.bind_some]
    by_cases c : (t.size : Int) > 65536
    · rw [decide_eq_true c, if_pos rfl, if_pos (.inl c)]
      simp only [impl_Normalize.j0]
      rw [if_pos trivial]
    · rw [decide_eq_false c, if_neg (by decide), impl_isNorm.eq]
      simp only [Option.bind_some]
      simp only [impl_Normalize.j0]
      cases ho : YtiabgmddnddeiaaDoorNst.ok f with
      | false => rw [if_pos (by rfl), if_pos (.inr rfl)]
      | true =>
        rw [if_neg (by decide), impl_norm.eq (of_decide_eq_true ho) ht]
        simp only [Option.bind_some]
        rw [if_neg (by rintro (z | z); exact c z; cases z)]
        unfold impl_short.f impl_long.f YtiabgmddnddeiaaDoorNst.sh
        simp only [Option.bind_some]
        by_cases d : ((YtiabgmddnddeiaaDoorNst.N f t).size : Int) > 65536
        · rw [decide_eq_true d, if_pos rfl, if_pos d]; rfl
        · rw [decide_eq_false d, if_neg (by decide), if_neg d]; rfl
  · cases h
theorem W_impl_Normalize.calls (a0 : Int) (a1 : ByteArray) (r : ByteArray) (w : World) (h : W_impl_Normalize.f a0 a1 = some r) (hG : GT w) :
    Calls Tryd.prog 16 #[.int .i64 a0, .string a1] w fun e w' => e = .returned (.string r) ∧ Below w.heap.size w w' := by
  obtain ⟨k, hk⟩ := W_impl_Normalize.to h
  exact impl_Normalize.calls k a0 a1 r w hk hG

/-! ### utf8_ValidString: function 178 (by hand) -/
def utf8_ValidString.f (a0 : ByteArray) : Option Bool := if a0.size ≤ 9223372036854775807 then some (Lib.validD a0.data.toList) else none
theorem utf8_ValidString.calls (a0 : ByteArray) (r : Bool) (w : World) (h : utf8_ValidString.f a0 = some r) (hG : GT w) :
    Calls Tryd.prog 178 #[.string a0] w fun e w' => e = .returned (.bool r) ∧ Below w.heap.size w w' := by
  unfold utf8_ValidString.f at h
  split at h
  · rename_i hs
    obtain rfl := Option.some.inj h
    exact Tryd.utf8_ValidString a0 w hs hG
  · cases h

/-! ### impl_well: function 99 -/
def impl_well.f (a0 : ByteArray) : Option (Bool) := (utf8_ValidString.f a0).bind fun t757 => (some t757)
set_option maxHeartbeats 8000000 in
set_option maxRecDepth 100000 in
theorem impl_well.calls (a0 : ByteArray) (r : Bool) (w : World) (h : impl_well.f a0 = some r) (hG : GT w) :
    Calls Tryd.prog 99 #[.string a0] w fun e w' => e = .returned (.bool r) ∧ Below w.heap.size w w' := by
  have HG := Aside0.mk hG
  clear hG
  have HB := Aside0.mk (Below.refl w.heap.size w)
  have H : ((utf8_ValidString.f a0).bind fun t757 => (some t757)) = some r := h
  clear h
  replace H := Option.bind_eq_some_iff.mp H
  obtain ⟨t757, A20, H⟩ := H
  replace H : (some t757) = some r := H
  have A2 := Aside0.mk A20
  clear A20
  obtain rfl := Option.some.inj H
  go_enter Tryd.func99, Tryd.ntmps99
  go_wp2_with (first | ((with_reducible refine gate_callee (f := 178) rfl ?_); refine goesL_ (some 4) rfl rfl Tryd.func178 (by kernel_rfl) rfl #[.string a0] rfl (by (try simp only [List.map_toArray, List.map_cons, List.map_nil]); first | done | rfl | (simp only [List.length_drop, List.length_take]; rfl)) ?_; (with_reducible refine (utf8_ValidString.calls a0 t757 _ A2.out (by first | exact HG.out | exact GT.below HG.out (by first | exact HB.out | (repeat (first | (with_reducible first | exact HB.out | apply below_alloc | apply pw_below_drewN | apply below_drew1 | refine below_set ?_ (Aside0.out (by assumption))) | exact HB.out))) | exact GT.below HG.out (HB.out))).mono ?_); rintro e w3 ⟨rfl, hb⟩; refine ⟨_, rfl, ?_⟩; have n0_ := Aside0.mk (below_step (by repeat (first | (with_reducible first | exact HB.out | apply below_alloc | apply pw_below_drewN | apply below_drew1) | exact HB.out)) hb); clear HB; have HB := n0_; clear n0_; (try clear hb); (try clear hb2); (try clear hk); (try clear hi)))
  go_ret
  exact ⟨by first | rfl | (simp [errW_none, errW_some] <;> rfl) | (simp [*, errW_none, errW_some] <;> rfl), by repeat (first | (with_reducible first | exact HB.out | apply below_alloc | apply pw_below_drewN | apply below_drew1) | exact HB.out)⟩

/-! ### impl_IsNormal: function 53 -/
def impl_IsNormal.f (a0 : Int) (a1 : ByteArray) : Option (Bool) := (impl_long.f a1).bind fun t758 => (if t758 = true then (some false) else ((impl_isNorm.f a0).bind fun t759 => (if t759 = true then ((impl_well.f a1).bind fun t760 => (if t760 = true then ((impl_norm.f a0 a1).bind fun t761 => (some (t761.toList == a1.toList))) else (some false))) else (some false))))
set_option maxHeartbeats 8000000 in
set_option maxRecDepth 100000 in
theorem impl_IsNormal.calls (a0 : Int) (a1 : ByteArray) (r : Bool) (w : World) (h : impl_IsNormal.f a0 a1 = some r) (hG : GT w) :
  Calls Tryd.prog 53 #[.int .i64 a0, .string a1] w fun e w' => e = .returned (.bool r) ∧ Below w.heap.size w w' := by
 have HG := Aside0.mk hG
 clear hG
 have HB := Aside0.mk (Below.refl w.heap.size w)
 have H : ((impl_long.f a1).bind fun t758 => (if t758 = true then (some false) else ((impl_isNorm.f a0).bind fun t759 => (if t759 = true then ((impl_well.f a1).bind fun t760 => (if t760 = true then ((impl_norm.f a0 a1).bind fun t761 => (some (t761.toList == a1.toList))) else (some false))) else (some false))))) = some r := h
 clear h
 replace H := Option.bind_eq_some_iff.mp H
 obtain ⟨t758, A30, H⟩ := H
 try dsimp only at H
 have A3 := Aside0.mk A30
 clear A30
 by_cases c4 : t758 = true
 ·subst c4
  have H1 : (some false) = some r := by rw [if_pos rfl] at H; exact H
  clear H; have H := H1; clear H1; obtain rfl := Option.some.inj H
  go_enter Tryd.func53, Tryd.ntmps53
  go_wp2_with (first | ((with_reducible refine gate_callee (f := 86) rfl ?_); refine goesL_ (some 6) rfl rfl Tryd.func86 (by kernel_rfl) rfl #[.string a1] rfl (by (try simp only [List.map_toArray, List.map_cons, List.map_nil]); first | done | rfl) ?_; (with_reducible refine (impl_long.calls a1 true _ A3.out).mono ?_); rintro e w' ⟨rfl, ⟨nd, rfl⟩⟩; refine ⟨_, rfl, ?_⟩))
  go_ret
  exact ⟨by first | rfl | (simp [errW_none, errW_some] <;> rfl) | (simp [*, errW_none, errW_some] <;> rfl), belowA⟩
 replace c4 := Bool.eq_false_iff.mpr c4
 subst c4
 have H1 : ((impl_isNorm.f a0).bind fun t759 => (if t759 = true then ((impl_well.f a1).bind fun t760 => (if t760 = true then ((impl_norm.f a0 a1).bind fun t761 => (some (t761.toList == a1.toList))) else (some false))) else (some false))) = some r := by rw [if_neg (show ¬ (false = true) by decide)] at H; exact H
 clear H
 have H := H1
 clear H1
 replace H := Option.bind_eq_some_iff.mp H
 obtain ⟨t759, A50, H⟩ := H
 try dsimp only at H
 have A5 := Aside0.mk A50
 clear A50
 by_cases c6 : t759 = true
 ·subst c6
  have H1 : ((impl_well.f a1).bind fun t760 => (if t760 = true then ((impl_norm.f a0 a1).bind fun t761 => (some (t761.toList == a1.toList))) else (some false))) = some r := by rw [if_pos rfl] at H; exact H
  clear H; have H := H1; clear H1; replace H := Option.bind_eq_some_iff.mp H; obtain ⟨t760, A70, H⟩ := H
  try dsimp only at H
  have A7 := Aside0.mk A70; clear A70
  by_cases c8 : t760 = true
  ·subst c8
   have H1 : ((impl_norm.f a0 a1).bind fun t761 => (some (t761.toList == a1.toList))) = some r := by rw [if_pos rfl] at H; exact H
   clear H; have H := H1; clear H1; replace H := Option.bind_eq_some_iff.mp H; obtain ⟨t761, A90, H⟩ := H
   try dsimp only at H
   have A9 := Aside0.mk A90; clear A90; obtain rfl := Option.some.inj H
   go_enter Tryd.func53, Tryd.ntmps53
   go_wp2_with (first | ((with_reducible refine gate_callee (f := 86) rfl ?_); refine goesL_ (some 6) rfl rfl Tryd.func86 (by kernel_rfl) rfl #[.string a1] rfl (by (try simp only [List.map_toArray, List.map_cons, List.map_nil]); first | done | rfl) ?_; (with_reducible refine (impl_long.calls a1 false _ A3.out).mono ?_); rintro e w' ⟨rfl, ⟨nd, rfl⟩⟩; refine ⟨_, rfl, ?_⟩) | (go_at_call 87; (with_reducible refine (impl_isNorm.calls a0 true _ A5.out).mono ?_); rintro e w' ⟨rfl, ⟨nd, rfl⟩⟩) | (go_at_call 99; (with_reducible refine (impl_well.calls a1 true _ A7.out (by first | exact HG.out | exact GT.below HG.out (by first | exact HB.out | (repeat (first | (with_reducible first | exact HB.out | apply below_alloc | apply pw_below_drewN | apply below_drew1 | refine below_set ?_ (Aside0.out (by assumption))) | exact HB.out))) | exact GT.below HG.out (HB.out))).mono ?_); rintro e w10 ⟨rfl, hb⟩; have n0_ := Aside0.mk (below_step (belowA) hb); clear HB; have HB := n0_; clear n0_; (try clear hb); (try clear hb2); (try clear hk); (try clear hi)) | (go_at_call 89; (with_reducible refine (impl_norm.calls a0 a1 t761 _ A9.out (by first | exact HG.out | exact GT.below HG.out (by first | exact HB.out | (repeat (first | (with_reducible first | exact HB.out | apply below_alloc | apply pw_below_drewN | apply below_drew1 | refine below_set ?_ (Aside0.out (by assumption))) | exact HB.out))) | exact GT.below HG.out (HB.out))).mono ?_); rintro e w11 ⟨rfl, hb⟩; have n0_ := Aside0.mk (below_step (belowA) hb); clear HB; have HB := n0_; clear n0_; (try clear hb); (try clear hb2); (try clear hk); (try clear hi)))
   go_ret
   exact ⟨by first | rfl | (simp [errW_none, errW_some] <;> rfl) | (simp [*, errW_none, errW_some] <;> rfl), belowA⟩
  replace c8 := Bool.eq_false_iff.mpr c8; subst c8
  have H1 : (some false) = some r := by rw [if_neg (show ¬ (false = true) by decide)] at H; exact H
  clear H; have H := H1; clear H1; obtain rfl := Option.some.inj H
  go_enter Tryd.func53, Tryd.ntmps53
  go_wp2_with (first | ((with_reducible refine gate_callee (f := 86) rfl ?_); refine goesL_ (some 6) rfl rfl Tryd.func86 (by kernel_rfl) rfl #[.string a1] rfl (by (try simp only [List.map_toArray, List.map_cons, List.map_nil]); first | done | rfl) ?_; (with_reducible refine (impl_long.calls a1 false _ A3.out).mono ?_); rintro e w' ⟨rfl, ⟨nd, rfl⟩⟩; refine ⟨_, rfl, ?_⟩) | (go_at_call 87; (with_reducible refine (impl_isNorm.calls a0 true _ A5.out).mono ?_); rintro e w' ⟨rfl, ⟨nd, rfl⟩⟩) | (go_at_call 99; (with_reducible refine (impl_well.calls a1 false _ A7.out (by first | exact HG.out | exact GT.below HG.out (by first | exact HB.out | (repeat (first | (with_reducible first | exact HB.out | apply below_alloc | apply pw_below_drewN | apply below_drew1 | refine below_set ?_ (Aside0.out (by assumption))) | exact HB.out))) | exact GT.below HG.out (HB.out))).mono ?_); rintro e w12 ⟨rfl, hb⟩; have n0_ := Aside0.mk (below_step (belowA) hb); clear HB; have HB := n0_; clear n0_; (try clear hb); (try clear hb2); (try clear hk); (try clear hi)))
  go_ret
  exact ⟨by first | rfl | (simp [errW_none, errW_some] <;> rfl) | (simp [*, errW_none, errW_some] <;> rfl), belowA⟩
 replace c6 := Bool.eq_false_iff.mpr c6
 subst c6
 have H1 : (some false) = some r := by rw [if_neg (show ¬ (false = true) by decide)] at H; exact H
 clear H
 have H := H1
 clear H1
 obtain rfl := Option.some.inj H
 go_enter Tryd.func53, Tryd.ntmps53
 go_wp2_with (first | ((with_reducible refine gate_callee (f := 86) rfl ?_); refine goesL_ (some 6) rfl rfl Tryd.func86 (by kernel_rfl) rfl #[.string a1] rfl (by (try simp only [List.map_toArray, List.map_cons, List.map_nil]); first | done | rfl) ?_; (with_reducible refine (impl_long.calls a1 false _ A3.out).mono ?_); rintro e w' ⟨rfl, ⟨nd, rfl⟩⟩; refine ⟨_, rfl, ?_⟩) | (go_at_call 87; (with_reducible refine (impl_isNorm.calls a0 false _ A5.out).mono ?_); rintro e w' ⟨rfl, ⟨nd, rfl⟩⟩))
 go_ret
 exact ⟨by first | rfl | (simp [errW_none, errW_some] <;> rfl) | (simp [*, errW_none, errW_some] <;> rfl), belowA⟩

theorem impl_IsNormal.eq {f : Int} {t : ByteArray} (ht : t.size ≤ 100000000) : impl_IsNormal.f f t = some (YtiabgmddnddeiaaDoorNst.IsN f t) := by
  unfold impl_IsNormal.f YtiabgmddnddeiaaDoorNst.IsN impl_long.f
  simp only [Option.bind_some]
  by_cases c : (t.size : Int) > 65536
  · rw [decide_eq_true c, if_pos rfl, if_pos (.inl c)]
  · rw [decide_eq_false c, if_neg (by decide), impl_isNorm.eq]
    simp only [Option.bind_some]
    cases ho : YtiabgmddnddeiaaDoorNst.ok f with
    | false => rw [if_neg (by decide), if_pos (.inr rfl)]
    | true =>
      rw [if_pos rfl, if_neg (by rintro (z | z); exact c z; cases z)]
      unfold impl_well.f utf8_ValidString.f
      rw [if_pos (by omega)]
      simp only [Option.bind_some]
      cases hv : Lib.validD t.data.toList with
      | true =>
        rw [if_pos rfl, impl_norm.eq (of_decide_eq_true ho) ht]
        rfl
      | false =>
        rw [if_neg (by decide)]
        congr 1
        symm
        rw [beq_eq_false_iff_ne]
        intro e
        rw [YtiabgmddnddeiaaDoorNst.IsN_well e] at hv
        cases hv

/-! ### laws_FnStable: function 8 -/
mutual
def laws_FnStable.l0 : Nat → ByteArray → Int → Option (Bool)
 | 0, _, _ => none
 | k + 1, x4, x5 => if x5 ≤ 4 then ((W_impl_Normalize.f x5 x4).bind fun t764 => ((W_spec_Normalize.f x5 x4).bind fun t765 => (if t764.toList = t765.toList then (if t764.toList = ([] : List UInt8) then (laws_FnStable.j1 k x4 x5 t764 (x4.toList != ([] : List UInt8))) else (laws_FnStable.j1 k x4 x5 t764 false)) else (some false)))) else (some true)
def laws_FnStable.j1 : Nat → ByteArray → Int → ByteArray → Bool → Option (Bool)
 | 0, _, _, _, _ => none
 | k + 1, x4, x5, x6, x34 => if x34 = true then (laws_FnStable.l0 k x4 (wrap64 (x5 + 1))) else ((W_impl_Normalize.f x5 x6).bind fun t766 => (if t766.toList = x6.toList then ((impl_IsNormal.f x5 x6).bind fun t767 => (laws_FnStable.j2 k x4 x5 x6 (!t767))) else (laws_FnStable.j2 k x4 x5 x6 true)))
def laws_FnStable.j2 : Nat → ByteArray → Int → ByteArray → Bool → Option (Bool)
 | 0, _, _, _, _ => none
 | k + 1, x4, x5, x6, x45 => if x45 = true then (some false) else (if (Int.tmod x5 2) = 0 then (laws_FnStable.j3 k x4 x5 x6 (wrap64 (x5 - 1))) else (laws_FnStable.j3 k x4 x5 x6 (wrap64 (x5 + 1))))
def laws_FnStable.j3 : Nat → ByteArray → Int → ByteArray → Int → Option (Bool)
 | 0, _, _, _, _ => none
 | k + 1, x4, x5, x6, x7 => (W_spec_Normalize.f x7 x6).bind fun t768 => ((W_spec_Normalize.f x7 x4).bind fun t769 => (if t769.toList = ([] : List UInt8) then (laws_FnStable.l0 k x4 (wrap64 (x5 + 1))) else (if t768.toList = ([] : List UInt8) then (laws_FnStable.l0 k x4 (wrap64 (x5 + 1))) else ((W_impl_Normalize.f x7 x6).bind fun t770 => ((W_impl_Normalize.f x7 x4).bind fun t771 => (if t770.toList = t771.toList then (laws_FnStable.l0 k x4 (wrap64 (x5 + 1))) else (some false)))))))
end
def laws_FnStable.f (k : Nat) (l0 : List Int) : Option (Bool) := if (l0.length : Int) > 1048576 then (some true) else ((W_spec_DrawNormalize.f l0).bind fun bt762 => (laws_FnStable.l0 k bt762.2 1))
theorem laws_FnStable.mono_l : ∀ k, (∀ y0 y1, LeO (laws_FnStable.l0 k y0 y1) (laws_FnStable.l0 (k + 1) y0 y1)) ∧ (∀ y0 y1 y2 y3, LeO (laws_FnStable.j1 k y0 y1 y2 y3) (laws_FnStable.j1 (k + 1) y0 y1 y2 y3)) ∧ (∀ y0 y1 y2 y3, LeO (laws_FnStable.j2 k y0 y1 y2 y3) (laws_FnStable.j2 (k + 1) y0 y1 y2 y3)) ∧ (∀ y0 y1 y2 y3, LeO (laws_FnStable.j3 k y0 y1 y2 y3) (laws_FnStable.j3 (k + 1) y0 y1 y2 y3))
 | 0 => ⟨fun _ _ r h => by simp [laws_FnStable.l0] at h, fun _ _ _ _ r h => by simp [laws_FnStable.j1] at h, fun _ _ _ _ r h => by simp [laws_FnStable.j2] at h, fun _ _ _ _ r h => by simp [laws_FnStable.j3] at h⟩
 | k + 1 => by
  obtain ⟨ih0, ih1, ih2, ih3⟩ := laws_FnStable.mono_l k; refine ⟨?_, ?_, ?_, ?_⟩
  ·intro y0 y1
   unfold laws_FnStable.l0
   repeat' first
   | (with_reducible exact ih0 _ _)
   | (with_reducible exact ih1 _ _ _ _)
   | (with_reducible exact ih2 _ _ _ _)
   | (with_reducible exact ih3 _ _ _ _)
   | (with_reducible exact LeO.refl _)
   | (with_reducible exact LeO.none _)
   | (with_reducible refine LeO.ite ?_ ?_)
   | (with_reducible refine LeO.bind ?_ (fun _ => ?_))
   | exact ih0 _ _
   | exact ih1 _ _ _ _
   | exact ih2 _ _ _ _
   | exact ih3 _ _ _ _
   | exact LeO.none _
   | refine LeO.ite ?_ ?_
   | refine LeO.bind ?_ (fun _ => ?_)
  ·intro y0 y1 y2 y3
   unfold laws_FnStable.j1
   repeat' first
   | (with_reducible exact ih0 _ _)
   | (with_reducible exact ih1 _ _ _ _)
   | (with_reducible exact ih2 _ _ _ _)
   | (with_reducible exact ih3 _ _ _ _)
   | (with_reducible exact LeO.refl _)
   | (with_reducible exact LeO.none _)
   | (with_reducible refine LeO.ite ?_ ?_)
   | (with_reducible refine LeO.bind ?_ (fun _ => ?_))
   | exact ih0 _ _
   | exact ih1 _ _ _ _
   | exact ih2 _ _ _ _
   | exact ih3 _ _ _ _
   | exact LeO.none _
   | refine LeO.ite ?_ ?_
   | refine LeO.bind ?_ (fun _ => ?_)
  ·intro y0 y1 y2 y3
   unfold laws_FnStable.j2
   repeat' first
   | (with_reducible exact ih0 _ _)
   | (with_reducible exact ih1 _ _ _ _)
   | (with_reducible exact ih2 _ _ _ _)
   | (with_reducible exact ih3 _ _ _ _)
   | (with_reducible exact LeO.refl _)
   | (with_reducible exact LeO.none _)
   | (with_reducible refine LeO.ite ?_ ?_)
   | (with_reducible refine LeO.bind ?_ (fun _ => ?_))
   | exact ih0 _ _
   | exact ih1 _ _ _ _
   | exact ih2 _ _ _ _
   | exact ih3 _ _ _ _
   | exact LeO.none _
   | refine LeO.ite ?_ ?_
   | refine LeO.bind ?_ (fun _ => ?_)
  intro y0 y1 y2 y3
  unfold laws_FnStable.j3
  repeat' first
  | (with_reducible exact ih0 _ _)
  | (with_reducible exact ih1 _ _ _ _)
  | (with_reducible exact ih2 _ _ _ _)
  | (with_reducible exact ih3 _ _ _ _)
  | (with_reducible exact LeO.refl _)
  | (with_reducible exact LeO.none _)
  | (with_reducible refine LeO.ite ?_ ?_)
  | (with_reducible refine LeO.bind ?_ (fun _ => ?_))
  | exact ih0 _ _
  | exact ih1 _ _ _ _
  | exact ih2 _ _ _ _
  | exact ih3 _ _ _ _
  | exact LeO.none _
  | refine LeO.ite ?_ ?_
  | refine LeO.bind ?_ (fun _ => ?_)
theorem laws_FnStable.mono : ∀ a0 k, LeO (laws_FnStable.f k a0) (laws_FnStable.f (k + 1) a0) := by
 intro a0 k
 obtain ⟨ih0, ih1, ih2, ih3⟩ := laws_FnStable.mono_l k
 unfold laws_FnStable.f
 repeat' first
   | (with_reducible exact ih0 _ _)
   | (with_reducible exact ih1 _ _ _ _)
   | (with_reducible exact ih2 _ _ _ _)
   | (with_reducible exact ih3 _ _ _ _)
   | (with_reducible exact LeO.refl _)
   | (with_reducible exact LeO.none _)
   | (with_reducible refine LeO.ite ?_ ?_)
   | (with_reducible refine LeO.bind ?_ (fun _ => ?_))
   | exact ih0 _ _
   | exact ih1 _ _ _ _
   | exact ih2 _ _ _ _
   | exact ih3 _ _ _ _
   | exact LeO.none _
   | refine LeO.ite ?_ ?_
   | refine LeO.bind ?_ (fun _ => ?_)
set_option maxHeartbeats 8000000 in
set_option maxRecDepth 100000 in
theorem laws_FnStable.calls (k : Nat) (A0 : Option Addr) (c0 : Nat) (l0 : List Int) (r : Bool) (w : World) (hr0 : Kd.C (Kd.int .u8) w A0 l0.length l0) (hc0 : l0.length ≤ c0) (h : laws_FnStable.f k l0 = some r) (hG : GT w) :
  Calls Tryd.prog 8 #[.slice A0 l0.length c0] w fun e w' => e = .returned (.bool r) ∧ Below w.heap.size w w' := by
 have HG := Aside0.mk hG
 clear hG
 have HR0 := Aside0.mk hr0
 have HC0 := Aside0.mk hc0
 clear hr0 hc0
 have HB := Aside0.mk (Below.refl w.heap.size w)
 have H : (if (l0.length : Int) > 1048576 then (some true) else ((W_spec_DrawNormalize.f l0).bind fun bt762 => (laws_FnStable.l0 k bt762.2 1))) = some r := h
 clear h
 by_cases c2 : (l0.length : Int) > 1048576
 ·rw [if_pos c2] at H
  have c2b0 : decide (1048576 < (l0.length : Int)) = true := decide_eq_true c2
  have c2b1 : decide (1048576 < l0.length) = true := decide_eq_true (by omega)
  clear c2; obtain rfl := Option.some.inj H
  go_enter Tryd.func8, Tryd.ntmps8
  go_wp2
  go_ret
  exact ⟨by first | rfl | (simp [errW_none, errW_some] <;> rfl) | (simp [*, errW_none, errW_some] <;> rfl), belowA⟩
 rw [if_neg c2] at H
 have c2b0 : decide (1048576 < (l0.length : Int)) = false := decide_eq_false c2
 have c2b1 : decide (1048576 < l0.length) = false := decide_eq_false (by omega)
 clear c2
 replace H := Option.bind_eq_some_iff.mp H
 obtain ⟨⟨t762, t763⟩, A30, H⟩ := H
 try dsimp only at H
 have A3 := Aside0.mk A30
 clear A30
 have H' := Aside0.mk H
 clear H
 go_enter Tryd.func8, Tryd.ntmps8
 go_wp2_with (first | ((with_reducible refine gate_callee (f := 14) rfl ?_); refine goesL_ (some 14) rfl rfl Tryd.func14 (by kernel_rfl) rfl #[.slice A0 l0.length c0] rfl (by (try simp only [List.map_toArray, List.map_cons, List.map_nil]); first | done | rfl) ?_; (with_reducible refine (W_spec_DrawNormalize.calls _ _ l0 t762 t763 _ ?side1 ?side2 A3.out).mono ?_); (case side1 => repeat (first | exact HR0.out | (with_reducible refine Kd.C_alloc ?_ _) | (with_reducible refine Kd.C_drewN ?_ _) | (with_reducible refine Kd.C_drew ?_))); (case side2 => exact HC0.out); rintro e w4 ⟨rfl, hb⟩; refine ⟨_, rfl, ?_⟩; have n0_ := Aside0.mk (below_step (belowA) hb); clear HB; have HB := n0_; clear n0_; (try clear hb); (try clear hb2); (try clear hk); (try clear hi)))
 go_loopg [5] k (fun kq v5 w' => ∃ (x5_1 : Int), v5 = .int .i64 x5_1 ∧ Aside0 (laws_FnStable.l0 kq t763 x5_1 = some r) ∧ Aside0 (kq ≤ k) ∧ Aside0 (Below w.heap.size w w'))
 case atStart => exact ⟨(1), (by first | rfl | (simp; done) | (simp [*]; done) | (generalize ByteArray.toList _ = z_; cases z_ <;> rfl)), H', ⟨Nat.le_refl _⟩, ⟨belowA⟩⟩
 case round =>
  clear H'
  try clear c1; try clear c2; try clear c2b0; try clear c2b1; try clear p2
  obtain ⟨x5_1, rfl, HA, HK1, HB⟩ := hrel
  cases gk with
  | zero => exact absurd HA.out (by simp [laws_FnStable.l0])
  | succ k1 =>
   have H := HA.out; clear HA; simp only [laws_FnStable.l0] at H
   by_cases c5 : x5_1 ≤ 4
   ·rw [if_pos c5] at H
    have c5b0 : decide (x5_1 ≤ 4) = true := decide_eq_true c5; clear c5; replace H := Option.bind_eq_some_iff.mp H; obtain ⟨t764, A60, H⟩ := H
    try dsimp only at H
    have A6 := Aside0.mk A60; clear A60; replace H := Option.bind_eq_some_iff.mp H; obtain ⟨t765, A70, H⟩ := H
    try dsimp only at H
    have A7 := Aside0.mk A70; clear A70
    by_cases c8 : t764.toList = t765.toList
    ·rw [if_pos c8] at H
     have c8b0 : (t764.toList == t765.toList) = true := beq_iff_eq.mpr c8; have c8b1 : (t764.toList != t765.toList) = false := bne_eq_false_iff_eq.mpr c8; clear c8; have HC9 := Aside0.mk H; clear H
     go_upto_region 10 with (first | ((with_reducible refine gate_callee (f := 16) rfl ?_); refine goesL_ (some 23) rfl rfl Tryd.func16 (by kernel_rfl) rfl #[.int .i64 x5_1, .string t763] rfl (by (try simp only [List.map_toArray, List.map_cons, List.map_nil]); first | done | rfl) ?_; (with_reducible refine (W_impl_Normalize.calls x5_1 t763 t764 _ A6.out (by first | exact HG.out | exact GT.below HG.out (by first | exact HB.out | (repeat (first | (with_reducible first | exact HB.out | apply below_alloc | apply pw_below_drewN | apply below_drew1 | refine below_set ?_ (Aside0.out (by assumption))) | exact HB.out))) | exact GT.below HG.out (HB.out))).mono ?_); rintro e w10 ⟨rfl, hb⟩; refine ⟨_, rfl, ?_⟩; have n0_ := Aside0.mk (below_step (belowA) hb); clear HB; have HB := n0_; clear n0_; (try clear hb); (try clear hb2); (try clear hk); (try clear hi)) | ((with_reducible refine gate_callee (f := 15) rfl ?_); refine goesL_ (some 27) rfl rfl Tryd.func15 (by kernel_rfl) rfl #[.int .i64 x5_1, .string t763] rfl (by (try simp only [List.map_toArray, List.map_cons, List.map_nil]); first | done | rfl) ?_; (with_reducible refine (W_spec_Normalize.calls x5_1 t763 t765 _ A7.out).mono ?_); rintro e w11 ⟨rfl, hb⟩; refine ⟨_, rfl, ?_⟩; have n0_ := Aside0.mk (below_step (belowA) hb); clear HB; have HB := n0_; clear n0_; (try clear hb); (try clear hb2); (try clear hk); (try clear hi)))
     (try simp only [Act.put, List.setIfInBounds_toArray, List.set_cons_zero, List.set_cons_succ])
     go_cut [34] (fun v34 wc => ∃ (kq : Nat) (x34_8 : Bool), v34 = .bool x34_8 ∧ Aside0 (laws_FnStable.j1 kq t763 x5_1 t764 x34_8 = some r) ∧ Aside0 (kq ≤ k1) ∧ Aside0 (Below w.heap.size w wc))
     case first =>
      have H := HC9.out; clear HC9
      by_cases c12 : t764.toList = ([] : List UInt8)
      ·rw [if_pos c12] at H
       have c12b0 : (t764.toList == ([] : List UInt8)) = true := beq_iff_eq.mpr c12; have c12b1 : (t764.toList != ([] : List UInt8)) = false := bne_eq_false_iff_eq.mpr c12; clear c12
       (first | rw [c12b0] | (simp only [i64_w, i32_w]; rw [c12b0]) | skip)
       have H' := Aside0.mk H; clear H
       go_wp2
       go_meet
       case rel => exact ⟨_, ((t763.toList != ([] : List UInt8))), (by first | rfl | (simp; done) | (simp [*]; done) | (generalize ByteArray.toList _ = z_; cases z_ <;> rfl)), H', ⟨by have := HK1.out; first | omega | exact Nat.le_refl _⟩, ⟨belowA⟩⟩
      rw [if_neg c12] at H; have c12b0 : (t764.toList == ([] : List UInt8)) = false := beq_eq_false_iff_ne.mpr c12; have c12b1 : (t764.toList != ([] : List UInt8)) = true := bne_iff_ne.mpr c12
      (first | rw [c12b0] | (simp only [i64_w, i32_w]; rw [c12b0]) | skip)
      have H' := Aside0.mk H; clear H
      go_wp2
      go_meet
      case rel => exact ⟨_, (false), (by first | rfl | (simp; done) | (simp [*]; done) | (generalize ByteArray.toList _ = z_; cases z_ <;> rfl)), H', ⟨by have := HK1.out; first | omega | exact Nat.le_refl _⟩, ⟨belowA⟩⟩
     case rest =>
      clear HC9
      try clear c1; try clear c2; try clear c2b0; try clear c2b1; try clear p2; try clear c5; try clear c5b0; try clear c8; try clear c8b0; try clear c8b1; try clear c12; try clear c12b0; try clear c12b1; try clear p2
      obtain ⟨kq, x34_8, rfl, HA, HJ8, HB⟩ := hcut
      cases kq with
      | zero => exact absurd HA.out (by simp [laws_FnStable.j1])
      | succ kj8 =>
       have H := HA.out; clear HA; simp only [laws_FnStable.j1] at H
       by_cases c13 : x34_8 = true
       ·subst c13
        have H1 : (laws_FnStable.l0 kj8 t763 (wrap64 (x5_1 + 1))) = some r := by rw [if_pos rfl] at H; exact H
        clear H; have H := H1; clear H1; have H' := Aside0.mk H; clear H
        go_wp2
        go_roundg kj8
        case measure => have := HK1.out; have := HJ8.out; omega
        case rel => exact ⟨(wrap64 (x5_1 + 1)), (by first | rfl | (simp; done) | (simp [*]; done) | (generalize ByteArray.toList _ = z_; cases z_ <;> rfl)), H', ⟨by have := HK1.out; have := HJ8.out; omega⟩, ⟨belowA⟩⟩
       replace c13 := Bool.eq_false_iff.mpr c13; subst c13
       have H1 : ((W_impl_Normalize.f x5_1 t764).bind fun t766 => (if t766.toList = t764.toList then ((impl_IsNormal.f x5_1 t764).bind fun t767 => (laws_FnStable.j2 kj8 t763 x5_1 t764 (!t767))) else (laws_FnStable.j2 kj8 t763 x5_1 t764 true))) = some r := by rw [if_neg (show ¬ (false = true) by decide)] at H; exact H
       clear H; have H := H1; clear H1; have HC14 := Aside0.mk H; clear H
       go_upto_region 11 with (fail)
       go_cut [45] (fun v45 wc => ∃ (kq : Nat) (x45_13 : Bool), v45 = .bool x45_13 ∧ Aside0 (laws_FnStable.j2 kq t763 x5_1 t764 x45_13 = some r) ∧ Aside0 (kq ≤ kj8) ∧ Aside0 (Below w.heap.size w wc))
       case first =>
        have H := HC14.out; clear HC14; replace H := Option.bind_eq_some_iff.mp H; obtain ⟨t766, A150, H⟩ := H
        try dsimp only at H
        have A15 := Aside0.mk A150; clear A150
        by_cases c16 : t766.toList = t764.toList
        ·rw [if_pos c16] at H
         have c16b0 : (t766.toList == t764.toList) = true := beq_iff_eq.mpr c16; have c16b1 : (t766.toList != t764.toList) = false := bne_eq_false_iff_eq.mpr c16; clear c16
         (first | rw [c16b0] | (simp only [i64_w, i32_w]; rw [c16b0]) | skip)
         replace H := Option.bind_eq_some_iff.mp H; obtain ⟨t767, A170, H⟩ := H
         try dsimp only at H
         have A17 := Aside0.mk A170; clear A170; have H' := Aside0.mk H; clear H
         go_wp2_with (first | ((with_reducible refine gate_callee (f := 16) rfl ?_); refine goesL_ (some 37) rfl rfl Tryd.func16 (by kernel_rfl) rfl #[.int .i64 x5_1, .string t764] rfl (by (try simp only [List.map_toArray, List.map_cons, List.map_nil]); first | done | rfl) ?_; (with_reducible refine (W_impl_Normalize.calls x5_1 t764 t766 _ A15.out (by first | exact HG.out | exact GT.below HG.out (by first | exact HB.out | (repeat (first | (with_reducible first | exact HB.out | apply below_alloc | apply pw_below_drewN | apply below_drew1 | refine below_set ?_ (Aside0.out (by assumption))) | exact HB.out))) | exact GT.below HG.out (HB.out))).mono ?_); rintro e w18 ⟨rfl, hb⟩; refine ⟨_, rfl, ?_⟩; have n0_ := Aside0.mk (below_step (belowA) hb); clear HB; have HB := n0_; clear n0_; (try clear hb); (try clear hb2); (try clear hk); (try clear hi)) | (go_at_call 53; (with_reducible refine (impl_IsNormal.calls x5_1 t764 t767 _ A17.out (by first | exact HG.out | exact GT.below HG.out (by first | exact HB.out | (repeat (first | (with_reducible first | exact HB.out | apply below_alloc | apply pw_below_drewN | apply below_drew1 | refine below_set ?_ (Aside0.out (by assumption))) | exact HB.out))) | exact GT.below HG.out (HB.out))).mono ?_); rintro e w19 ⟨rfl, hb⟩; have n0_ := Aside0.mk (below_step (belowA) hb); clear HB; have HB := n0_; clear n0_; (try clear hb); (try clear hb2); (try clear hk); (try clear hi)))
         go_meet
         case rel => exact ⟨_, (!t767), (by first | rfl | (simp; done) | (simp [*]; done) | (generalize ByteArray.toList _ = z_; cases z_ <;> rfl)), H', ⟨by have := HK1.out; have := HJ8.out; first | omega | exact Nat.le_refl _⟩, ⟨belowA⟩⟩
        rw [if_neg c16] at H; have c16b0 : (t766.toList == t764.toList) = false := beq_eq_false_iff_ne.mpr c16; have c16b1 : (t766.toList != t764.toList) = true := bne_iff_ne.mpr c16
        (first | rw [c16b0] | (simp only [i64_w, i32_w]; rw [c16b0]) | skip)
        have H' := Aside0.mk H; clear H
        go_wp2_with (first | ((with_reducible refine gate_callee (f := 16) rfl ?_); refine goesL_ (some 37) rfl rfl Tryd.func16 (by kernel_rfl) rfl #[.int .i64 x5_1, .string t764] rfl (by (try simp only [List.map_toArray, List.map_cons, List.map_nil]); first | done | rfl) ?_; (with_reducible refine (W_impl_Normalize.calls x5_1 t764 t766 _ A15.out (by first | exact HG.out | exact GT.below HG.out (by first | exact HB.out | (repeat (first | (with_reducible first | exact HB.out | apply below_alloc | apply pw_below_drewN | apply below_drew1 | refine below_set ?_ (Aside0.out (by assumption))) | exact HB.out))) | exact GT.below HG.out (HB.out))).mono ?_); rintro e w20 ⟨rfl, hb⟩; refine ⟨_, rfl, ?_⟩; have n0_ := Aside0.mk (below_step (belowA) hb); clear HB; have HB := n0_; clear n0_; (try clear hb); (try clear hb2); (try clear hk); (try clear hi)))
        go_meet
        case rel => exact ⟨_, (true), (by first | rfl | (simp; done) | (simp [*]; done) | (generalize ByteArray.toList _ = z_; cases z_ <;> rfl)), H', ⟨by have := HK1.out; have := HJ8.out; first | omega | exact Nat.le_refl _⟩, ⟨belowA⟩⟩
       case rest =>
        clear HC14
        try clear c1; try clear c2; try clear c2b0; try clear c2b1; try clear p2; try clear c5; try clear c5b0; try clear p6; try clear c8; try clear c8b0; try clear c8b1; try clear c12; try clear c12b0; try clear c12b1; try clear c13; try clear c14; try clear c15; try clear c16; try clear c16b0; try clear c16b1; try clear p2
        obtain ⟨kq, x45_13, rfl, HA, HJ13, HB⟩ := hcut
        cases kq with
        | zero => exact absurd HA.out (by simp [laws_FnStable.j2])
        | succ kj13 =>
         have H := HA.out; clear HA; simp only [laws_FnStable.j2] at H
         by_cases c21 : x45_13 = true
         ·subst c21
          have H1 : (some false) = some r := by rw [if_pos rfl] at H; exact H
          clear H; have H := H1; clear H1; obtain rfl := Option.some.inj H
          go_wp2
          go_ret
          exact ⟨by first | rfl | (simp [errW_none, errW_some] <;> rfl) | (simp [*, errW_none, errW_some] <;> rfl), belowA⟩
         replace c21 := Bool.eq_false_iff.mpr c21; subst c21
         have H1 : (if (Int.tmod x5_1 2) = 0 then (laws_FnStable.j3 kj13 t763 x5_1 t764 (wrap64 (x5_1 - 1))) else (laws_FnStable.j3 kj13 t763 x5_1 t764 (wrap64 (x5_1 + 1)))) = some r := by rw [if_neg (show ¬ (false = true) by decide)] at H; exact H
         clear H; have H := H1; clear H1; have HC22 := Aside0.mk H; clear H
         go_upto_if 50 with (fail)
         go_cut [7] (fun v7 wc => ∃ (kq : Nat) (x7_21 : Int), v7 = .int .i64 x7_21 ∧ Aside0 (laws_FnStable.j3 kq t763 x5_1 t764 x7_21 = some r) ∧ Aside0 (kq ≤ kj13) ∧ Aside0 (Below w.heap.size w wc))
         case first =>
          have H := HC22.out; clear HC22
          by_cases c23 : (Int.tmod x5_1 2) = 0
          ·rw [if_pos c23] at H
           have c23b0 : ((Int.tmod x5_1 2) == 0) = true := beq_iff_eq.mpr c23; have c23b1 : ((Int.tmod x5_1 2) != 0) = false := bne_eq_false_iff_eq.mpr c23; clear c23
           (first | rw [c23b0] | (simp only [i64_w, i32_w]; rw [c23b0]) | skip)
           have H' := Aside0.mk H; clear H
           go_wp2
           go_meet
           case rel => exact ⟨_, (wrap64 (x5_1 - 1)), (by first | rfl | (simp; done) | (simp [*]; done) | (generalize ByteArray.toList _ = z_; cases z_ <;> rfl)), H', ⟨by have := HK1.out; have := HJ8.out; have := HJ13.out; first | omega | exact Nat.le_refl _⟩, ⟨belowA⟩⟩
          rw [if_neg c23] at H; have c23b0 : ((Int.tmod x5_1 2) == 0) = false := beq_eq_false_iff_ne.mpr c23; have c23b1 : ((Int.tmod x5_1 2) != 0) = true := bne_iff_ne.mpr c23
          (first | rw [c23b0] | (simp only [i64_w, i32_w]; rw [c23b0]) | skip)
          have H' := Aside0.mk H; clear H
          go_wp2
          go_meet
          case rel => exact ⟨_, (wrap64 (x5_1 + 1)), (by first | rfl | (simp; done) | (simp [*]; done) | (generalize ByteArray.toList _ = z_; cases z_ <;> rfl)), H', ⟨by have := HK1.out; have := HJ8.out; have := HJ13.out; first | omega | exact Nat.le_refl _⟩, ⟨belowA⟩⟩
         case rest =>
          clear HC22
          try clear c1; try clear c2; try clear c2b0; try clear c2b1; try clear p2; try clear c5; try clear c5b0; try clear p6; try clear c8; try clear c8b0; try clear c8b1; try clear c12; try clear c12b0; try clear c12b1; try clear c13; try clear c14; try clear c15; try clear c16; try clear c16b0; try clear c16b1; try clear c21; try clear c23; try clear c23b0; try clear c23b1; try clear p2; try clear p6
          obtain ⟨kq, x7_21, rfl, HA, HJ21, HB⟩ := hcut
          cases kq with
          | zero => exact absurd HA.out (by simp [laws_FnStable.j3])
          | succ kj21 =>
           have H := HA.out; clear HA; simp only [laws_FnStable.j3] at H; replace H := Option.bind_eq_some_iff.mp H; obtain ⟨t768, A240, H⟩ := H
           try dsimp only at H
           have A24 := Aside0.mk A240; clear A240; replace H := Option.bind_eq_some_iff.mp H; obtain ⟨t769, A250, H⟩ := H
           try dsimp only at H
           have A25 := Aside0.mk A250; clear A250
           by_cases c26 : t769.toList = ([] : List UInt8)
           ·rw [if_pos c26] at H
            have c26b0 : (t769.toList == ([] : List UInt8)) = true := beq_iff_eq.mpr c26; have c26b1 : (t769.toList != ([] : List UInt8)) = false := bne_eq_false_iff_eq.mpr c26; clear c26; have H' := Aside0.mk H; clear H
            go_wp2_with (first | ((with_reducible refine gate_callee (f := 15) rfl ?_); refine goesL_ (some 55) rfl rfl Tryd.func15 (by kernel_rfl) rfl #[.int .i64 x7_21, .string t764] rfl (by (try simp only [List.map_toArray, List.map_cons, List.map_nil]); first | done | rfl) ?_; (with_reducible refine (W_spec_Normalize.calls x7_21 t764 t768 _ A24.out).mono ?_); rintro e w27 ⟨rfl, hb⟩; refine ⟨_, rfl, ?_⟩; have n0_ := Aside0.mk (below_step (belowA) hb); clear HB; have HB := n0_; clear n0_; (try clear hb); (try clear hb2); (try clear hk); (try clear hi)) | ((with_reducible refine gate_callee (f := 15) rfl ?_); refine goesL_ (some 58) rfl rfl Tryd.func15 (by kernel_rfl) rfl #[.int .i64 x7_21, .string t763] rfl (by (try simp only [List.map_toArray, List.map_cons, List.map_nil]); first | done | rfl) ?_; (with_reducible refine (W_spec_Normalize.calls x7_21 t763 t769 _ A25.out).mono ?_); rintro e w28 ⟨rfl, hb⟩; refine ⟨_, rfl, ?_⟩; have n0_ := Aside0.mk (below_step (belowA) hb); clear HB; have HB := n0_; clear n0_; (try clear hb); (try clear hb2); (try clear hk); (try clear hi)))
            go_roundg kj21
            case measure => have := HK1.out; have := HJ8.out; have := HJ13.out; have := HJ21.out; omega
            case rel => exact ⟨(wrap64 (x5_1 + 1)), (by first | rfl | (simp; done) | (simp [*]; done) | (generalize ByteArray.toList _ = z_; cases z_ <;> rfl)), H', ⟨by have := HK1.out; have := HJ8.out; have := HJ13.out; have := HJ21.out; omega⟩, ⟨belowA⟩⟩
           rw [if_neg c26] at H; have c26b0 : (t769.toList == ([] : List UInt8)) = false := beq_eq_false_iff_ne.mpr c26; have c26b1 : (t769.toList != ([] : List UInt8)) = true := bne_iff_ne.mpr c26
           by_cases c29 : t768.toList = ([] : List UInt8)
           ·rw [if_pos c29] at H
            have c29b0 : (t768.toList == ([] : List UInt8)) = true := beq_iff_eq.mpr c29; have c29b1 : (t768.toList != ([] : List UInt8)) = false := bne_eq_false_iff_eq.mpr c29; clear c29; have H' := Aside0.mk H; clear H
            go_wp2_with (first | ((with_reducible refine gate_callee (f := 15) rfl ?_); refine goesL_ (some 55) rfl rfl Tryd.func15 (by kernel_rfl) rfl #[.int .i64 x7_21, .string t764] rfl (by (try simp only [List.map_toArray, List.map_cons, List.map_nil]); first | done | rfl) ?_; (with_reducible refine (W_spec_Normalize.calls x7_21 t764 t768 _ A24.out).mono ?_); rintro e w30 ⟨rfl, hb⟩; refine ⟨_, rfl, ?_⟩; have n0_ := Aside0.mk (below_step (belowA) hb); clear HB; have HB := n0_; clear n0_; (try clear hb); (try clear hb2); (try clear hk); (try clear hi)) | ((with_reducible refine gate_callee (f := 15) rfl ?_); refine goesL_ (some 58) rfl rfl Tryd.func15 (by kernel_rfl) rfl #[.int .i64 x7_21, .string t763] rfl (by (try simp only [List.map_toArray, List.map_cons, List.map_nil]); first | done | rfl) ?_; (with_reducible refine (W_spec_Normalize.calls x7_21 t763 t769 _ A25.out).mono ?_); rintro e w31 ⟨rfl, hb⟩; refine ⟨_, rfl, ?_⟩; have n0_ := Aside0.mk (below_step (belowA) hb); clear HB; have HB := n0_; clear n0_; (try clear hb); (try clear hb2); (try clear hk); (try clear hi)))
            go_roundg kj21
            case measure => have := HK1.out; have := HJ8.out; have := HJ13.out; have := HJ21.out; omega
            case rel => exact ⟨(wrap64 (x5_1 + 1)), (by first | rfl | (simp; done) | (simp [*]; done) | (generalize ByteArray.toList _ = z_; cases z_ <;> rfl)), H', ⟨by have := HK1.out; have := HJ8.out; have := HJ13.out; have := HJ21.out; omega⟩, ⟨belowA⟩⟩
           rw [if_neg c29] at H; have c29b0 : (t768.toList == ([] : List UInt8)) = false := beq_eq_false_iff_ne.mpr c29; have c29b1 : (t768.toList != ([] : List UInt8)) = true := bne_iff_ne.mpr c29; replace H := Option.bind_eq_some_iff.mp H; obtain ⟨t770, A320, H⟩ := H
           try dsimp only at H
           have A32 := Aside0.mk A320; clear A320; replace H := Option.bind_eq_some_iff.mp H; obtain ⟨t771, A330, H⟩ := H
           try dsimp only at H
           have A33 := Aside0.mk A330; clear A330
           by_cases c34 : t770.toList = t771.toList
           ·rw [if_pos c34] at H
            have c34b0 : (t770.toList == t771.toList) = true := beq_iff_eq.mpr c34; have c34b1 : (t770.toList != t771.toList) = false := bne_eq_false_iff_eq.mpr c34; clear c34; have H' := Aside0.mk H; clear H
            go_wp2_with (first | ((with_reducible refine gate_callee (f := 15) rfl ?_); refine goesL_ (some 55) rfl rfl Tryd.func15 (by kernel_rfl) rfl #[.int .i64 x7_21, .string t764] rfl (by (try simp only [List.map_toArray, List.map_cons, List.map_nil]); first | done | rfl) ?_; (with_reducible refine (W_spec_Normalize.calls x7_21 t764 t768 _ A24.out).mono ?_); rintro e w35 ⟨rfl, hb⟩; refine ⟨_, rfl, ?_⟩; have n0_ := Aside0.mk (below_step (belowA) hb); clear HB; have HB := n0_; clear n0_; (try clear hb); (try clear hb2); (try clear hk); (try clear hi)) | ((with_reducible refine gate_callee (f := 15) rfl ?_); refine goesL_ (some 58) rfl rfl Tryd.func15 (by kernel_rfl) rfl #[.int .i64 x7_21, .string t763] rfl (by (try simp only [List.map_toArray, List.map_cons, List.map_nil]); first | done | rfl) ?_; (with_reducible refine (W_spec_Normalize.calls x7_21 t763 t769 _ A25.out).mono ?_); rintro e w36 ⟨rfl, hb⟩; refine ⟨_, rfl, ?_⟩; have n0_ := Aside0.mk (below_step (belowA) hb); clear HB; have HB := n0_; clear n0_; (try clear hb); (try clear hb2); (try clear hk); (try clear hi)) | (go_at_call 16; (with_reducible refine (W_impl_Normalize.calls x7_21 t764 t770 _ A32.out (by first | exact HG.out | exact GT.below HG.out (by first | exact HB.out | (repeat (first | (with_reducible first | exact HB.out | apply below_alloc | apply pw_below_drewN | apply below_drew1 | refine below_set ?_ (Aside0.out (by assumption))) | exact HB.out))) | exact GT.below HG.out (HB.out))).mono ?_); rintro e w37 ⟨rfl, hb⟩; have n0_ := Aside0.mk (below_step (belowA) hb); clear HB; have HB := n0_; clear n0_; (try clear hb); (try clear hb2); (try clear hk); (try clear hi)) | (go_at_call 16; (with_reducible refine (W_impl_Normalize.calls x7_21 t763 t771 _ A33.out (by first | exact HG.out | exact GT.below HG.out (by first | exact HB.out | (repeat (first | (with_reducible first | exact HB.out | apply below_alloc | apply pw_below_drewN | apply below_drew1 | refine below_set ?_ (Aside0.out (by assumption))) | exact HB.out))) | exact GT.below HG.out (HB.out))).mono ?_); rintro e w38 ⟨rfl, hb⟩; have n0_ := Aside0.mk (below_step (belowA) hb); clear HB; have HB := n0_; clear n0_; (try clear hb); (try clear hb2); (try clear hk); (try clear hi)))
            go_roundg kj21
            case measure => have := HK1.out; have := HJ8.out; have := HJ13.out; have := HJ21.out; omega
            case rel => exact ⟨(wrap64 (x5_1 + 1)), (by first | rfl | (simp; done) | (simp [*]; done) | (generalize ByteArray.toList _ = z_; cases z_ <;> rfl)), H', ⟨by have := HK1.out; have := HJ8.out; have := HJ13.out; have := HJ21.out; omega⟩, ⟨belowA⟩⟩
           rw [if_neg c34] at H; have c34b0 : (t770.toList == t771.toList) = false := beq_eq_false_iff_ne.mpr c34; have c34b1 : (t770.toList != t771.toList) = true := bne_iff_ne.mpr c34; obtain rfl := Option.some.inj H
           go_wp2_with (first | ((with_reducible refine gate_callee (f := 15) rfl ?_); refine goesL_ (some 55) rfl rfl Tryd.func15 (by kernel_rfl) rfl #[.int .i64 x7_21, .string t764] rfl (by (try simp only [List.map_toArray, List.map_cons, List.map_nil]); first | done | rfl) ?_; (with_reducible refine (W_spec_Normalize.calls x7_21 t764 t768 _ A24.out).mono ?_); rintro e w39 ⟨rfl, hb⟩; refine ⟨_, rfl, ?_⟩; have n0_ := Aside0.mk (below_step (belowA) hb); clear HB; have HB := n0_; clear n0_; (try clear hb); (try clear hb2); (try clear hk); (try clear hi)) | ((with_reducible refine gate_callee (f := 15) rfl ?_); refine goesL_ (some 58) rfl rfl Tryd.func15 (by kernel_rfl) rfl #[.int .i64 x7_21, .string t763] rfl (by (try simp only [List.map_toArray, List.map_cons, List.map_nil]); first | done | rfl) ?_; (with_reducible refine (W_spec_Normalize.calls x7_21 t763 t769 _ A25.out).mono ?_); rintro e w40 ⟨rfl, hb⟩; refine ⟨_, rfl, ?_⟩; have n0_ := Aside0.mk (below_step (belowA) hb); clear HB; have HB := n0_; clear n0_; (try clear hb); (try clear hb2); (try clear hk); (try clear hi)) | (go_at_call 16; (with_reducible refine (W_impl_Normalize.calls x7_21 t764 t770 _ A32.out (by first | exact HG.out | exact GT.below HG.out (by first | exact HB.out | (repeat (first | (with_reducible first | exact HB.out | apply below_alloc | apply pw_below_drewN | apply below_drew1 | refine below_set ?_ (Aside0.out (by assumption))) | exact HB.out))) | exact GT.below HG.out (HB.out))).mono ?_); rintro e w41 ⟨rfl, hb⟩; have n0_ := Aside0.mk (below_step (belowA) hb); clear HB; have HB := n0_; clear n0_; (try clear hb); (try clear hb2); (try clear hk); (try clear hi)) | (go_at_call 16; (with_reducible refine (W_impl_Normalize.calls x7_21 t763 t771 _ A33.out (by first | exact HG.out | exact GT.below HG.out (by first | exact HB.out | (repeat (first | (with_reducible first | exact HB.out | apply below_alloc | apply pw_below_drewN | apply below_drew1 | refine below_set ?_ (Aside0.out (by assumption))) | exact HB.out))) | exact GT.below HG.out (HB.out))).mono ?_); rintro e w42 ⟨rfl, hb⟩; have n0_ := Aside0.mk (below_step (belowA) hb); clear HB; have HB := n0_; clear n0_; (try clear hb); (try clear hb2); (try clear hk); (try clear hi)))
           go_ret
           exact ⟨by first | rfl | (simp [errW_none, errW_some] <;> rfl) | (simp [*, errW_none, errW_some] <;> rfl), belowA⟩
    rw [if_neg c8] at H; have c8b0 : (t764.toList == t765.toList) = false := beq_eq_false_iff_ne.mpr c8; have c8b1 : (t764.toList != t765.toList) = true := bne_iff_ne.mpr c8; obtain rfl := Option.some.inj H
    go_wp2_with (first | ((with_reducible refine gate_callee (f := 16) rfl ?_); refine goesL_ (some 23) rfl rfl Tryd.func16 (by kernel_rfl) rfl #[.int .i64 x5_1, .string t763] rfl (by (try simp only [List.map_toArray, List.map_cons, List.map_nil]); first | done | rfl) ?_; (with_reducible refine (W_impl_Normalize.calls x5_1 t763 t764 _ A6.out (by first | exact HG.out | exact GT.below HG.out (by first | exact HB.out | (repeat (first | (with_reducible first | exact HB.out | apply below_alloc | apply pw_below_drewN | apply below_drew1 | refine below_set ?_ (Aside0.out (by assumption))) | exact HB.out))) | exact GT.below HG.out (HB.out))).mono ?_); rintro e w43 ⟨rfl, hb⟩; refine ⟨_, rfl, ?_⟩; have n0_ := Aside0.mk (below_step (belowA) hb); clear HB; have HB := n0_; clear n0_; (try clear hb); (try clear hb2); (try clear hk); (try clear hi)) | ((with_reducible refine gate_callee (f := 15) rfl ?_); refine goesL_ (some 27) rfl rfl Tryd.func15 (by kernel_rfl) rfl #[.int .i64 x5_1, .string t763] rfl (by (try simp only [List.map_toArray, List.map_cons, List.map_nil]); first | done | rfl) ?_; (with_reducible refine (W_spec_Normalize.calls x5_1 t763 t765 _ A7.out).mono ?_); rintro e w44 ⟨rfl, hb⟩; refine ⟨_, rfl, ?_⟩; have n0_ := Aside0.mk (below_step (belowA) hb); clear HB; have HB := n0_; clear n0_; (try clear hb); (try clear hb2); (try clear hk); (try clear hi)))
    go_ret
    exact ⟨by first | rfl | (simp [errW_none, errW_some] <;> rfl) | (simp [*, errW_none, errW_some] <;> rfl), belowA⟩
   rw [if_neg c5] at H; have c5b0 : decide (x5_1 ≤ 4) = false := decide_eq_false c5; clear c5; obtain rfl := Option.some.inj H
   go_wp2
   go_ret
   exact ⟨by first | rfl | (simp [errW_none, errW_some] <;> rfl) | (simp [*, errW_none, errW_some] <;> rfl), belowA⟩

/-- THE ONE PURE STATEMENT of laws_FnStable: yours. -/
def laws_FnStable.Pure : Prop := ∀ (l0 : List Int), l0.length ≤ maxLen → l0.length * 1 ≤ 140737488351232 → (∀ x ∈ l0, (Lit.int .u8 x).wf = true) → ∃ k, laws_FnStable.f k l0 = some true
theorem laws_FnStable.walk (P : laws_FnStable.Pure) (a0 : Option Addr) (len0 cap0 : Nat) (z0 : List Int) (w : World) (hG : GT w) (w0 : (a0 = none ∧ len0 = 0 ∧ cap0 = 0 ∧ z0 = []) ∨ ∃ x, a0 = some x ∧ len0 ≤ cap0 ∧ cap0 ≤ maxLen ∧ z0.length = cap0 ∧ (∀ i, i < z0.length → w.cell? (x.add i) = some (.int .u8 (z0.getD i 0))) ∧ ∀ n ∈ z0, (Lit.int .u8 n).wf = true) (y0 : len0 * 1 ≤ 140737488351232) :
  Calls Tryd.prog 8 #[.slice a0 len0 cap0] w fun e w' => e = .returned (.bool true) ∧ Below w.heap.size w w' := by
 obtain ⟨l0, rfl, hr0, hm0, hw0, hc0⟩ := ReadsInt.ofRowC w0
 obtain ⟨k, h⟩ := P l0 hm0 y0 hw0
 refine (laws_FnStable.calls k _ _ l0 true w (Kd.C_of_reads (d := (0 : Int)) (h1 := fun _ => rfl) hr0) hc0 h hG).mono ?_
 rintro e w' ⟨rfl, hd⟩
 exact ⟨rfl, hd⟩

end Go.Proofs.YtiabgmddnddeiaaDoor.QFnStable
