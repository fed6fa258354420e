/- The law FnNormer: at every input the call answers true (this text: contracts on its way, by a program of this session's; no condition of ours). -/
import Derived.Test.YtiabgmddnddeiaaDoorQFnNormerx0
import Derived.Test.YtiabgmddnddeiaaDoorQFnNormerx1
import Derived.Test.YtiabgmddnddeiaaDoorQFnNormerx3
import Derived.Test.YtiabgmddnddeiaaDoorQFnNormerx8
import Derived.Test.YtiabgmddnddeiaaDoorQFnNormerx9
import Derived.Test.YtiabgmddnddeiaaDoorQFnNormerx10
import Derived.Test.YtiabgmddnddeiaaDoorQFnNormerx11
import Derived.Test.YtiabgmddnddeiaaDoorQFnNormerx12
namespace Go.Proofs.YtiabgmddnddeiaaDoor.QFnNormer
open Go.RowKit Go.Proofs.YtiabgmddnddeiaaDoorW.PrintWords Go.Proofs.YtiabgmddnddeiaaDoorW.PrintLast Go.Proofs.YtiabgmddnddeiaaDoorW.PrintMore
attribute [local go_sem] max2_int min2_int max_two min_two max_three min_three max_four min_four   -- for this text's walks alone
set_option linter.unusedVariables false
set_option linter.unusedSimpArgs false

/-! ### impl_norm: function 89 -/
def impl_norm.f (a0 : Int) (a1 : ByteArray) : Option (ByteArray) := (W_impl_points.f a1).bind fun t312 => ((impl_normal.f a0 t312).bind fun t315 => ((W_impl_write.f t315).bind fun t318 => (some t318)))
set_option maxHeartbeats 8000000 in
set_option maxRecDepth 100000 in
theorem impl_norm.calls (a0 : Int) (a1 : ByteArray) (r : ByteArray) (w : World) (h : impl_norm.f a0 a1 = some r) (hG : GT w) :
    Calls Tryd.prog 89 #[.int .i64 a0, .string a1] w fun e w' => e = .returned (.string r) ∧ Below w.heap.size w w' := by
  have HG := Aside0.mk hG
  clear hG
  have HB := Aside0.mk (Below.refl w.heap.size w)
  have H : ((W_impl_points.f a1).bind fun t312 => ((impl_normal.f a0 t312).bind fun t315 => ((W_impl_write.f t315).bind fun t318 => (some t318)))) = some r := h
  clear h
  replace H := Option.bind_eq_some_iff.mp H
  obtain ⟨t312, A30, H⟩ := H
  replace H : ((impl_normal.f a0 t312).bind fun t315 => ((W_impl_write.f t315).bind fun t318 => (some t318))) = some r := H
  have A3 := Aside0.mk A30
  clear A30
  replace H := Option.bind_eq_some_iff.mp H
  obtain ⟨t315, A40, H⟩ := H
  replace H : ((W_impl_write.f t315).bind fun t318 => (some t318)) = some r := H
  have A4 := Aside0.mk A40
  clear A40
  replace H := Option.bind_eq_some_iff.mp H
  obtain ⟨t318, A50, H⟩ := H
  replace H : (some t318) = some r := H
  have A5 := Aside0.mk A50
  clear A50
  obtain rfl := Option.some.inj H
  go_enter Tryd.func89, Tryd.ntmps89
  go_wp2_with (first | (go_at_call 91; (with_reducible refine (W_impl_points.calls a1 t312 _ A3.out gtA).mono ?_); rintro e w6 ⟨v313, rfl, ho0, hb⟩; have n0_ := Aside0.mk (Kd.R_lower ho0 (below_size (by repeat (first | (with_reducible first | exact HB.out | apply below_alloc | apply pw_below_drewN | apply below_drew1) | exact HB.out)))); have n1_ := Aside0.mk (below_step (by repeat (first | (with_reducible first | exact HB.out | apply below_alloc | apply pw_below_drewN | apply below_drew1) | exact HB.out)) hb); have HO314 := n0_; replace HB := n1_; clear n0_ n1_; clear hb; (try clear ho0); obtain ⟨Ao7, co7, eo7⟩ := Kd.R_slice HO314.out; subst eo7) | (go_at_call 94; (with_reducible refine (impl_normal.calls a0 _ _ t312 t315 _ ?side1 ?side2 A4.out).mono ?_); (case side1 => repeat (first | exact (Kd.R_reads' HO314.out).2.2 | (with_reducible refine Kd.C_alloc ?_ _) | (with_reducible refine Kd.C_drewN ?_ _) | (with_reducible refine Kd.C_drew ?_))); (case side2 => exact (Kd.R_reads' HO314.out).2.1); rintro e w8 ⟨v316, rfl, ho0, hb⟩; have n0_ := Aside0.mk (Kd.R_elder' (by (with_reducible repeat (first | apply Kd.R_alloc | apply Kd.R_drewN | apply Kd.R_drew)); exact HO314.out) (Kd.R_base ho0) hb); have n1_ := Aside0.mk (Kd.R_lower (Kd.R_new' ho0 (Kd.R_lt (by (with_reducible repeat (first | apply Kd.R_alloc | apply Kd.R_drewN | apply Kd.R_drew)); exact HO314.out))) (below_size (by repeat (first | (with_reducible first | exact HB.out | apply below_alloc | apply pw_below_drewN | apply below_drew1) | exact HB.out)))); have n2_ := Aside0.mk (below_step (by repeat (first | (with_reducible first | exact HB.out | apply below_alloc | apply pw_below_drewN | apply below_drew1) | exact HB.out)) hb); replace HO314 := n0_; have HO317 := n1_; replace HB := n2_; clear n0_ n1_ n2_; clear hb; (try clear ho0); obtain ⟨Ao9, co9, eo9⟩ := Kd.R_slice HO317.out; subst eo9) | (go_at_call 93; (with_reducible refine (W_impl_write.calls _ _ t315 t318 _ ?side1 ?side2 A5.out).mono ?_); (case side1 => repeat (first | exact (Kd.R_reads' HO317.out).2.2 | (with_reducible refine Kd.C_alloc ?_ _) | (with_reducible refine Kd.C_drewN ?_ _) | (with_reducible refine Kd.C_drew ?_))); (case side2 => exact (Kd.R_reads' HO317.out).2.1); rintro e w10 ⟨rfl, hb⟩; have n0_ := Aside0.mk (Kd.R_below (by (with_reducible repeat (first | apply Kd.R_alloc | apply Kd.R_drewN | apply Kd.R_drew)); exact HO314.out) hb); have n1_ := Aside0.mk (Kd.R_below (by (with_reducible repeat (first | apply Kd.R_alloc | apply Kd.R_drewN | apply Kd.R_drew)); exact HO317.out) hb); have n2_ := Aside0.mk (below_step (by repeat (first | (with_reducible first | exact HB.out | apply below_alloc | apply pw_below_drewN | apply below_drew1) | exact HB.out)) hb); replace HO314 := n0_; replace HO317 := n1_; replace HB := n2_; clear n0_ n1_ n2_; clear hb))
  go_ret
  exact ⟨by first | rfl | (simp [errW_none, errW_some] <;> rfl) | (simp [*, errW_none, errW_some] <;> rfl), by repeat (first | (with_reducible first | exact HB.out | apply below_alloc | apply pw_below_drewN | apply below_drew1) | exact HB.out)⟩

theorem impl_norm.eq {f : Int} {t : ByteArray} (hf : 1 ≤ f ∧ f ≤ 4) (ht : t.size ≤ 100000000) : impl_norm.f f t = some (YtiabgmddnddeiaaDoorNst.N f t) := by
  unfold impl_norm.f W_impl_points.f
  rw [if_pos (by omega)]
  simp only [Option.bind_some]
  have h1 := YtiabgmddnddeiaaDoorNst.P_len t
  have h2 := YtiabgmddnddeiaaDoorNst.P_isP t
  have h3 := YtiabgmddnddeiaaDoorNst.nf_len f (YtiabgmddnddeiaaDoorNst.P t)
  unfold impl_normal.f
  rw [show YtiabgmddnddeiaaDoorPts.pts (bytesOf t) = YtiabgmddnddeiaaDoorNst.P t from rfl, if_pos ⟨hf.1, hf.2, by omega, YtiabgmddnddeiaaDoorNst.range h2⟩]
  simp only [Option.bind_some]
  unfold W_impl_write.f
  rw [if_pos (by omega)]
  rfl

/-! ### impl_Normalize: function 16 -/
def impl_Normalize.j0 : Nat → Int → ByteArray → Bool → Option (ByteArray)
 | 0, _, _, _ => none
 | k + 1, x0, x1, x11 => if x11 = true then (some (⟨#[]⟩ : ByteArray)) else ((impl_norm.f x0 x1).bind fun t321 => ((impl_short.f t321).bind fun t322 => (some t322)))
def impl_Normalize.f (k : Nat) (a0 : Int) (a1 : ByteArray) : Option (ByteArray) := (impl_long.f a1).bind fun t319 => (if t319 = true then (impl_Normalize.j0 k a0 a1 true) else ((impl_isNorm.f a0).bind fun t320 => (impl_Normalize.j0 k a0 a1 (!t320))))
theorem impl_Normalize.mono_l : ∀ k, (∀ y0 y1 y2, LeO (impl_Normalize.j0 k y0 y1 y2) (impl_Normalize.j0 (k + 1) y0 y1 y2))
 | 0 => fun _ _ _ r h => by simp [impl_Normalize.j0] at h
 | k + 1 => by
  have ih0 := impl_Normalize.mono_l k; intro y0 y1 y2
  unfold impl_Normalize.j0
  repeat' first
  | (with_reducible exact ih0 _ _ _)
  | (with_reducible exact LeO.refl _)
  | (with_reducible exact LeO.none _)
  | (with_reducible refine LeO.ite ?_ ?_)
  | (with_reducible refine LeO.bind ?_ (fun _ => ?_))
  | exact ih0 _ _ _
  | exact LeO.none _
  | refine LeO.ite ?_ ?_
  | refine LeO.bind ?_ (fun _ => ?_)
theorem impl_Normalize.mono : ∀ a0 a1 k, LeO (impl_Normalize.f k a0 a1) (impl_Normalize.f (k + 1) a0 a1) := by
 intro a0 a1 k
 have ih0 := impl_Normalize.mono_l k
 unfold impl_Normalize.f
 repeat' first
   | (with_reducible exact ih0 _ _ _)
   | (with_reducible exact LeO.refl _)
   | (with_reducible exact LeO.none _)
   | (with_reducible refine LeO.ite ?_ ?_)
   | (with_reducible refine LeO.bind ?_ (fun _ => ?_))
   | exact ih0 _ _ _
   | exact LeO.none _
   | refine LeO.ite ?_ ?_
   | refine LeO.bind ?_ (fun _ => ?_)
set_option maxHeartbeats 8000000 in
set_option maxRecDepth 100000 in
theorem impl_Normalize.calls (k : Nat) (a0 : Int) (a1 : ByteArray) (r : ByteArray) (w : World) (h : impl_Normalize.f k a0 a1 = some r) (hG : GT w) :
  Calls Tryd.prog 16 #[.int .i64 a0, .string a1] w fun e w' => e = .returned (.string r) ∧ Below w.heap.size w w' := by
 have HG := Aside0.mk hG
 clear hG
 have HB := Aside0.mk (Below.refl w.heap.size w)
 have H : ((impl_long.f a1).bind fun t319 => (if t319 = true then (impl_Normalize.j0 k a0 a1 true) else ((impl_isNorm.f a0).bind fun t320 => (impl_Normalize.j0 k a0 a1 (!t320))))) = some r := h
 clear h
 have HC3 := Aside0.mk H
 clear H
 go_enter Tryd.func16, Tryd.ntmps16
 go_upto_region 1 with (fail)
 go_cut [11] (fun v11 wc => ∃ (kq : Nat) (x11_2 : Bool), v11 = .bool x11_2 ∧ Aside0 (impl_Normalize.j0 kq a0 a1 x11_2 = some r) ∧ Aside0 (kq ≤ k) ∧ Aside0 (Below w.heap.size w wc))
 case first =>
  have H := HC3.out; clear HC3; replace H := Option.bind_eq_some_iff.mp H; obtain ⟨t319, A40, H⟩ := H
  try dsimp only at H
  have A4 := Aside0.mk A40; clear A40
  by_cases c5 : t319 = true
  ·subst c5
   have H1 : (impl_Normalize.j0 k a0 a1 true) = some r := by rw [if_pos rfl] at H; exact H
   clear H; have H := H1; clear H1; have H' := Aside0.mk H; clear H
   go_wp2_with (first | (go_at_call 86; (with_reducible refine (impl_long.calls a1 true _ A4.out).mono ?_); rintro e w' ⟨rfl, ⟨nd, rfl⟩⟩))
   go_meet
   case rel => exact ⟨_, (true), (by first | rfl | (simp; done) | (simp [*]; done)), H', ⟨by first | omega | exact Nat.le_refl _⟩, ⟨belowA⟩⟩
  replace c5 := Bool.eq_false_iff.mpr c5; subst c5
  have H1 : ((impl_isNorm.f a0).bind fun t320 => (impl_Normalize.j0 k a0 a1 (!t320))) = some r := by rw [if_neg (show ¬ (false = true) by decide)] at H; exact H
  clear H; have H := H1; clear H1; replace H := Option.bind_eq_some_iff.mp H; obtain ⟨t320, A60, H⟩ := H
  try dsimp only at H
  have A6 := Aside0.mk A60; clear A60; have H' := Aside0.mk H; clear H
  go_wp2_with (first | (go_at_call 86; (with_reducible refine (impl_long.calls a1 false _ A4.out).mono ?_); rintro e w' ⟨rfl, ⟨nd, rfl⟩⟩) | (go_at_call 87; (with_reducible refine (impl_isNorm.calls a0 t320 _ A6.out).mono ?_); rintro e w' ⟨rfl, ⟨nd, rfl⟩⟩))
  go_meet
  case rel => exact ⟨_, (!t320), (by first | rfl | (simp; done) | (simp [*]; done)), H', ⟨by first | omega | exact Nat.le_refl _⟩, ⟨belowA⟩⟩
 case rest =>
  clear HC3
  try clear c1; try clear p2; try clear c5
  obtain ⟨kq, x11_2, rfl, HA, HJ2, HB⟩ := hcut
  cases kq with
  | zero => exact absurd HA.out (by simp [impl_Normalize.j0])
  | succ kj2 =>
   have H := HA.out; clear HA; simp only [impl_Normalize.j0] at H
   by_cases c7 : x11_2 = true
   ·subst c7
    have H1 : (some (⟨#[]⟩ : ByteArray)) = some r := by rw [if_pos rfl] at H; exact H
    clear H; have H := H1; clear H1; obtain rfl := Option.some.inj H
    go_wp2
    go_ret
    exact ⟨by first | rfl | (simp [errW_none, errW_some] <;> rfl) | (simp [*, errW_none, errW_some] <;> rfl), belowA⟩
   replace c7 := Bool.eq_false_iff.mpr c7; subst c7
   have H1 : ((impl_norm.f a0 a1).bind fun t321 => ((impl_short.f t321).bind fun t322 => (some t322))) = some r := by rw [if_neg (show ¬ (false = true) by decide)] at H; exact H
   clear H; have H := H1; clear H1; replace H := Option.bind_eq_some_iff.mp H; obtain ⟨t321, A80, H⟩ := H
   try dsimp only at H
   have A8 := Aside0.mk A80; clear A80; replace H := Option.bind_eq_some_iff.mp H; obtain ⟨t322, A90, H⟩ := H
   try dsimp only at H
   have A9 := Aside0.mk A90; clear A90; obtain rfl := Option.some.inj H
   go_wp2_with (first | (go_at_call 89; (with_reducible refine (impl_norm.calls a0 a1 t321 _ A8.out gtA).mono ?_); rintro e w10 ⟨rfl, hb⟩; replace HB := Aside0.mk (below_step (belowA) hb);  clear hb) | (go_at_call 88; (with_reducible refine (impl_short.calls t321 t322 _ A9.out).mono ?_); rintro e w' ⟨rfl, ⟨nd, rfl⟩⟩))
   go_ret
   exact ⟨by first | rfl | (simp [errW_none, errW_some] <;> rfl) | (simp [*, errW_none, errW_some] <;> rfl), belowA⟩

def W_impl_Normalize.f (f : Int) (t : ByteArray) : Option ByteArray := if t.size ≤ 100000000 then some (YtiabgmddnddeiaaDoorNst.NT f t) else none
theorem W_impl_Normalize.to {f : Int} {t : ByteArray} {r : ByteArray} (h : W_impl_Normalize.f f t = some r) : ∃ k, impl_Normalize.f k f t = some r := by
  unfold W_impl_Normalize.f at h
  split at h
  · rename_i ht
    refine ⟨1, ?_⟩
    rw [← h]
    unfold impl_Normalize.f YtiabgmddnddeiaaDoorNst.NT impl_long.f
    simp only [Option.bind_some]
    by_cases c : (t.size : Int) > 65536
    · rw [decide_eq_true c, if_pos rfl, if_pos (.inl c)]
      simp only [impl_Normalize.j0]
      rw [if_pos trivial]
    · rw [decide_eq_false c, if_neg (by decide), impl_isNorm.eq]
      simp only [Option.bind_some]
      simp only [impl_Normalize.j0]
      cases ho : YtiabgmddnddeiaaDoorNst.ok f with
      | false => rw [if_pos (by rfl), if_pos (.inr rfl)]
      | true =>
        rw [if_neg (by decide), impl_norm.eq (of_decide_eq_true ho) ht]
        simp only [Option.bind_some]
        rw [if_neg (by rintro (z | z); exact c z; cases z)]
        unfold impl_short.f impl_long.f YtiabgmddnddeiaaDoorNst.sh
        simp only [Option.bind_some]
        by_cases d : ((YtiabgmddnddeiaaDoorNst.N f t).size : Int) > 65536
        · rw [decide_eq_true d, if_pos rfl, if_pos d]; rfl
        · rw [decide_eq_false d, if_neg (by decide), if_neg d]; rfl
  · cases h
theorem W_impl_Normalize.calls (a0 : Int) (a1 : ByteArray) (r : ByteArray) (w : World) (h : W_impl_Normalize.f a0 a1 = some r) (hG : GT w) :
    Calls Tryd.prog 16 #[.int .i64 a0, .string a1] w fun e w' => e = .returned (.string r) ∧ Below w.heap.size w w' := by
  obtain ⟨k, hk⟩ := W_impl_Normalize.to h
  exact impl_Normalize.calls k a0 a1 r w hk hG

/-! ### spec_PointsOf: function 17 -/
def spec_PointsOf.f (a0 : ByteArray) : Option (List Int) := if (a0.size : Int) > 65536 then (some (([] : List Int))) else ((W_spec_l01Points.f a0).bind fun t326 => (some t326))
set_option maxHeartbeats 8000000 in
set_option maxRecDepth 100000 in
theorem spec_PointsOf.calls (a0 : ByteArray) (r : List Int) (w : World) (h : spec_PointsOf.f a0 = some r) :
    Calls Tryd.prog 17 #[.string a0] w fun e w' => ∃ v0_ : Value, e = .returned (v0_) ∧ Kd.R (Kd.int .i64) 2 w' w.heap.size (fun _ => True) v0_ r ∧ Below w.heap.size w w' := by
  have HB := Aside0.mk (Below.refl w.heap.size w)
  have H : (if (a0.size : Int) > 65536 then (some (([] : List Int))) else ((W_spec_l01Points.f a0).bind fun t326 => (some t326))) = some r := h
  clear h
  by_cases c2 : (a0.size : Int) > 65536
  · rw [if_pos c2] at H
    have c2b0 : decide (65536 < (a0.size : Int)) = true := decide_eq_true c2
    have c2b1 : decide (65536 < a0.size) = true := decide_eq_true (by omega)
    clear c2
    obtain ⟨y323, hy323⟩ : ∃ y_ : List Int, y_ = (([] : List Int)) := ⟨_, rfl⟩
    replace H : (some y323) = some r := by first | (rw [hy323]; with_reducible exact H) | (have H2_ := (Option.bind_some _ _).symm.trans H; rw [hy323]; with_reducible exact H2_) | (have H2_ := (Option.bind_some _ _).symm.trans H; with_reducible exact H2_) | with_reducible exact H | (rw [hy323]; exact H) | exact H
    have Ny323 := Aside0.mk hy323
    clear hy323
    obtain rfl := Option.some.inj H
    go_enter Tryd.func17, Tryd.ntmps17
    go_wp2_with (first | ((with_reducible refine gate_dst (N := 6) rfl ?_); refine Kd.R_lit (Kd.int .i64) _ 2 ?hg (N := 6) ?hd (xs := ([] : List Int)) (inner := []) (ok := fun _ => True) (okp := fun _ => True) ?hr ?hp (fun _ hk => hk) trivial (Below.refl _ _) (Nat.le_refl _) (by simp) ?_; (case hd => rfl); (case hg => rfl); (case hr => first | (go_simp; done) | (go_simp; rfl)); (case hp => exact (Reps.none _ _)); intro v324 w3 ho4 hb hg_ hnew_; clear hg_ hnew_; (first | rw [← Ny323.out] at ho4 | (simp only [Int.reduceToNat] at ho4; rw [← Ny323.out] at ho4)); have n0_ := Aside0.mk (Kd.R_lower ho4 (below_size (by repeat (first | (with_reducible first | exact HB.out | apply below_alloc | apply pw_below_drewN | apply below_drew1) | exact HB.out)))); have n1_ := Aside0.mk (below_step (by repeat (first | (with_reducible first | exact HB.out | apply below_alloc | apply pw_below_drewN | apply below_drew1) | exact HB.out)) hb); have HO325 := n0_; replace HB := n1_; clear n0_ n1_; clear hb ho4))
    go_ret
    exact ⟨_, by first | rfl | (simp [errW_none, errW_some] <;> rfl) | (simp [*, errW_none, errW_some] <;> rfl), by (with_reducible repeat (first | apply Kd.R_alloc | apply Kd.R_drewN | apply Kd.R_drew)); exact HO325.out, by repeat (first | (with_reducible first | exact HB.out | apply below_alloc | apply pw_below_drewN | apply below_drew1) | exact HB.out)⟩
  · rw [if_neg c2] at H
    have c2b0 : decide (65536 < (a0.size : Int)) = false := decide_eq_false c2
    have c2b1 : decide (65536 < a0.size) = false := decide_eq_false (by omega)
    clear c2
    replace H := Option.bind_eq_some_iff.mp H
    obtain ⟨t326, A50, H⟩ := H
    replace H : (some t326) = some r := H
    have A5 := Aside0.mk A50
    clear A50
    obtain rfl := Option.some.inj H
    go_enter Tryd.func17, Tryd.ntmps17
    go_wp2_with (first | (go_at_call 90; (with_reducible refine (W_spec_l01Points.calls a0 t326 _ A5.out).mono ?_); rintro e w6 ⟨v327, rfl, ho0, hb⟩; have n0_ := Aside0.mk (Kd.R_lower ho0 (below_size (by repeat (first | (with_reducible first | exact HB.out | apply below_alloc | apply pw_below_drewN | apply below_drew1) | exact HB.out)))); have n1_ := Aside0.mk (below_step (by repeat (first | (with_reducible first | exact HB.out | apply below_alloc | apply pw_below_drewN | apply below_drew1) | exact HB.out)) hb); have HO328 := n0_; replace HB := n1_; clear n0_ n1_; clear hb; (try clear ho0)))
    go_ret
    exact ⟨_, by first | rfl | (simp [errW_none, errW_some] <;> rfl) | (simp [*, errW_none, errW_some] <;> rfl), by (with_reducible repeat (first | apply Kd.R_alloc | apply Kd.R_drewN | apply Kd.R_drew)); exact HO328.out, by repeat (first | (with_reducible first | exact HB.out | apply below_alloc | apply pw_below_drewN | apply below_drew1) | exact HB.out)⟩

/-! ### laws_lwAt: function 18 -/
def laws_lwAt.f (l0 : List Int) (a1 : Int) (a2 : Int) : Option (Int) := if a2 ≤ 1 then (some 0) else (if (l0.length : Int) = 0 then (some 0) else (if 0 ≤ (Int.tmod a1 (l0.length : Int)) then (if (Int.tmod a1 (l0.length : Int)) < (l0.length : Int) then (if a2 = 0 then (none) else (some (Int.tmod (wrap64 (rd l0 (Int.tmod a1 (l0.length : Int)))) a2))) else (none)) else (none)))
set_option maxHeartbeats 8000000 in
set_option maxRecDepth 100000 in
theorem laws_lwAt.calls (A0 : Option Addr) (c0 : Nat) (l0 : List Int) (a1 : Int) (a2 : Int) (r : Int) (w : World) (hr0 : Kd.C (Kd.int .u8) w A0 l0.length l0) (hc0 : l0.length ≤ c0) (h : laws_lwAt.f l0 a1 a2 = some r) :
    Calls Tryd.prog 18 #[.slice A0 l0.length c0, .int .i64 a1, .int .i64 a2] w fun e w' => e = .returned (.int .i64 r) ∧ Drawn0 w w' := by
  have HR0 := Aside0.mk hr0
  have HC0 := Aside0.mk hc0
  clear hr0 hc0
  have H : (if a2 ≤ 1 then (some 0) else (if (l0.length : Int) = 0 then (some 0) else (if 0 ≤ (Int.tmod a1 (l0.length : Int)) then (if (Int.tmod a1 (l0.length : Int)) < (l0.length : Int) then (if a2 = 0 then (none) else (some (Int.tmod (wrap64 (rd l0 (Int.tmod a1 (l0.length : Int)))) a2))) else (none)) else (none)))) = some r := h
  clear h
  by_cases c4 : a2 ≤ 1
  · rw [if_pos c4] at H
    have c4b0 : decide (a2 ≤ 1) = true := decide_eq_true c4
    clear c4
    obtain rfl := Option.some.inj H
    go_enter Tryd.func18, Tryd.ntmps18
    go_wp2
    go_ret
    exact ⟨by first | rfl | (simp; done) | (simp [*]; done), by repeat (first | exact Drawn0.refl _ | apply Drawn0.step)⟩
  · rw [if_neg c4] at H
    have c4b0 : decide (a2 ≤ 1) = false := decide_eq_false c4
    clear c4
    by_cases c5 : (l0.length : Int) = 0
    · rw [if_pos c5] at H
      have c5b0 : ((l0.length : Int) == 0) = true := beq_iff_eq.mpr c5
      have c5b1 : ((l0.length : Int) != 0) = false := bne_eq_false_iff_eq.mpr c5
      clear c5
      obtain rfl := Option.some.inj H
      go_enter Tryd.func18, Tryd.ntmps18
      go_wp2
      go_ret
      exact ⟨by first | rfl | (simp; done) | (simp [*]; done), by repeat (first | exact Drawn0.refl _ | apply Drawn0.step)⟩
    · rw [if_neg c5] at H
      have c5b0 : ((l0.length : Int) == 0) = false := beq_eq_false_iff_ne.mpr c5
      have c5b1 : ((l0.length : Int) != 0) = true := bne_iff_ne.mpr c5
      have c5b2 : ¬ (l0 = []) := fun h_ => c5 (by rw [h_]; rfl)
      obtain ⟨ji6, hji6⟩ : ∃ j_ : Int, (Int.tmod a1 (l0.length : Int)) = j_ := ⟨_, rfl⟩
      replace H : (if 0 ≤ (ji6) then (if (ji6) < (l0.length : Int) then (if a2 = 0 then (none) else (some (Int.tmod (wrap64 (rd l0 (ji6))) a2))) else (none)) else (none)) = some r := by first | (rw [hji6] at H; exact H) | (simp only [hji6] at H ⊢; exact H)
      by_cases c7 : 0 ≤ (ji6)
      · rw [if_pos c7] at H
        have c7b0 : decide (0 ≤ (ji6)) = true := decide_eq_true c7
        clear c7
        by_cases c8 : (ji6) < (l0.length : Int)
        · rw [if_pos c8] at H
          have c8b0 : decide ((ji6) < (l0.length : Int)) = true := decide_eq_true c8
          clear c8
          by_cases c9 : a2 = 0
          · rw [if_pos c9] at H
            exact absurd H (by simp)
          · rw [if_neg c9] at H
            have c9b0 : (a2 == 0) = false := beq_eq_false_iff_ne.mpr c9
            have c9b1 : (a2 != 0) = true := bne_iff_ne.mpr c9
            obtain rfl := Option.some.inj H
            have p329 : 0 ≤ ((ji6) : Int) := of_decide_eq_true (by first | (with_reducible assumption) | assumption)
            have q329 : (ji6) < (l0.length : Int) := of_decide_eq_true (by first | (with_reducible assumption) | assumption)
            obtain ⟨ad329, e329, hx329_0⟩ := Kd.at_int HR0.out (ji6) p329 q329
            cases e329
            replace p329 := eq_true p329
            replace q329 := eq_true q329
            go_enter Tryd.func18, Tryd.ntmps18
            go_wp2
            go_ret
            exact ⟨by first | rfl | (simp; done) | (simp only [← hji6] <;> (first | rfl | simp)) | (simp [*]; done), by repeat (first | exact Drawn0.refl _ | apply Drawn0.step)⟩
        · rw [if_neg c8] at H
          exact absurd H (by simp)
      · rw [if_neg c7] at H
        exact absurd H (by simp)

/-! ### impl_isSecond: function 143 -/
def impl_isSecond.f (a0 : Int) : Option (Bool) := (impl_in.f a0 4096 4103).bind fun t330 => (if t330 = true then (some true) else ((impl_in.f a0 4112 4119).bind fun t331 => (if t331 = true then (some true) else ((impl_in.f a0 1824 1844).bind fun t332 => (if t332 = true then (some true) else ((impl_in.f a0 1857 1883).bind fun t333 => (some t333)))))))
set_option maxHeartbeats 8000000 in
set_option maxRecDepth 100000 in
theorem impl_isSecond.calls (a0 : Int) (r : Bool) (w : World) (h : impl_isSecond.f a0 = some r) :
    Calls Tryd.prog 143 #[.int .i64 a0] w fun e w' => e = .returned (.bool r) ∧ Drawn0 w w' := by
  have H : ((impl_in.f a0 4096 4103).bind fun t330 => (if t330 = true then (some true) else ((impl_in.f a0 4112 4119).bind fun t331 => (if t331 = true then (some true) else ((impl_in.f a0 1824 1844).bind fun t332 => (if t332 = true then (some true) else ((impl_in.f a0 1857 1883).bind fun t333 => (some t333)))))))) = some r := h
  clear h
  replace H := Option.bind_eq_some_iff.mp H
  obtain ⟨t330, A20, H⟩ := H
  replace H : (if t330 = true then (some true) else ((impl_in.f a0 4112 4119).bind fun t331 => (if t331 = true then (some true) else ((impl_in.f a0 1824 1844).bind fun t332 => (if t332 = true then (some true) else ((impl_in.f a0 1857 1883).bind fun t333 => (some t333))))))) = some r := H
  have A2 := Aside0.mk A20
  clear A20
  by_cases c3 : t330 = true
  · subst c3
    have H1 : (some true) = some r := by rw [if_pos rfl] at H; exact H
    clear H
    have H := H1
    clear H1
    obtain rfl := Option.some.inj H
    go_enter Tryd.func143, Tryd.ntmps143
    go_wp2_with (first | (go_at_call 105; (with_reducible refine (impl_in.calls a0 4096 4103 true _ A2.out).mono ?_); rintro e w' ⟨rfl, ⟨nd, rfl⟩⟩))
    go_ret
    exact ⟨by first | rfl | (simp; done) | (simp [*]; done), by repeat (first | exact Drawn0.refl _ | apply Drawn0.step)⟩
  · replace c3 := Bool.eq_false_iff.mpr c3
    subst c3
    have H1 : ((impl_in.f a0 4112 4119).bind fun t331 => (if t331 = true then (some true) else ((impl_in.f a0 1824 1844).bind fun t332 => (if t332 = true then (some true) else ((impl_in.f a0 1857 1883).bind fun t333 => (some t333)))))) = some r := by rw [if_neg (show ¬ (false = true) by decide)] at H; exact H
    clear H
    have H := H1
    clear H1
    replace H := Option.bind_eq_some_iff.mp H
    obtain ⟨t331, A40, H⟩ := H
    replace H : (if t331 = true then (some true) else ((impl_in.f a0 1824 1844).bind fun t332 => (if t332 = true then (some true) else ((impl_in.f a0 1857 1883).bind fun t333 => (some t333))))) = some r := H
    have A4 := Aside0.mk A40
    clear A40
    by_cases c5 : t331 = true
    · subst c5
      have H1 : (some true) = some r := by rw [if_pos rfl] at H; exact H
      clear H
      have H := H1
      clear H1
      obtain rfl := Option.some.inj H
      go_enter Tryd.func143, Tryd.ntmps143
      go_wp2_with (first | (go_at_call 105; (with_reducible refine (impl_in.calls a0 4096 4103 false _ A2.out).mono ?_); rintro e w' ⟨rfl, ⟨nd, rfl⟩⟩) | (go_at_call 105; (with_reducible refine (impl_in.calls a0 4112 4119 true _ A4.out).mono ?_); rintro e w' ⟨rfl, ⟨nd, rfl⟩⟩))
      go_ret
      exact ⟨by first | rfl | (simp; done) | (simp [*]; done), by repeat (first | exact Drawn0.refl _ | apply Drawn0.step)⟩
    · replace c5 := Bool.eq_false_iff.mpr c5
      subst c5
      have H1 : ((impl_in.f a0 1824 1844).bind fun t332 => (if t332 = true then (some true) else ((impl_in.f a0 1857 1883).bind fun t333 => (some t333)))) = some r := by rw [if_neg (show ¬ (false = true) by decide)] at H; exact H
      clear H
      have H := H1
      clear H1
      replace H := Option.bind_eq_some_iff.mp H
      obtain ⟨t332, A60, H⟩ := H
      replace H : (if t332 = true then (some true) else ((impl_in.f a0 1857 1883).bind fun t333 => (some t333))) = some r := H
      have A6 := Aside0.mk A60
      clear A60
      by_cases c7 : t332 = true
      · subst c7
        have H1 : (some true) = some r := by rw [if_pos rfl] at H; exact H
        clear H
        have H := H1
        clear H1
        obtain rfl := Option.some.inj H
        go_enter Tryd.func143, Tryd.ntmps143
        go_wp2_with (first | (go_at_call 105; (with_reducible refine (impl_in.calls a0 4096 4103 false _ A2.out).mono ?_); rintro e w' ⟨rfl, ⟨nd, rfl⟩⟩) | (go_at_call 105; (with_reducible refine (impl_in.calls a0 4112 4119 false _ A4.out).mono ?_); rintro e w' ⟨rfl, ⟨nd, rfl⟩⟩) | (go_at_call 105; (with_reducible refine (impl_in.calls a0 1824 1844 true _ A6.out).mono ?_); rintro e w' ⟨rfl, ⟨nd, rfl⟩⟩))
        go_ret
        exact ⟨by first | rfl | (simp; done) | (simp [*]; done), by repeat (first | exact Drawn0.refl _ | apply Drawn0.step)⟩
      · replace c7 := Bool.eq_false_iff.mpr c7
        subst c7
        have H1 : ((impl_in.f a0 1857 1883).bind fun t333 => (some t333)) = some r := by rw [if_neg (show ¬ (false = true) by decide)] at H; exact H
        clear H
        have H := H1
        clear H1
        replace H := Option.bind_eq_some_iff.mp H
        obtain ⟨t333, A80, H⟩ := H
        replace H : (some t333) = some r := H
        have A8 := Aside0.mk A80
        clear A80
        obtain rfl := Option.some.inj H
        go_enter Tryd.func143, Tryd.ntmps143
        go_wp2_with (first | (go_at_call 105; (with_reducible refine (impl_in.calls a0 4096 4103 false _ A2.out).mono ?_); rintro e w' ⟨rfl, ⟨nd, rfl⟩⟩) | (go_at_call 105; (with_reducible refine (impl_in.calls a0 4112 4119 false _ A4.out).mono ?_); rintro e w' ⟨rfl, ⟨nd, rfl⟩⟩) | (go_at_call 105; (with_reducible refine (impl_in.calls a0 1824 1844 false _ A6.out).mono ?_); rintro e w' ⟨rfl, ⟨nd, rfl⟩⟩) | (go_at_call 105; (with_reducible refine (impl_in.calls a0 1857 1883 t333 _ A8.out).mono ?_); rintro e w' ⟨rfl, ⟨nd, rfl⟩⟩))
        go_ret
        exact ⟨by first | rfl | (simp; done) | (simp [*]; done), by repeat (first | exact Drawn0.refl _ | apply Drawn0.step)⟩

/-! ### impl_safe: function 92 (by hand) -/
def impl_safe.f (a0 a1 : Int) : Option Bool := if 0 ≤ a0 ∧ a0 ≤ 1114111 then some (YtiabgmddnddeiaaDoorNmr.sf a1 a0) else none
theorem impl_safe.sec (p : Int) (W : World) : Calls Tryd.prog 143 #[.int .i64 p] W fun e w' => e = .returned (.bool (decide (YtiabgmddnddeiaaDoorNrm.second p))) ∧ Drawn0 W w' := by
  refine impl_isSecond.calls p _ W ?_
  have hin : ∀ a b : Int, impl_in.f p a b = some (decide (a ≤ p ∧ p ≤ b)) := by
    intro a b
    unfold impl_in.f
    by_cases c : p ≥ a
    · rw [if_pos c, Option.some.injEq, decide_eq_decide]; omega
    · rw [if_neg c, decide_eq_false (fun z => c z.1)]
  unfold impl_isSecond.f
  rw [hin, hin, hin, hin]
  simp only [Option.bind_some, decide_eq_true_eq]
  by_cases c1 : 4096 ≤ p ∧ p ≤ 4103
  · rw [if_pos c1]; congr 1; symm; exact decide_eq_true (.inl c1)
  rw [if_neg c1]
  by_cases c2 : 4112 ≤ p ∧ p ≤ 4119
  · rw [if_pos c2]; congr 1; symm; exact decide_eq_true (.inr (.inl c2))
  rw [if_neg c2]
  by_cases c3 : 1824 ≤ p ∧ p ≤ 1844
  · rw [if_pos c3]; congr 1; symm; exact decide_eq_true (.inr (.inr (.inl c3)))
  rw [if_neg c3]
  by_cases c4 : 1857 ≤ p ∧ p ≤ 1883
  · rw [decide_eq_true c4]; congr 1; symm; exact decide_eq_true (.inr (.inr (.inr c4)))
  · rw [decide_eq_false c4]; congr 1; symm
    exact decide_eq_false (fun z => by rcases z with z | z | z | z; exact c1 z; exact c2 z; exact c3 z; exact c4 z)
set_option maxHeartbeats 8000000 in
set_option maxRecDepth 100000 in
theorem impl_safe.calls (a0 a1 : Int) (r : Bool) (w : World) (h : impl_safe.f a0 a1 = some r) :
    Calls Tryd.prog 92 #[.int .i64 a0, .int .i64 a1] w fun e w' => e = .returned (.bool r) ∧ Below w.heap.size w w' := by
  unfold impl_safe.f at h
  by_cases hp : 0 ≤ a0 ∧ a0 ≤ 1114111
  · rw [if_pos hp] at h
    have hr := Option.some.inj h
    clear h
    have hd := YtiabgmddnddeiaaDoorNrm.dec_first (decide (3 ≤ a1)) a0
    replace hr : decide (YtiabgmddnddeiaaDoorNrm.cls (YtiabgmddnddeiaaDoorNrm.first (decide (3 ≤ a1)) a0) = 0 ∧ ¬ YtiabgmddnddeiaaDoorNrm.second (YtiabgmddnddeiaaDoorNrm.first (decide (3 ≤ a1)) a0)) = r := by
      rw [← hr]; unfold YtiabgmddnddeiaaDoorNmr.sf; exact decide_eq_decide.2 Iff.rfl
    obtain ⟨q, hq⟩ : ∃ q, YtiabgmddnddeiaaDoorNrm.first (decide (3 ≤ a1)) a0 = q := ⟨_, rfl⟩
    obtain ⟨t, ht⟩ : ∃ t, (YtiabgmddnddeiaaDoorNrm.dec (decide (3 ≤ a1)) a0).tail = t := ⟨_, rfl⟩
    rw [hq] at hr hd
    rw [ht] at hd
    have HD := Aside0.mk (fun W => impl_decompose.calls a0 (decide (3 ≤ a1)) W hp.1 hp.2)
    rw [hd] at HD
    obtain ⟨c, hc⟩ : ∃ c, YtiabgmddnddeiaaDoorNrm.cls q = c := ⟨_, rfl⟩
    have HM := Aside0.mk (fun W => impl_normal.mark q W)
    rw [hc] at HM hr
    have HS := Aside0.mk (fun W => impl_safe.sec q W)
    have HR := Aside0.mk hr
    have HB := Aside0.mk (Below.refl w.heap.size w)
    clear hq ht hd hr hc hp
    go_enter Tryd.func92, Tryd.ntmps92
    go_wp2_with (first
      | (go_at_call 168; (with_reducible refine (HD.out _).mono ?_); rintro e w1 ⟨v, rfl, ho, hb⟩; replace HB := Aside0.mk (below_step HB.out hb); obtain ⟨g, k, rfl, -⟩ := Kd.R_form ho (by simp only [List.length_cons]; omega); obtain ⟨ad, he, hx⟩ := Kd.at_int (Kd.R_reads' ho).2.2 0 (Int.le_refl _) (by simp only [List.length_cons]; omega); cases he; have hx2 : w1.cell? ⟨g, 0, none⟩ = some (.int .i64 q) := hx; have hn : (0 : Int) < ((q :: t).length : Int) := (by simp only [List.length_cons]; omega); have hn2 := eq_true hn; clear ho hb hx)
      | (go_at_call 141; ((with_reducible refine (HM.out _).mono ?_); rintro e w4 ⟨rfl, ⟨nd4, rfl⟩⟩))
      | (go_at_call 143; ((with_reducible refine (HS.out _).mono ?_); rintro e w7 ⟨rfl, ⟨nd7, rfl⟩⟩)))
    all_goals
      go_ret
      refine ⟨?_, by repeat (with_reducible first | exact HB.out | apply pw_below_drewN)⟩
      rw [← HR.out]
      first
        | (simp [*]; done)
        | (simp_all; done)
  · rw [if_neg hp] at h
    cases h

/-! ### utf8_ValidString: function 178 (by hand) -/
def utf8_ValidString.f (a0 : ByteArray) : Option Bool := if a0.size ≤ 9223372036854775807 then some (Lib.validD a0.data.toList) else none
theorem utf8_ValidString.calls (a0 : ByteArray) (r : Bool) (w : World) (h : utf8_ValidString.f a0 = some r) (hG : GT w) :
    Calls Tryd.prog 178 #[.string a0] w fun e w' => e = .returned (.bool r) ∧ Below w.heap.size w w' := by
  unfold utf8_ValidString.f at h
  split at h
  · rename_i hs
    obtain rfl := Option.some.inj h
    exact Tryd.utf8_ValidString a0 w hs hG
  · cases h

/-! ### impl_well: function 99 -/
def impl_well.f (a0 : ByteArray) : Option (Bool) := (utf8_ValidString.f a0).bind fun t334 => (some t334)
set_option maxHeartbeats 8000000 in
set_option maxRecDepth 100000 in
theorem impl_well.calls (a0 : ByteArray) (r : Bool) (w : World) (h : impl_well.f a0 = some r) (hG : GT w) :
    Calls Tryd.prog 99 #[.string a0] w fun e w' => e = .returned (.bool r) ∧ Below w.heap.size w w' := by
  have HG := Aside0.mk hG
  clear hG
  have HB := Aside0.mk (Below.refl w.heap.size w)
  have H : ((utf8_ValidString.f a0).bind fun t334 => (some t334)) = some r := h
  clear h
  replace H := Option.bind_eq_some_iff.mp H
  obtain ⟨t334, A20, H⟩ := H
  replace H : (some t334) = some r := H
  have A2 := Aside0.mk A20
  clear A20
  obtain rfl := Option.some.inj H
  go_enter Tryd.func99, Tryd.ntmps99
  go_wp2_with (first | (go_at_call 178; (with_reducible refine (utf8_ValidString.calls a0 t334 _ A2.out gtA).mono ?_); rintro e w3 ⟨rfl, hb⟩; replace HB := Aside0.mk (below_step (by repeat (first | (with_reducible first | exact HB.out | apply below_alloc | apply pw_below_drewN | apply below_drew1) | exact HB.out)) hb);  clear hb))
  go_ret
  exact ⟨by first | rfl | (simp [errW_none, errW_some] <;> rfl) | (simp [*, errW_none, errW_some] <;> rfl), by repeat (first | (with_reducible first | exact HB.out | apply below_alloc | apply pw_below_drewN | apply below_drew1) | exact HB.out)⟩

end Go.Proofs.YtiabgmddnddeiaaDoor.QFnNormer
