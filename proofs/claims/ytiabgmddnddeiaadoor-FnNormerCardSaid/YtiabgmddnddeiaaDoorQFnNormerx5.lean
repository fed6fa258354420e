/- The law FnNormer: at every input the call answers true (this text: contracts on its way, by a program of this session's; no condition of ours). -/
import Derived.Test.YtiabgmddnddeiaaDoorQFnNormerx0
import Derived.Test.YtiabgmddnddeiaaDoorQFnNormerx1
namespace Go.Proofs.YtiabgmddnddeiaaDoor.QFnNormer
open Go.RowKit Go.Proofs.YtiabgmddnddeiaaDoorW.PrintWords Go.Proofs.YtiabgmddnddeiaaDoorW.PrintLast Go.Proofs.YtiabgmddnddeiaaDoorW.PrintMore
attribute [local go_sem] max2_int min2_int max_two min_two max_three min_three max_four min_four   -- for this text's walks alone
set_option linter.unusedVariables false
set_option linter.unusedSimpArgs false

/-! ### spec_l05K: function 175 -/
def spec_l05K.f (a0 : Int) : Option (Bool) := some (decide (a0 ≥ 3))
set_option maxHeartbeats 8000000 in
set_option maxRecDepth 100000 in
theorem spec_l05K.calls (a0 : Int) (r : Bool) (w : World) (h : spec_l05K.f a0 = some r) :
    Calls Tryd.prog 175 #[.int .i64 a0] w fun e w' => e = .returned (.bool r) ∧ Drawn0 w w' := by
  have H : (some (decide (a0 ≥ 3))) = some r := h
  clear h
  obtain rfl := Option.some.inj H
  go_enter Tryd.func175, Tryd.ntmps175
  go_wp2
  go_ret
  exact ⟨by first | rfl | (simp; done) | (simp [*]; done), by repeat (first | exact Drawn0.refl _ | apply Drawn0.step)⟩

/-! ### spec_l01Class: function 145 -/
def spec_l01Class.j0 : Nat → Int → Bool → Option (Int)
 | 0, _, _ => none
 | k + 1, x0, x13 => if x13 = true then (some 0) else (if (wrap64 (x0 - 4096)) < 16 then (some 230) else (if (wrap64 (x0 - 4096)) < 32 then (some 220) else (if (wrap64 (x0 - 4096)) < 40 then (some 202) else (if (wrap64 (x0 - 4096)) < 48 then (some 1) else (if (wrap64 (x0 - 4096)) < 56 then (some 232) else (some 0))))))
def spec_l01Class.f (k : Nat) (a0 : Int) : Option (Int) := if a0 = 1584 then (some 9) else (if a0 = 1585 then (some 7) else (if a0 < 4096 then (spec_l01Class.j0 k a0 true) else (spec_l01Class.j0 k a0 (decide (a0 > 4159)))))
theorem spec_l01Class.mono_l : ∀ k, (∀ y0 y1, LeO (spec_l01Class.j0 k y0 y1) (spec_l01Class.j0 (k + 1) y0 y1))
 | 0 => fun _ _ r h => by simp [spec_l01Class.j0] at h
 | k + 1 => by
  have ih0 := spec_l01Class.mono_l k; intro y0 y1
  unfold spec_l01Class.j0
  repeat' first
  | (with_reducible exact ih0 _ _)
  | (with_reducible exact LeO.refl _)
  | (with_reducible exact LeO.none _)
  | (with_reducible refine LeO.ite ?_ ?_)
  | (with_reducible refine LeO.bind ?_ (fun _ => ?_))
  | exact ih0 _ _
  | exact LeO.none _
  | refine LeO.ite ?_ ?_
  | refine LeO.bind ?_ (fun _ => ?_)
theorem spec_l01Class.mono : ∀ a0 k, LeO (spec_l01Class.f k a0) (spec_l01Class.f (k + 1) a0) := by
 intro a0 k
 have ih0 := spec_l01Class.mono_l k
 unfold spec_l01Class.f
 repeat' first
   | (with_reducible exact ih0 _ _)
   | (with_reducible exact LeO.refl _)
   | (with_reducible exact LeO.none _)
   | (with_reducible refine LeO.ite ?_ ?_)
   | (with_reducible refine LeO.bind ?_ (fun _ => ?_))
   | exact ih0 _ _
   | exact LeO.none _
   | refine LeO.ite ?_ ?_
   | refine LeO.bind ?_ (fun _ => ?_)
set_option maxHeartbeats 8000000 in
set_option maxRecDepth 100000 in
theorem spec_l01Class.calls (k : Nat) (a0 : Int) (r : Int) (w : World) (h : spec_l01Class.f k a0 = some r) :
  Calls Tryd.prog 145 #[.int .i64 a0] w fun e w' => e = .returned (.int .i64 r) ∧ Drawn0 w w' := by
 have H : (if a0 = 1584 then (some 9) else (if a0 = 1585 then (some 7) else (if a0 < 4096 then (spec_l01Class.j0 k a0 true) else (spec_l01Class.j0 k a0 (decide (a0 > 4159)))))) = some r := h
 clear h
 by_cases c2 : a0 = 1584
 ·rw [if_pos c2] at H
  have c2b0 : (a0 == 1584) = true := beq_iff_eq.mpr c2; have c2b1 : (a0 != 1584) = false := bne_eq_false_iff_eq.mpr c2; clear c2; obtain rfl := Option.some.inj H
  go_enter Tryd.func145, Tryd.ntmps145
  go_wp2
  go_ret
  exact ⟨by first | rfl | (simp; done) | (simp [*]; done), drw0⟩
 rw [if_neg c2] at H
 have c2b0 : (a0 == 1584) = false := beq_eq_false_iff_ne.mpr c2
 have c2b1 : (a0 != 1584) = true := bne_iff_ne.mpr c2
 by_cases c3 : a0 = 1585
 ·rw [if_pos c3] at H
  have c3b0 : (a0 == 1585) = true := beq_iff_eq.mpr c3; have c3b1 : (a0 != 1585) = false := bne_eq_false_iff_eq.mpr c3; clear c3; obtain rfl := Option.some.inj H
  go_enter Tryd.func145, Tryd.ntmps145
  go_wp2
  go_ret
  exact ⟨by first | rfl | (simp; done) | (simp [*]; done), drw0⟩
 rw [if_neg c3] at H
 have c3b0 : (a0 == 1585) = false := beq_eq_false_iff_ne.mpr c3
 have c3b1 : (a0 != 1585) = true := bne_iff_ne.mpr c3
 have HC4 := Aside0.mk H
 clear H
 go_enter Tryd.func145, Tryd.ntmps145
 go_upto_region 5 with (fail)
 go_cut [13] (fun v13 wc => ∃ (kq : Nat) (x13_3 : Bool), v13 = .bool x13_3 ∧ Aside0 (spec_l01Class.j0 kq a0 x13_3 = some r) ∧ Aside0 (kq ≤ k) ∧ Drawn0 w wc)
 case first =>
  have H := HC4.out; clear HC4
  by_cases c5 : a0 < 4096
  ·rw [if_pos c5] at H
   have c5b0 : decide (a0 < 4096) = true := decide_eq_true c5; clear c5
   (first | rw [c5b0] | (simp only [i64_w, i32_w]; rw [c5b0]) | skip)
   have H' := Aside0.mk H; clear H
   go_wp2
   go_meet
   case rel => exact ⟨_, (true), (by first | rfl | (simp; done) | (simp [*]; done)), H', ⟨by first | omega | exact Nat.le_refl _⟩, drw0⟩
  rw [if_neg c5] at H; have c5b0 : decide (a0 < 4096) = false := decide_eq_false c5; clear c5
  (first | rw [c5b0] | (simp only [i64_w, i32_w]; rw [c5b0]) | skip)
  have H' := Aside0.mk H; clear H
  go_wp2
  go_meet
  case rel => exact ⟨_, (decide (a0 > 4159)), (by first | rfl | (simp; done) | (simp [*]; done)), H', ⟨by first | omega | exact Nat.le_refl _⟩, drw0⟩
 case rest =>
  clear HC4
  try clear c1; try clear c2; try clear c2b0; try clear c2b1; try clear p2; try clear c3; try clear c3b0; try clear c3b1; try clear c5; try clear c5b0
  obtain ⟨kq, x13_3, rfl, HA, HJ3, ⟨mc3, rfl⟩⟩ := hcut
  cases kq with
  | zero => exact absurd HA.out (by simp [spec_l01Class.j0])
  | succ kj3 =>
   have H := HA.out; clear HA; simp only [spec_l01Class.j0] at H
   by_cases c6 : x13_3 = true
   ·subst c6
    have H1 : (some 0) = some r := by rw [if_pos rfl] at H; exact H
    clear H; have H := H1; clear H1; obtain rfl := Option.some.inj H
    go_wp2
    go_ret
    exact ⟨by first | rfl | (simp; done) | (simp [*]; done), drw0⟩
   replace c6 := Bool.eq_false_iff.mpr c6; subst c6
   have H1 : (if (wrap64 (a0 - 4096)) < 16 then (some 230) else (if (wrap64 (a0 - 4096)) < 32 then (some 220) else (if (wrap64 (a0 - 4096)) < 40 then (some 202) else (if (wrap64 (a0 - 4096)) < 48 then (some 1) else (if (wrap64 (a0 - 4096)) < 56 then (some 232) else (some 0)))))) = some r := by rw [if_neg (show ¬ (false = true) by decide)] at H; exact H
   clear H; have H := H1; clear H1
   by_cases c7 : (wrap64 (a0 - 4096)) < 16
   ·rw [if_pos c7] at H
    have c7b0 : decide ((wrap64 (a0 - 4096)) < 16) = true := decide_eq_true c7; clear c7; obtain rfl := Option.some.inj H
    go_wp2
    go_ret
    exact ⟨by first | rfl | (simp; done) | (simp [*]; done), drw0⟩
   rw [if_neg c7] at H; have c7b0 : decide ((wrap64 (a0 - 4096)) < 16) = false := decide_eq_false c7; clear c7
   by_cases c8 : (wrap64 (a0 - 4096)) < 32
   ·rw [if_pos c8] at H
    have c8b0 : decide ((wrap64 (a0 - 4096)) < 32) = true := decide_eq_true c8; clear c8; obtain rfl := Option.some.inj H
    go_wp2
    go_ret
    exact ⟨by first | rfl | (simp; done) | (simp [*]; done), drw0⟩
   rw [if_neg c8] at H; have c8b0 : decide ((wrap64 (a0 - 4096)) < 32) = false := decide_eq_false c8; clear c8
   by_cases c9 : (wrap64 (a0 - 4096)) < 40
   ·rw [if_pos c9] at H
    have c9b0 : decide ((wrap64 (a0 - 4096)) < 40) = true := decide_eq_true c9; clear c9; obtain rfl := Option.some.inj H
    go_wp2
    go_ret
    exact ⟨by first | rfl | (simp; done) | (simp [*]; done), drw0⟩
   rw [if_neg c9] at H; have c9b0 : decide ((wrap64 (a0 - 4096)) < 40) = false := decide_eq_false c9; clear c9
   by_cases c10 : (wrap64 (a0 - 4096)) < 48
   ·rw [if_pos c10] at H
    have c10b0 : decide ((wrap64 (a0 - 4096)) < 48) = true := decide_eq_true c10; clear c10; obtain rfl := Option.some.inj H
    go_wp2
    go_ret
    exact ⟨by first | rfl | (simp; done) | (simp [*]; done), drw0⟩
   rw [if_neg c10] at H; have c10b0 : decide ((wrap64 (a0 - 4096)) < 48) = false := decide_eq_false c10; clear c10
   by_cases c11 : (wrap64 (a0 - 4096)) < 56
   ·rw [if_pos c11] at H
    have c11b0 : decide ((wrap64 (a0 - 4096)) < 56) = true := decide_eq_true c11; clear c11; obtain rfl := Option.some.inj H
    go_wp2
    go_ret
    exact ⟨by first | rfl | (simp; done) | (simp [*]; done), drw0⟩
   rw [if_neg c11] at H; have c11b0 : decide ((wrap64 (a0 - 4096)) < 56) = false := decide_eq_false c11; clear c11; obtain rfl := Option.some.inj H
   go_wp2
   go_ret
   exact ⟨by first | rfl | (simp; done) | (simp [*]; done), drw0⟩

def W_spec_l01Class.f (a0 : Int) : Option Int := if -4611686018427387904 ≤ a0 ∧ a0 ≤ 4611686018427387904 then some (YtiabgmddnddeiaaDoorNrm.cls a0) else none
theorem W_spec_l01Class.eq {p : Int} (h0 : 0 ≤ p) (h1 : p ≤ 1114111) : W_spec_l01Class.f p = some (YtiabgmddnddeiaaDoorNrm.cls p) := if_pos (by omega)
theorem W_spec_l01Class.to {a0 : Int} {r : Int} (h : W_spec_l01Class.f a0 = some r) : ∃ k, spec_l01Class.f k a0 = some r := by
  unfold W_spec_l01Class.f at h
  split at h
  · rename_i hp
    refine ⟨1, ?_⟩
    rw [← h]
    unfold spec_l01Class.f YtiabgmddnddeiaaDoorNrm.cls
    by_cases c1 : a0 = 1584
    · rw [if_pos c1, if_pos c1]
    rw [if_neg c1, if_neg c1]
    by_cases c2 : a0 = 1585
    · rw [if_pos c2, if_pos c2]
    rw [if_neg c2, if_neg c2]
    have e : wrap64 (a0 - 4096) = a0 - 4096 := by unfold wrap64; omega
    by_cases c3 : a0 < 4096
    · rw [if_pos c3, if_pos (show a0 < 4096 ∨ 4159 < a0 by omega)]
      simp only [spec_l01Class.j0]
      rw [if_pos trivial]
    · rw [if_neg c3]
      by_cases c4 : a0 > 4159
      · rw [decide_eq_true c4, if_pos (show a0 < 4096 ∨ 4159 < a0 by omega)]
        simp only [spec_l01Class.j0]
        rw [if_pos trivial]
      · rw [decide_eq_false c4, if_neg (show ¬ (a0 < 4096 ∨ 4159 < a0) by omega)]
        simp only [spec_l01Class.j0]
        rw [if_neg (by decide), e]
        repeat' split
        all_goals first
          | rfl
          | (exfalso; omega)
  · cases h
theorem W_spec_l01Class.calls (a0 : Int) (r : Int) (w : World) (h : W_spec_l01Class.f a0 = some r) :
    Calls Tryd.prog 145 #[.int .i64 a0] w fun e w' => e = .returned (.int .i64 r) ∧ Drawn0 w w' := by
  obtain ⟨k, hk⟩ := W_spec_l01Class.to h
  exact spec_l01Class.calls k a0 r w hk

/-! ### spec_l05Ordered: function 176 -/
mutual
def spec_l05Ordered.l0 : Nat → List Int → Int → Option (List Int)
 | 0, _, _ => none
 | k + 1, x3, x4 => if x4 < (x3.length : Int) then (if 0 ≤ x4 then ((W_spec_l01Class.f (rd x3 x4)).bind fun t182 => (if t182 = 0 then (spec_l05Ordered.l0 k x3 (wrap64 (x4 + 1))) else (spec_l05Ordered.l1 k x3 x4 x4))) else (none)) else (some x3)
def spec_l05Ordered.l1 : Nat → List Int → Int → Int → Option (List Int)
 | 0, _, _, _ => none
 | k + 1, x3, x4, x5 => if x5 > 0 then (if 0 ≤ (wrap64 (x5 - 1)) then (if (wrap64 (x5 - 1)) < (x3.length : Int) then ((W_spec_l01Class.f (rd x3 (wrap64 (x5 - 1)))).bind fun t184 => (if 0 ≤ x5 then (if x5 < (x3.length : Int) then ((W_spec_l01Class.f (rd x3 x5)).bind fun t186 => (if t184 > t186 then (spec_l05Ordered.l1 k ((x3.set (x5 : Int).toNat (rd x3 (wrap64 (x5 - 1)))).set ((wrap64 (x5 - 1)) : Int).toNat (rd x3 x5)) x4 (wrap64 (x5 - 1))) else (spec_l05Ordered.l0 k x3 (wrap64 (x4 + 1))))) else (none)) else (none))) else (none)) else (none)) else (spec_l05Ordered.l0 k x3 (wrap64 (x4 + 1)))
end
def spec_l05Ordered.f (k : Nat) (l0 : List Int) : Option (List Int) := (some (([] : List Int) : List Int)).bind fun y175 => (if y175.length + l0.length < 17592186044416 then (spec_l05Ordered.l0 k (y175 ++ l0) 0) else (none))
theorem spec_l05Ordered.mono_l : ∀ k, (∀ y0 y1, LeO (spec_l05Ordered.l0 k y0 y1) (spec_l05Ordered.l0 (k + 1) y0 y1)) ∧ (∀ y0 y1 y2, LeO (spec_l05Ordered.l1 k y0 y1 y2) (spec_l05Ordered.l1 (k + 1) y0 y1 y2))
 | 0 => ⟨fun _ _ r h => by simp [spec_l05Ordered.l0] at h, fun _ _ _ r h => by simp [spec_l05Ordered.l1] at h⟩
 | k + 1 => by
  obtain ⟨ih0, ih1⟩ := spec_l05Ordered.mono_l k; refine ⟨?_, ?_⟩
  ·intro y0 y1
   unfold spec_l05Ordered.l0
   repeat' first
   | (with_reducible exact ih0 _ _)
   | (with_reducible exact ih1 _ _ _)
   | (with_reducible exact LeO.refl _)
   | (with_reducible exact LeO.none _)
   | (with_reducible refine LeO.ite ?_ ?_)
   | (with_reducible refine LeO.bind ?_ (fun _ => ?_))
   | exact ih0 _ _
   | exact ih1 _ _ _
   | exact LeO.none _
   | refine LeO.ite ?_ ?_
   | refine LeO.bind ?_ (fun _ => ?_)
  intro y0 y1 y2
  unfold spec_l05Ordered.l1
  repeat' first
  | (with_reducible exact ih0 _ _)
  | (with_reducible exact ih1 _ _ _)
  | (with_reducible exact LeO.refl _)
  | (with_reducible exact LeO.none _)
  | (with_reducible refine LeO.ite ?_ ?_)
  | (with_reducible refine LeO.bind ?_ (fun _ => ?_))
  | exact ih0 _ _
  | exact ih1 _ _ _
  | exact LeO.none _
  | refine LeO.ite ?_ ?_
  | refine LeO.bind ?_ (fun _ => ?_)
theorem spec_l05Ordered.mono : ∀ a0 k, LeO (spec_l05Ordered.f k a0) (spec_l05Ordered.f (k + 1) a0) := by
 intro a0 k
 obtain ⟨ih0, ih1⟩ := spec_l05Ordered.mono_l k
 unfold spec_l05Ordered.f
 repeat' first
   | (with_reducible exact ih0 _ _)
   | (with_reducible exact ih1 _ _ _)
   | (with_reducible exact LeO.refl _)
   | (with_reducible exact LeO.none _)
   | (with_reducible refine LeO.ite ?_ ?_)
   | (with_reducible refine LeO.bind ?_ (fun _ => ?_))
   | exact ih0 _ _
   | exact ih1 _ _ _
   | exact LeO.none _
   | refine LeO.ite ?_ ?_
   | refine LeO.bind ?_ (fun _ => ?_)
set_option maxHeartbeats 8000000 in
set_option maxRecDepth 100000 in
theorem spec_l05Ordered.calls (k : Nat) (A0 : Option Addr) (c0 : Nat) (l0 : List Int) (r : List Int) (w : World) (hr0 : Kd.C (Kd.int .i64) w A0 l0.length l0) (hc0 : l0.length ≤ c0) (h : spec_l05Ordered.f k l0 = some r) :
  Calls Tryd.prog 176 #[.slice A0 l0.length c0] w fun e w' => ∃ v0_ : Value, e = .returned (v0_) ∧ Kd.R (Kd.int .i64) 2 w' w.heap.size (fun _ => True) v0_ r ∧ Below w.heap.size w w' := by
 have HR0 := Aside0.mk hr0
 have HC0 := Aside0.mk hc0
 clear hr0 hc0
 have HB := Aside0.mk (Below.refl w.heap.size w)
 have H : ((some (([] : List Int) : List Int)).bind fun y175 => (if y175.length + l0.length < 17592186044416 then (spec_l05Ordered.l0 k (y175 ++ l0) 0) else (none))) = some r := h
 clear h
 obtain ⟨y175, hy175⟩ : ∃ y_ : List Int, y_ = (([] : List Int)) := ⟨_, rfl⟩
 replace H : (if y175.length + l0.length < 17592186044416 then (spec_l05Ordered.l0 k (y175 ++ l0) 0) else (none)) = some r := by first | (rw [hy175]; with_reducible exact H) | (have H2_ := (Option.bind_some _ _).symm.trans H; rw [hy175]; with_reducible exact H2_) | (have H2_ := (Option.bind_some _ _).symm.trans H; with_reducible exact H2_) | with_reducible exact H | (rw [hy175]; exact H) | exact H
 have Ny175 := Aside0.mk hy175
 clear hy175
 by_cases c2 : y175.length + l0.length < 17592186044416
 ·rw [if_pos c2] at H
  have LMc2 := Aside0.mk c2; clear c2; obtain ⟨y178, hy178⟩ : ∃ y_ : List Int, y_ = (y175 ++ l0) := ⟨_, rfl⟩
  replace H : (spec_l05Ordered.l0 k y178 0) = some r := by first | (rw [hy178]; with_reducible exact H) | (have H2_ := (Option.bind_some _ _).symm.trans H; rw [hy178]; with_reducible exact H2_) | (have H2_ := (Option.bind_some _ _).symm.trans H; with_reducible exact H2_) | with_reducible exact H | (rw [hy178]; exact H) | exact H
  have Ny178 := Aside0.mk hy178; clear hy178; have H' := Aside0.mk H; clear H
  go_enter Tryd.func176, Tryd.ntmps176
  go_wp2_with (first | ((with_reducible refine gate_dst (N := 7) rfl ?_); refine Kd.R_lit (Kd.int .i64) _ 2 ?hg (N := 7) ?hd (xs := ([] : List Int)) (inner := []) (ok := fun _ => True) (okp := fun _ => True) ?hr ?hp (fun _ hk => hk) trivial (Below.refl _ _) (Nat.le_refl _) (by simp) ?_; (case hd => rfl); (case hg => rfl); (case hr => first | (go_simp; done) | (go_simp; rfl)); (case hp => exact (Reps.none _ _)); intro v176 w3 ho4 hb hg_ hnew_; clear hg_ hnew_; (first | rw [← Ny175.out] at ho4 | (simp only [Int.reduceToNat] at ho4; rw [← Ny175.out] at ho4)); have n0_ := Aside0.mk (Kd.R_lower ho4 (below_size (belowA))); have n1_ := Aside0.mk (below_step (belowA) hb); have HO177 := n0_; replace HB := n1_; clear n0_ n1_; clear hb ho4) | ((with_reducible refine gate_builtin (b := .append) (xs := #[.tmp 7, .tmp 8]) rfl ?_); at_builtin; refine Kd.R_append_rows (Kd.int .i64) (w0 := w) w.heap.size rfl (.tmp 7) (.tmp 8) 28 2 (.int .i64 0) 8 rfl Tryd.underlying28 info2 rfl (by decide) (by omega) v176 y175 l0 _ _ _ (fun _ => True) (fun _ => False) rfl rfl ?aO ?aR (fun _ _ h => h) (fun _ h => h.elim) ?aF ?aB ?aS ?aL ?_; (case aR => repeat (first | exact (Kd.C_below HR0.out HB.out) | (with_reducible refine Kd.C_alloc ?_ _) | (with_reducible refine Kd.C_drewN ?_ _) | (with_reducible refine Kd.C_drew ?_))); (case aB => exact (belowA)); (case aF => exact (fun _ _ => trivial)); (case aO => exact (by (with_reducible repeat (first | apply Kd.R_alloc | apply Kd.R_drewN | apply Kd.R_drew)); exact HO177.out)); (case aS => exact (below_size (belowA))); (case aL => have := LMc2.out; omega); intro v179 w5 ho hb hg hat; rw [← Ny178.out] at ho; have n0_ := Aside0.mk (hb); have n1_ := Aside0.mk (ho); replace HB := n0_; have HO180 := n1_; clear HO177; clear n0_ n1_; clear ho hb hg hat))
  repeat (go_quiet (first | ((with_reducible refine gate_dst (N := 7) rfl ?_); refine Kd.R_lit (Kd.int .i64) _ 2 ?hg (N := 7) ?hd (xs := ([] : List Int)) (inner := []) (ok := fun _ => True) (okp := fun _ => True) ?hr ?hp (fun _ hk => hk) trivial (Below.refl _ _) (Nat.le_refl _) (by simp) ?_; (case hd => rfl); (case hg => rfl); (case hr => first | (go_simp; done) | (go_simp; rfl)); (case hp => exact (Reps.none _ _)); intro v176 w3 ho4 hb hg_ hnew_; clear hg_ hnew_; (first | rw [← Ny175.out] at ho4 | (simp only [Int.reduceToNat] at ho4; rw [← Ny175.out] at ho4)); have n0_ := Aside0.mk (Kd.R_lower ho4 (below_size (belowA))); have n1_ := Aside0.mk (below_step (belowA) hb); have HO177 := n0_; replace HB := n1_; clear n0_ n1_; clear hb ho4) | ((with_reducible refine gate_builtin (b := .append) (xs := #[.tmp 7, .tmp 8]) rfl ?_); at_builtin; refine Kd.R_append_rows (Kd.int .i64) (w0 := w) w.heap.size rfl (.tmp 7) (.tmp 8) 28 2 (.int .i64 0) 8 rfl Tryd.underlying28 info2 rfl (by decide) (by omega) v176 y175 l0 _ _ _ (fun _ => True) (fun _ => False) rfl rfl ?aO ?aR (fun _ _ h => h) (fun _ h => h.elim) ?aF ?aB ?aS ?aL ?_; (case aR => repeat (first | exact (Kd.C_below HR0.out HB.out) | (with_reducible refine Kd.C_alloc ?_ _) | (with_reducible refine Kd.C_drewN ?_ _) | (with_reducible refine Kd.C_drew ?_))); (case aB => exact (belowA)); (case aF => exact (fun _ _ => trivial)); (case aO => exact (by (with_reducible repeat (first | apply Kd.R_alloc | apply Kd.R_drewN | apply Kd.R_drew)); exact HO177.out)); (case aS => exact (below_size (belowA))); (case aL => have := LMc2.out; omega); intro v179 w5 ho hb hg hat; rw [← Ny178.out] at ho; have n0_ := Aside0.mk (hb); have n1_ := Aside0.mk (ho); replace HB := n0_; have HO180 := n1_; clear HO177; clear n0_ n1_; clear ho hb hg hat)); try go_wp2_with (first | ((with_reducible refine gate_dst (N := 7) rfl ?_); refine Kd.R_lit (Kd.int .i64) _ 2 ?hg (N := 7) ?hd (xs := ([] : List Int)) (inner := []) (ok := fun _ => True) (okp := fun _ => True) ?hr ?hp (fun _ hk => hk) trivial (Below.refl _ _) (Nat.le_refl _) (by simp) ?_; (case hd => rfl); (case hg => rfl); (case hr => first | (go_simp; done) | (go_simp; rfl)); (case hp => exact (Reps.none _ _)); intro v176 w3 ho4 hb hg_ hnew_; clear hg_ hnew_; (first | rw [← Ny175.out] at ho4 | (simp only [Int.reduceToNat] at ho4; rw [← Ny175.out] at ho4)); have n0_ := Aside0.mk (Kd.R_lower ho4 (below_size (belowA))); have n1_ := Aside0.mk (below_step (belowA) hb); have HO177 := n0_; replace HB := n1_; clear n0_ n1_; clear hb ho4) | ((with_reducible refine gate_builtin (b := .append) (xs := #[.tmp 7, .tmp 8]) rfl ?_); at_builtin; refine Kd.R_append_rows (Kd.int .i64) (w0 := w) w.heap.size rfl (.tmp 7) (.tmp 8) 28 2 (.int .i64 0) 8 rfl Tryd.underlying28 info2 rfl (by decide) (by omega) v176 y175 l0 _ _ _ (fun _ => True) (fun _ => False) rfl rfl ?aO ?aR (fun _ _ h => h) (fun _ h => h.elim) ?aF ?aB ?aS ?aL ?_; (case aR => repeat (first | exact (Kd.C_below HR0.out HB.out) | (with_reducible refine Kd.C_alloc ?_ _) | (with_reducible refine Kd.C_drewN ?_ _) | (with_reducible refine Kd.C_drew ?_))); (case aB => exact (belowA)); (case aF => exact (fun _ _ => trivial)); (case aO => exact (by (with_reducible repeat (first | apply Kd.R_alloc | apply Kd.R_drewN | apply Kd.R_drew)); exact HO177.out)); (case aS => exact (below_size (belowA))); (case aL => have := LMc2.out; omega); intro v179 w5 ho hb hg hat; rw [← Ny178.out] at ho; have n0_ := Aside0.mk (hb); have n1_ := Aside0.mk (ho); replace HB := n0_; have HO180 := n1_; clear HO177; clear n0_ n1_; clear ho hb hg hat)))
  go_loopg [4] k (fun kq v4 w' => ∃ (x3_1 : List Int) (x4_1 : Int), v4 = .int .i64 x4_1 ∧ Aside0 (spec_l05Ordered.l0 kq x3_1 x4_1 = some r) ∧ Aside0 (kq ≤ k) ∧ Aside0 (Kd.R (Kd.int .i64) 2 w' w.heap.size (fun _ => True) v179 x3_1) ∧ Aside0 (Below w.heap.size w w'))
  case atStart => exact ⟨(y178), (0), (by first | rfl | (simp; done) | (simp [*]; done)), H', ⟨Nat.le_refl _⟩, ⟨by (with_reducible repeat (first | apply Kd.R_alloc | apply Kd.R_drewN | apply Kd.R_drew)); exact HO180.out⟩, ⟨belowA⟩⟩
  case round =>
   clear H'
   try clear c1; try clear c2; try clear p2
   obtain ⟨x3_1, x4_1, rfl, HA, HK1, HO_3, HB⟩ := hrel
   cases gk with
   | zero => exact absurd HA.out (by simp [spec_l05Ordered.l0])
   | succ k1 =>
    have H := HA.out; clear HA; simp only [spec_l05Ordered.l0] at H
    by_cases c6 : x4_1 < (x3_1.length : Int)
    ·rw [if_pos c6] at H
     have c6b0 : decide (x4_1 < (x3_1.length : Int)) = true := decide_eq_true c6; clear c6
     by_cases c7 : 0 ≤ x4_1
     ·rw [if_pos c7] at H
      have c7b0 : decide (0 ≤ x4_1) = true := decide_eq_true c7; clear c7; replace H := Option.bind_eq_some_iff.mp H; obtain ⟨t182, A80, H⟩ := H
      try dsimp only at H
      have A8 := Aside0.mk A80; clear A80
      by_cases c9 : t182 = 0
      ·rw [if_pos c9] at H
       have c9b0 : (t182 == 0) = true := beq_iff_eq.mpr c9; have c9b1 : (t182 != 0) = false := bne_eq_false_iff_eq.mpr c9; clear c9; have H' := Aside0.mk H; clear H; obtain ⟨Ao10, co10, eo10⟩ := Kd.R_slice HO_3.out; subst eo10; have p181 : 0 ≤ (x4_1 : Int) := ode; have q181 : x4_1 < (x3_1.length : Int) := ode; obtain ⟨ad181, e181, hx181_0⟩ := Kd.at_int (Kd.R_reads' HO_3.out).2.2 x4_1 p181 q181; cases e181; replace p181 := eq_true p181; replace q181 := eq_true q181
       go_wp2_with (first | (go_at_call 145; (with_reducible refine (W_spec_l01Class.calls (rd x3_1 x4_1) t182 _ A8.out).mono ?_); rintro e w' ⟨rfl, ⟨nd, rfl⟩⟩; (try first | exact ⟨rfl, _, World.drewN_drewN _ _ _⟩ | exact ⟨rfl, _, Eq.trans (World.drewN_drewN _ _ _) (congrArg (World.drewN _) (Nat.add_assoc _ _ _))⟩)))
       repeat (go_quiet (first | (go_at_call 145; (with_reducible refine (W_spec_l01Class.calls (rd x3_1 x4_1) t182 _ A8.out).mono ?_); rintro e w' ⟨rfl, ⟨nd, rfl⟩⟩; (try first | exact ⟨rfl, _, World.drewN_drewN _ _ _⟩ | exact ⟨rfl, _, Eq.trans (World.drewN_drewN _ _ _) (congrArg (World.drewN _) (Nat.add_assoc _ _ _))⟩))); try go_wp2_with (first | (go_at_call 145; (with_reducible refine (W_spec_l01Class.calls (rd x3_1 x4_1) t182 _ A8.out).mono ?_); rintro e w' ⟨rfl, ⟨nd, rfl⟩⟩; (try first | exact ⟨rfl, _, World.drewN_drewN _ _ _⟩ | exact ⟨rfl, _, Eq.trans (World.drewN_drewN _ _ _) (congrArg (World.drewN _) (Nat.add_assoc _ _ _))⟩))))
       go_roundg k1
       case measure => have := HK1.out; omega
       case rel => exact ⟨(x3_1), (wrap64 (x4_1 + 1)), (by first | rfl | (simp; done) | (simp [*]; done)), H', ⟨by have := HK1.out; omega⟩, ⟨by (with_reducible repeat (first | apply Kd.R_alloc | apply Kd.R_drewN | apply Kd.R_drew)); exact HO_3.out⟩, ⟨belowA⟩⟩
      rw [if_neg c9] at H; have c9b0 : (t182 == 0) = false := beq_eq_false_iff_ne.mpr c9; have c9b1 : (t182 != 0) = true := bne_iff_ne.mpr c9; have H' := Aside0.mk H; clear H; obtain ⟨Ao11, co11, eo11⟩ := Kd.R_slice HO_3.out; subst eo11; have p181 : 0 ≤ (x4_1 : Int) := ode; have q181 : x4_1 < (x3_1.length : Int) := ode; obtain ⟨ad181, e181, hx181_0⟩ := Kd.at_int (Kd.R_reads' HO_3.out).2.2 x4_1 p181 q181; cases e181; replace p181 := eq_true p181; replace q181 := eq_true q181
      go_wp2_with (first | (go_at_call 145; (with_reducible refine (W_spec_l01Class.calls (rd x3_1 x4_1) t182 _ A8.out).mono ?_); rintro e w' ⟨rfl, ⟨nd, rfl⟩⟩; (try first | exact ⟨rfl, _, World.drewN_drewN _ _ _⟩ | exact ⟨rfl, _, Eq.trans (World.drewN_drewN _ _ _) (congrArg (World.drewN _) (Nat.add_assoc _ _ _))⟩)))
      repeat (go_quiet (first | (go_at_call 145; (with_reducible refine (W_spec_l01Class.calls (rd x3_1 x4_1) t182 _ A8.out).mono ?_); rintro e w' ⟨rfl, ⟨nd, rfl⟩⟩; (try first | exact ⟨rfl, _, World.drewN_drewN _ _ _⟩ | exact ⟨rfl, _, Eq.trans (World.drewN_drewN _ _ _) (congrArg (World.drewN _) (Nat.add_assoc _ _ _))⟩))); try go_wp2_with (first | (go_at_call 145; (with_reducible refine (W_spec_l01Class.calls (rd x3_1 x4_1) t182 _ A8.out).mono ?_); rintro e w' ⟨rfl, ⟨nd, rfl⟩⟩; (try first | exact ⟨rfl, _, World.drewN_drewN _ _ _⟩ | exact ⟨rfl, _, Eq.trans (World.drewN_drewN _ _ _) (congrArg (World.drewN _) (Nat.add_assoc _ _ _))⟩))))
      go_loopg [5] k1 (fun kq v5 w' => ∃ (x3_2 : List Int) (x5_2 : Int), v5 = .int .i64 x5_2 ∧ Aside0 (spec_l05Ordered.l1 kq x3_2 x4_1 x5_2 = some r) ∧ Aside0 (kq ≤ k1) ∧ Aside0 (Kd.R (Kd.int .i64) 2 w' w.heap.size (fun _ => True) (.slice (some ad181) x3_1.length co11) x3_2) ∧ Aside0 (Below w.heap.size w w'))
      case atStart => exact ⟨(x3_1), (x4_1), (by first | rfl | (simp; done) | (simp [*]; done)), H', ⟨Nat.le_refl _⟩, ⟨by (with_reducible repeat (first | apply Kd.R_alloc | apply Kd.R_drewN | apply Kd.R_drew)); exact HO_3.out⟩, ⟨belowA⟩⟩
      case round =>
       clear H'
       try clear c1; try clear p1; try clear q1; try clear hx1; try clear c2; try clear p2; try clear c6; try clear c6b0; try clear p6; try clear c7; try clear c7b0; try clear c9; try clear c9b0; try clear c9b1; try clear hx181_0; try clear p181; try clear p2; try clear q181
       obtain ⟨x3_2, x5_2, rfl, HA, HK2, HO_3, HB⟩ := hrel; have hl3_2 := (Kd.R_reads' HO_3.out).1; rw [hl3_2] at HO_3
       (try simp only [hl3_2])
       cases gk with
       | zero => exact absurd HA.out (by simp [spec_l05Ordered.l1])
       | succ k2 =>
        have H := HA.out; clear HA; simp only [spec_l05Ordered.l1] at H
        by_cases c12 : x5_2 > 0
        ·rw [if_pos c12] at H
         have c12b0 : decide (0 < x5_2) = true := decide_eq_true c12; clear c12; obtain ⟨ji13, hji13⟩ : ∃ j_ : Int, (wrap64 (x5_2 - 1)) = j_ := ⟨_, rfl⟩
         replace H : (if 0 ≤ (ji13) then (if (ji13) < (x3_2.length : Int) then ((W_spec_l01Class.f (rd x3_2 (ji13))).bind fun t184 => (if 0 ≤ x5_2 then (if x5_2 < (x3_2.length : Int) then ((W_spec_l01Class.f (rd x3_2 x5_2)).bind fun t186 => (if t184 > t186 then (spec_l05Ordered.l1 k2 ((x3_2.set (x5_2 : Int).toNat (rd x3_2 (ji13))).set ((ji13) : Int).toNat (rd x3_2 x5_2)) x4_1 ji13) else (spec_l05Ordered.l0 k2 x3_2 (wrap64 (x4_1 + 1))))) else (none)) else (none))) else (none)) else (none)) = some r := by first | (rw [hji13] at H; exact H) | (simp only [hji13] at H ⊢; exact H)
         have hji13w : (IntKind.i64.wrap (x5_2 - 1)) = ji13 := (i64_w _).trans hji13
         by_cases c14 : 0 ≤ (ji13)
         ·rw [if_pos c14] at H
          have c14b0 : decide (0 ≤ (ji13)) = true := decide_eq_true c14; clear c14
          by_cases c15 : (ji13) < (x3_2.length : Int)
          ·rw [if_pos c15] at H
           have c15b0 : decide ((ji13) < (x3_2.length : Int)) = true := decide_eq_true c15; clear c15; replace H := Option.bind_eq_some_iff.mp H; obtain ⟨t184, A160, H⟩ := H
           try dsimp only at H
           have A16 := Aside0.mk A160; clear A160
           by_cases c17 : 0 ≤ x5_2
           ·rw [if_pos c17] at H
            have c17b0 : decide (0 ≤ x5_2) = true := decide_eq_true c17; clear c17
            by_cases c18 : x5_2 < (x3_2.length : Int)
            ·rw [if_pos c18] at H
             have c18b0 : decide (x5_2 < (x3_2.length : Int)) = true := decide_eq_true c18; clear c18; replace H := Option.bind_eq_some_iff.mp H; obtain ⟨t186, A190, H⟩ := H
             try dsimp only at H
             have A19 := Aside0.mk A190; clear A190
             by_cases c20 : t184 > t186
             ·rw [if_pos c20] at H
              have c20b0 : decide (t186 < t184) = true := decide_eq_true c20; clear c20; obtain ⟨y189, hy189⟩ : ∃ y_ : List Int, y_ = (x3_2.set (x5_2 : Int).toNat (rd x3_2 (ji13))) := ⟨_, rfl⟩
              replace H : (spec_l05Ordered.l1 k2 (y189.set ((ji13) : Int).toNat (rd x3_2 x5_2)) x4_1 ji13) = some r := by first | (rw [hy189]; with_reducible exact H) | (have H2_ := (Option.bind_some _ _).symm.trans H; rw [hy189]; with_reducible exact H2_) | (have H2_ := (Option.bind_some _ _).symm.trans H; with_reducible exact H2_) | with_reducible exact H | (rw [hy189]; exact H) | exact H
              have Ny189 := Aside0.mk hy189; clear hy189; obtain ⟨y190, hy190⟩ : ∃ y_ : List Int, y_ = (y189.set ((ji13) : Int).toNat (rd x3_2 x5_2)) := ⟨_, rfl⟩
              replace H : (spec_l05Ordered.l1 k2 y190 x4_1 ji13) = some r := by first | (rw [hy190]; with_reducible exact H) | (have H2_ := (Option.bind_some _ _).symm.trans H; rw [hy190]; with_reducible exact H2_) | (have H2_ := (Option.bind_some _ _).symm.trans H; with_reducible exact H2_) | with_reducible exact H | (rw [hy190]; exact H) | exact H
              have Ny190 := Aside0.mk hy190; clear hy190; have H' := Aside0.mk H; clear H; have p183 : 0 ≤ ((ji13) : Int) := ode; have q183 : (ji13) < (x3_2.length : Int) := ode; obtain ⟨ad183, e183, hx183_0⟩ := Kd.at_int (Kd.R_reads' HO_3.out).2.2 (ji13) p183 q183
              obtain rfl : ad181 = ad183 := (by injection e183)
              replace p183 := eq_true p183; replace q183 := eq_true q183
              go_wp2_with (first | (go_at_call 145; (with_reducible refine (W_spec_l01Class.calls (rd x3_2 (ji13)) t184 _ A16.out).mono ?_); rintro e w' ⟨rfl, ⟨nd, rfl⟩⟩; (try first | exact ⟨rfl, _, World.drewN_drewN _ _ _⟩ | exact ⟨rfl, _, Eq.trans (World.drewN_drewN _ _ _) (congrArg (World.drewN _) (Nat.add_assoc _ _ _))⟩); have p185 : 0 ≤ (x5_2 : Int) := ode; have q185 : x5_2 < (x3_2.length : Int) := ode; obtain ⟨ad185, e185, hx185_0⟩ := Kd.at_int (Kd.R_reads' HO_3.out).2.2 x5_2 p185 q185; obtain rfl : ad181 = ad185 := (by injection e185); replace p185 := eq_true p185; replace q185 := eq_true q185) | (go_at_call 145; (with_reducible refine (W_spec_l01Class.calls (rd x3_2 x5_2) t186 _ A19.out).mono ?_); rintro e w' ⟨rfl, ⟨nd, rfl⟩⟩; (try first | exact ⟨rfl, _, World.drewN_drewN _ _ _⟩ | exact ⟨rfl, _, Eq.trans (World.drewN_drewN _ _ _) (congrArg (World.drewN _) (Nat.add_assoc _ _ _))⟩); have p187 : 0 ≤ (x5_2 : Int) := ode; have q187 : x5_2 < (x3_2.length : Int) := ode; obtain ⟨ad187, e187, hx187_0⟩ := Kd.at_int (Kd.R_reads' HO_3.out).2.2 x5_2 p187 q187; obtain rfl : ad181 = ad187 := (by injection e187); replace p187 := eq_true p187; replace q187 := eq_true q187; have p188 : 0 ≤ ((ji13) : Int) := ode; have q188 : (ji13) < (x3_2.length : Int) := ode; obtain ⟨ad188, e188, hx188_0⟩ := Kd.at_int (Kd.R_reads' HO_3.out).2.2 (ji13) p188 q188; obtain rfl : ad181 = ad188 := (by injection e188); replace p188 := eq_true p188; replace q188 := eq_true q188; have p21 : 0 ≤ (x5_2 : Int) := ode; have q21 : (x5_2 : Int) < ((x3_2.length : Int) : Int) := ode; obtain ⟨go21, co21, eo21, gb21, gl21, cl21, HG21⟩ := Kd.R_form HO_3.out (by omega); (first | cases eo21 | (injection eo21 with ea_ en_ ec_; (first | subst ea_ | (injection ea_ with ea_; subst ea_)); subst ec_; clear en_)); have GB21 := Aside0.mk gb21; have GG21 := Aside0.mk HG21; clear gb21 gl21 HG21; (first | simp only [add_plain] at hx181_0 | skip); (first | simp only [add_plain] at hx183_0 | skip); (first | simp only [add_plain] at hx185_0 | skip); (first | simp only [add_plain] at hx187_0 | skip); (first | simp only [add_plain] at hx188_0 | skip); obtain ⟨hx21_0, hf21_0⟩ := Kd.R_celln 0 HO_3.out (x5_2 : Int) p21 q21; replace p21 := eq_true p21; replace q21 := eq_true q21; obtain ⟨hy23_, hz23_⟩ := Kd.R_celln 0 HO_3.out (x5_2 : Int) (ode) (ode); have HP23 := Kd.R_putg HO_3.out (x5_2 : Int) (rd x3_2 (ji13))) | ((with_reducible refine gate_store (t := 2) (p := 50) rfl ?_); (try (rw [drewN_self wr]; generalize hq_ : World.drewN wr _ = wr; have n0_ := Aside0.mk (Kd.R_at hq_ HO_3.out); have n1_ := Aside0.mk (below_at hq_ HB.out); clear hq_ HO_3 HB; have HO_3 := n0_; have HB := n1_; clear n0_ n1_; (try (obtain ⟨hy23_, hz23_⟩ := Kd.R_celln 0 HO_3.out (x5_2 : Int) (ode) (ode))); (try (have HP23 := Kd.R_putg HO_3.out (x5_2 : Int) (rd x3_2 (ji13)))))); refine store_event (t := 2) (p := 50) (v := ?vo_w24) (w1 := (wr.setCell ⟨go21, (x5_2 : Int).toNat, none⟩ (.int .i64 (rd x3_2 (ji13))))) ?hg ?ho ?hn ?hr ?_; (case ho => rfl); (case hg => rfl); (case hn => rfl); (case hr => first | (go_simp; done) | (go_simp; rfl)); intro w24 hw; have hg : wr.grownBy w24 (some go21) := (by rw [hw]; exact HP23.2); have hp_ : Kd.R (Kd.int .i64) 2 w24 w.heap.size (fun _ => True) (.slice (some ⟨go21, 0, none⟩) x3_2.length co11) y189 := (by rw [hw, Ny189.out]; exact HP23.1); clear HP23; have n0_ := Aside0.mk (hp_); have n1_ := Aside0.mk ((by rw [hw]; exact below_set (HB.out) GB21.out : Below w.heap.size w w24)); replace HO_3 := n0_; replace HB := n1_; clear n0_ n1_; clear hg hw hp_; have p22 : 0 ≤ ((ji13) : Int) := ode; have q22 : ((ji13) : Int) < ((x3_2.length : Int) : Int) := ode; obtain ⟨hx22_0, hf22_0⟩ := Kd.R_celln 0 HO_3.out ((ji13) : Int) p22 q22; replace p22 := eq_true p22; replace q22 := eq_true q22; obtain ⟨hy25_, hz25_⟩ := Kd.R_celln 0 HO_3.out ((ji13) : Int) (ode) (ode); have HP25 := Kd.R_putg HO_3.out ((ji13) : Int) (rd x3_2 x5_2)) | ((with_reducible refine gate_store (t := 2) (p := 55) rfl ?_); (try (rw [drewN_self w24]; generalize hq_ : World.drewN w24 _ = w24; have n0_ := Aside0.mk (Kd.R_at hq_ HO_3.out); have n1_ := Aside0.mk (below_at hq_ HB.out); clear hq_ HO_3 HB; have HO_3 := n0_; have HB := n1_; clear n0_ n1_; (try (obtain ⟨hy25_, hz25_⟩ := Kd.R_celln 0 HO_3.out ((ji13) : Int) (ode) (ode))); (try (have HP25 := Kd.R_putg HO_3.out ((ji13) : Int) (rd x3_2 x5_2))))); refine store_event (t := 2) (p := 55) (v := ?vo_w26) (w1 := (w24.setCell ⟨go21, ((ji13) : Int).toNat, none⟩ (.int .i64 (rd x3_2 x5_2)))) ?hg ?ho ?hn ?hr ?_; (case ho => rfl); (case hg => rfl); (case hn => rfl); (case hr => first | (go_simp; done) | (go_simp; rfl)); intro w26 hw; have hg : w24.grownBy w26 (some go21) := (by rw [hw]; exact HP25.2); have hp_ : Kd.R (Kd.int .i64) 2 w26 w.heap.size (fun _ => True) (.slice (some ⟨go21, 0, none⟩) x3_2.length co11) y190 := (by rw [hw, Ny190.out]; exact HP25.1); clear HP25; have n0_ := Aside0.mk (hp_); have n1_ := Aside0.mk ((by rw [hw]; exact below_set (HB.out) GB21.out : Below w.heap.size w w26)); replace HO_3 := n0_; replace HB := n1_; clear n0_ n1_; clear hg hw hp_))
              repeat (go_quiet (first | (go_at_call 145; (with_reducible refine (W_spec_l01Class.calls (rd x3_2 (ji13)) t184 _ A16.out).mono ?_); rintro e w' ⟨rfl, ⟨nd, rfl⟩⟩; (try first | exact ⟨rfl, _, World.drewN_drewN _ _ _⟩ | exact ⟨rfl, _, Eq.trans (World.drewN_drewN _ _ _) (congrArg (World.drewN _) (Nat.add_assoc _ _ _))⟩); have p185 : 0 ≤ (x5_2 : Int) := ode; have q185 : x5_2 < (x3_2.length : Int) := ode; obtain ⟨ad185, e185, hx185_0⟩ := Kd.at_int (Kd.R_reads' HO_3.out).2.2 x5_2 p185 q185; obtain rfl : ad181 = ad185 := (by injection e185); replace p185 := eq_true p185; replace q185 := eq_true q185) | (go_at_call 145; (with_reducible refine (W_spec_l01Class.calls (rd x3_2 x5_2) t186 _ A19.out).mono ?_); rintro e w' ⟨rfl, ⟨nd, rfl⟩⟩; (try first | exact ⟨rfl, _, World.drewN_drewN _ _ _⟩ | exact ⟨rfl, _, Eq.trans (World.drewN_drewN _ _ _) (congrArg (World.drewN _) (Nat.add_assoc _ _ _))⟩); have p187 : 0 ≤ (x5_2 : Int) := ode; have q187 : x5_2 < (x3_2.length : Int) := ode; obtain ⟨ad187, e187, hx187_0⟩ := Kd.at_int (Kd.R_reads' HO_3.out).2.2 x5_2 p187 q187; obtain rfl : ad181 = ad187 := (by injection e187); replace p187 := eq_true p187; replace q187 := eq_true q187; have p188 : 0 ≤ ((ji13) : Int) := ode; have q188 : (ji13) < (x3_2.length : Int) := ode; obtain ⟨ad188, e188, hx188_0⟩ := Kd.at_int (Kd.R_reads' HO_3.out).2.2 (ji13) p188 q188; obtain rfl : ad181 = ad188 := (by injection e188); replace p188 := eq_true p188; replace q188 := eq_true q188; have p21 : 0 ≤ (x5_2 : Int) := ode; have q21 : (x5_2 : Int) < ((x3_2.length : Int) : Int) := ode; obtain ⟨go21, co21, eo21, gb21, gl21, cl21, HG21⟩ := Kd.R_form HO_3.out (by omega); (first | cases eo21 | (injection eo21 with ea_ en_ ec_; (first | subst ea_ | (injection ea_ with ea_; subst ea_)); subst ec_; clear en_)); have GB21 := Aside0.mk gb21; have GG21 := Aside0.mk HG21; clear gb21 gl21 HG21; (first | simp only [add_plain] at hx181_0 | skip); (first | simp only [add_plain] at hx183_0 | skip); (first | simp only [add_plain] at hx185_0 | skip); (first | simp only [add_plain] at hx187_0 | skip); (first | simp only [add_plain] at hx188_0 | skip); obtain ⟨hx21_0, hf21_0⟩ := Kd.R_celln 0 HO_3.out (x5_2 : Int) p21 q21; replace p21 := eq_true p21; replace q21 := eq_true q21; obtain ⟨hy23_, hz23_⟩ := Kd.R_celln 0 HO_3.out (x5_2 : Int) (ode) (ode); have HP23 := Kd.R_putg HO_3.out (x5_2 : Int) (rd x3_2 (ji13))) | ((with_reducible refine gate_store (t := 2) (p := 50) rfl ?_); (try (rw [drewN_self wr]; generalize hq_ : World.drewN wr _ = wr; have n0_ := Aside0.mk (Kd.R_at hq_ HO_3.out); have n1_ := Aside0.mk (below_at hq_ HB.out); clear hq_ HO_3 HB; have HO_3 := n0_; have HB := n1_; clear n0_ n1_; (try (obtain ⟨hy23_, hz23_⟩ := Kd.R_celln 0 HO_3.out (x5_2 : Int) (ode) (ode))); (try (have HP23 := Kd.R_putg HO_3.out (x5_2 : Int) (rd x3_2 (ji13)))))); refine store_event (t := 2) (p := 50) (v := ?vo_w24) (w1 := (wr.setCell ⟨go21, (x5_2 : Int).toNat, none⟩ (.int .i64 (rd x3_2 (ji13))))) ?hg ?ho ?hn ?hr ?_; (case ho => rfl); (case hg => rfl); (case hn => rfl); (case hr => first | (go_simp; done) | (go_simp; rfl)); intro w24 hw; have hg : wr.grownBy w24 (some go21) := (by rw [hw]; exact HP23.2); have hp_ : Kd.R (Kd.int .i64) 2 w24 w.heap.size (fun _ => True) (.slice (some ⟨go21, 0, none⟩) x3_2.length co11) y189 := (by rw [hw, Ny189.out]; exact HP23.1); clear HP23; have n0_ := Aside0.mk (hp_); have n1_ := Aside0.mk ((by rw [hw]; exact below_set (HB.out) GB21.out : Below w.heap.size w w24)); replace HO_3 := n0_; replace HB := n1_; clear n0_ n1_; clear hg hw hp_; have p22 : 0 ≤ ((ji13) : Int) := ode; have q22 : ((ji13) : Int) < ((x3_2.length : Int) : Int) := ode; obtain ⟨hx22_0, hf22_0⟩ := Kd.R_celln 0 HO_3.out ((ji13) : Int) p22 q22; replace p22 := eq_true p22; replace q22 := eq_true q22; obtain ⟨hy25_, hz25_⟩ := Kd.R_celln 0 HO_3.out ((ji13) : Int) (ode) (ode); have HP25 := Kd.R_putg HO_3.out ((ji13) : Int) (rd x3_2 x5_2)) | ((with_reducible refine gate_store (t := 2) (p := 55) rfl ?_); (try (rw [drewN_self w24]; generalize hq_ : World.drewN w24 _ = w24; have n0_ := Aside0.mk (Kd.R_at hq_ HO_3.out); have n1_ := Aside0.mk (below_at hq_ HB.out); clear hq_ HO_3 HB; have HO_3 := n0_; have HB := n1_; clear n0_ n1_; (try (obtain ⟨hy25_, hz25_⟩ := Kd.R_celln 0 HO_3.out ((ji13) : Int) (ode) (ode))); (try (have HP25 := Kd.R_putg HO_3.out ((ji13) : Int) (rd x3_2 x5_2))))); refine store_event (t := 2) (p := 55) (v := ?vo_w26) (w1 := (w24.setCell ⟨go21, ((ji13) : Int).toNat, none⟩ (.int .i64 (rd x3_2 x5_2)))) ?hg ?ho ?hn ?hr ?_; (case ho => rfl); (case hg => rfl); (case hn => rfl); (case hr => first | (go_simp; done) | (go_simp; rfl)); intro w26 hw; have hg : w24.grownBy w26 (some go21) := (by rw [hw]; exact HP25.2); have hp_ : Kd.R (Kd.int .i64) 2 w26 w.heap.size (fun _ => True) (.slice (some ⟨go21, 0, none⟩) x3_2.length co11) y190 := (by rw [hw, Ny190.out]; exact HP25.1); clear HP25; have n0_ := Aside0.mk (hp_); have n1_ := Aside0.mk ((by rw [hw]; exact below_set (HB.out) GB21.out : Below w.heap.size w w26)); replace HO_3 := n0_; replace HB := n1_; clear n0_ n1_; clear hg hw hp_)); try go_wp2_with (first | (go_at_call 145; (with_reducible refine (W_spec_l01Class.calls (rd x3_2 (ji13)) t184 _ A16.out).mono ?_); rintro e w' ⟨rfl, ⟨nd, rfl⟩⟩; (try first | exact ⟨rfl, _, World.drewN_drewN _ _ _⟩ | exact ⟨rfl, _, Eq.trans (World.drewN_drewN _ _ _) (congrArg (World.drewN _) (Nat.add_assoc _ _ _))⟩); have p185 : 0 ≤ (x5_2 : Int) := ode; have q185 : x5_2 < (x3_2.length : Int) := ode; obtain ⟨ad185, e185, hx185_0⟩ := Kd.at_int (Kd.R_reads' HO_3.out).2.2 x5_2 p185 q185; obtain rfl : ad181 = ad185 := (by injection e185); replace p185 := eq_true p185; replace q185 := eq_true q185) | (go_at_call 145; (with_reducible refine (W_spec_l01Class.calls (rd x3_2 x5_2) t186 _ A19.out).mono ?_); rintro e w' ⟨rfl, ⟨nd, rfl⟩⟩; (try first | exact ⟨rfl, _, World.drewN_drewN _ _ _⟩ | exact ⟨rfl, _, Eq.trans (World.drewN_drewN _ _ _) (congrArg (World.drewN _) (Nat.add_assoc _ _ _))⟩); have p187 : 0 ≤ (x5_2 : Int) := ode; have q187 : x5_2 < (x3_2.length : Int) := ode; obtain ⟨ad187, e187, hx187_0⟩ := Kd.at_int (Kd.R_reads' HO_3.out).2.2 x5_2 p187 q187; obtain rfl : ad181 = ad187 := (by injection e187); replace p187 := eq_true p187; replace q187 := eq_true q187; have p188 : 0 ≤ ((ji13) : Int) := ode; have q188 : (ji13) < (x3_2.length : Int) := ode; obtain ⟨ad188, e188, hx188_0⟩ := Kd.at_int (Kd.R_reads' HO_3.out).2.2 (ji13) p188 q188; obtain rfl : ad181 = ad188 := (by injection e188); replace p188 := eq_true p188; replace q188 := eq_true q188; have p21 : 0 ≤ (x5_2 : Int) := ode; have q21 : (x5_2 : Int) < ((x3_2.length : Int) : Int) := ode; obtain ⟨go21, co21, eo21, gb21, gl21, cl21, HG21⟩ := Kd.R_form HO_3.out (by omega); (first | cases eo21 | (injection eo21 with ea_ en_ ec_; (first | subst ea_ | (injection ea_ with ea_; subst ea_)); subst ec_; clear en_)); have GB21 := Aside0.mk gb21; have GG21 := Aside0.mk HG21; clear gb21 gl21 HG21; (first | simp only [add_plain] at hx181_0 | skip); (first | simp only [add_plain] at hx183_0 | skip); (first | simp only [add_plain] at hx185_0 | skip); (first | simp only [add_plain] at hx187_0 | skip); (first | simp only [add_plain] at hx188_0 | skip); obtain ⟨hx21_0, hf21_0⟩ := Kd.R_celln 0 HO_3.out (x5_2 : Int) p21 q21; replace p21 := eq_true p21; replace q21 := eq_true q21; obtain ⟨hy23_, hz23_⟩ := Kd.R_celln 0 HO_3.out (x5_2 : Int) (ode) (ode); have HP23 := Kd.R_putg HO_3.out (x5_2 : Int) (rd x3_2 (ji13))) | ((with_reducible refine gate_store (t := 2) (p := 50) rfl ?_); (try (rw [drewN_self wr]; generalize hq_ : World.drewN wr _ = wr; have n0_ := Aside0.mk (Kd.R_at hq_ HO_3.out); have n1_ := Aside0.mk (below_at hq_ HB.out); clear hq_ HO_3 HB; have HO_3 := n0_; have HB := n1_; clear n0_ n1_; (try (obtain ⟨hy23_, hz23_⟩ := Kd.R_celln 0 HO_3.out (x5_2 : Int) (ode) (ode))); (try (have HP23 := Kd.R_putg HO_3.out (x5_2 : Int) (rd x3_2 (ji13)))))); refine store_event (t := 2) (p := 50) (v := ?vo_w24) (w1 := (wr.setCell ⟨go21, (x5_2 : Int).toNat, none⟩ (.int .i64 (rd x3_2 (ji13))))) ?hg ?ho ?hn ?hr ?_; (case ho => rfl); (case hg => rfl); (case hn => rfl); (case hr => first | (go_simp; done) | (go_simp; rfl)); intro w24 hw; have hg : wr.grownBy w24 (some go21) := (by rw [hw]; exact HP23.2); have hp_ : Kd.R (Kd.int .i64) 2 w24 w.heap.size (fun _ => True) (.slice (some ⟨go21, 0, none⟩) x3_2.length co11) y189 := (by rw [hw, Ny189.out]; exact HP23.1); clear HP23; have n0_ := Aside0.mk (hp_); have n1_ := Aside0.mk ((by rw [hw]; exact below_set (HB.out) GB21.out : Below w.heap.size w w24)); replace HO_3 := n0_; replace HB := n1_; clear n0_ n1_; clear hg hw hp_; have p22 : 0 ≤ ((ji13) : Int) := ode; have q22 : ((ji13) : Int) < ((x3_2.length : Int) : Int) := ode; obtain ⟨hx22_0, hf22_0⟩ := Kd.R_celln 0 HO_3.out ((ji13) : Int) p22 q22; replace p22 := eq_true p22; replace q22 := eq_true q22; obtain ⟨hy25_, hz25_⟩ := Kd.R_celln 0 HO_3.out ((ji13) : Int) (ode) (ode); have HP25 := Kd.R_putg HO_3.out ((ji13) : Int) (rd x3_2 x5_2)) | ((with_reducible refine gate_store (t := 2) (p := 55) rfl ?_); (try (rw [drewN_self w24]; generalize hq_ : World.drewN w24 _ = w24; have n0_ := Aside0.mk (Kd.R_at hq_ HO_3.out); have n1_ := Aside0.mk (below_at hq_ HB.out); clear hq_ HO_3 HB; have HO_3 := n0_; have HB := n1_; clear n0_ n1_; (try (obtain ⟨hy25_, hz25_⟩ := Kd.R_celln 0 HO_3.out ((ji13) : Int) (ode) (ode))); (try (have HP25 := Kd.R_putg HO_3.out ((ji13) : Int) (rd x3_2 x5_2))))); refine store_event (t := 2) (p := 55) (v := ?vo_w26) (w1 := (w24.setCell ⟨go21, ((ji13) : Int).toNat, none⟩ (.int .i64 (rd x3_2 x5_2)))) ?hg ?ho ?hn ?hr ?_; (case ho => rfl); (case hg => rfl); (case hn => rfl); (case hr => first | (go_simp; done) | (go_simp; rfl)); intro w26 hw; have hg : w24.grownBy w26 (some go21) := (by rw [hw]; exact HP25.2); have hp_ : Kd.R (Kd.int .i64) 2 w26 w.heap.size (fun _ => True) (.slice (some ⟨go21, 0, none⟩) x3_2.length co11) y190 := (by rw [hw, Ny190.out]; exact HP25.1); clear HP25; have n0_ := Aside0.mk (hp_); have n1_ := Aside0.mk ((by rw [hw]; exact below_set (HB.out) GB21.out : Below w.heap.size w w26)); replace HO_3 := n0_; replace HB := n1_; clear n0_ n1_; clear hg hw hp_)))
              have hadd_ : Addr.add ⟨go21, 0, none⟩ x4_1.toNat = ⟨go21, x4_1.toNat, none⟩ := by unfold Addr.add; split <;> simp [*]
              (try simp only [← hadd_])
              (try simp only [← hl3_2])
              go_roundg k2
              case measure => have := HK1.out; have := HK2.out; omega
              case rel => exact ⟨(y190), (ji13), (by first | rfl | (simp; done) | (simp only [← hji13] <;> (first | rfl | simp)) | (simp [*]; done)), H', ⟨by have := HK1.out; have := HK2.out; omega⟩, ⟨by (try simp only [hl3_2]); (with_reducible repeat (first | apply Kd.R_alloc | apply Kd.R_drewN | apply Kd.R_drew)); exact HO_3.out⟩, ⟨belowA⟩⟩
             rw [if_neg c20] at H; have c20b0 : decide (t186 < t184) = false := decide_eq_false c20; clear c20; have H' := Aside0.mk H; clear H; have p183 : 0 ≤ ((ji13) : Int) := ode; have q183 : (ji13) < (x3_2.length : Int) := ode; obtain ⟨ad183, e183, hx183_0⟩ := Kd.at_int (Kd.R_reads' HO_3.out).2.2 (ji13) p183 q183
             obtain rfl : ad181 = ad183 := (by injection e183)
             replace p183 := eq_true p183; replace q183 := eq_true q183
             go_wp2_with (first | (go_at_call 145; (with_reducible refine (W_spec_l01Class.calls (rd x3_2 (ji13)) t184 _ A16.out).mono ?_); rintro e w' ⟨rfl, ⟨nd, rfl⟩⟩; (try first | exact ⟨rfl, _, World.drewN_drewN _ _ _⟩ | exact ⟨rfl, _, Eq.trans (World.drewN_drewN _ _ _) (congrArg (World.drewN _) (Nat.add_assoc _ _ _))⟩); have p185 : 0 ≤ (x5_2 : Int) := ode; have q185 : x5_2 < (x3_2.length : Int) := ode; obtain ⟨ad185, e185, hx185_0⟩ := Kd.at_int (Kd.R_reads' HO_3.out).2.2 x5_2 p185 q185; obtain rfl : ad181 = ad185 := (by injection e185); replace p185 := eq_true p185; replace q185 := eq_true q185) | (go_at_call 145; (with_reducible refine (W_spec_l01Class.calls (rd x3_2 x5_2) t186 _ A19.out).mono ?_); rintro e w' ⟨rfl, ⟨nd, rfl⟩⟩; (try first | exact ⟨rfl, _, World.drewN_drewN _ _ _⟩ | exact ⟨rfl, _, Eq.trans (World.drewN_drewN _ _ _) (congrArg (World.drewN _) (Nat.add_assoc _ _ _))⟩)))
             repeat (go_quiet (first | (go_at_call 145; (with_reducible refine (W_spec_l01Class.calls (rd x3_2 (ji13)) t184 _ A16.out).mono ?_); rintro e w' ⟨rfl, ⟨nd, rfl⟩⟩; (try first | exact ⟨rfl, _, World.drewN_drewN _ _ _⟩ | exact ⟨rfl, _, Eq.trans (World.drewN_drewN _ _ _) (congrArg (World.drewN _) (Nat.add_assoc _ _ _))⟩); have p185 : 0 ≤ (x5_2 : Int) := ode; have q185 : x5_2 < (x3_2.length : Int) := ode; obtain ⟨ad185, e185, hx185_0⟩ := Kd.at_int (Kd.R_reads' HO_3.out).2.2 x5_2 p185 q185; obtain rfl : ad181 = ad185 := (by injection e185); replace p185 := eq_true p185; replace q185 := eq_true q185) | (go_at_call 145; (with_reducible refine (W_spec_l01Class.calls (rd x3_2 x5_2) t186 _ A19.out).mono ?_); rintro e w' ⟨rfl, ⟨nd, rfl⟩⟩; (try first | exact ⟨rfl, _, World.drewN_drewN _ _ _⟩ | exact ⟨rfl, _, Eq.trans (World.drewN_drewN _ _ _) (congrArg (World.drewN _) (Nat.add_assoc _ _ _))⟩))); try go_wp2_with (first | (go_at_call 145; (with_reducible refine (W_spec_l01Class.calls (rd x3_2 (ji13)) t184 _ A16.out).mono ?_); rintro e w' ⟨rfl, ⟨nd, rfl⟩⟩; (try first | exact ⟨rfl, _, World.drewN_drewN _ _ _⟩ | exact ⟨rfl, _, Eq.trans (World.drewN_drewN _ _ _) (congrArg (World.drewN _) (Nat.add_assoc _ _ _))⟩); have p185 : 0 ≤ (x5_2 : Int) := ode; have q185 : x5_2 < (x3_2.length : Int) := ode; obtain ⟨ad185, e185, hx185_0⟩ := Kd.at_int (Kd.R_reads' HO_3.out).2.2 x5_2 p185 q185; obtain rfl : ad181 = ad185 := (by injection e185); replace p185 := eq_true p185; replace q185 := eq_true q185) | (go_at_call 145; (with_reducible refine (W_spec_l01Class.calls (rd x3_2 x5_2) t186 _ A19.out).mono ?_); rintro e w' ⟨rfl, ⟨nd, rfl⟩⟩; (try first | exact ⟨rfl, _, World.drewN_drewN _ _ _⟩ | exact ⟨rfl, _, Eq.trans (World.drewN_drewN _ _ _) (congrArg (World.drewN _) (Nat.add_assoc _ _ _))⟩))))
             (try simp only [← hl3_2])
             go_roundg k2
             case measure => have := HK1.out; have := HK2.out; omega
             case rel => exact ⟨(x3_2), (wrap64 (x4_1 + 1)), (by first | rfl | (simp; done) | (simp [*]; done)), H', ⟨by have := HK1.out; have := HK2.out; omega⟩, ⟨by (try simp only [hl3_2]); (with_reducible repeat (first | apply Kd.R_alloc | apply Kd.R_drewN | apply Kd.R_drew)); exact HO_3.out⟩, ⟨belowA⟩⟩
            rw [if_neg c18] at H
            exact absurd H (by simp)
           rw [if_neg c17] at H
           exact absurd H (by simp)
          rw [if_neg c15] at H
          exact absurd H (by simp)
         rw [if_neg c14] at H
         exact absurd H (by simp)
        rw [if_neg c12] at H; have c12b0 : decide (0 < x5_2) = false := decide_eq_false c12; clear c12; have H' := Aside0.mk H; clear H
        go_wp2
        repeat (go_quiet (fail); try go_wp2)
        (try simp only [← hl3_2])
        go_roundg k2
        case measure => have := HK1.out; have := HK2.out; omega
        case rel => exact ⟨(x3_2), (wrap64 (x4_1 + 1)), (by first | rfl | (simp; done) | (simp [*]; done)), H', ⟨by have := HK1.out; have := HK2.out; omega⟩, ⟨by (try simp only [hl3_2]); (with_reducible repeat (first | apply Kd.R_alloc | apply Kd.R_drewN | apply Kd.R_drew)); exact HO_3.out⟩, ⟨belowA⟩⟩
     rw [if_neg c7] at H
     exact absurd H (by simp)
    rw [if_neg c6] at H; have c6b0 : decide (x4_1 < (x3_1.length : Int)) = false := decide_eq_false c6
    (try simp only [hl3_2] at c6b0)
    clear c6; obtain rfl := Option.some.inj H; obtain ⟨Ao27, co27, eo27⟩ := Kd.R_slice HO_3.out; subst eo27
    go_wp2
    repeat (go_quiet (fail); try go_wp2)
    go_ret
    exact ⟨_, by first | rfl | (simp [errW_none, errW_some] <;> rfl) | (simp [*, errW_none, errW_some] <;> rfl), by (with_reducible repeat (first | apply Kd.R_alloc | apply Kd.R_drewN | apply Kd.R_drew)); exact HO_3.out, belowA⟩
 rw [if_neg c2] at H
 exact absurd H (by simp)

def W_spec_l05Ordered.f (l0 : List Int) : Option (List Int) := if l0.length ≤ 1099511627776 ∧ (∀ p ∈ l0, 0 ≤ p ∧ p ≤ 1114111) then some (YtiabgmddnddeiaaDoorNrm.ord l0) else none
theorem spec_l05Ordered.get (A : List Int) (x : Int) (B : List Int) : rd (A ++ x :: B) (A.length : Int) = x := by simp [rd, List.getD]
theorem spec_l05Ordered.put (A : List Int) (x y : Int) (B : List Int) : (A ++ x :: B).set A.length y = A ++ y :: B := by
  rw [List.set_append_right _ _ (Nat.le_refl _), Nat.sub_self]; rfl
theorem spec_l05Ordered.inner (R B : List Int) (n : Nat) (hn : n ≤ 1099511627776) (G : ∀ C : List Int, C.length + B.length = n → YtiabgmddnddeiaaDoorNrm.inord C → YtiabgmddnddeiaaDoorNrm.ord (C ++ B) = R → (∀ p ∈ C ++ B, 0 ≤ p ∧ p ≤ 1114111) → ∃ K, spec_l05Ordered.l0 K (C ++ B) (C.length : Int) = some R) (i : Int) :
    ∀ (m : Nat) (A1 A2 : List Int) (x : Int), A1.length = m → A1.length + 1 + A2.length + B.length = n → i = (A1.length : Int) + A2.length → YtiabgmddnddeiaaDoorNrm.cls x ≠ 0 → YtiabgmddnddeiaaDoorNrm.inord (A1 ++ A2) → YtiabgmddnddeiaaDoorNrm.inord (x :: A2) → (∀ q ∈ A2.head?, YtiabgmddnddeiaaDoorNrm.cls x < YtiabgmddnddeiaaDoorNrm.cls q) → YtiabgmddnddeiaaDoorNrm.ord (A1 ++ x :: A2 ++ B) = R → (∀ p ∈ A1 ++ x :: A2 ++ B, 0 ≤ p ∧ p ≤ 1114111) →
    ∃ K, spec_l05Ordered.l1 K (A1 ++ x :: A2 ++ B) i (A1.length : Int) = some R := by
  intro m
  induction m with
  | zero =>
    intro A1 A2 x h1 h2 hi hx ho1 ho2 hh he hp
    obtain rfl : A1 = [] := List.eq_nil_of_length_eq_zero h1
    obtain ⟨K, hK⟩ := G ([] ++ x :: A2) (by simp only [List.length_append, List.length_cons, List.length_nil] at h2 ⊢; omega) ho2 he hp
    refine ⟨K + 1, ?_⟩
    simp only [spec_l05Ordered.l1]
    have hw : wrap64 (i + 1) = ((([] : List Int) ++ x :: A2).length : Int) := by rw [hi]; simp only [List.length_append, List.length_cons, List.length_nil] at h2 ⊢; unfold wrap64; omega
    rw [if_neg (by simp), hw]
    exact hK
  | succ m ih =>
    intro A1 A2 x h1 h2 hi hx ho1 ho2 hh he hp
    obtain ⟨A, y, rfl⟩ : ∃ A y, A1 = A ++ [y] := by
      have hne : A1 ≠ [] := by intro e; rw [e] at h1; cases h1
      exact ⟨A1.dropLast, A1.getLast hne, (List.dropLast_concat_getLast hne).symm⟩
    rw [List.length_append, List.length_singleton] at h1 h2 hi
    have hx2 := hp x (by simp)
    have hy2 := hp y (by simp)
    have e0 : A ++ [y] ++ x :: A2 ++ B = A ++ y :: (x :: (A2 ++ B)) := by simp
    have e1 : A ++ [y] ++ x :: A2 ++ B = (A ++ [y]) ++ x :: (A2 ++ B) := by simp
    have w1 : wrap64 (((A ++ [y]).length : Int) - 1) = (A.length : Int) := by rw [List.length_append, List.length_singleton]; unfold wrap64; omega
    have r1 : rd (A ++ [y] ++ x :: A2 ++ B) (A.length : Int) = y := by rw [e0]; exact spec_l05Ordered.get _ _ _
    have r2 : rd (A ++ [y] ++ x :: A2 ++ B) ((A ++ [y]).length : Int) = x := by rw [e1]; exact spec_l05Ordered.get _ _ _
    have hlen : (A ++ [y] ++ x :: A2 ++ B).length = n := by simp only [List.length_append, List.length_cons, List.length_nil]; omega
    have c1 : W_spec_l01Class.f y = some (YtiabgmddnddeiaaDoorNrm.cls y) := if_pos (by omega)
    have c2 : W_spec_l01Class.f x = some (YtiabgmddnddeiaaDoorNrm.cls x) := if_pos (by omega)
    have hal : ((A ++ [y]).length : Int) = (A.length : Int) + 1 := by rw [List.length_append, List.length_singleton]; omega
    by_cases hc : YtiabgmddnddeiaaDoorNrm.cls y > YtiabgmddnddeiaaDoorNrm.cls x
    · have hy := YtiabgmddnddeiaaDoorNrm.cls_range x
      have hoy : YtiabgmddnddeiaaDoorNrm.inord (y :: A2) := by
        have := ho1
        rw [List.append_assoc] at this
        exact YtiabgmddnddeiaaDoorNrm.inord_right this
      obtain ⟨K, hK⟩ := ih A (y :: A2) x (by omega) (by simp only [List.length_cons]; omega) (by simp only [List.length_cons]; omega) hx (by rw [List.append_assoc] at ho1; exact ho1) ⟨.inr (by omega), hoy⟩ (fun q hq => by simp at hq; subst hq; omega) (by
        rw [← he]
        have := YtiabgmddnddeiaaDoorNrm.ord_swap (a := A) (b := A2 ++ B) (x := x) (y := y) hx (by omega) (by omega)
        simpa using this) (fun p hp2 => hp p (by simp at hp2 ⊢; rcases hp2 with h | h | h | h | h <;> simp [h]))
      refine ⟨K + 1, ?_⟩
      simp only [spec_l05Ordered.l1]
      rw [if_pos (by omega), w1, if_pos (by omega), if_pos (by rw [hlen]; omega), r1, c1]
      simp only [Option.bind_some]
      rw [if_pos (by omega), if_pos (by rw [hlen]; omega), r2, c2]
      simp only [Option.bind_some]
      rw [if_pos hc]
      have s1 : (A ++ [y] ++ x :: A2 ++ B).set ((A ++ [y]).length : Int).toNat y = A ++ [y] ++ y :: (A2 ++ B) := by rw [e1, Int.toNat_natCast]; exact spec_l05Ordered.put _ _ _ _
      have s2 : (A ++ [y] ++ y :: (A2 ++ B)).set (A.length : Int).toNat x = A ++ x :: (y :: A2) ++ B := by
        have e3 : A ++ [y] ++ y :: (A2 ++ B) = A ++ y :: (y :: (A2 ++ B)) := by simp
        rw [e3, Int.toNat_natCast, spec_l05Ordered.put]; simp
      rw [s1, s2]
      exact hK
    · obtain ⟨K, hK⟩ := G ((A ++ [y]) ++ x :: A2) (by simp only [List.length_append, List.length_cons, List.length_nil] at h2 ⊢; omega) (YtiabgmddnddeiaaDoorNrm.inord_join (YtiabgmddnddeiaaDoorNrm.inord_left ho1) ho2 (fun u v hu hv => by
        rw [List.getLast?_append] at hu
        injection hu with hu; injection hv with hv
        have hu : y = u := hu
        subst hu; subst hv
        omega)) he hp
      refine ⟨K + 1, ?_⟩
      simp only [spec_l05Ordered.l1]
      rw [if_pos (by omega), w1, if_pos (by omega), if_pos (by rw [hlen]; omega), r1, c1]
      simp only [Option.bind_some]
      rw [if_pos (by omega), if_pos (by rw [hlen]; omega), r2, c2]
      simp only [Option.bind_some]
      have hw : wrap64 (i + 1) = ((A ++ [y] ++ x :: A2).length : Int) := by rw [hi]; simp only [List.length_append, List.length_cons, List.length_nil] at h2 ⊢; unfold wrap64; omega
      rw [if_neg hc, hw]
      exact hK
theorem spec_l05Ordered.outer (R : List Int) (n : Nat) (hn : n ≤ 1099511627776) : ∀ (d : Nat) (B A : List Int), B.length = d → A.length + B.length = n → YtiabgmddnddeiaaDoorNrm.inord A → YtiabgmddnddeiaaDoorNrm.ord (A ++ B) = R → (∀ p ∈ A ++ B, 0 ≤ p ∧ p ≤ 1114111) → ∃ K, spec_l05Ordered.l0 K (A ++ B) (A.length : Int) = some R := by
  intro d
  induction d with
  | zero =>
    intro B A hB hl hA he hp
    obtain rfl : B = [] := List.eq_nil_of_length_eq_zero hB
    refine ⟨1, ?_⟩
    simp only [spec_l05Ordered.l0]
    rw [List.append_nil, YtiabgmddnddeiaaDoorNrm.ord_of_inord hA] at he
    rw [if_neg (by rw [List.append_nil]; omega), List.append_nil, he]
  | succ d ih =>
    intro B A hB hl hA he hp
    cases B with
    | nil => cases hB
    | cons x B =>
      rw [List.length_cons] at hB hl
      have hx := hp x (by simp)
      have hlen : (A ++ x :: B).length = n := by rw [List.length_append, List.length_cons]; omega
      have c2 : W_spec_l01Class.f x = some (YtiabgmddnddeiaaDoorNrm.cls x) := if_pos (by omega)
      by_cases hc : YtiabgmddnddeiaaDoorNrm.cls x = 0
      · obtain ⟨K, hK⟩ := ih B (A ++ [x]) (by omega) (by rw [List.length_append, List.length_singleton]; omega) (YtiabgmddnddeiaaDoorNrm.inord_join0 (b := []) hc trivial hA) (by rw [List.append_assoc]; exact he) (fun p hp2 => hp p (by simp at hp2 ⊢; exact hp2))
        refine ⟨K + 1, ?_⟩
        simp only [spec_l05Ordered.l0]
        have hw : wrap64 ((A.length : Int) + 1) = ((A ++ [x]).length : Int) := by rw [List.length_append, List.length_singleton]; unfold wrap64; omega
        rw [if_pos (by rw [hlen]; omega), if_pos (by omega), spec_l05Ordered.get, c2]
        simp only [Option.bind_some]
        rw [if_pos hc, hw]
        have e : A ++ x :: B = A ++ [x] ++ B := by simp
        rw [e]; exact hK
      · obtain ⟨K, hK⟩ := spec_l05Ordered.inner R B n hn (fun C h1 h2 h3 h4 => ih B C (by omega) (by omega) h2 h3 h4) (A.length : Int) A.length A [] x rfl (by simp only [List.length_nil]; omega) (by simp) hc (by rw [List.append_nil]; exact hA) trivial (fun q hq => by simp at hq) (by simpa using he) (fun p hp2 => hp p (by simpa using hp2))
        refine ⟨K + 1, ?_⟩
        simp only [spec_l05Ordered.l0]
        rw [if_pos (by rw [hlen]; omega), if_pos (by omega), spec_l05Ordered.get, c2]
        simp only [Option.bind_some]
        rw [if_neg hc]
        have e : A ++ x :: B = A ++ x :: [] ++ B := by simp
        rw [e]; exact hK
theorem W_spec_l05Ordered.to {l0 : List Int} {r : List Int} (h : W_spec_l05Ordered.f l0 = some r) : ∃ k, spec_l05Ordered.f k l0 = some r := by
  unfold W_spec_l05Ordered.f at h
  split at h
  · rename_i hp
    obtain ⟨K, hK⟩ := spec_l05Ordered.outer (YtiabgmddnddeiaaDoorNrm.ord l0) l0.length hp.1 l0.length l0 [] rfl (by simp) trivial rfl hp.2
    refine ⟨K, ?_⟩
    unfold spec_l05Ordered.f
    simp only [Option.bind_some, List.nil_append, List.length_nil]
    rw [if_pos (by omega), ← h]
    exact hK
  · cases h
theorem W_spec_l05Ordered.calls (A0 : Option Addr) (c0 : Nat) (l0 : List Int) (r : List Int) (w : World) (hr0 : Kd.C (Kd.int .i64) w A0 l0.length l0) (hc0 : l0.length ≤ c0) (h : W_spec_l05Ordered.f l0 = some r) :
    Calls Tryd.prog 176 #[.slice A0 l0.length c0] w fun e w' => ∃ v0_ : Value, e = .returned (v0_) ∧ Kd.R (Kd.int .i64) 2 w' w.heap.size (fun _ => True) v0_ r ∧ Below w.heap.size w w' := by
  obtain ⟨k, hk⟩ := W_spec_l05Ordered.to h
  exact spec_l05Ordered.calls k A0 c0 l0 r w hr0 hc0 hk

/-! ### spec_l05LetterAt: function 249 -/
def spec_l05LetterAt.j0 : Nat → Int → Bool → Option (Int)
  | 0, _, _ => none
  | k + 1, x0, x3 => if x3 = true then (some (wrap64 (x0 - 65))) else (if x0 ≥ 97 then (if x0 ≤ 122 then (some (wrap64 ((wrap64 (x0 - 97)) + 26))) else (some (-1))) else (some (-1)))
def spec_l05LetterAt.f (k : Nat) (a0 : Int) : Option (Int) := if a0 ≥ 65 then (spec_l05LetterAt.j0 k a0 (decide (a0 ≤ 90))) else (spec_l05LetterAt.j0 k a0 false)
theorem spec_l05LetterAt.mono_l : ∀ k, (∀ y0 y1, LeO (spec_l05LetterAt.j0 k y0 y1) (spec_l05LetterAt.j0 (k + 1) y0 y1))
  | 0 => fun _ _ r h => by simp [spec_l05LetterAt.j0] at h
  | k + 1 => by
    have ih0 := spec_l05LetterAt.mono_l k
    · intro y0 y1
      unfold spec_l05LetterAt.j0
      repeat' first
      | (with_reducible exact ih0 _ _)
      | (with_reducible exact LeO.refl _)
      | (with_reducible exact LeO.none _)
      | (with_reducible refine LeO.ite ?_ ?_)
      | (with_reducible refine LeO.bind ?_ (fun _ => ?_))
      | exact ih0 _ _
      | exact LeO.none _
      | refine LeO.ite ?_ ?_
      | refine LeO.bind ?_ (fun _ => ?_)
theorem spec_l05LetterAt.mono : ∀ a0 k, LeO (spec_l05LetterAt.f k a0) (spec_l05LetterAt.f (k + 1) a0) := by
  intro a0 k
  have ih0 := spec_l05LetterAt.mono_l k
  unfold spec_l05LetterAt.f
  repeat' first
      | (with_reducible exact ih0 _ _)
      | (with_reducible exact LeO.refl _)
      | (with_reducible exact LeO.none _)
      | (with_reducible refine LeO.ite ?_ ?_)
      | (with_reducible refine LeO.bind ?_ (fun _ => ?_))
      | exact ih0 _ _
      | exact LeO.none _
      | refine LeO.ite ?_ ?_
      | refine LeO.bind ?_ (fun _ => ?_)
set_option maxHeartbeats 8000000 in
set_option maxRecDepth 100000 in
theorem spec_l05LetterAt.calls (k : Nat) (a0 : Int) (r : Int) (w : World) (h : spec_l05LetterAt.f k a0 = some r) :
    Calls Tryd.prog 249 #[.int .i64 a0] w fun e w' => e = .returned (.int .i64 r) ∧ Drawn0 w w' := by
  have H : (if a0 ≥ 65 then (spec_l05LetterAt.j0 k a0 (decide (a0 ≤ 90))) else (spec_l05LetterAt.j0 k a0 false)) = some r := h
  clear h
  have HC2 := Aside0.mk H
  clear H
  go_enter Tryd.func249, Tryd.ntmps249
  go_upto_region 1 with (fail)
  go_cut [3] (fun v3 wc => ∃ (kq : Nat) (x3_1 : Bool), v3 = .bool x3_1 ∧ Aside0 (spec_l05LetterAt.j0 kq a0 x3_1 = some r) ∧ Aside0 (kq ≤ k) ∧ Drawn0 w wc)
  case first =>
    have H := HC2.out
    clear HC2
    by_cases c3 : a0 ≥ 65
    · rw [if_pos c3] at H
      have c3b0 : decide (65 ≤ a0) = true := decide_eq_true c3
      clear c3
      (first | rw [c3b0] | (simp only [i64_w, i32_w]; rw [c3b0]) | skip)
      have H' := Aside0.mk H
      clear H
      go_wp2
      go_meet
      case rel => exact ⟨_, (decide (a0 ≤ 90)), (by first | rfl | (simp; done) | (simp [*]; done)), H', ⟨by first | omega | exact Nat.le_refl _⟩, by repeat (first | exact Drawn0.refl _ | apply Drawn0.step)⟩
    · rw [if_neg c3] at H
      have c3b0 : decide (65 ≤ a0) = false := decide_eq_false c3
      clear c3
      (first | rw [c3b0] | (simp only [i64_w, i32_w]; rw [c3b0]) | skip)
      have H' := Aside0.mk H
      clear H
      go_wp2
      go_meet
      case rel => exact ⟨_, (false), (by first | rfl | (simp; done) | (simp [*]; done)), H', ⟨by first | omega | exact Nat.le_refl _⟩, by repeat (first | exact Drawn0.refl _ | apply Drawn0.step)⟩
  case rest =>
    clear HC2
    try clear c2
    try clear p2
    try clear c3
    try clear c3b0
    obtain ⟨kq, x3_1, rfl, HA, HJ1, ⟨mc1, rfl⟩⟩ := hcut
    cases kq with
    | zero => exact absurd HA.out (by simp [spec_l05LetterAt.j0])
    | succ kj1 =>
      have H := HA.out
      clear HA
      simp only [spec_l05LetterAt.j0] at H
      by_cases c4 : x3_1 = true
      · subst c4
        have H1 : (some (wrap64 (a0 - 65))) = some r := by rw [if_pos rfl] at H; exact H
        clear H
        have H := H1
        clear H1
        obtain rfl := Option.some.inj H
        go_wp2
        go_ret
        exact ⟨by first | rfl | (simp; done) | (simp [*]; done), by repeat (first | exact Drawn0.refl _ | apply Drawn0.step)⟩
      · replace c4 := Bool.eq_false_iff.mpr c4
        subst c4
        have H1 : (if a0 ≥ 97 then (if a0 ≤ 122 then (some (wrap64 ((wrap64 (a0 - 97)) + 26))) else (some (-1))) else (some (-1))) = some r := by rw [if_neg (show ¬ (false = true) by decide)] at H; exact H
        clear H
        have H := H1
        clear H1
        by_cases c5 : a0 ≥ 97
        · rw [if_pos c5] at H
          have c5b0 : decide (97 ≤ a0) = true := decide_eq_true c5
          clear c5
          by_cases c6 : a0 ≤ 122
          · rw [if_pos c6] at H
            have c6b0 : decide (a0 ≤ 122) = true := decide_eq_true c6
            clear c6
            obtain rfl := Option.some.inj H
            go_wp2
            go_ret
            exact ⟨by first | rfl | (simp; done) | (simp [*]; done), by repeat (first | exact Drawn0.refl _ | apply Drawn0.step)⟩
          · rw [if_neg c6] at H
            have c6b0 : decide (a0 ≤ 122) = false := decide_eq_false c6
            clear c6
            obtain rfl := Option.some.inj H
            go_wp2
            go_ret
            exact ⟨by first | rfl | (simp; done) | (simp [*]; done), by repeat (first | exact Drawn0.refl _ | apply Drawn0.step)⟩
        · rw [if_neg c5] at H
          have c5b0 : decide (97 ≤ a0) = false := decide_eq_false c5
          clear c5
          obtain rfl := Option.some.inj H
          go_wp2
          go_ret
          exact ⟨by first | rfl | (simp; done) | (simp [*]; done), by repeat (first | exact Drawn0.refl _ | apply Drawn0.step)⟩

end Go.Proofs.YtiabgmddnddeiaaDoor.QFnNormer
