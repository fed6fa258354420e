/- The law FnExactSentenceCuts: at every input the call answers true (this text: contracts on its way, by a program of this session's; no condition of ours). -/
import Derived.Test.YtiabgmddnddeiaaDoorQFnExactSentenceCutsx0
namespace Go.Proofs.YtiabgmddnddeiaaDoor.QFnExactSentenceCuts
open Go.RowKit Go.Proofs.YtiabgmddnddeiaaDoorW.PrintWords Go.Proofs.YtiabgmddnddeiaaDoorW.PrintLast Go.Proofs.YtiabgmddnddeiaaDoorW.PrintMore
attribute [local go_sem] max2_int min2_int max_two min_two max_three min_three max_four min_four   -- for this text's walks alone
set_option linter.unusedVariables false
set_option linter.unusedSimpArgs false

/-! ### spec_l07Bound: function 185 -/
def spec_l07Bound.l0 : Nat → List Int → Int → Option (Bool)
 | 0, _, _ => none
 | k + 1, x0, x1 => if x1 > 0 then (if 0 ≤ x1 then (if x1 < (x0.length : Int) then (if (rd x0 x1) = 1585 then (spec_l07Bound.l0 k x0 (wrap64 (x1 - 1))) else (some ((rd x0 x1) == 1584))) else (none)) else (none)) else (if 0 ≤ x1 then (if x1 < (x0.length : Int) then (some ((rd x0 x1) == 1584)) else (none)) else (none))
def spec_l07Bound.f (k : Nat) (l0 : List Int) (a1 : Int) : Option (Bool) := spec_l07Bound.l0 k l0 a1
theorem spec_l07Bound.mono_l : ∀ k, (∀ y0 y1, LeO (spec_l07Bound.l0 k y0 y1) (spec_l07Bound.l0 (k + 1) y0 y1))
 | 0 => fun _ _ r h => by simp [spec_l07Bound.l0] at h
 | k + 1 => by
  have ih0 := spec_l07Bound.mono_l k; intro y0 y1
  unfold spec_l07Bound.l0
  repeat' first
  | (with_reducible exact ih0 _ _)
  | (with_reducible exact LeO.refl _)
  | (with_reducible exact LeO.none _)
  | (with_reducible refine LeO.ite ?_ ?_)
  | (with_reducible refine LeO.bind ?_ (fun _ => ?_))
  | exact ih0 _ _
  | exact LeO.none _
  | refine LeO.ite ?_ ?_
  | refine LeO.bind ?_ (fun _ => ?_)
theorem spec_l07Bound.mono : ∀ a0 a1 k, LeO (spec_l07Bound.f k a0 a1) (spec_l07Bound.f (k + 1) a0 a1) := by
 intro a0 a1 k
 have ih0 := spec_l07Bound.mono_l k
 unfold spec_l07Bound.f
 repeat' first
   | (with_reducible exact ih0 _ _)
   | (with_reducible exact LeO.refl _)
   | (with_reducible exact LeO.none _)
   | (with_reducible refine LeO.ite ?_ ?_)
   | (with_reducible refine LeO.bind ?_ (fun _ => ?_))
   | exact ih0 _ _
   | exact LeO.none _
   | refine LeO.ite ?_ ?_
   | refine LeO.bind ?_ (fun _ => ?_)
set_option maxHeartbeats 8000000 in
set_option maxRecDepth 100000 in
theorem spec_l07Bound.calls (k : Nat) (A0 : Option Addr) (c0 : Nat) (l0 : List Int) (a1 : Int) (r : Bool) (w : World) (hr0 : Kd.C (Kd.int .i64) w A0 l0.length l0) (hc0 : l0.length ≤ c0) (h : spec_l07Bound.f k l0 a1 = some r) :
  Calls Tryd.prog 185 #[.slice A0 l0.length c0, .int .i64 a1] w fun e w' => e = .returned (.bool r) ∧ Drawn0 w w' := by
 have HR0 := Aside0.mk hr0
 have HC0 := Aside0.mk hc0
 clear hr0 hc0
 have H : (spec_l07Bound.l0 k l0 a1) = some r := h
 clear h
 have H' := Aside0.mk H
 clear H
 go_enter Tryd.func185, Tryd.ntmps185
 go_wp2
 go_loopg [1] k (fun kq v1 w' => ∃ (x1_1 : Int), v1 = .int .i64 x1_1 ∧ Aside0 (spec_l07Bound.l0 kq l0 x1_1 = some r) ∧ Aside0 (kq ≤ k) ∧ Drawn0 w w')
 case atStart => exact ⟨(a1), (by first | rfl | (simp; done) | (simp [*]; done)), H', ⟨Nat.le_refl _⟩, by repeat (first | exact Drawn0.refl _ | apply Drawn0.step)⟩
 case round =>
  clear H'
  try clear c1; try clear p2
  obtain ⟨x1_1, rfl, HA, HK1, ⟨m1, rfl⟩⟩ := hrel
  cases gk with
  | zero => exact absurd HA.out (by simp [spec_l07Bound.l0])
  | succ k1 =>
   have H := HA.out; clear HA; simp only [spec_l07Bound.l0] at H
   by_cases c3 : x1_1 > 0
   ·rw [if_pos c3] at H
    have c3b0 : decide (0 < x1_1) = true := decide_eq_true c3; clear c3
    by_cases c4 : 0 ≤ x1_1
    ·rw [if_pos c4] at H
     have c4b0 : decide (0 ≤ x1_1) = true := decide_eq_true c4; clear c4
     by_cases c5 : x1_1 < (l0.length : Int)
     ·rw [if_pos c5] at H
      have c5b0 : decide (x1_1 < (l0.length : Int)) = true := decide_eq_true c5; clear c5
      by_cases c6 : (rd l0 x1_1) = 1585
      ·rw [if_pos c6] at H
       have c6b0 : ((rd l0 x1_1) == 1585) = true := beq_iff_eq.mpr c6; have c6b1 : ((rd l0 x1_1) != 1585) = false := bne_eq_false_iff_eq.mpr c6; clear c6; have H' := Aside0.mk H; clear H
       have p169 : 0 ≤ (x1_1 : Int) := of_decide_eq_true (by first | (with_reducible assumption) | assumption)
       have q169 : x1_1 < (l0.length : Int) := of_decide_eq_true (by first | (with_reducible assumption) | assumption)
       obtain ⟨ad169, e169, hx169_0⟩ := Kd.at_int HR0.out x1_1 p169 q169; cases e169; replace p169 := eq_true p169; replace q169 := eq_true q169
       go_wp2
       go_roundg k1
       case measure => have := HK1.out; omega
       case rel => exact ⟨(wrap64 (x1_1 - 1)), (by first | rfl | (simp; done) | (simp [*]; done)), H', ⟨by have := HK1.out; omega⟩, by repeat (first | exact Drawn0.refl _ | apply Drawn0.step)⟩
      rw [if_neg c6] at H; have c6b0 : ((rd l0 x1_1) == 1585) = false := beq_eq_false_iff_ne.mpr c6; have c6b1 : ((rd l0 x1_1) != 1585) = true := bne_iff_ne.mpr c6; obtain rfl := Option.some.inj H
      have p169 : 0 ≤ (x1_1 : Int) := of_decide_eq_true (by first | (with_reducible assumption) | assumption)
      have q169 : x1_1 < (l0.length : Int) := of_decide_eq_true (by first | (with_reducible assumption) | assumption)
      obtain ⟨ad169, e169, hx169_0⟩ := Kd.at_int HR0.out x1_1 p169 q169; cases e169; replace p169 := eq_true p169; replace q169 := eq_true q169
      have p170 : 0 ≤ (x1_1 : Int) := of_decide_eq_true (by first | (with_reducible assumption) | assumption)
      have q170 : x1_1 < (l0.length : Int) := of_decide_eq_true (by first | (with_reducible assumption) | assumption)
      obtain ⟨ad170, e170, hx170_0⟩ := Kd.at_int HR0.out x1_1 p170 q170
      obtain rfl : ad169 = ad170 := (by injection e170)
      replace p170 := eq_true p170; replace q170 := eq_true q170
      go_wp2
      go_ret
      exact ⟨by first | rfl | (simp; done) | (simp [*]; done), by repeat (first | exact Drawn0.refl _ | apply Drawn0.step)⟩
     rw [if_neg c5] at H
     exact absurd H (by simp)
    rw [if_neg c4] at H
    exact absurd H (by simp)
   rw [if_neg c3] at H; have c3b0 : decide (0 < x1_1) = false := decide_eq_false c3; clear c3
   by_cases c7 : 0 ≤ x1_1
   ·rw [if_pos c7] at H
    have c7b0 : decide (0 ≤ x1_1) = true := decide_eq_true c7; clear c7
    by_cases c8 : x1_1 < (l0.length : Int)
    ·rw [if_pos c8] at H
     have c8b0 : decide (x1_1 < (l0.length : Int)) = true := decide_eq_true c8; clear c8; obtain rfl := Option.some.inj H
     have p171 : 0 ≤ (x1_1 : Int) := of_decide_eq_true (by first | (with_reducible assumption) | assumption)
     have q171 : x1_1 < (l0.length : Int) := of_decide_eq_true (by first | (with_reducible assumption) | assumption)
     obtain ⟨ad171, e171, hx171_0⟩ := Kd.at_int HR0.out x1_1 p171 q171; cases e171; replace p171 := eq_true p171; replace q171 := eq_true q171
     go_wp2
     go_ret
     exact ⟨by first | rfl | (simp; done) | (simp [*]; done), by repeat (first | exact Drawn0.refl _ | apply Drawn0.step)⟩
    rw [if_neg c8] at H
    exact absurd H (by simp)
   rw [if_neg c7] at H
   exact absurd H (by simp)

def W_spec_l07Bound.f (l : List Int) (i : Int) : Option Bool := if 0 ≤ i ∧ i < (l.length : Int) ∧ l.length ≤ 1000000000 then some (YtiabgmddnddeiaaDoorChr.bound ((l.take (i.toNat + 1)).reverse)) else none
theorem spec_l07Bound.back {l : List Int} {i : Nat} (h : i < l.length) : (l.take (i + 1)).reverse = l[i] :: (l.take i).reverse := by
  rw [List.take_succ_eq_append_getElem h, List.reverse_append]; rfl
theorem spec_l07Bound.run (l : List Int) (hl : l.length ≤ 1000000000) : ∀ (i k : Nat), i < k → i < l.length → spec_l07Bound.l0 k l (i : Int) = some (YtiabgmddnddeiaaDoorChr.bound ((l.take (i + 1)).reverse)) := by
  intro i
  induction i with
  | zero =>
    intro k h1 h2
    obtain ⟨k, rfl⟩ : ∃ m, k = m + 1 := ⟨k - 1, by omega⟩
    have hr : rd l ((0 : Nat) : Int) = l[0] := by simp [rd, List.getD, h2]
    simp only [spec_l07Bound.l0]
    rw [if_neg (by omega), if_pos (by omega), if_pos (by omega), hr, spec_l07Bound.back h2]
    rfl
  | succ i ih =>
    intro k h1 h2
    obtain ⟨k, rfl⟩ : ∃ m, k = m + 1 := ⟨k - 1, by omega⟩
    have hr : rd l ((i + 1 : Nat) : Int) = l[i + 1] := by simp only [rd, Int.toNat_natCast, List.getD_eq_getElem?_getD, List.getElem?_eq_getElem h2]; rfl
    have hw : wrap64 (((i + 1 : Nat) : Int) - 1) = (i : Int) := by unfold wrap64; omega
    have hb := spec_l07Bound.back (l := l) (i := i) (by omega)
    simp only [spec_l07Bound.l0]
    rw [if_pos (by omega), if_pos (by omega), if_pos (by omega), hr, hw, spec_l07Bound.back h2]
    have e : YtiabgmddnddeiaaDoorChr.bound (l[i + 1] :: (l.take (i + 1)).reverse) = if l[i + 1] = 1585 then YtiabgmddnddeiaaDoorChr.bound ((l.take (i + 1)).reverse) else l[i + 1] == 1584 := by
      rw [hb]; rfl
    rw [e]
    by_cases c : l[i + 1] = 1585
    · rw [if_pos c, if_pos c]; exact ih k (by omega) (by omega)
    · rw [if_neg c, if_neg c]
theorem W_spec_l07Bound.to {l : List Int} {i : Int} {r : Bool} (h : W_spec_l07Bound.f l i = some r) : ∃ k, spec_l07Bound.f k l i = some r := by
  unfold W_spec_l07Bound.f at h
  split at h
  · rename_i hp
    obtain ⟨n, rfl⟩ : ∃ n : Nat, i = n := ⟨i.toNat, by omega⟩
    refine ⟨n + 1, ?_⟩
    rw [← h]
    exact spec_l07Bound.run l hp.2.2 n (n + 1) (by omega) (by omega)
  · cases h
theorem W_spec_l07Bound.calls (A0 : Option Addr) (c0 : Nat) (l0 : List Int) (a1 : Int) (r : Bool) (w : World) (hr0 : Kd.C (Kd.int .i64) w A0 l0.length l0) (hc0 : l0.length ≤ c0) (h : W_spec_l07Bound.f l0 a1 = some r) :
    Calls Tryd.prog 185 #[.slice A0 l0.length c0, .int .i64 a1] w fun e w' => e = .returned (.bool r) ∧ Drawn0 w w' := by
  obtain ⟨k, hk⟩ := W_spec_l07Bound.to h
  exact spec_l07Bound.calls k A0 c0 l0 a1 r w hr0 hc0 hk

/-! ### spec_l07Picture: function 186 -/
def spec_l07Picture.f (a0 : Int) : Option (Bool) := if a0 ≥ 7680 then (some (decide (a0 ≤ 7743))) else (some false)
set_option maxHeartbeats 8000000 in
set_option maxRecDepth 100000 in
theorem spec_l07Picture.calls (a0 : Int) (r : Bool) (w : World) (h : spec_l07Picture.f a0 = some r) :
    Calls Tryd.prog 186 #[.int .i64 a0] w fun e w' => e = .returned (.bool r) ∧ Drawn0 w w' := by
  have H : (if a0 ≥ 7680 then (some (decide (a0 ≤ 7743))) else (some false)) = some r := h
  clear h
  by_cases c2 : a0 ≥ 7680
  · rw [if_pos c2] at H
    have c2b0 : decide (7680 ≤ a0) = true := decide_eq_true c2
    clear c2
    obtain rfl := Option.some.inj H
    go_enter Tryd.func186, Tryd.ntmps186
    go_wp2
    go_ret
    exact ⟨by first | rfl | (simp; done) | (simp [*]; done), by repeat (first | exact Drawn0.refl _ | apply Drawn0.step)⟩
  · rw [if_neg c2] at H
    have c2b0 : decide (7680 ≤ a0) = false := decide_eq_false c2
    clear c2
    obtain rfl := Option.some.inj H
    go_enter Tryd.func186, Tryd.ntmps186
    go_wp2
    go_ret
    exact ⟨by first | rfl | (simp; done) | (simp [*]; done), by repeat (first | exact Drawn0.refl _ | apply Drawn0.step)⟩

theorem spec_l07Picture.eq (p : Int) : spec_l07Picture.f p = some (YtiabgmddnddeiaaDoorChr.pct p) := by
  unfold spec_l07Picture.f YtiabgmddnddeiaaDoorChr.pct
  by_cases j : 7680 ≤ p
  · rw [if_pos (show p ≥ 7680 from j), decide_eq_true j]; rfl
  · rw [if_neg (show ¬ p ≥ 7680 from j), decide_eq_false j]; rfl

/-! ### spec_l07Flag: function 187 -/
def spec_l07Flag.f (a0 : Int) : Option (Bool) := if a0 ≥ 7760 then (some (decide (a0 ≤ 7785))) else (some false)
set_option maxHeartbeats 8000000 in
set_option maxRecDepth 100000 in
theorem spec_l07Flag.calls (a0 : Int) (r : Bool) (w : World) (h : spec_l07Flag.f a0 = some r) :
    Calls Tryd.prog 187 #[.int .i64 a0] w fun e w' => e = .returned (.bool r) ∧ Drawn0 w w' := by
  have H : (if a0 ≥ 7760 then (some (decide (a0 ≤ 7785))) else (some false)) = some r := h
  clear h
  by_cases c2 : a0 ≥ 7760
  · rw [if_pos c2] at H
    have c2b0 : decide (7760 ≤ a0) = true := decide_eq_true c2
    clear c2
    obtain rfl := Option.some.inj H
    go_enter Tryd.func187, Tryd.ntmps187
    go_wp2
    go_ret
    exact ⟨by first | rfl | (simp; done) | (simp [*]; done), by repeat (first | exact Drawn0.refl _ | apply Drawn0.step)⟩
  · rw [if_neg c2] at H
    have c2b0 : decide (7760 ≤ a0) = false := decide_eq_false c2
    clear c2
    obtain rfl := Option.some.inj H
    go_enter Tryd.func187, Tryd.ntmps187
    go_wp2
    go_ret
    exact ⟨by first | rfl | (simp; done) | (simp [*]; done), by repeat (first | exact Drawn0.refl _ | apply Drawn0.step)⟩

theorem spec_l07Flag.eq (p : Int) : spec_l07Flag.f p = some (YtiabgmddnddeiaaDoorChr.flg p) := by
  unfold spec_l07Flag.f YtiabgmddnddeiaaDoorChr.flg
  by_cases j : 7760 ≤ p
  · rw [if_pos (show p ≥ 7760 from j), decide_eq_true j]; rfl
  · rw [if_neg (show ¬ p ≥ 7760 from j), decide_eq_false j]; rfl

/-! ### spec_l07Flags: function 188 -/
def spec_l07Flags.l0 : Nat → List Int → Int → Int → Option (Int)
 | 0, _, _, _ => none
 | k + 1, x0, x1, x5 => if (wrap64 (x1 - x5)) ≥ 0 then (if 0 ≤ (wrap64 (x1 - x5)) then (if (wrap64 (x1 - x5)) < (x0.length : Int) then ((spec_l07Flag.f (rd x0 (wrap64 (x1 - x5)))).bind fun t173 => (if t173 = true then (spec_l07Flags.l0 k x0 x1 (wrap64 (x5 + 1))) else (some x5))) else (none)) else (none)) else (some x5)
def spec_l07Flags.f (k : Nat) (l0 : List Int) (a1 : Int) : Option (Int) := spec_l07Flags.l0 k l0 a1 0
theorem spec_l07Flags.mono_l : ∀ k, (∀ y0 y1 y2, LeO (spec_l07Flags.l0 k y0 y1 y2) (spec_l07Flags.l0 (k + 1) y0 y1 y2))
 | 0 => fun _ _ _ r h => by simp [spec_l07Flags.l0] at h
 | k + 1 => by
  have ih0 := spec_l07Flags.mono_l k; intro y0 y1 y2
  unfold spec_l07Flags.l0
  repeat' first
  | (with_reducible exact ih0 _ _ _)
  | (with_reducible exact LeO.refl _)
  | (with_reducible exact LeO.none _)
  | (with_reducible refine LeO.ite ?_ ?_)
  | (with_reducible refine LeO.bind ?_ (fun _ => ?_))
  | exact ih0 _ _ _
  | exact LeO.none _
  | refine LeO.ite ?_ ?_
  | refine LeO.bind ?_ (fun _ => ?_)
theorem spec_l07Flags.mono : ∀ a0 a1 k, LeO (spec_l07Flags.f k a0 a1) (spec_l07Flags.f (k + 1) a0 a1) := by
 intro a0 a1 k
 have ih0 := spec_l07Flags.mono_l k
 unfold spec_l07Flags.f
 repeat' first
   | (with_reducible exact ih0 _ _ _)
   | (with_reducible exact LeO.refl _)
   | (with_reducible exact LeO.none _)
   | (with_reducible refine LeO.ite ?_ ?_)
   | (with_reducible refine LeO.bind ?_ (fun _ => ?_))
   | exact ih0 _ _ _
   | exact LeO.none _
   | refine LeO.ite ?_ ?_
   | refine LeO.bind ?_ (fun _ => ?_)
set_option maxHeartbeats 8000000 in
set_option maxRecDepth 100000 in
theorem spec_l07Flags.calls (k : Nat) (A0 : Option Addr) (c0 : Nat) (l0 : List Int) (a1 : Int) (r : Int) (w : World) (hr0 : Kd.C (Kd.int .i64) w A0 l0.length l0) (hc0 : l0.length ≤ c0) (h : spec_l07Flags.f k l0 a1 = some r) :
  Calls Tryd.prog 188 #[.slice A0 l0.length c0, .int .i64 a1] w fun e w' => e = .returned (.int .i64 r) ∧ Drawn0 w w' := by
 have HR0 := Aside0.mk hr0
 have HC0 := Aside0.mk hc0
 clear hr0 hc0
 have H : (spec_l07Flags.l0 k l0 a1 0) = some r := h
 clear h
 have H' := Aside0.mk H
 clear H
 go_enter Tryd.func188, Tryd.ntmps188
 go_wp2
 go_loopg [5] k (fun kq v5 w' => ∃ (x5_1 : Int), v5 = .int .i64 x5_1 ∧ Aside0 (spec_l07Flags.l0 kq l0 a1 x5_1 = some r) ∧ Aside0 (kq ≤ k) ∧ Drawn0 w w')
 case atStart => exact ⟨(0), (by first | rfl | (simp; done) | (simp [*]; done)), H', ⟨Nat.le_refl _⟩, by repeat (first | exact Drawn0.refl _ | apply Drawn0.step)⟩
 case round =>
  clear H'
  try clear c1; try clear p2
  obtain ⟨x5_1, rfl, HA, HK1, ⟨m1, rfl⟩⟩ := hrel
  cases gk with
  | zero => exact absurd HA.out (by simp [spec_l07Flags.l0])
  | succ k1 =>
   have H := HA.out; clear HA; simp only [spec_l07Flags.l0] at H
   by_cases c3 : (wrap64 (a1 - x5_1)) ≥ 0
   ·rw [if_pos c3] at H
    have c3b0 : decide (0 ≤ (wrap64 (a1 - x5_1))) = true := decide_eq_true c3; clear c3; obtain ⟨ji4, hji4⟩ : ∃ j_ : Int, (wrap64 (a1 - x5_1)) = j_ := ⟨_, rfl⟩
    replace H : (if 0 ≤ (ji4) then (if (ji4) < (l0.length : Int) then ((spec_l07Flag.f (rd l0 (ji4))).bind fun t173 => (if t173 = true then (spec_l07Flags.l0 k1 l0 a1 (wrap64 (x5_1 + 1))) else (some x5_1))) else (none)) else (none)) = some r := by first | (rw [hji4] at H; exact H) | (simp only [hji4] at H ⊢; exact H)
    (try rw [hji4] at c3b0)
    have hji4w : (IntKind.i64.wrap (a1 - x5_1)) = ji4 := (i64_w _).trans hji4
    by_cases c5 : 0 ≤ (ji4)
    ·rw [if_pos c5] at H
     have c5b0 : decide (0 ≤ (ji4)) = true := decide_eq_true c5; clear c5
     by_cases c6 : (ji4) < (l0.length : Int)
     ·rw [if_pos c6] at H
      have c6b0 : decide ((ji4) < (l0.length : Int)) = true := decide_eq_true c6; clear c6; replace H := Option.bind_eq_some_iff.mp H; obtain ⟨t173, A70, H⟩ := H
      try dsimp only at H
      have A7 := Aside0.mk A70; clear A70
      by_cases c8 : t173 = true
      ·subst c8
       have H1 : (spec_l07Flags.l0 k1 l0 a1 (wrap64 (x5_1 + 1))) = some r := by rw [if_pos rfl] at H; exact H
       clear H; have H := H1; clear H1; have H' := Aside0.mk H; clear H
       have p172 : 0 ≤ ((ji4) : Int) := of_decide_eq_true (by first | (with_reducible assumption) | assumption)
       have q172 : (ji4) < (l0.length : Int) := of_decide_eq_true (by first | (with_reducible assumption) | assumption)
       obtain ⟨ad172, e172, hx172_0⟩ := Kd.at_int HR0.out (ji4) p172 q172; cases e172; replace p172 := eq_true p172; replace q172 := eq_true q172
       go_wp2_with (first | (go_at_call 187; (with_reducible refine (spec_l07Flag.calls (rd l0 (ji4)) true _ A7.out).mono ?_); rintro e w' ⟨rfl, ⟨nd, rfl⟩⟩))
       go_roundg k1
       case measure => have := HK1.out; omega
       case rel => exact ⟨(wrap64 (x5_1 + 1)), (by first | rfl | (simp; done) | (simp [*]; done)), H', ⟨by have := HK1.out; omega⟩, by repeat (first | exact Drawn0.refl _ | apply Drawn0.step)⟩
      replace c8 := Bool.eq_false_iff.mpr c8; subst c8
      have H1 : (some x5_1) = some r := by rw [if_neg (show ¬ (false = true) by decide)] at H; exact H
      clear H; have H := H1; clear H1; obtain rfl := Option.some.inj H
      have p172 : 0 ≤ ((ji4) : Int) := of_decide_eq_true (by first | (with_reducible assumption) | assumption)
      have q172 : (ji4) < (l0.length : Int) := of_decide_eq_true (by first | (with_reducible assumption) | assumption)
      obtain ⟨ad172, e172, hx172_0⟩ := Kd.at_int HR0.out (ji4) p172 q172; cases e172; replace p172 := eq_true p172; replace q172 := eq_true q172
      go_wp2_with (first | (go_at_call 187; (with_reducible refine (spec_l07Flag.calls (rd l0 (ji4)) false _ A7.out).mono ?_); rintro e w' ⟨rfl, ⟨nd, rfl⟩⟩))
      go_ret
      exact ⟨by first | rfl | (simp; done) | (simp only [← hji4] <;> (first | rfl | simp)) | (simp [*]; done), by repeat (first | exact Drawn0.refl _ | apply Drawn0.step)⟩
     rw [if_neg c6] at H
     exact absurd H (by simp)
    rw [if_neg c5] at H
    exact absurd H (by simp)
   rw [if_neg c3] at H; have c3b0 : decide (0 ≤ (wrap64 (a1 - x5_1))) = false := decide_eq_false c3; clear c3; obtain rfl := Option.some.inj H
   go_wp2
   go_ret
   exact ⟨by first | rfl | (simp; done) | (simp [*]; done), by repeat (first | exact Drawn0.refl _ | apply Drawn0.step)⟩

def W_spec_l07Flags.f (l : List Int) (i : Int) : Option Int := if 0 ≤ i ∧ i < (l.length : Int) ∧ l.length ≤ 1000000000 then some (YtiabgmddnddeiaaDoorChr.nflg ((l.take (i.toNat + 1)).reverse)) else none
theorem spec_l07Flags.run (l : List Int) (hl : l.length ≤ 1000000000) (n : Nat) (hn : n < l.length) : ∀ (j k c : Nat), j + c = n + 1 → j < k → spec_l07Flags.l0 k l (n : Int) (c : Int) = some ((c : Int) + YtiabgmddnddeiaaDoorChr.nflg ((l.take j).reverse)) := by
  intro j
  induction j with
  | zero =>
    intro k c h1 h2
    obtain ⟨k, rfl⟩ : ∃ m, k = m + 1 := ⟨k - 1, by omega⟩
    have hw : wrap64 ((n : Int) - (c : Int)) = -1 := by unfold wrap64; omega
    simp only [spec_l07Flags.l0]
    rw [hw, if_neg (by omega)]
    simp [YtiabgmddnddeiaaDoorChr.nflg]
  | succ j ih =>
    intro k c h1 h2
    obtain ⟨k, rfl⟩ : ∃ m, k = m + 1 := ⟨k - 1, by omega⟩
    have hj : j < l.length := by omega
    have hw : wrap64 ((n : Int) - (c : Int)) = (j : Int) := by unfold wrap64; omega
    have hw2 : wrap64 ((c : Int) + 1) = ((c + 1 : Nat) : Int) := by unfold wrap64; omega
    have hr : rd l (j : Int) = l[j] := by simp [rd, List.getD, hj]
    simp only [spec_l07Flags.l0]
    rw [hw, hw2, if_pos (by omega), if_pos (by omega), if_pos (by omega), hr, spec_l07Flag.eq, spec_l07Bound.back hj]
    simp only [Option.bind_some]
    have e : YtiabgmddnddeiaaDoorChr.nflg (l[j] :: (l.take j).reverse) = if YtiabgmddnddeiaaDoorChr.flg l[j] = true then YtiabgmddnddeiaaDoorChr.nflg ((l.take j).reverse) + 1 else 0 := rfl
    rw [e]
    by_cases g : YtiabgmddnddeiaaDoorChr.flg l[j] = true
    · rw [if_pos g, if_pos g, ih k (c + 1) (by omega) (by omega)]
      congr 1; omega
    · rw [if_neg g, if_neg g, Int.add_zero]
theorem W_spec_l07Flags.to {l : List Int} {i : Int} {r : Int} (h : W_spec_l07Flags.f l i = some r) : ∃ k, spec_l07Flags.f k l i = some r := by
  unfold W_spec_l07Flags.f at h
  split at h
  · rename_i hp
    obtain ⟨n, rfl⟩ : ∃ n : Nat, i = n := ⟨i.toNat, by omega⟩
    refine ⟨n + 2, ?_⟩
    rw [← h]
    have := spec_l07Flags.run l hp.2.2 n (by omega) (n + 1) (n + 2) 0 (by omega) (by omega)
    rw [Int.natCast_zero, Int.zero_add] at this
    exact this
  · cases h
theorem W_spec_l07Flags.calls (A0 : Option Addr) (c0 : Nat) (l0 : List Int) (a1 : Int) (r : Int) (w : World) (hr0 : Kd.C (Kd.int .i64) w A0 l0.length l0) (hc0 : l0.length ≤ c0) (h : W_spec_l07Flags.f l0 a1 = some r) :
    Calls Tryd.prog 188 #[.slice A0 l0.length c0, .int .i64 a1] w fun e w' => e = .returned (.int .i64 r) ∧ Drawn0 w w' := by
  obtain ⟨k, hk⟩ := W_spec_l07Flags.to h
  exact spec_l07Flags.calls k A0 c0 l0 a1 r w hr0 hc0 hk

end Go.Proofs.YtiabgmddnddeiaaDoor.QFnExactSentenceCuts
