/- The law FnExactEndDecoder: at every input the call answers true (this text: contracts on its way, by a program of this session's; no condition of ours). -/
import Derived.Test.YtnonijganceneaaDoorQFnExactEndDecoderx0
import Derived.Test.YtnonijganceneaaDoorQFnExactEndDecoderx1
import Derived.Test.YtnonijganceneaaDoorQFnExactEndDecoderx3
import Derived.Test.YtnonijganceneaaDoorQFnExactEndDecoderx4
import Derived.Test.YtnonijganceneaaDoorQFnExactEndDecoderx5
import Derived.Test.YtnonijganceneaaDoorQFnExactEndDecoderx6
namespace Go.Proofs.YtnonijganceneaaDoor.QFnExactEndDecoder
open Go.RowKit Go.Proofs.YtnonijganceneaaDoorW.PrintWords Go.Proofs.YtnonijganceneaaDoorW.PrintLast Go.Proofs.YtnonijganceneaaDoorW.PrintMore
attribute [local go_sem] max2_int min2_int max_two min_two max_three min_three max_four min_four   -- for this text's walks alone
set_option linter.unusedVariables false
set_option linter.unusedSimpArgs false

/-! ### spec_l02Unit: function 220 -/
def spec_l02Unit.l0 : Nat → ByteArray → Bool → Int → Int → Option (Int)
  | 0, _, _, _, _ => none
  | k + 1, x0, x1, x5, x6 => if x6 < (x0.size : Int) then (if x1 = true then (if 0 ≤ (wrap64 ((wrap64 ((x0.size : Int) - 1)) - x6)) then (if (wrap64 ((wrap64 ((x0.size : Int) - 1)) - x6)) < (x0.size : Int) then (spec_l02Unit.l0 k x0 x1 (Go.bits .or .i64 (wrap64 (x5 * 256)) (wrap64 (bt x0 (wrap64 ((wrap64 ((x0.size : Int) - 1)) - x6))))) (wrap64 (x6 + 1))) else (none)) else (none)) else (if 0 ≤ x6 then (spec_l02Unit.l0 k x0 x1 (Go.bits .or .i64 (wrap64 (x5 * 256)) (wrap64 (bt x0 x6))) (wrap64 (x6 + 1))) else (none))) else (some x5)
def spec_l02Unit.f (k : Nat) (a0 : ByteArray) (a1 : Bool) : Option (Int) := spec_l02Unit.l0 k a0 a1 0 0
theorem spec_l02Unit.mono_l : ∀ k, (∀ y0 y1 y2 y3, LeO (spec_l02Unit.l0 k y0 y1 y2 y3) (spec_l02Unit.l0 (k + 1) y0 y1 y2 y3))
  | 0 => fun _ _ _ _ r h => by simp [spec_l02Unit.l0] at h
  | k + 1 => by
    have ih0 := spec_l02Unit.mono_l k
    · intro y0 y1 y2 y3
      unfold spec_l02Unit.l0
      repeat' first
      | (with_reducible exact ih0 _ _ _ _)
      | (with_reducible exact LeO.refl _)
      | (with_reducible exact LeO.none _)
      | (with_reducible refine LeO.ite ?_ ?_)
      | (with_reducible refine LeO.bind ?_ (fun _ => ?_))
      | exact ih0 _ _ _ _
      | exact LeO.none _
      | refine LeO.ite ?_ ?_
      | refine LeO.bind ?_ (fun _ => ?_)
theorem spec_l02Unit.mono : ∀ a0 a1 k, LeO (spec_l02Unit.f k a0 a1) (spec_l02Unit.f (k + 1) a0 a1) := by
  intro a0 a1 k
  have ih0 := spec_l02Unit.mono_l k
  unfold spec_l02Unit.f
  repeat' first
      | (with_reducible exact ih0 _ _ _ _)
      | (with_reducible exact LeO.refl _)
      | (with_reducible exact LeO.none _)
      | (with_reducible refine LeO.ite ?_ ?_)
      | (with_reducible refine LeO.bind ?_ (fun _ => ?_))
      | exact ih0 _ _ _ _
      | exact LeO.none _
      | refine LeO.ite ?_ ?_
      | refine LeO.bind ?_ (fun _ => ?_)
set_option maxHeartbeats 8000000 in
set_option maxRecDepth 100000 in
theorem spec_l02Unit.calls (k : Nat) (a0 : ByteArray) (a1 : Bool) (r : Int) (w : World) (h : spec_l02Unit.f k a0 a1 = some r) :
    Calls Tryd.prog 220 #[.string a0, .bool a1] w fun e w' => e = .returned (.int .i64 r) ∧ Drawn0 w w' := by
  have H : (spec_l02Unit.l0 k a0 a1 0 0) = some r := h
  clear h
  have H' := Aside0.mk H
  clear H
  go_enter Tryd.func220, Tryd.ntmps220
  go_wp2
  go_loopg [5, 6] k (fun kq v5 v6 w' => ∃ (x5_1 : Int) (x6_1 : Int), v5 = .int .i64 x5_1 ∧ v6 = .int .i64 x6_1 ∧ Aside0 (spec_l02Unit.l0 kq a0 a1 x5_1 x6_1 = some r) ∧ Aside0 (kq ≤ k) ∧ Drawn0 w w')
  case atStart => exact ⟨(0), (0), (by first | rfl | (simp; done) | (simp [*]; done)), (by first | rfl | (simp; done) | (simp [*]; done)), H', ⟨Nat.le_refl _⟩, by repeat (first | exact Drawn0.refl _ | apply Drawn0.step)⟩
  case round =>
    clear H'
    try clear c2
    try clear p2
    obtain ⟨x5_1, x6_1, rfl, rfl, HA, HK1, ⟨m1, rfl⟩⟩ := hrel
    cases gk with
    | zero => exact absurd HA.out (by simp [spec_l02Unit.l0])
    | succ k1 =>
      have H := HA.out
      clear HA
      simp only [spec_l02Unit.l0] at H
      by_cases c3 : x6_1 < (a0.size : Int)
      · rw [if_pos c3] at H
        have c3b0 : decide (x6_1 < (a0.size : Int)) = true := decide_eq_true c3
        clear c3
        by_cases c4 : a1 = true
        · subst c4
          have H1 : (if 0 ≤ (wrap64 ((wrap64 ((a0.size : Int) - 1)) - x6_1)) then (if (wrap64 ((wrap64 ((a0.size : Int) - 1)) - x6_1)) < (a0.size : Int) then (spec_l02Unit.l0 k1 a0 true (Go.bits .or .i64 (wrap64 (x5_1 * 256)) (wrap64 (bt a0 (wrap64 ((wrap64 ((a0.size : Int) - 1)) - x6_1))))) (wrap64 (x6_1 + 1))) else (none)) else (none)) = some r := by rw [if_pos rfl] at H; exact H
          clear H
          have H := H1
          clear H1
          obtain ⟨ji5, hji5⟩ : ∃ j_ : Int, (wrap64 ((wrap64 ((a0.size : Int) - 1)) - x6_1)) = j_ := ⟨_, rfl⟩
          replace H : (if 0 ≤ (ji5) then (if (ji5) < (a0.size : Int) then (spec_l02Unit.l0 k1 a0 true (Go.bits .or .i64 (wrap64 (x5_1 * 256)) (wrap64 (bt a0 (ji5)))) (wrap64 (x6_1 + 1))) else (none)) else (none)) = some r := by first | (rw [hji5] at H; exact H) | (simp only [hji5] at H ⊢; exact H)
          have hji5w : (IntKind.i64.wrap ((wrap64 ((a0.size : Int) - 1)) - x6_1)) = ji5 := (i64_w _).trans hji5
          by_cases c6 : 0 ≤ (ji5)
          · rw [if_pos c6] at H
            have c6b0 : decide (0 ≤ (ji5)) = true := decide_eq_true c6
            clear c6
            by_cases c7 : (ji5) < (a0.size : Int)
            · rw [if_pos c7] at H
              have c7b0 : decide ((ji5) < (a0.size : Int)) = true := decide_eq_true c7
              clear c7
              have H' := Aside0.mk H
              clear H
              have p8 : 0 ≤ ((ji5) : Int) := of_decide_eq_true (by first | (with_reducible assumption) | assumption)
              have q8 : (ji5) < (a0.size : Int) := of_decide_eq_true (by first | (with_reducible assumption) | assumption)
              have hx8 := bt_at a0 (ji5)
              replace p8 := eq_true p8
              replace q8 := eq_true q8
              go_wp2
              go_roundg k1
              case measure => have := HK1.out; omega
              case rel => exact ⟨(Go.bits .or .i64 (wrap64 (x5_1 * 256)) (wrap64 (bt a0 (ji5)))), (wrap64 (x6_1 + 1)), (by first | rfl | (simp; done) | (simp only [← hji5] <;> (first | rfl | simp)) | (simp [*]; done)), (by first | rfl | (simp; done) | (simp [*]; done)), H', ⟨by have := HK1.out; omega⟩, by repeat (first | exact Drawn0.refl _ | apply Drawn0.step)⟩
            · rw [if_neg c7] at H
              exact absurd H (by simp)
          · rw [if_neg c6] at H
            exact absurd H (by simp)
        · replace c4 := Bool.eq_false_iff.mpr c4
          subst c4
          have H1 : (if 0 ≤ x6_1 then (spec_l02Unit.l0 k1 a0 false (Go.bits .or .i64 (wrap64 (x5_1 * 256)) (wrap64 (bt a0 x6_1))) (wrap64 (x6_1 + 1))) else (none)) = some r := by rw [if_neg (show ¬ (false = true) by decide)] at H; exact H
          clear H
          have H := H1
          clear H1
          by_cases c9 : 0 ≤ x6_1
          · rw [if_pos c9] at H
            have c9b0 : decide (0 ≤ x6_1) = true := decide_eq_true c9
            clear c9
            have H' := Aside0.mk H
            clear H
            have p10 : 0 ≤ (x6_1 : Int) := of_decide_eq_true (by first | (with_reducible assumption) | assumption)
            have q10 : x6_1 < (a0.size : Int) := of_decide_eq_true (by first | (with_reducible assumption) | assumption)
            have hx10 := bt_at a0 x6_1
            replace p10 := eq_true p10
            replace q10 := eq_true q10
            go_wp2
            go_roundg k1
            case measure => have := HK1.out; omega
            case rel => exact ⟨(Go.bits .or .i64 (wrap64 (x5_1 * 256)) (wrap64 (bt a0 x6_1))), (wrap64 (x6_1 + 1)), (by first | rfl | (simp; done) | (simp [*]; done)), (by first | rfl | (simp; done) | (simp [*]; done)), H', ⟨by have := HK1.out; omega⟩, by repeat (first | exact Drawn0.refl _ | apply Drawn0.step)⟩
          · rw [if_neg c9] at H
            exact absurd H (by simp)
      · rw [if_neg c3] at H
        have c3b0 : decide (x6_1 < (a0.size : Int)) = false := decide_eq_false c3
        clear c3
        obtain rfl := Option.some.inj H
        go_wp2
        go_ret
        exact ⟨by first | rfl | (simp; done) | (simp [*]; done), by repeat (first | exact Drawn0.refl _ | apply Drawn0.step)⟩

def W_spec_l02Unit.f (a0 : ByteArray) (a1 : Bool) : Option (Int) := if a0.size = 2 then some (YtnonijganceneaaDoorDec.unit2 a1 (bytesOf a0)) else if a0.size = 4 then some (YtnonijganceneaaDoorDec.unit4 a1 (bytesOf a0)) else none
theorem spec_l02Unit.or (x b : Int) (h0 : 0 ≤ x) (h1 : x ≤ 4294967296) (h2 : 0 ≤ b) (h3 : b ≤ 255) : Go.bits .or .i64 (wrap64 (x * 256)) (wrap64 b) = x * 256 + b := by
  have e1 : wrap64 (x * 256) = x * 256 := by unfold wrap64; omega
  have e2 : wrap64 b = b := by unfold wrap64; omega
  rw [e1, e2]
  exact bits_join .i64 62 (by decide) (fun n a b => by rw [IntKind.wrap_i64]; omega) 8 (x * 256) b (by omega) (by omega) (by omega) h2 (by omega) (by omega)
theorem spec_l02Unit.big (s : ByteArray) (n : Nat) (hn : s.size = n) (h4 : n ≤ 4) (j : Nat) (k : Nat) (x : Int) (i : Nat) (hi : i < n) (h0 : 0 ≤ x) (h1 : x ≤ 4294967296) (hj : i = j) :
    spec_l02Unit.l0 (k + 1) s false x (i : Int) = spec_l02Unit.l0 k s false (x * 256 + bt s (i : Int)) ((i + 1 : Nat) : Int) := by
  have hr := bt_range s (i : Int)
  have hw : wrap64 ((i : Int) + 1) = ((i + 1 : Nat) : Int) := by unfold wrap64; omega
  rw [spec_l02Unit.l0, if_pos (by omega), if_neg (by decide), if_pos (by omega), spec_l02Unit.or x _ h0 h1 hr.1 hr.2, hw]
theorem spec_l02Unit.little (s : ByteArray) (n : Nat) (hn : s.size = n) (h4 : n ≤ 4) (k : Nat) (x : Int) (i : Nat) (hi : i < n) (h0 : 0 ≤ x) (h1 : x ≤ 4294967296) :
    spec_l02Unit.l0 (k + 1) s true x (i : Int) = spec_l02Unit.l0 k s true (x * 256 + bt s ((n - 1 - i : Nat) : Int)) ((i + 1 : Nat) : Int) := by
  have hr := bt_range s ((n - 1 - i : Nat) : Int)
  have hw : wrap64 ((i : Int) + 1) = ((i + 1 : Nat) : Int) := by unfold wrap64; omega
  have hv : wrap64 (wrap64 ((s.size : Int) - 1) - (i : Int)) = ((n - 1 - i : Nat) : Int) := by unfold wrap64; omega
  rw [spec_l02Unit.l0, if_pos (by omega), if_pos rfl, hv, if_pos (by omega), if_pos (by omega), spec_l02Unit.or x _ h0 h1 hr.1 hr.2, hw]
theorem spec_l02Unit.done (s : ByteArray) (k : Nat) (b : Bool) (x : Int) (i : Nat) (hi : s.size = i) : spec_l02Unit.l0 (k + 1) s b x (i : Int) = some x := by
  rw [spec_l02Unit.l0, if_neg (by omega)]
theorem spec_l02Unit.two (s : ByteArray) (b : Bool) (h : s.size = 2) : spec_l02Unit.f 9 s b = some (YtnonijganceneaaDoorDec.unit2 b (bytesOf s)) := by
  have r0 := bt_range s 0
  have r1 := bt_range s 1
  unfold spec_l02Unit.f YtnonijganceneaaDoorDec.unit2
  rw [spec_l02Begins.getD, spec_l02Begins.getD, show (0 : Int) = ((0 : Nat) : Int) from rfl]
  cases b
  · rw [if_neg (by decide), spec_l02Unit.big s 2 h (by omega) 0 8 _ 0 (by omega) (by omega) (by omega) rfl, spec_l02Unit.big s 2 h (by omega) 1 7 _ 1 (by omega) (by simp; omega) (by simp; omega) rfl, spec_l02Unit.done s 6 _ _ 2 h]
    congr 1; simp; omega
  · rw [if_pos rfl, spec_l02Unit.little s 2 h (by omega) 8 _ 0 (by omega) (by omega) (by omega), spec_l02Unit.little s 2 h (by omega) 7 _ 1 (by omega) (by simp; omega) (by simp; omega), spec_l02Unit.done s 6 _ _ 2 h]
    congr 1; simp; omega
theorem spec_l02Unit.four (s : ByteArray) (b : Bool) (h : s.size = 4) : spec_l02Unit.f 9 s b = some (YtnonijganceneaaDoorDec.unit4 b (bytesOf s)) := by
  have r0 := bt_range s 0
  have r1 := bt_range s 1
  have r2 := bt_range s 2
  have r3 := bt_range s 3
  unfold spec_l02Unit.f YtnonijganceneaaDoorDec.unit4
  rw [spec_l02Begins.getD, spec_l02Begins.getD, spec_l02Begins.getD, spec_l02Begins.getD, show (0 : Int) = ((0 : Nat) : Int) from rfl]
  cases b
  · rw [if_neg (by decide), spec_l02Unit.big s 4 h (by omega) 0 8 _ 0 (by omega) (by omega) (by omega) rfl, spec_l02Unit.big s 4 h (by omega) 1 7 _ 1 (by omega) (by simp; omega) (by simp; omega) rfl, spec_l02Unit.big s 4 h (by omega) 2 6 _ 2 (by omega) (by simp; omega) (by simp; omega) rfl, spec_l02Unit.big s 4 h (by omega) 3 5 _ 3 (by omega) (by simp; omega) (by simp; omega) rfl, spec_l02Unit.done s 4 _ _ 4 h]
    congr 1; simp; omega
  · rw [if_pos rfl, spec_l02Unit.little s 4 h (by omega) 8 _ 0 (by omega) (by omega) (by omega), spec_l02Unit.little s 4 h (by omega) 7 _ 1 (by omega) (by simp; omega) (by simp; omega), spec_l02Unit.little s 4 h (by omega) 6 _ 2 (by omega) (by simp; omega) (by simp; omega), spec_l02Unit.little s 4 h (by omega) 5 _ 3 (by omega) (by simp; omega) (by simp; omega), spec_l02Unit.done s 4 _ _ 4 h]
    congr 1; simp; omega
theorem W_spec_l02Unit.to {a0 : ByteArray} {a1 : Bool} {r : Int} (h : W_spec_l02Unit.f a0 a1 = some r) : ∃ k, spec_l02Unit.f k a0 a1 = some r := by
  unfold W_spec_l02Unit.f at h
  by_cases c : a0.size = 2
  · rw [if_pos c] at h
    exact ⟨9, by rw [← h]; exact spec_l02Unit.two a0 a1 c⟩
  · rw [if_neg c] at h
    by_cases d : a0.size = 4
    · rw [if_pos d] at h
      exact ⟨9, by rw [← h]; exact spec_l02Unit.four a0 a1 d⟩
    · rw [if_neg d] at h; cases h
theorem W_spec_l02Unit.calls (a0 : ByteArray) (a1 : Bool) (r : Int) (w : World) (h : W_spec_l02Unit.f a0 a1 = some r) :
    Calls Tryd.prog 220 #[.string a0, .bool a1] w fun e w' => e = .returned (.int .i64 r) ∧ Drawn0 w w' := by
  obtain ⟨k, hk⟩ := W_spec_l02Unit.to h
  exact spec_l02Unit.calls k a0 a1 r w hk

/-! ### spec_l02Read_wide: function 183 -/
def spec_l02Read_wide.f (s0_0 : List Int) (s0_1 : List Int) (s0_2 : Int) (a1 : ByteArray) (a2 : Bool) (a3 : Bool) : Option (Bool × List Int × List Int × Int) := if (wrap64 ((a1.size : Int) - s0_2)) < 4 then (if a3 = true then ((spec_l02Read_piece.f s0_0 s0_1 s0_2 (wrap64 ((a1.size : Int) - s0_2))).bind fun bt130 => (some (a3, bt130.1, bt130.2.1, bt130.2.2))) else (some (a3, s0_0, s0_1, s0_2))) else (if 0 ≤ s0_2 then (if s0_2 ≤ (wrap64 (s0_2 + 4)) then (if (wrap64 (s0_2 + 4)) ≤ (a1.size : Int) then ((W_spec_l02Unit.f (a1.extract (s0_2 : Int).toNat ((wrap64 (s0_2 + 4)) : Int).toNat) a2).bind fun t133 => ((spec_l01IsPoint.f t133).bind fun t134 => (if t134 = true then ((spec_l02Read_point.f s0_0 s0_1 s0_2 t133 4).bind fun bt135 => (some (true, bt135.1, bt135.2.1, bt135.2.2))) else ((spec_l02Read_piece.f s0_0 s0_1 s0_2 4).bind fun bt138 => (some (true, bt138.1, bt138.2.1, bt138.2.2)))))) else (none)) else (none)) else (none))
set_option maxHeartbeats 8000000 in
set_option maxRecDepth 100000 in
theorem spec_l02Read_wide.calls (g : Nat) (s0_0 : List Int) (s0_1 : List Int) (s0_2 : Int) (a1 : ByteArray) (a2 : Bool) (a3 : Bool) (r1 : Bool) (r2 : List Int) (r3 : List Int) (r4 : Int) (w0 w : World) (hI : IsS100 w0 w g s0_0 s0_1 s0_2) (hB : Below w0.heap.size w0 w) (h : spec_l02Read_wide.f s0_0 s0_1 s0_2 a1 a2 a3 = some (r1, r2, r3, r4)) :
    Calls Tryd.prog 183 #[.pointer (some ⟨g, 0, none⟩), .string a1, .bool a2, .bool a3] w fun e w' => e = .returned (.bool r1) ∧ IsS100 w0 w' g r2 r3 r4 ∧ Below w0.heap.size w0 w' ∧ KB100 w w' g none := by
  have HI0 := Aside0.mk hI
  have HK := Aside0.mk (KB100.refl w g none)
  have HL := Aside0.mk hB.size
  clear hI
  have HW0 := Aside0.mk hB.size
  have HB := Aside0.mk hB
  clear hB
  have H : (if (wrap64 ((a1.size : Int) - s0_2)) < 4 then (if a3 = true then ((spec_l02Read_piece.f s0_0 s0_1 s0_2 (wrap64 ((a1.size : Int) - s0_2))).bind fun bt130 => (some (a3, bt130.1, bt130.2.1, bt130.2.2))) else (some (a3, s0_0, s0_1, s0_2))) else (if 0 ≤ s0_2 then (if s0_2 ≤ (wrap64 (s0_2 + 4)) then (if (wrap64 (s0_2 + 4)) ≤ (a1.size : Int) then ((W_spec_l02Unit.f (a1.extract (s0_2 : Int).toNat ((wrap64 (s0_2 + 4)) : Int).toNat) a2).bind fun t133 => ((spec_l01IsPoint.f t133).bind fun t134 => (if t134 = true then ((spec_l02Read_point.f s0_0 s0_1 s0_2 t133 4).bind fun bt135 => (some (true, bt135.1, bt135.2.1, bt135.2.2))) else ((spec_l02Read_piece.f s0_0 s0_1 s0_2 4).bind fun bt138 => (some (true, bt138.1, bt138.2.1, bt138.2.2)))))) else (none)) else (none)) else (none))) = some (r1, r2, r3, r4) := h
  clear h
  by_cases c5 : (wrap64 ((a1.size : Int) - s0_2)) < 4
  · rw [if_pos c5] at H
    have c5b0 : decide ((wrap64 ((a1.size : Int) - s0_2)) < 4) = true := decide_eq_true c5
    clear c5
    by_cases c6 : a3 = true
    · subst c6
      have H1 : ((spec_l02Read_piece.f s0_0 s0_1 s0_2 (wrap64 ((a1.size : Int) - s0_2))).bind fun bt130 => (some (true, bt130.1, bt130.2.1, bt130.2.2))) = some (r1, r2, r3, r4) := by rw [if_pos rfl] at H; exact H
      clear H
      have H := H1
      clear H1
      replace H := Option.bind_eq_some_iff.mp H
      obtain ⟨⟨t130, t131, t132⟩, A70, H⟩ := H
      replace H : (some (true, t130, t131, t132)) = some (r1, r2, r3, r4) := H
      have A7 := Aside0.mk A70
      clear A70
      simp only [Option.some.injEq, Prod.mk.injEq] at H
      obtain ⟨rfl, rfl, rfl, rfl⟩ := H
      obtain ⟨ASz8_0, cSz8_0, ASz8_1, cSz8_1, HGz8, hgz8, HSz8_0, HSz8_1⟩ := HI0.out
      have hcz8_0 := cellS100_0 HGz8
      have hcz8_1 := cellS100_1 HGz8
      have hcz8_2 := cellS100_2 HGz8
      have hfz8_0 := blk_frozen HGz8 0
      have hfz8_1 := blk_frozen HGz8 1
      have hfz8_2 := blk_frozen HGz8 2
      clear HGz8 hgz8
      go_enter Tryd.func183, Tryd.ntmps183
      go_wp2_with (first | (go_at_call 219; (with_reducible refine (spec_l02Read_piece.calls g s0_0 s0_1 s0_2 (wrap64 ((a1.size : Int) - s0_2)) t130 t131 t132 w0 _ ?side1 ?side2 A7.out).mono ?_); (case side1 => repeat (first | (with_reducible first | exact HI0.out | apply IsS100.alloc | apply IsS100.drewN | apply IsS100.drew | apply IsS100.set_0 | apply IsS100.set_1 | apply IsS100.set_2) | exact HI0.out)); (case side2 => repeat (first | (with_reducible first | exact HB.out | apply below_alloc | apply pw_below_drewN | apply below_drew1 | refine below_set ?_ (IsS100.ge HI0.out)) | exact HB.out)); rintro e w9 ⟨rfl, hi, hb, hk⟩; have n0_ := Aside0.mk (KB100.trans (by repeat (first | (with_reducible first | exact HK.out | apply KB100.set_ | apply KB100.drewN | apply KB100.drew | apply KB100.alloc) | exact HK.out)) hk (.inl rfl)); have n1_ := Aside0.mk (hb); have n2_ := Aside0.mk (hi); clear HK; clear HB; clear HI0; have HK := n0_; have HB := n1_; have HI0 := n2_; clear n0_ n1_ n2_; (try clear hb); (try clear hb2); (try clear hk); (try clear hi)))
      repeat (go_quiet (first | (go_at_call 219; (with_reducible refine (spec_l02Read_piece.calls g s0_0 s0_1 s0_2 (wrap64 ((a1.size : Int) - s0_2)) t130 t131 t132 w0 _ ?side1 ?side2 A7.out).mono ?_); (case side1 => repeat (first | (with_reducible first | exact HI0.out | apply IsS100.alloc | apply IsS100.drewN | apply IsS100.drew | apply IsS100.set_0 | apply IsS100.set_1 | apply IsS100.set_2) | exact HI0.out)); (case side2 => repeat (first | (with_reducible first | exact HB.out | apply below_alloc | apply pw_below_drewN | apply below_drew1 | refine below_set ?_ (IsS100.ge HI0.out)) | exact HB.out)); rintro e w9 ⟨rfl, hi, hb, hk⟩; have n0_ := Aside0.mk (KB100.trans (by repeat (first | (with_reducible first | exact HK.out | apply KB100.set_ | apply KB100.drewN | apply KB100.drew | apply KB100.alloc) | exact HK.out)) hk (.inl rfl)); have n1_ := Aside0.mk (hb); have n2_ := Aside0.mk (hi); clear HK; clear HB; clear HI0; have HK := n0_; have HB := n1_; have HI0 := n2_; clear n0_ n1_ n2_; (try clear hb); (try clear hb2); (try clear hk); (try clear hi))); try go_wp2_with (first | (go_at_call 219; (with_reducible refine (spec_l02Read_piece.calls g s0_0 s0_1 s0_2 (wrap64 ((a1.size : Int) - s0_2)) t130 t131 t132 w0 _ ?side1 ?side2 A7.out).mono ?_); (case side1 => repeat (first | (with_reducible first | exact HI0.out | apply IsS100.alloc | apply IsS100.drewN | apply IsS100.drew | apply IsS100.set_0 | apply IsS100.set_1 | apply IsS100.set_2) | exact HI0.out)); (case side2 => repeat (first | (with_reducible first | exact HB.out | apply below_alloc | apply pw_below_drewN | apply below_drew1 | refine below_set ?_ (IsS100.ge HI0.out)) | exact HB.out)); rintro e w9 ⟨rfl, hi, hb, hk⟩; have n0_ := Aside0.mk (KB100.trans (by repeat (first | (with_reducible first | exact HK.out | apply KB100.set_ | apply KB100.drewN | apply KB100.drew | apply KB100.alloc) | exact HK.out)) hk (.inl rfl)); have n1_ := Aside0.mk (hb); have n2_ := Aside0.mk (hi); clear HK; clear HB; clear HI0; have HK := n0_; have HB := n1_; have HI0 := n2_; clear n0_ n1_ n2_; (try clear hb); (try clear hb2); (try clear hk); (try clear hi))))
      go_ret
      exact ⟨by first | rfl | (simp [errW_none, errW_some] <;> rfl) | (simp [*, errW_none, errW_some] <;> rfl), by repeat (first | (with_reducible first | exact HI0.out | apply IsS100.alloc | apply IsS100.drewN | apply IsS100.drew | apply IsS100.set_0 | apply IsS100.set_1 | apply IsS100.set_2) | exact HI0.out), by repeat (first | (with_reducible first | exact HB.out | apply below_alloc | apply pw_below_drewN | apply below_drew1 | refine below_set ?_ (IsS100.ge HI0.out)) | exact HB.out), by repeat (first | (with_reducible first | exact HK.out | apply KB100.set_ | apply KB100.drewN | apply KB100.drew | apply KB100.alloc) | exact HK.out)⟩
    · replace c6 := Bool.eq_false_iff.mpr c6
      subst c6
      have H1 : (some (false, s0_0, s0_1, s0_2)) = some (r1, r2, r3, r4) := by rw [if_neg (show ¬ (false = true) by decide)] at H; exact H
      clear H
      have H := H1
      clear H1
      simp only [Option.some.injEq, Prod.mk.injEq] at H
      obtain ⟨rfl, rfl, rfl, rfl⟩ := H
      obtain ⟨ASz10_0, cSz10_0, ASz10_1, cSz10_1, HGz10, hgz10, HSz10_0, HSz10_1⟩ := HI0.out
      have hcz10_0 := cellS100_0 HGz10
      have hcz10_1 := cellS100_1 HGz10
      have hcz10_2 := cellS100_2 HGz10
      have hfz10_0 := blk_frozen HGz10 0
      have hfz10_1 := blk_frozen HGz10 1
      have hfz10_2 := blk_frozen HGz10 2
      clear HGz10 hgz10
      go_enter Tryd.func183, Tryd.ntmps183
      go_wp2
      repeat (go_quiet (fail); try go_wp2)
      go_ret
      exact ⟨by first | rfl | (simp [errW_none, errW_some] <;> rfl) | (simp [*, errW_none, errW_some] <;> rfl), by repeat (first | (with_reducible first | exact HI0.out | apply IsS100.alloc | apply IsS100.drewN | apply IsS100.drew | apply IsS100.set_0 | apply IsS100.set_1 | apply IsS100.set_2) | exact HI0.out), by repeat (first | (with_reducible first | exact HB.out | apply below_alloc | apply pw_below_drewN | apply below_drew1 | refine below_set ?_ (IsS100.ge HI0.out)) | exact HB.out), by repeat (first | (with_reducible first | exact HK.out | apply KB100.set_ | apply KB100.drewN | apply KB100.drew | apply KB100.alloc) | exact HK.out)⟩
  · rw [if_neg c5] at H
    have c5b0 : decide ((wrap64 ((a1.size : Int) - s0_2)) < 4) = false := decide_eq_false c5
    clear c5
    by_cases c11 : 0 ≤ s0_2
    · rw [if_pos c11] at H
      have c11b0 := eq_true c11
      have c11b1 : decide (0 ≤ s0_2) = true := decide_eq_true c11
      clear c11
      by_cases c12 : s0_2 ≤ (wrap64 (s0_2 + 4))
      · rw [if_pos c12] at H
        have c12b0 := eq_true c12
        have c12b1 : decide (s0_2 ≤ (wrap64 (s0_2 + 4))) = true := decide_eq_true c12
        by_cases c13 : (wrap64 (s0_2 + 4)) ≤ (a1.size : Int)
        · rw [if_pos c13] at H
          have c13b0 := eq_true c13
          have c13b1 : decide ((wrap64 (s0_2 + 4)) ≤ (a1.size : Int)) = true := decide_eq_true c13
          replace H := Option.bind_eq_some_iff.mp H
          obtain ⟨t133, A140, H⟩ := H
          replace H : ((spec_l01IsPoint.f t133).bind fun t134 => (if t134 = true then ((spec_l02Read_point.f s0_0 s0_1 s0_2 t133 4).bind fun bt135 => (some (true, bt135.1, bt135.2.1, bt135.2.2))) else ((spec_l02Read_piece.f s0_0 s0_1 s0_2 4).bind fun bt138 => (some (true, bt138.1, bt138.2.1, bt138.2.2))))) = some (r1, r2, r3, r4) := H
          have A14 := Aside0.mk A140
          clear A140
          replace H := Option.bind_eq_some_iff.mp H
          obtain ⟨t134, A150, H⟩ := H
          replace H : (if t134 = true then ((spec_l02Read_point.f s0_0 s0_1 s0_2 t133 4).bind fun bt135 => (some (true, bt135.1, bt135.2.1, bt135.2.2))) else ((spec_l02Read_piece.f s0_0 s0_1 s0_2 4).bind fun bt138 => (some (true, bt138.1, bt138.2.1, bt138.2.2)))) = some (r1, r2, r3, r4) := H
          have A15 := Aside0.mk A150
          clear A150
          by_cases c16 : t134 = true
          · subst c16
            have H1 : ((spec_l02Read_point.f s0_0 s0_1 s0_2 t133 4).bind fun bt135 => (some (true, bt135.1, bt135.2.1, bt135.2.2))) = some (r1, r2, r3, r4) := by rw [if_pos rfl] at H; exact H
            clear H
            have H := H1
            clear H1
            replace H := Option.bind_eq_some_iff.mp H
            obtain ⟨⟨t135, t136, t137⟩, A170, H⟩ := H
            replace H : (some (true, t135, t136, t137)) = some (r1, r2, r3, r4) := H
            have A17 := Aside0.mk A170
            clear A170
            simp only [Option.some.injEq, Prod.mk.injEq] at H
            obtain ⟨rfl, rfl, rfl, rfl⟩ := H
            obtain ⟨ASz18_0, cSz18_0, ASz18_1, cSz18_1, HGz18, hgz18, HSz18_0, HSz18_1⟩ := HI0.out
            have hcz18_0 := cellS100_0 HGz18
            have hcz18_1 := cellS100_1 HGz18
            have hcz18_2 := cellS100_2 HGz18
            have hfz18_0 := blk_frozen HGz18 0
            have hfz18_1 := blk_frozen HGz18 1
            have hfz18_2 := blk_frozen HGz18 2
            clear HGz18 hgz18
            go_enter Tryd.func183, Tryd.ntmps183
            go_wp2_with (first | (go_at_call 220; (with_reducible refine (W_spec_l02Unit.calls (a1.extract (s0_2 : Int).toNat ((wrap64 (s0_2 + 4)) : Int).toNat) a2 t133 _ A14.out).mono ?_); rintro e w' ⟨rfl, ⟨nd, rfl⟩⟩; (try first | exact ⟨rfl, _, World.drewN_drewN _ _ _⟩ | exact ⟨rfl, _, Eq.trans (World.drewN_drewN _ _ _) (congrArg (World.drewN _) (Nat.add_assoc _ _ _))⟩)) | (go_at_call 88; (with_reducible refine (spec_l01IsPoint.calls t133 true _ A15.out).mono ?_); rintro e w' ⟨rfl, ⟨nd, rfl⟩⟩; (try first | exact ⟨rfl, _, World.drewN_drewN _ _ _⟩ | exact ⟨rfl, _, Eq.trans (World.drewN_drewN _ _ _) (congrArg (World.drewN _) (Nat.add_assoc _ _ _))⟩)) | (go_at_call 217; (with_reducible refine (spec_l02Read_point.calls g s0_0 s0_1 s0_2 t133 4 t135 t136 t137 w0 _ ?side1 ?side2 A17.out).mono ?_); (case side1 => repeat (first | (with_reducible first | exact HI0.out | apply IsS100.alloc | apply IsS100.drewN | apply IsS100.drew | apply IsS100.set_0 | apply IsS100.set_1 | apply IsS100.set_2) | exact HI0.out)); (case side2 => repeat (first | (with_reducible first | exact HB.out | apply below_alloc | apply pw_below_drewN | apply below_drew1 | refine below_set ?_ (IsS100.ge HI0.out)) | exact HB.out)); rintro e w19 ⟨rfl, hi, hb, hk⟩; have n0_ := Aside0.mk (KB100.trans (by repeat (first | (with_reducible first | exact HK.out | apply KB100.set_ | apply KB100.drewN | apply KB100.drew | apply KB100.alloc) | exact HK.out)) hk (.inl rfl)); have n1_ := Aside0.mk (hb); have n2_ := Aside0.mk (hi); clear HK; clear HB; clear HI0; have HK := n0_; have HB := n1_; have HI0 := n2_; clear n0_ n1_ n2_; (try clear hb); (try clear hb2); (try clear hk); (try clear hi)))
            repeat (go_quiet (first | (go_at_call 220; (with_reducible refine (W_spec_l02Unit.calls (a1.extract (s0_2 : Int).toNat ((wrap64 (s0_2 + 4)) : Int).toNat) a2 t133 _ A14.out).mono ?_); rintro e w' ⟨rfl, ⟨nd, rfl⟩⟩; (try first | exact ⟨rfl, _, World.drewN_drewN _ _ _⟩ | exact ⟨rfl, _, Eq.trans (World.drewN_drewN _ _ _) (congrArg (World.drewN _) (Nat.add_assoc _ _ _))⟩)) | (go_at_call 88; (with_reducible refine (spec_l01IsPoint.calls t133 true _ A15.out).mono ?_); rintro e w' ⟨rfl, ⟨nd, rfl⟩⟩; (try first | exact ⟨rfl, _, World.drewN_drewN _ _ _⟩ | exact ⟨rfl, _, Eq.trans (World.drewN_drewN _ _ _) (congrArg (World.drewN _) (Nat.add_assoc _ _ _))⟩)) | (go_at_call 217; (with_reducible refine (spec_l02Read_point.calls g s0_0 s0_1 s0_2 t133 4 t135 t136 t137 w0 _ ?side1 ?side2 A17.out).mono ?_); (case side1 => repeat (first | (with_reducible first | exact HI0.out | apply IsS100.alloc | apply IsS100.drewN | apply IsS100.drew | apply IsS100.set_0 | apply IsS100.set_1 | apply IsS100.set_2) | exact HI0.out)); (case side2 => repeat (first | (with_reducible first | exact HB.out | apply below_alloc | apply pw_below_drewN | apply below_drew1 | refine below_set ?_ (IsS100.ge HI0.out)) | exact HB.out)); rintro e w19 ⟨rfl, hi, hb, hk⟩; have n0_ := Aside0.mk (KB100.trans (by repeat (first | (with_reducible first | exact HK.out | apply KB100.set_ | apply KB100.drewN | apply KB100.drew | apply KB100.alloc) | exact HK.out)) hk (.inl rfl)); have n1_ := Aside0.mk (hb); have n2_ := Aside0.mk (hi); clear HK; clear HB; clear HI0; have HK := n0_; have HB := n1_; have HI0 := n2_; clear n0_ n1_ n2_; (try clear hb); (try clear hb2); (try clear hk); (try clear hi))); try go_wp2_with (first | (go_at_call 220; (with_reducible refine (W_spec_l02Unit.calls (a1.extract (s0_2 : Int).toNat ((wrap64 (s0_2 + 4)) : Int).toNat) a2 t133 _ A14.out).mono ?_); rintro e w' ⟨rfl, ⟨nd, rfl⟩⟩; (try first | exact ⟨rfl, _, World.drewN_drewN _ _ _⟩ | exact ⟨rfl, _, Eq.trans (World.drewN_drewN _ _ _) (congrArg (World.drewN _) (Nat.add_assoc _ _ _))⟩)) | (go_at_call 88; (with_reducible refine (spec_l01IsPoint.calls t133 true _ A15.out).mono ?_); rintro e w' ⟨rfl, ⟨nd, rfl⟩⟩; (try first | exact ⟨rfl, _, World.drewN_drewN _ _ _⟩ | exact ⟨rfl, _, Eq.trans (World.drewN_drewN _ _ _) (congrArg (World.drewN _) (Nat.add_assoc _ _ _))⟩)) | (go_at_call 217; (with_reducible refine (spec_l02Read_point.calls g s0_0 s0_1 s0_2 t133 4 t135 t136 t137 w0 _ ?side1 ?side2 A17.out).mono ?_); (case side1 => repeat (first | (with_reducible first | exact HI0.out | apply IsS100.alloc | apply IsS100.drewN | apply IsS100.drew | apply IsS100.set_0 | apply IsS100.set_1 | apply IsS100.set_2) | exact HI0.out)); (case side2 => repeat (first | (with_reducible first | exact HB.out | apply below_alloc | apply pw_below_drewN | apply below_drew1 | refine below_set ?_ (IsS100.ge HI0.out)) | exact HB.out)); rintro e w19 ⟨rfl, hi, hb, hk⟩; have n0_ := Aside0.mk (KB100.trans (by repeat (first | (with_reducible first | exact HK.out | apply KB100.set_ | apply KB100.drewN | apply KB100.drew | apply KB100.alloc) | exact HK.out)) hk (.inl rfl)); have n1_ := Aside0.mk (hb); have n2_ := Aside0.mk (hi); clear HK; clear HB; clear HI0; have HK := n0_; have HB := n1_; have HI0 := n2_; clear n0_ n1_ n2_; (try clear hb); (try clear hb2); (try clear hk); (try clear hi))))
            go_ret
            exact ⟨by first | rfl | (simp [errW_none, errW_some] <;> rfl) | (simp [*, errW_none, errW_some] <;> rfl), by repeat (first | (with_reducible first | exact HI0.out | apply IsS100.alloc | apply IsS100.drewN | apply IsS100.drew | apply IsS100.set_0 | apply IsS100.set_1 | apply IsS100.set_2) | exact HI0.out), by repeat (first | (with_reducible first | exact HB.out | apply below_alloc | apply pw_below_drewN | apply below_drew1 | refine below_set ?_ (IsS100.ge HI0.out)) | exact HB.out), by repeat (first | (with_reducible first | exact HK.out | apply KB100.set_ | apply KB100.drewN | apply KB100.drew | apply KB100.alloc) | exact HK.out)⟩
          · replace c16 := Bool.eq_false_iff.mpr c16
            subst c16
            have H1 : ((spec_l02Read_piece.f s0_0 s0_1 s0_2 4).bind fun bt138 => (some (true, bt138.1, bt138.2.1, bt138.2.2))) = some (r1, r2, r3, r4) := by rw [if_neg (show ¬ (false = true) by decide)] at H; exact H
            clear H
            have H := H1
            clear H1
            replace H := Option.bind_eq_some_iff.mp H
            obtain ⟨⟨t138, t139, t140⟩, A200, H⟩ := H
            replace H : (some (true, t138, t139, t140)) = some (r1, r2, r3, r4) := H
            have A20 := Aside0.mk A200
            clear A200
            simp only [Option.some.injEq, Prod.mk.injEq] at H
            obtain ⟨rfl, rfl, rfl, rfl⟩ := H
            obtain ⟨ASz21_0, cSz21_0, ASz21_1, cSz21_1, HGz21, hgz21, HSz21_0, HSz21_1⟩ := HI0.out
            have hcz21_0 := cellS100_0 HGz21
            have hcz21_1 := cellS100_1 HGz21
            have hcz21_2 := cellS100_2 HGz21
            have hfz21_0 := blk_frozen HGz21 0
            have hfz21_1 := blk_frozen HGz21 1
            have hfz21_2 := blk_frozen HGz21 2
            clear HGz21 hgz21
            go_enter Tryd.func183, Tryd.ntmps183
            go_wp2_with (first | (go_at_call 220; (with_reducible refine (W_spec_l02Unit.calls (a1.extract (s0_2 : Int).toNat ((wrap64 (s0_2 + 4)) : Int).toNat) a2 t133 _ A14.out).mono ?_); rintro e w' ⟨rfl, ⟨nd, rfl⟩⟩; (try first | exact ⟨rfl, _, World.drewN_drewN _ _ _⟩ | exact ⟨rfl, _, Eq.trans (World.drewN_drewN _ _ _) (congrArg (World.drewN _) (Nat.add_assoc _ _ _))⟩)) | (go_at_call 88; (with_reducible refine (spec_l01IsPoint.calls t133 false _ A15.out).mono ?_); rintro e w' ⟨rfl, ⟨nd, rfl⟩⟩; (try first | exact ⟨rfl, _, World.drewN_drewN _ _ _⟩ | exact ⟨rfl, _, Eq.trans (World.drewN_drewN _ _ _) (congrArg (World.drewN _) (Nat.add_assoc _ _ _))⟩)) | (go_at_call 219; (with_reducible refine (spec_l02Read_piece.calls g s0_0 s0_1 s0_2 4 t138 t139 t140 w0 _ ?side1 ?side2 A20.out).mono ?_); (case side1 => repeat (first | (with_reducible first | exact HI0.out | apply IsS100.alloc | apply IsS100.drewN | apply IsS100.drew | apply IsS100.set_0 | apply IsS100.set_1 | apply IsS100.set_2) | exact HI0.out)); (case side2 => repeat (first | (with_reducible first | exact HB.out | apply below_alloc | apply pw_below_drewN | apply below_drew1 | refine below_set ?_ (IsS100.ge HI0.out)) | exact HB.out)); rintro e w22 ⟨rfl, hi, hb, hk⟩; have n0_ := Aside0.mk (KB100.trans (by repeat (first | (with_reducible first | exact HK.out | apply KB100.set_ | apply KB100.drewN | apply KB100.drew | apply KB100.alloc) | exact HK.out)) hk (.inl rfl)); have n1_ := Aside0.mk (hb); have n2_ := Aside0.mk (hi); clear HK; clear HB; clear HI0; have HK := n0_; have HB := n1_; have HI0 := n2_; clear n0_ n1_ n2_; (try clear hb); (try clear hb2); (try clear hk); (try clear hi)))
            repeat (go_quiet (first | (go_at_call 220; (with_reducible refine (W_spec_l02Unit.calls (a1.extract (s0_2 : Int).toNat ((wrap64 (s0_2 + 4)) : Int).toNat) a2 t133 _ A14.out).mono ?_); rintro e w' ⟨rfl, ⟨nd, rfl⟩⟩; (try first | exact ⟨rfl, _, World.drewN_drewN _ _ _⟩ | exact ⟨rfl, _, Eq.trans (World.drewN_drewN _ _ _) (congrArg (World.drewN _) (Nat.add_assoc _ _ _))⟩)) | (go_at_call 88; (with_reducible refine (spec_l01IsPoint.calls t133 false _ A15.out).mono ?_); rintro e w' ⟨rfl, ⟨nd, rfl⟩⟩; (try first | exact ⟨rfl, _, World.drewN_drewN _ _ _⟩ | exact ⟨rfl, _, Eq.trans (World.drewN_drewN _ _ _) (congrArg (World.drewN _) (Nat.add_assoc _ _ _))⟩)) | (go_at_call 219; (with_reducible refine (spec_l02Read_piece.calls g s0_0 s0_1 s0_2 4 t138 t139 t140 w0 _ ?side1 ?side2 A20.out).mono ?_); (case side1 => repeat (first | (with_reducible first | exact HI0.out | apply IsS100.alloc | apply IsS100.drewN | apply IsS100.drew | apply IsS100.set_0 | apply IsS100.set_1 | apply IsS100.set_2) | exact HI0.out)); (case side2 => repeat (first | (with_reducible first | exact HB.out | apply below_alloc | apply pw_below_drewN | apply below_drew1 | refine below_set ?_ (IsS100.ge HI0.out)) | exact HB.out)); rintro e w22 ⟨rfl, hi, hb, hk⟩; have n0_ := Aside0.mk (KB100.trans (by repeat (first | (with_reducible first | exact HK.out | apply KB100.set_ | apply KB100.drewN | apply KB100.drew | apply KB100.alloc) | exact HK.out)) hk (.inl rfl)); have n1_ := Aside0.mk (hb); have n2_ := Aside0.mk (hi); clear HK; clear HB; clear HI0; have HK := n0_; have HB := n1_; have HI0 := n2_; clear n0_ n1_ n2_; (try clear hb); (try clear hb2); (try clear hk); (try clear hi))); try go_wp2_with (first | (go_at_call 220; (with_reducible refine (W_spec_l02Unit.calls (a1.extract (s0_2 : Int).toNat ((wrap64 (s0_2 + 4)) : Int).toNat) a2 t133 _ A14.out).mono ?_); rintro e w' ⟨rfl, ⟨nd, rfl⟩⟩; (try first | exact ⟨rfl, _, World.drewN_drewN _ _ _⟩ | exact ⟨rfl, _, Eq.trans (World.drewN_drewN _ _ _) (congrArg (World.drewN _) (Nat.add_assoc _ _ _))⟩)) | (go_at_call 88; (with_reducible refine (spec_l01IsPoint.calls t133 false _ A15.out).mono ?_); rintro e w' ⟨rfl, ⟨nd, rfl⟩⟩; (try first | exact ⟨rfl, _, World.drewN_drewN _ _ _⟩ | exact ⟨rfl, _, Eq.trans (World.drewN_drewN _ _ _) (congrArg (World.drewN _) (Nat.add_assoc _ _ _))⟩)) | (go_at_call 219; (with_reducible refine (spec_l02Read_piece.calls g s0_0 s0_1 s0_2 4 t138 t139 t140 w0 _ ?side1 ?side2 A20.out).mono ?_); (case side1 => repeat (first | (with_reducible first | exact HI0.out | apply IsS100.alloc | apply IsS100.drewN | apply IsS100.drew | apply IsS100.set_0 | apply IsS100.set_1 | apply IsS100.set_2) | exact HI0.out)); (case side2 => repeat (first | (with_reducible first | exact HB.out | apply below_alloc | apply pw_below_drewN | apply below_drew1 | refine below_set ?_ (IsS100.ge HI0.out)) | exact HB.out)); rintro e w22 ⟨rfl, hi, hb, hk⟩; have n0_ := Aside0.mk (KB100.trans (by repeat (first | (with_reducible first | exact HK.out | apply KB100.set_ | apply KB100.drewN | apply KB100.drew | apply KB100.alloc) | exact HK.out)) hk (.inl rfl)); have n1_ := Aside0.mk (hb); have n2_ := Aside0.mk (hi); clear HK; clear HB; clear HI0; have HK := n0_; have HB := n1_; have HI0 := n2_; clear n0_ n1_ n2_; (try clear hb); (try clear hb2); (try clear hk); (try clear hi))))
            go_ret
            exact ⟨by first | rfl | (simp [errW_none, errW_some] <;> rfl) | (simp [*, errW_none, errW_some] <;> rfl), by repeat (first | (with_reducible first | exact HI0.out | apply IsS100.alloc | apply IsS100.drewN | apply IsS100.drew | apply IsS100.set_0 | apply IsS100.set_1 | apply IsS100.set_2) | exact HI0.out), by repeat (first | (with_reducible first | exact HB.out | apply below_alloc | apply pw_below_drewN | apply below_drew1 | refine below_set ?_ (IsS100.ge HI0.out)) | exact HB.out), by repeat (first | (with_reducible first | exact HK.out | apply KB100.set_ | apply KB100.drewN | apply KB100.drew | apply KB100.alloc) | exact HK.out)⟩
        · rw [if_neg c13] at H
          exact absurd H (by simp)
      · rw [if_neg c12] at H
        exact absurd H (by simp)
    · rw [if_neg c11] at H
      exact absurd H (by simp)

def W_spec_l02Read_wide.f (p b : List Int) (u : Int) (a1 : ByteArray) (a2 a3 : Bool) : Option (Bool × List Int × List Int × Int) := if 0 ≤ u ∧ u < (a1.size : Int) ∧ a1.size ≤ 1099511627776 ∧ p.length ≤ 1099511627776 ∧ b.length ≤ 1099511627776 then some (YtnonijganceneaaDoorDec.step (YtnonijganceneaaDoorDec.piece32 a2 ((bytesOf a1).drop u.toNat)) a3 p b u) else none
theorem spec_l02Read_wide.take2 (b : Bool) (L : List Int) (n : Nat) (h : 2 ≤ n) : YtnonijganceneaaDoorDec.unit2 b (L.take n) = YtnonijganceneaaDoorDec.unit2 b L := by
  have g : ∀ i, i < n → (L.take n).getD i 0 = L.getD i 0 := fun i hi => by simp [List.getD, List.getElem?_take, hi]
  unfold YtnonijganceneaaDoorDec.unit2; rw [g 0 (by omega), g 1 (by omega)]
theorem spec_l02Read_wide.take4 (b : Bool) (L : List Int) (n : Nat) (h : 4 ≤ n) : YtnonijganceneaaDoorDec.unit4 b (L.take n) = YtnonijganceneaaDoorDec.unit4 b L := by
  have g : ∀ i, i < n → (L.take n).getD i 0 = L.getD i 0 := fun i hi => by simp [List.getD, List.getElem?_take, hi]
  unfold YtnonijganceneaaDoorDec.unit4; rw [g 0 (by omega), g 1 (by omega), g 2 (by omega), g 3 (by omega)]
theorem spec_l02Read_wide.point (p : Int) : spec_l01IsPoint.f p = some (decide (YtnonijganceneaaDoorPts.isP p)) := by
  unfold spec_l01IsPoint.f YtnonijganceneaaDoorPts.isP
  by_cases a : 0 ≤ p
  · by_cases b : p ≤ 1114111
    · by_cases c : p < 55296
      · rw [if_pos a, if_pos b, if_pos c]; simp [a, b, c]
      · rw [if_pos a, if_pos b, if_neg c]; simp [a, b, c]
    · rw [if_pos a, if_neg b]; simp [b]
  · rw [if_neg a]; simp [a]
theorem W_spec_l02Read_wide.to {p b : List Int} {u : Int} {a1 : ByteArray} {a2 a3 : Bool} {r : Bool × List Int × List Int × Int} (h : W_spec_l02Read_wide.f p b u a1 a2 a3 = some r) : ∃ _ : Nat, spec_l02Read_wide.f p b u a1 a2 a3 = some r := by
  unfold W_spec_l02Read_wide.f at h
  split at h
  · rename_i hc
    obtain ⟨h0, h1, h2, h3, h4⟩ := hc
    obtain ⟨u, rfl⟩ : ∃ n : Nat, u = n := ⟨u.toNat, by omega⟩
    refine ⟨1, ?_⟩
    rw [← h]
    have hlen : ((bytesOf a1).drop u).length = a1.size - u := by rw [List.length_drop, bytesOf_length]
    have w1 : wrap64 ((a1.size : Int) - (u : Int)) = ((a1.size - u : Nat) : Int) := by unfold wrap64; omega
    have w2 : wrap64 ((u : Int) + 4) = ((u + 4 : Nat) : Int) := by unfold wrap64; omega
    unfold spec_l02Read_wide.f YtnonijganceneaaDoorDec.step YtnonijganceneaaDoorDec.piece32
    simp only [Int.toNat_natCast]
    rw [w1, w2, hlen]
    have hpc : ∀ n : Nat, n ≤ 1099511627776 → spec_l02Read_piece.f p b (u : Int) (n : Int) = some (p ++ [65533], b ++ [(u : Int)], (u : Int) + (n : Int)) := by
      intro n hn
      have hw : wrap64 ((u : Int) + (n : Int)) = (u : Int) + (n : Int) := by unfold wrap64; omega
      unfold spec_l02Read_piece.f
      rw [if_pos ⟨h3, h4⟩, hw]
    by_cases c : a1.size - u < 4
    · rw [if_pos (by omega), if_pos c, hpc _ (by omega)]
      cases a3 <;> rfl
    · rw [if_neg (by omega), if_pos (by omega), if_pos (by omega), if_pos (by omega), if_neg c]
      have hx : W_spec_l02Unit.f (a1.extract u (u + 4)) a2 = some (YtnonijganceneaaDoorDec.unit4 a2 ((bytesOf a1).drop u)) := by
        have hz : (a1.extract u (u + 4)).size = 4 := by simp; omega
        unfold W_spec_l02Unit.f
        rw [if_neg (by omega), if_pos hz, spec_l02Read_eight.extract, show u + 4 - u = 4 by omega, spec_l02Read_wide.take4 _ _ 4 (by omega)]
      simp only [Int.toNat_natCast]
      rw [hx]
      simp only [Option.bind_some]
      obtain ⟨v, hv⟩ : ∃ v, YtnonijganceneaaDoorDec.unit4 a2 ((bytesOf a1).drop u) = v := ⟨_, rfl⟩
      rw [hv, spec_l02Read_wide.point]
      simp only [Option.bind_some]
      by_cases d : YtnonijganceneaaDoorPts.isP v
      · rw [if_pos (decide_eq_true d), if_pos d]
        unfold spec_l02Read_point.f
        have hw : wrap64 ((u : Int) + 4) = (u : Int) + 4 := by unfold wrap64; omega
        rw [if_pos h3, hw]
        rfl
      · rw [if_neg (by simpa using d), if_neg d, show (4 : Int) = ((4 : Nat) : Int) from rfl, hpc 4 (by omega)]
        rfl
  · cases h
theorem W_spec_l02Read_wide.calls (g : Nat) (s0_0 : List Int) (s0_1 : List Int) (s0_2 : Int) (a1 : ByteArray) (a2 : Bool) (a3 : Bool) (r1 : Bool) (r2 : List Int) (r3 : List Int) (r4 : Int) (w0 w : World) (hI : IsS100 w0 w g s0_0 s0_1 s0_2) (hB : Below w0.heap.size w0 w) (h : W_spec_l02Read_wide.f s0_0 s0_1 s0_2 a1 a2 a3 = some (r1, r2, r3, r4)) :
    Calls Tryd.prog 183 #[.pointer (some ⟨g, 0, none⟩), .string a1, .bool a2, .bool a3] w fun e w' => e = .returned (.bool r1) ∧ IsS100 w0 w' g r2 r3 r4 ∧ Below w0.heap.size w0 w' ∧ KB100 w w' g none := by
  obtain ⟨k, hk⟩ := W_spec_l02Read_wide.to h
  exact spec_l02Read_wide.calls g s0_0 s0_1 s0_2 a1 a2 a3 r1 r2 r3 r4 w0 w hI hB hk

end Go.Proofs.YtnonijganceneaaDoor.QFnExactEndDecoder
