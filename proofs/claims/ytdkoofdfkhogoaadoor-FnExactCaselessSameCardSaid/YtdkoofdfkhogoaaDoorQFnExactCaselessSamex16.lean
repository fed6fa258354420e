/- The law FnExactCaselessSame: at every input the call answers true (this text: contracts on its way, by a program of this session's; no condition of ours). -/
import Derived.Test.YtdkoofdfkhogoaaDoorQFnExactCaselessSamex0
import Derived.Test.YtdkoofdfkhogoaaDoorQFnExactCaselessSamex10
import Derived.Test.YtdkoofdfkhogoaaDoorQFnExactCaselessSamex11
import Derived.Test.YtdkoofdfkhogoaaDoorQFnExactCaselessSamex12
import Derived.Test.YtdkoofdfkhogoaaDoorQFnExactCaselessSamex15
namespace Go.Proofs.YtdkoofdfkhogoaaDoor.QFnExactCaselessSame
open Go.RowKit Go.Proofs.YtdkoofdfkhogoaaDoorW.PrintWords Go.Proofs.YtdkoofdfkhogoaaDoorW.PrintLast Go.Proofs.YtdkoofdfkhogoaaDoorW.PrintMore
attribute [local go_sem] max2_int min2_int max_two min_two max_three min_three max_four min_four   -- for this text's walks alone
set_option linter.unusedVariables false
set_option linter.unusedSimpArgs false

/-! ### impl_block: function 193 (by hand) -/
theorem impl_block.bits (p : Int) (h0 : 512 ≤ p) (h1 : p < 1280) : Go.bits .andNot .i64 p 255 = p - p % 256 ∧ Go.bits .and .i64 p 255 = p % 256 := by
  have h : ∀ n : Fin 768, Go.bits .andNot .i64 (512 + (n.val : Int)) 255 = (512 + (n.val : Int)) - (512 + (n.val : Int)) % 256 ∧ Go.bits .and .i64 (512 + (n.val : Int)) 255 = (512 + (n.val : Int)) % 256 := by decide +kernel
  have e : p = 512 + (((⟨(p - 512).toNat, by omega⟩ : Fin 768).val : Nat) : Int) := by simp; omega
  rw [e]; exact h _
def impl_block.f (a0 : Int) : Option (Int × Int) := some (if 512 ≤ a0 ∧ a0 < 1280 then (a0 - a0 % 256, a0 % 256) else (0, 0))
set_option maxHeartbeats 1000000 in
set_option maxRecDepth 100000 in
theorem impl_block.calls (a0 : Int) (r1 : Int) (r2 : Int) (w : World) (h : impl_block.f a0 = some (r1, r2)) :
    Calls Tryd.prog 193 #[.int .i64 a0] w fun e w' => e = .returned (.tuple #[.int .i64 r1, .int .i64 r2]) ∧ Drawn0 w w' := by
  unfold impl_block.f at h
  have h := Option.some.inj h
  by_cases hc : 512 ≤ a0 ∧ a0 < 1280
  · rw [if_pos hc] at h
    obtain ⟨rfl, rfl⟩ := Prod.mk.inj h
    obtain ⟨e1, e2⟩ := impl_block.bits a0 hc.1 hc.2
    rw [← e1, ← e2]
    clear e1 e2 h
    obtain ⟨hc1, hc2⟩ := hc
    go_enter Tryd.func193, Tryd.ntmps193
    go_wp2
    go_ret2
    exact ⟨rfl, Drawn0.refl _⟩
  · rw [if_neg hc] at h
    obtain ⟨rfl, rfl⟩ := Prod.mk.inj h
    clear h
    have hc' : a0 < 512 ∨ 1280 ≤ a0 := by omega
    clear hc
    rcases hc' with hc | hc
    · go_enter Tryd.func193, Tryd.ntmps193
      go_wp2
      go_ret2
      exact ⟨rfl, Drawn0.refl _⟩
    · go_enter Tryd.func193, Tryd.ntmps193
      go_wp2
      go_ret2
      exact ⟨rfl, Drawn0.refl _⟩

/-! ### impl_within: function 194 -/
def impl_within.f (a0 : Int) (a1 : Int) : Option (Bool) := (impl_block.f a0).bind fun bt339 => (if bt339.1 > 0 then (some (bt339.2 == a1)) else (some false))
set_option maxHeartbeats 8000000 in
set_option maxRecDepth 100000 in
theorem impl_within.calls (a0 : Int) (a1 : Int) (r : Bool) (w : World) (h : impl_within.f a0 a1 = some r) :
    Calls Tryd.prog 194 #[.int .i64 a0, .int .i64 a1] w fun e w' => e = .returned (.bool r) ∧ Drawn0 w w' := by
  have H : ((impl_block.f a0).bind fun bt339 => (if bt339.1 > 0 then (some (bt339.2 == a1)) else (some false))) = some r := h
  clear h
  replace H := Option.bind_eq_some_iff.mp H
  obtain ⟨⟨t339, t340⟩, A30, H⟩ := H
  replace H : (if t339 > 0 then (some (t340 == a1)) else (some false)) = some r := H
  have A3 := Aside0.mk A30
  clear A30
  by_cases c4 : t339 > 0
  · rw [if_pos c4] at H
    have c4b0 : decide (0 < t339) = true := decide_eq_true c4
    clear c4
    obtain rfl := Option.some.inj H
    go_enter Tryd.func194, Tryd.ntmps194
    go_wp2_with (first | ((with_reducible refine gate_callee (f := 193) rfl ?_); refine goesL_ (some 9) rfl rfl Tryd.func193 (by kernel_rfl) rfl #[.int .i64 a0] rfl (by (try simp only [List.map_toArray, List.map_cons, List.map_nil]); first | done | rfl | (simp only [List.length_drop, List.length_take]; rfl)) ?_; (with_reducible refine (impl_block.calls a0 t339 t340 _ A3.out).mono ?_); rintro e w' ⟨rfl, ⟨nd, rfl⟩⟩; refine ⟨_, rfl, ?_⟩))
    go_ret
    exact ⟨by first | rfl | (simp; done) | (simp [*]; done), by repeat (first | exact Drawn0.refl _ | apply Drawn0.step)⟩
  · rw [if_neg c4] at H
    have c4b0 : decide (0 < t339) = false := decide_eq_false c4
    clear c4
    obtain rfl := Option.some.inj H
    go_enter Tryd.func194, Tryd.ntmps194
    go_wp2_with (first | ((with_reducible refine gate_callee (f := 193) rfl ?_); refine goesL_ (some 9) rfl rfl Tryd.func193 (by kernel_rfl) rfl #[.int .i64 a0] rfl (by (try simp only [List.map_toArray, List.map_cons, List.map_nil]); first | done | rfl | (simp only [List.length_drop, List.length_take]; rfl)) ?_; (with_reducible refine (impl_block.calls a0 t339 t340 _ A3.out).mono ?_); rintro e w' ⟨rfl, ⟨nd, rfl⟩⟩; refine ⟨_, rfl, ?_⟩))
    go_ret
    exact ⟨by first | rfl | (simp; done) | (simp [*]; done), by repeat (first | exact Drawn0.refl _ | apply Drawn0.step)⟩

/-! ### impl_kind: function 161 (by hand) -/
def impl_kind.g (p : Int) : Int × Int :=
  if 512 ≤ p ∧ p < 1280 then
    (if p % 256 < 32 ∨ 64 ≤ p % 256 ∧ p % 256 ≤ 67 then (4, p / 256)
     else if p % 256 < 64 ∨ 72 ≤ p % 256 ∧ p % 256 ≤ 75 ∨ 96 ≤ p % 256 ∧ p % 256 ≤ 97 then (5, p / 256)
     else if 68 ≤ p % 256 ∧ p % 256 ≤ 71 then (6, p / 256)
     else if 80 ≤ p % 256 ∧ p % 256 ≤ 89 then (8, p / 256)
     else (0, 0))
  else if 0 ≤ p ∧ p ≤ 31 ∨ 127 ≤ p ∧ p ≤ 159 then (1, 0)
  else if p = 32 ∨ p = 160 ∨ p = 8064 then (2, 0)
  else if 48 ≤ p ∧ p ≤ 57 then (8, 0)
  else if 65 ≤ p ∧ p ≤ 90 then (4, 1)
  else if 97 ≤ p ∧ p ≤ 122 then (5, 1)
  else if 33 ≤ p ∧ p ≤ 126 then (9, 0)
  else if p = 173 then (11, 0)
  else if 161 ≤ p ∧ p ≤ 191 then (10, 0)
  else if 1280 ≤ p ∧ p ≤ 1311 then (7, 5)
  else if 1360 ≤ p ∧ p ≤ 1369 then (8, 5)
  else if 1536 ≤ p ∧ p ≤ 1567 then (7, 6)
  else if 1568 ≤ p ∧ p ≤ 1579 ∨ p = 1584 ∨ p = 1585 then (3, 6)
  else if 1616 ≤ p ∧ p ≤ 1625 then (8, 6)
  else if 1792 ≤ p ∧ p ≤ 1810 ∨ 1824 ≤ p ∧ p ≤ 1844 ∨ 1857 ≤ p ∧ p ≤ 1883 ∨ 12288 ≤ p ∧ p ≤ 23459 then (7, 7)
  else if 2048 ≤ p ∧ p ≤ 2095 then (7, 8)
  else if 4096 ≤ p ∧ p ≤ 4159 then (3, 0)
  else if 7680 ≤ p ∧ p ≤ 7748 ∨ 7760 ≤ p ∧ p ≤ 7785 then (10, 0)
  else if 7936 ≤ p ∧ p ≤ 7947 ∨ p = 7953 ∨ p = 7954 then (11, 0)
  else if 8192 ≤ p ∧ p ≤ 9631 ∧ (p - 8192) % 512 < 416 then (if (p - 8192) % 512 < 208 then (4, 1) else (5, 1))
  else if 9728 ≤ p ∧ p ≤ 9753 then (4, 1)
  else if 9984 ≤ p ∧ p ≤ 10009 ∨ 10032 ≤ p ∧ p ≤ 10035 then (10, 0)
  else if 10016 ≤ p ∧ p ≤ 10025 then (8, 0)
  else if 24576 ≤ p ∧ p ≤ 26623 then (7, 9)
  else (0, 0)
def impl_kind.f (a0 : Int) : Option (Int × Int) := some (impl_kind.g a0)
def impl_kind.Post (p : Int) (w : World) (e : Ending) (w' : World) : Prop := e = .returned (.tuple #[.int .i64 (impl_kind.g p).1, .int .i64 (impl_kind.g p).2]) ∧ Drawn0 w w'
theorem impl_kind.post {p a b : Int} {w w' : World} (h : impl_kind.g p = (a, b)) (hb : Drawn0 w w') : impl_kind.Post p w (.returned (.tuple #[.int .i64 a, .int .i64 b])) w' := by
  unfold impl_kind.Post; rw [h]; exact ⟨rfl, hb⟩
set_option maxHeartbeats 1000000 in
set_option maxRecDepth 100000 in
theorem impl_kind.inC (p a b : Int) (w : World) : Calls Tryd.prog 73 #[.int .i64 p, .int .i64 a, .int .i64 b] w fun e w' => e = .returned (.bool (decide (a ≤ p ∧ p ≤ b))) ∧ w = w' := by
  by_cases h : a ≤ p
  · have e : decide (a ≤ p ∧ p ≤ b) = decide (p ≤ b) := by simp [h]
    rw [e]; clear e
    go_enter Tryd.func73, Tryd.ntmps73
    go_wp2
    go_ret
    exact ⟨rfl, rfl⟩
  · have e : decide (a ≤ p ∧ p ≤ b) = false := by simp [h]
    rw [e]; clear e
    go_enter Tryd.func73, Tryd.ntmps73
    go_wp2
    go_ret
    exact ⟨rfl, rfl⟩
set_option maxHeartbeats 8000000 in
set_option maxRecDepth 100000 in
theorem impl_kind.walk1 (a0 : Int) (w : World) (hc : 512 ≤ a0 ∧ a0 < 1280) : Calls Tryd.prog 161 #[.int .i64 a0] w (impl_kind.Post a0 w) := by
  have C := fun W => impl_block.calls a0 (a0 - a0 % 256) (a0 % 256) W (by unfold impl_block.f; rw [if_pos hc])
  obtain ⟨hc1, hc2⟩ := hc
  go_enter Tryd.func161, Tryd.ntmps161
  go_wp2_with (first | (go_at_call 193; refine (C _).mono ?_; rintro e w1 ⟨rfl, ⟨nd, rfl⟩⟩) | (go_at_call 73; refine (impl_kind.inC _ _ _ _).mono ?_; rintro e w1 ⟨rfl, rfl⟩))
  all_goals
    go_ret2
    refine impl_kind.post ?_ (by repeat (first | exact Drawn0.refl _ | apply Drawn0.step))
    go_light
    try simp only [beq_iff_eq, beq_eq_false_iff_ne, ne_eq] at *
  all_goals (try (exfalso; omega))
  all_goals (unfold impl_kind.g; repeat (first | rw [if_pos (by omega)] | rw [if_neg (by omega)]))
  all_goals (try (simp only [Prod.mk.injEq, and_true, true_and]; omega))
set_option maxHeartbeats 8000000 in
set_option maxRecDepth 100000 in
theorem impl_kind.walk2 (a0 : Int) (w : World) (hc : ¬ (512 ≤ a0 ∧ a0 < 1280)) (h0 : 0 ≤ a0) : Calls Tryd.prog 161 #[.int .i64 a0] w (impl_kind.Post a0 w) := by
  have C := fun W => impl_block.calls a0 0 0 W (by unfold impl_block.f; rw [if_neg hc])
  have hc' : a0 < 512 ∨ 1280 ≤ a0 := by omega
  have hc1 := Aside0.mk hc'
  clear hc hc'
  go_enter Tryd.func161, Tryd.ntmps161
  go_wp2_with (first | (go_at_call 193; refine (C _).mono ?_; rintro e w1 ⟨rfl, ⟨nd, rfl⟩⟩) | (go_at_call 73; refine (impl_kind.inC _ _ _ _).mono ?_; rintro e w1 ⟨rfl, rfl⟩))
  all_goals
    go_ret2
    refine impl_kind.post ?_ (by repeat (first | exact Drawn0.refl _ | apply Drawn0.step))
    have hc2 := hc1.out
    go_light
    try simp only [beq_iff_eq, beq_eq_false_iff_ne, ne_eq] at *
  all_goals (try (exfalso; omega))
  all_goals (unfold impl_kind.g; repeat (first | rw [if_pos (by omega)] | rw [if_neg (by omega)]))
  all_goals (try (simp only [Prod.mk.injEq, and_true, true_and]; omega))
set_option maxHeartbeats 8000000 in
set_option maxRecDepth 100000 in
theorem impl_kind.walk3 (a0 : Int) (w : World) (h0 : a0 < 0) : Calls Tryd.prog 161 #[.int .i64 a0] w (impl_kind.Post a0 w) := by
  have C := fun W => impl_block.calls a0 0 0 W (by unfold impl_block.f; rw [if_neg (by omega)])
  go_enter Tryd.func161, Tryd.ntmps161
  go_wp2_with (first | (go_at_call 193; refine (C _).mono ?_; rintro e w1 ⟨rfl, ⟨nd, rfl⟩⟩) | (go_at_call 73; refine (impl_kind.inC _ _ _ _).mono ?_; rintro e w1 ⟨rfl, rfl⟩))
  all_goals
    go_ret2
    refine impl_kind.post ?_ (by repeat (first | exact Drawn0.refl _ | apply Drawn0.step))
    go_light
    try simp only [beq_iff_eq, beq_eq_false_iff_ne, ne_eq] at *
  all_goals (try (exfalso; omega))
  all_goals (unfold impl_kind.g; repeat (first | rw [if_pos (by omega)] | rw [if_neg (by omega)]))
  all_goals (try (simp only [Prod.mk.injEq, and_true, true_and]; omega))
theorem impl_kind.walk (a0 : Int) (w : World) : Calls Tryd.prog 161 #[.int .i64 a0] w (impl_kind.Post a0 w) := by
  by_cases hc : 512 ≤ a0 ∧ a0 < 1280
  · exact impl_kind.walk1 a0 w hc
  · by_cases h0 : 0 ≤ a0
    · exact impl_kind.walk2 a0 w hc h0
    · exact impl_kind.walk3 a0 w (by omega)
theorem impl_kind.calls (a0 : Int) (r1 : Int) (r2 : Int) (w : World) (h : impl_kind.f a0 = some (r1, r2)) :
    Calls Tryd.prog 161 #[.int .i64 a0] w fun e w' => e = .returned (.tuple #[.int .i64 r1, .int .i64 r2]) ∧ Drawn0 w w' := by
  have h := Option.some.inj h
  refine (impl_kind.walk a0 w).mono fun e w' hp => ?_
  unfold impl_kind.Post at hp
  rw [h] at hp
  exact hp

/-! ### impl_Category: function 91 -/
def impl_Category.f (a0 : Int) : Option (Int) := (impl_kind.f a0).bind fun bt341 => (some bt341.1)
set_option maxHeartbeats 8000000 in
set_option maxRecDepth 100000 in
theorem impl_Category.calls (a0 : Int) (r : Int) (w : World) (h : impl_Category.f a0 = some r) :
    Calls Tryd.prog 91 #[.int .i64 a0] w fun e w' => e = .returned (.int .i64 r) ∧ Drawn0 w w' := by
  have H : ((impl_kind.f a0).bind fun bt341 => (some bt341.1)) = some r := h
  clear h
  replace H := Option.bind_eq_some_iff.mp H
  obtain ⟨⟨t341, t342⟩, A20, H⟩ := H
  replace H : (some t341) = some r := H
  have A2 := Aside0.mk A20
  clear A20
  obtain rfl := Option.some.inj H
  go_enter Tryd.func91, Tryd.ntmps91
  go_wp2_with (first | ((with_reducible refine gate_callee (f := 161) rfl ?_); refine goesL_ (some 7) rfl rfl Tryd.func161 (by kernel_rfl) rfl #[.int .i64 a0] rfl (by (try simp only [List.map_toArray, List.map_cons, List.map_nil]); first | done | rfl | (simp only [List.length_drop, List.length_take]; rfl)) ?_; (with_reducible refine (impl_kind.calls a0 t341 t342 _ A2.out).mono ?_); rintro e w' ⟨rfl, ⟨nd, rfl⟩⟩; refine ⟨_, rfl, ?_⟩))
  go_ret
  exact ⟨by first | rfl | (simp; done) | (simp [*]; done), by repeat (first | exact Drawn0.refl _ | apply Drawn0.step)⟩

/-! ### impl_cases: function 228 (by hand) -/
def impl_cases.g (p : Int) : Int × Int × Int :=
  if 512 ≤ p ∧ p < 1280 then
    (if p % 256 < 64 then (p - p % 256 + p % 32, p - p % 256 + p % 32, p - p % 256 + 32 + p % 32)
     else if p % 256 < 76 then (p - p % 256 + 64 + p % 4, p - p % 256 + 68 + p % 4, p - p % 256 + 72 + p % 4)
     else if p % 256 = 97 then (p - p % 256 + 18, p - p % 256 + 18, p)
     else (p, p, p))
  else if 65 ≤ p ∧ p ≤ 90 then (p, p, p + 32)
  else if 97 ≤ p ∧ p ≤ 122 then (p - 32, p - 32, p)
  else if 9728 ≤ p ∧ p ≤ 9753 then (p, p, 97 + p - 9728)
  else if 8192 ≤ p ∧ p ≤ 9631 ∧ (impl_kind.g p).1 = 4 then (p, p, p + 208)
  else if 8192 ≤ p ∧ p ≤ 9631 ∧ (impl_kind.g p).1 = 5 then (p - 208, p - 208, p)
  else (p, p, p)
def impl_cases.f (a0 : Int) : Option (Int × Int × Int) := if 0 ≤ a0 ∧ a0 ≤ 1114111 then some (impl_cases.g a0) else none
def impl_cases.Post (p : Int) (w : World) (e : Ending) (w' : World) : Prop := e = .returned (.tuple #[.int .i64 (impl_cases.g p).1, .int .i64 (impl_cases.g p).2.1, .int .i64 (impl_cases.g p).2.2]) ∧ Drawn0 w w'
theorem impl_cases.post {p a b c : Int} {w w' : World} (h : impl_cases.g p = (a, b, c)) (hb : Drawn0 w w') : impl_cases.Post p w (.returned (.tuple #[.int .i64 a, .int .i64 b, .int .i64 c])) w' := by
  unfold impl_cases.Post; rw [h]; exact ⟨rfl, hb⟩
set_option maxHeartbeats 8000000 in
set_option maxRecDepth 100000 in
theorem impl_cases.walk1 (a0 : Int) (w : World) (hc : 512 ≤ a0 ∧ a0 < 1280) : Calls Tryd.prog 228 #[.int .i64 a0] w (impl_cases.Post a0 w) := by
  have C := fun W => impl_block.calls a0 (a0 - a0 % 256) (a0 % 256) W (by unfold impl_block.f; rw [if_pos hc])
  obtain ⟨hc1, hc2⟩ := hc
  go_enter Tryd.func228, Tryd.ntmps228
  go_wp2_with (first | (go_at_call 193; refine (C _).mono ?_; rintro e w1 ⟨rfl, ⟨nd, rfl⟩⟩) | (go_at_call 73; refine (impl_kind.inC _ _ _ _).mono ?_; rintro e w1 ⟨rfl, rfl⟩))
  all_goals
    go_ret3
    refine impl_cases.post ?_ (by repeat (first | exact Drawn0.refl _ | apply Drawn0.step))
    go_light
    try simp only [beq_iff_eq, beq_eq_false_iff_ne, ne_eq] at *
  all_goals (try (exfalso; omega))
  all_goals (unfold impl_cases.g; repeat (first | rw [if_pos (by omega)] | rw [if_neg (by omega)]))
  all_goals (try (simp only [Prod.mk.injEq, and_true, true_and]; omega))
set_option maxHeartbeats 8000000 in
set_option maxRecDepth 100000 in
theorem impl_cases.walk2 (a0 : Int) (w : World) (hc : ¬ (512 ≤ a0 ∧ a0 < 1280)) (h0 : 0 ≤ a0) (h1 : a0 ≤ 1114111) : Calls Tryd.prog 228 #[.int .i64 a0] w (impl_cases.Post a0 w) := by
  have C := fun W => impl_block.calls a0 0 0 W (by unfold impl_block.f; rw [if_neg hc])
  obtain ⟨c, hk⟩ : ∃ c, (impl_kind.g a0).1 = c := ⟨_, rfl⟩
  have CC := fun W => impl_Category.calls a0 c W (by rw [← hk]; rfl)
  have hc' : a0 < 512 ∨ 1280 ≤ a0 := by omega
  have hc1 := Aside0.mk hc'
  have hk1 := Aside0.mk hk
  clear hc hc' hk
  go_enter Tryd.func228, Tryd.ntmps228
  go_wp2_with (first | (go_at_call 193; refine (C _).mono ?_; rintro e w1 ⟨rfl, ⟨nd, rfl⟩⟩) | (go_at_call 73; refine (impl_kind.inC _ _ _ _).mono ?_; rintro e w1 ⟨rfl, rfl⟩) | (go_at_call 91; refine (CC _).mono ?_; rintro e w1 ⟨rfl, ⟨nd1, rfl⟩⟩))
  all_goals
    go_ret3
    refine impl_cases.post ?_ (by repeat (first | exact Drawn0.refl _ | apply Drawn0.step))
    have hc2 := hc1.out
    have hk2 := hk1.out
    go_light
    try simp only [beq_iff_eq, beq_eq_false_iff_ne, ne_eq] at *
  all_goals (try (exfalso; omega))
  all_goals (unfold impl_cases.g; try rw [hk2]; repeat (first | rw [if_pos (by omega)] | rw [if_neg (by omega)]))
  all_goals (try (simp only [Prod.mk.injEq, and_true, true_and]; omega))
theorem impl_cases.calls (a0 : Int) (r1 : Int) (r2 : Int) (r3 : Int) (w : World) (h : impl_cases.f a0 = some (r1, r2, r3)) :
    Calls Tryd.prog 228 #[.int .i64 a0] w fun e w' => e = .returned (.tuple #[.int .i64 r1, .int .i64 r2, .int .i64 r3]) ∧ Drawn0 w w' := by
  unfold impl_cases.f at h
  split at h
  · rename_i hp
    have h := Option.some.inj h
    have hw : Calls Tryd.prog 228 #[.int .i64 a0] w (impl_cases.Post a0 w) := by
      by_cases hc : 512 ≤ a0 ∧ a0 < 1280
      · exact impl_cases.walk1 a0 w hc
      · exact impl_cases.walk2 a0 w hc hp.1 hp.2
    refine hw.mono fun e w' hp => ?_
    unfold impl_cases.Post at hp
    rw [h] at hp
    exact hp
  · cases h

/-! ### impl_SimpleLower: function 195 -/
def impl_SimpleLower.f (a0 : Int) : Option (Int) := (impl_isPoint.f a0).bind fun t343 => (if t343 = true then ((impl_cases.f a0).bind fun bt344 => (some bt344.2.2)) else (some 0))
set_option maxHeartbeats 8000000 in
set_option maxRecDepth 100000 in
theorem impl_SimpleLower.calls (a0 : Int) (r : Int) (w : World) (h : impl_SimpleLower.f a0 = some r) :
    Calls Tryd.prog 195 #[.int .i64 a0] w fun e w' => e = .returned (.int .i64 r) ∧ Drawn0 w w' := by
  have H : ((impl_isPoint.f a0).bind fun t343 => (if t343 = true then ((impl_cases.f a0).bind fun bt344 => (some bt344.2.2)) else (some 0))) = some r := h
  clear h
  replace H := Option.bind_eq_some_iff.mp H
  obtain ⟨t343, A20, H⟩ := H
  replace H : (if t343 = true then ((impl_cases.f a0).bind fun bt344 => (some bt344.2.2)) else (some 0)) = some r := H
  have A2 := Aside0.mk A20
  clear A20
  by_cases c3 : t343 = true
  · subst c3
    have H1 : ((impl_cases.f a0).bind fun bt344 => (some bt344.2.2)) = some r := by rw [if_pos rfl] at H; exact H
    clear H
    have H := H1
    clear H1
    replace H := Option.bind_eq_some_iff.mp H
    obtain ⟨⟨t344, t345, t346⟩, A40, H⟩ := H
    replace H : (some t346) = some r := H
    have A4 := Aside0.mk A40
    clear A40
    obtain rfl := Option.some.inj H
    go_enter Tryd.func195, Tryd.ntmps195
    go_wp2_with (first | ((with_reducible refine gate_callee (f := 78) rfl ?_); refine goesL_ (some 7) rfl rfl Tryd.func78 (by kernel_rfl) rfl #[.int .i64 a0] rfl (by (try simp only [List.map_toArray, List.map_cons, List.map_nil]); first | done | rfl | (simp only [List.length_drop, List.length_take]; rfl)) ?_; (with_reducible refine (impl_isPoint.calls a0 true _ A2.out).mono ?_); rintro e w' ⟨rfl, ⟨nd, rfl⟩⟩; refine ⟨_, rfl, ?_⟩) | ((with_reducible refine gate_callee (f := 228) rfl ?_); refine goesL_ (some 11) rfl rfl Tryd.func228 (by kernel_rfl) rfl #[.int .i64 a0] rfl (by (try simp only [List.map_toArray, List.map_cons, List.map_nil]); first | done | rfl | (simp only [List.length_drop, List.length_take]; rfl)) ?_; (with_reducible refine (impl_cases.calls a0 t344 t345 t346 _ A4.out).mono ?_); rintro e w' ⟨rfl, ⟨nd, rfl⟩⟩; refine ⟨_, rfl, ?_⟩))
    go_ret
    exact ⟨by first | rfl | (simp; done) | (simp [*]; done), by repeat (first | exact Drawn0.refl _ | apply Drawn0.step)⟩
  · replace c3 := Bool.eq_false_iff.mpr c3
    subst c3
    have H1 : (some 0) = some r := by rw [if_neg (show ¬ (false = true) by decide)] at H; exact H
    clear H
    have H := H1
    clear H1
    obtain rfl := Option.some.inj H
    go_enter Tryd.func195, Tryd.ntmps195
    go_wp2_with (first | ((with_reducible refine gate_callee (f := 78) rfl ?_); refine goesL_ (some 7) rfl rfl Tryd.func78 (by kernel_rfl) rfl #[.int .i64 a0] rfl (by (try simp only [List.map_toArray, List.map_cons, List.map_nil]); first | done | rfl | (simp only [List.length_drop, List.length_take]; rfl)) ?_; (with_reducible refine (impl_isPoint.calls a0 false _ A2.out).mono ?_); rintro e w' ⟨rfl, ⟨nd, rfl⟩⟩; refine ⟨_, rfl, ?_⟩))
    go_ret
    exact ⟨by first | rfl | (simp; done) | (simp [*]; done), by repeat (first | exact Drawn0.refl _ | apply Drawn0.step)⟩

/-! ### impl_fold: function 142 -/
def impl_fold.l0 : Nat → List Int → List Int → Int → Int → Option (List Int)
  | 0, _, _, _, _ => none
  | k + 1, x3, x8, x9, x10 => if x10 < x9 then (if 0 ≤ x10 then (if x10 < (x8.length : Int) then ((impl_block.f (rd x8 x10)).bind fun bt348 => ((impl_within.f (rd x8 x10) 96).bind fun t350 => (if t350 = true then ((some (([wrap64 (bt348.1 + 50), wrap64 (bt348.1 + 50)] : List Int) : List Int)).bind fun y351 => (if x3.length + y351.length < 17592186044416 then (impl_fold.l0 k (x3 ++ y351) x8 x9 (wrap64 (x10 + 1))) else (none))) else ((impl_within.f (rd x8 x10) 97).bind fun t357 => (if t357 = true then (if x3.length < 17592186044416 then (impl_fold.l0 k (x3 ++ [wrap64 (bt348.1 + 50)]) x8 x9 (wrap64 (x10 + 1))) else (none)) else ((impl_SimpleLower.f (rd x8 x10)).bind fun t361 => (if x3.length < 17592186044416 then (impl_fold.l0 k (x3 ++ [t361]) x8 x9 (wrap64 (x10 + 1))) else (none)))))))) else (none)) else (none)) else (some x3)
def impl_fold.f (k : Nat) (l0 : List Int) : Option (List Int) := impl_fold.l0 k ([] : List Int) l0 (l0.length : Int) 0
theorem impl_fold.mono_l : ∀ k, (∀ y0 y1 y2 y3, LeO (impl_fold.l0 k y0 y1 y2 y3) (impl_fold.l0 (k + 1) y0 y1 y2 y3))
  | 0 => fun _ _ _ _ r h => by simp [impl_fold.l0] at h
  | k + 1 => by
    have ih0 := impl_fold.mono_l k
    · intro y0 y1 y2 y3
      unfold impl_fold.l0
      repeat' first
      | (with_reducible exact ih0 _ _ _ _)
      | (with_reducible exact LeO.refl _)
      | (with_reducible exact LeO.none _)
      | (with_reducible refine LeO.ite ?_ ?_)
      | (with_reducible refine LeO.bind ?_ (fun _ => ?_))
      | exact ih0 _ _ _ _
      | exact LeO.none _
      | refine LeO.ite ?_ ?_
      | refine LeO.bind ?_ (fun _ => ?_)
theorem impl_fold.mono : ∀ a0 k, LeO (impl_fold.f k a0) (impl_fold.f (k + 1) a0) := by
  intro a0 k
  have ih0 := impl_fold.mono_l k
  unfold impl_fold.f
  repeat' first
      | (with_reducible exact ih0 _ _ _ _)
      | (with_reducible exact LeO.refl _)
      | (with_reducible exact LeO.none _)
      | (with_reducible refine LeO.ite ?_ ?_)
      | (with_reducible refine LeO.bind ?_ (fun _ => ?_))
      | exact ih0 _ _ _ _
      | exact LeO.none _
      | refine LeO.ite ?_ ?_
      | refine LeO.bind ?_ (fun _ => ?_)
set_option maxHeartbeats 8000000 in
set_option maxRecDepth 100000 in
theorem impl_fold.calls (k : Nat) (A0 : Option Addr) (c0 : Nat) (l0 : List Int) (r : List Int) (w : World) (hr0 : Kd.C (Kd.int .i64) w A0 l0.length l0) (hc0 : l0.length ≤ c0) (h : impl_fold.f k l0 = some r) :
    Calls Tryd.prog 142 #[.slice A0 l0.length c0] w fun e w' => ∃ v0_ : Value, e = .returned (v0_) ∧ Kd.R (Kd.int .i64) 2 w' w.heap.size (fun _ => True) v0_ r ∧ Below w.heap.size w w' := by
  have HR0 := Aside0.mk hr0
  have HC0 := Aside0.mk hc0
  clear hr0 hc0
  have HB := Aside0.mk (Below.refl w.heap.size w)
  have H : (impl_fold.l0 k ([] : List Int) l0 (l0.length : Int) 0) = some r := h
  clear h
  have H' := Aside0.mk H
  clear H
  go_enter Tryd.func142, Tryd.ntmps142
  go_wp2
  go_loopg [3, 10] k (fun kq v3 v10 w' => ∃ (x3_1 : List Int) (x10_1 : Int), v10 = .int .i64 x10_1 ∧ Aside0 (impl_fold.l0 kq x3_1 l0 (l0.length : Int) x10_1 = some r) ∧ Aside0 (kq ≤ k) ∧ Aside0 (Kd.R (Kd.int .i64) 2 w' w.heap.size (fun _ => True) v3 x3_1) ∧ Aside0 (Below w.heap.size w w'))
  case atStart => exact ⟨(([] : List Int)), (0), (by first | rfl | (simp; done) | (simp [*]; done)), H', ⟨Nat.le_refl _⟩, ⟨by first | exact Kd.R_nil _ _ _ _ _ | exact Kd.N_nil _ _ _ _ _ | exact Kd.V_nil _ _ _ _ _ | exact Kd.Q_nil _ _ _ _ _ | exact Kd.S_nil _ _ _ _ _⟩, ⟨by repeat (first | (with_reducible first | exact HB.out | apply below_alloc | apply pw_below_drewN | apply below_drew1) | exact HB.out)⟩⟩
  case round =>
    clear H'
    try clear c1
    obtain ⟨x3_1, x10_1, rfl, HA, HK1, HO_3, HB⟩ := hrel
    cases gk with
    | zero => exact absurd HA.out (by simp [impl_fold.l0])
    | succ k1 =>
      have H := HA.out
      clear HA
      simp only [impl_fold.l0] at H
      by_cases c2 : x10_1 < (l0.length : Int)
      · rw [if_pos c2] at H
        have c2b0 : decide (x10_1 < (l0.length : Int)) = true := decide_eq_true c2
        clear c2
        by_cases c3 : 0 ≤ x10_1
        · rw [if_pos c3] at H
          have c3b0 : decide (0 ≤ x10_1) = true := decide_eq_true c3
          clear c3
          by_cases c4 : x10_1 < (l0.length : Int)
          · rw [if_pos c4] at H
            have c4b0 : decide (x10_1 < (l0.length : Int)) = true := decide_eq_true c4
            clear c4
            replace H := Option.bind_eq_some_iff.mp H
            obtain ⟨⟨t348, t349⟩, A50, H⟩ := H
            replace H : ((impl_within.f (rd l0 x10_1) 96).bind fun t350 => (if t350 = true then ((some (([wrap64 (t348 + 50), wrap64 (t348 + 50)] : List Int) : List Int)).bind fun y351 => (if x3_1.length + y351.length < 17592186044416 then (impl_fold.l0 k1 (x3_1 ++ y351) l0 (l0.length : Int) (wrap64 (x10_1 + 1))) else (none))) else ((impl_within.f (rd l0 x10_1) 97).bind fun t357 => (if t357 = true then (if x3_1.length < 17592186044416 then (impl_fold.l0 k1 (x3_1 ++ [wrap64 (t348 + 50)]) l0 (l0.length : Int) (wrap64 (x10_1 + 1))) else (none)) else ((impl_SimpleLower.f (rd l0 x10_1)).bind fun t361 => (if x3_1.length < 17592186044416 then (impl_fold.l0 k1 (x3_1 ++ [t361]) l0 (l0.length : Int) (wrap64 (x10_1 + 1))) else (none))))))) = some r := H
            have A5 := Aside0.mk A50
            clear A50
            replace H := Option.bind_eq_some_iff.mp H
            obtain ⟨t350, A60, H⟩ := H
            replace H : (if t350 = true then ((some (([wrap64 (t348 + 50), wrap64 (t348 + 50)] : List Int) : List Int)).bind fun y351 => (if x3_1.length + y351.length < 17592186044416 then (impl_fold.l0 k1 (x3_1 ++ y351) l0 (l0.length : Int) (wrap64 (x10_1 + 1))) else (none))) else ((impl_within.f (rd l0 x10_1) 97).bind fun t357 => (if t357 = true then (if x3_1.length < 17592186044416 then (impl_fold.l0 k1 (x3_1 ++ [wrap64 (t348 + 50)]) l0 (l0.length : Int) (wrap64 (x10_1 + 1))) else (none)) else ((impl_SimpleLower.f (rd l0 x10_1)).bind fun t361 => (if x3_1.length < 17592186044416 then (impl_fold.l0 k1 (x3_1 ++ [t361]) l0 (l0.length : Int) (wrap64 (x10_1 + 1))) else (none)))))) = some r := H
            have A6 := Aside0.mk A60
            clear A60
            by_cases c7 : t350 = true
            · subst c7
              have H1 : ((some (([wrap64 (t348 + 50), wrap64 (t348 + 50)] : List Int) : List Int)).bind fun y351 => (if x3_1.length + y351.length < 17592186044416 then (impl_fold.l0 k1 (x3_1 ++ y351) l0 (l0.length : Int) (wrap64 (x10_1 + 1))) else (none))) = some r := by rw [if_pos rfl] at H; exact H
              clear H
              have H := H1
              clear H1
              obtain ⟨y351, hy351⟩ : ∃ y_ : List Int, y_ = (([wrap64 (t348 + 50), wrap64 (t348 + 50)] : List Int)) := ⟨_, rfl⟩
              replace H : (if x3_1.length + y351.length < 17592186044416 then (impl_fold.l0 k1 (x3_1 ++ y351) l0 (l0.length : Int) (wrap64 (x10_1 + 1))) else (none)) = some r := by first | (rw [hy351]; with_reducible exact H) | (have H2_ := (Option.bind_some _ _).symm.trans H; rw [hy351]; with_reducible exact H2_) | (have H2_ := (Option.bind_some _ _).symm.trans H; with_reducible exact H2_) | with_reducible exact H | (rw [hy351]; exact H) | exact H
              have Ny351 := Aside0.mk hy351
              clear hy351
              by_cases c8 : x3_1.length + y351.length < 17592186044416
              · rw [if_pos c8] at H
                have LMc8 := Aside0.mk c8
                clear c8
                obtain ⟨y354, hy354⟩ : ∃ y_ : List Int, y_ = (x3_1 ++ y351) := ⟨_, rfl⟩
                replace H : (impl_fold.l0 k1 y354 l0 (l0.length : Int) (wrap64 (x10_1 + 1))) = some r := by first | (rw [hy354]; with_reducible exact H) | (have H2_ := (Option.bind_some _ _).symm.trans H; rw [hy354]; with_reducible exact H2_) | (have H2_ := (Option.bind_some _ _).symm.trans H; with_reducible exact H2_) | with_reducible exact H | (rw [hy354]; exact H) | exact H
                have Ny354 := Aside0.mk hy354
                clear hy354
                have H' := Aside0.mk H
                clear H
                have p347 : 0 ≤ (x10_1 : Int) := of_decide_eq_true (by first | (with_reducible assumption) | assumption)
                have q347 : x10_1 < (l0.length : Int) := of_decide_eq_true (by first | (with_reducible assumption) | assumption)
                obtain ⟨ad347, e347, hx347_0⟩ := Kd.at_int HR0.out x10_1 p347 q347
                cases e347
                replace hx347_0 := (HB.out.cell (World.block_lt_of_cell? w _ hx347_0)).trans hx347_0
                replace p347 := eq_true p347
                replace q347 := eq_true q347
                go_wp2_with (first | ((with_reducible refine gate_callee (f := 193) rfl ?_); refine goesL_ (some 16) rfl rfl Tryd.func193 (by kernel_rfl) rfl #[.int .i64 (rd l0 x10_1)] rfl (by (try simp only [List.map_toArray, List.map_cons, List.map_nil]); first | done | rfl | (simp only [List.length_drop, List.length_take]; rfl)) ?_; (with_reducible refine (impl_block.calls (rd l0 x10_1) t348 t349 _ A5.out).mono ?_); rintro e w' ⟨rfl, ⟨nd, rfl⟩⟩; refine ⟨_, rfl, ?_⟩) | ((with_reducible refine gate_callee (f := 194) rfl ?_); refine goesL_ (some 26) rfl rfl Tryd.func194 (by kernel_rfl) rfl #[.int .i64 (rd l0 x10_1), .int .i64 96] rfl (by (try simp only [List.map_toArray, List.map_cons, List.map_nil]); first | done | rfl | (simp only [List.length_drop, List.length_take]; rfl)) ?_; (with_reducible refine (impl_within.calls (rd l0 x10_1) 96 true _ A6.out).mono ?_); rintro e w' ⟨rfl, ⟨nd, rfl⟩⟩; refine ⟨_, rfl, ?_⟩) | ((with_reducible refine gate_dst (N := 32) rfl ?_); refine Kd.R_lit (Kd.int .i64) _ 2 ?hg (N := 32) ?hd (xs := ([wrap64 (t348 + 50), wrap64 (t348 + 50)] : List Int)) (inner := [.int .i64 (wrap64 (t348 + 50)), .int .i64 (wrap64 (t348 + 50))]) (ok := fun _ => True) (okp := fun _ => True) ?hr ?hp (fun _ hk => hk) trivial (Below.refl _ _) (Nat.le_refl _) (by simp) ?_; (case hd => rfl); (case hg => rfl); (case hr => first | (go_simp; done) | (go_simp; rfl)); (case hp => exact (Reps.one (show Kd.M (Kd.int .i64) _ _ _ (wrap64 (t348 + 50)) [.int .i64 (wrap64 (t348 + 50))] from rfl) (Reps.one (show Kd.M (Kd.int .i64) _ _ _ (wrap64 (t348 + 50)) [.int .i64 (wrap64 (t348 + 50))] from rfl) (Reps.none _ _)))); intro v352 w9 ho10 hb hg_ hnew_; clear hg_ hnew_; (first | rw [← Ny351.out] at ho10 | (simp only [Int.reduceToNat] at ho10; rw [← Ny351.out] at ho10)); have n0_ := Aside0.mk (Kd.R_elder' (by (with_reducible repeat (first | apply Kd.R_alloc | apply Kd.R_drewN | apply Kd.R_drew)); exact HO_3.out) (Kd.R_base ho10) hb); have n1_ := Aside0.mk (Kd.R_lower (Kd.R_new' ho10 (Kd.R_lt (by (with_reducible repeat (first | apply Kd.R_alloc | apply Kd.R_drewN | apply Kd.R_drew)); exact HO_3.out))) (below_size (by repeat (first | (with_reducible first | exact HB.out | apply below_alloc | apply pw_below_drewN | apply below_drew1) | exact HB.out)))); have n2_ := Aside0.mk (below_step (by repeat (first | (with_reducible first | exact HB.out | apply below_alloc | apply pw_below_drewN | apply below_drew1) | exact HB.out)) hb); clear HO_3; clear HB; have HO_3 := n0_; have HO353 := n1_; have HB := n2_; clear n0_ n1_ n2_; clear hb ho10; obtain ⟨Ao12, co12, eo12⟩ := Kd.R_slice HO353.out; subst eo12) | ((with_reducible refine gate_builtin (b := .append) (xs := #[.tmp 27, .tmp 32]) rfl ?_); at_builtin; refine Kd.R_append_rows (Kd.int .i64) (w0 := w) w.heap.size rfl (.tmp 27) (.tmp 32) 29 2 (.int .i64 0) 8 rfl Tryd.underlying29 info2 rfl (by decide) (by omega) u3 x3_1 y351 _ _ _ (fun k_ => some k_ ≠ (.slice Ao12 y351.length co12 : Value).ownBlock) (fun _ => False) rfl rfl ?aO ?aR (fun _ _ h => h) (fun _ h => h.elim) ?aF ?aB ?aS ?aL ?_; (case aR => repeat (first | exact (Kd.R_reads' HO353.out).2.2 | (with_reducible refine Kd.C_alloc ?_ _) | (with_reducible refine Kd.C_drewN ?_ _) | (with_reducible refine Kd.C_drew ?_))); (case aB => exact (by repeat (first | (with_reducible first | exact HB.out | apply below_alloc | apply pw_below_drewN | apply below_drew1) | exact HB.out))); (case aF => exact (fun k_ hk => Kd.fresh' (Kd.R_lt (by (with_reducible repeat (first | apply Kd.R_alloc | apply Kd.R_drewN | apply Kd.R_drew)); exact HO353.out)) k_ hk)); (case aO => exact (by (with_reducible repeat (first | apply Kd.R_alloc | apply Kd.R_drewN | apply Kd.R_drew)); exact Kd.R_mono HO_3.out (fun _ hk => hk.2))); (case aS => exact (below_size (by repeat (first | (with_reducible first | exact HB.out | apply below_alloc | apply pw_below_drewN | apply below_drew1) | exact HB.out)))); (case aL => have := LMc8.out; omega); intro v355 w11 ho hb hg hat; rw [← Ny354.out] at ho; have n0_ := Aside0.mk (Kd.R_after (ok := (fun _ => True)) (by (with_reducible repeat (first | apply Kd.R_alloc | apply Kd.R_drewN | apply Kd.R_drew)); exact HO353.out) hg hat); have n1_ := Aside0.mk (hb); have n2_ := Aside0.mk (ho); clear HO353; clear HB; clear HO_3; have HO353 := n0_; have HB := n1_; have HO356 := n2_; clear n0_ n1_ n2_; clear ho hb hg hat))
                go_roundg k1
                case measure => have := HK1.out; omega
                case rel => exact ⟨(y354), (wrap64 (x10_1 + 1)), (by first | rfl | (simp; done) | (simp [*]; done)), H', ⟨by have := HK1.out; omega⟩, ⟨by (with_reducible repeat (first | apply Kd.R_alloc | apply Kd.R_drewN | apply Kd.R_drew)); exact Kd.R_mono HO356.out (fun _ hk => trivial)⟩, ⟨by repeat (first | (with_reducible first | exact HB.out | apply below_alloc | apply pw_below_drewN | apply below_drew1) | exact HB.out)⟩⟩
              · rw [if_neg c8] at H
                exact absurd H (by simp)
            · replace c7 := Bool.eq_false_iff.mpr c7
              subst c7
              have H1 : ((impl_within.f (rd l0 x10_1) 97).bind fun t357 => (if t357 = true then (if x3_1.length < 17592186044416 then (impl_fold.l0 k1 (x3_1 ++ [wrap64 (t348 + 50)]) l0 (l0.length : Int) (wrap64 (x10_1 + 1))) else (none)) else ((impl_SimpleLower.f (rd l0 x10_1)).bind fun t361 => (if x3_1.length < 17592186044416 then (impl_fold.l0 k1 (x3_1 ++ [t361]) l0 (l0.length : Int) (wrap64 (x10_1 + 1))) else (none))))) = some r := by rw [if_neg (show ¬ (false = true) by decide)] at H; exact H
              clear H
              have H := H1
              clear H1
              replace H := Option.bind_eq_some_iff.mp H
              obtain ⟨t357, A130, H⟩ := H
              replace H : (if t357 = true then (if x3_1.length < 17592186044416 then (impl_fold.l0 k1 (x3_1 ++ [wrap64 (t348 + 50)]) l0 (l0.length : Int) (wrap64 (x10_1 + 1))) else (none)) else ((impl_SimpleLower.f (rd l0 x10_1)).bind fun t361 => (if x3_1.length < 17592186044416 then (impl_fold.l0 k1 (x3_1 ++ [t361]) l0 (l0.length : Int) (wrap64 (x10_1 + 1))) else (none)))) = some r := H
              have A13 := Aside0.mk A130
              clear A130
              by_cases c14 : t357 = true
              · subst c14
                have H1 : (if x3_1.length < 17592186044416 then (impl_fold.l0 k1 (x3_1 ++ [wrap64 (t348 + 50)]) l0 (l0.length : Int) (wrap64 (x10_1 + 1))) else (none)) = some r := by rw [if_pos rfl] at H; exact H
                clear H
                have H := H1
                clear H1
                by_cases c15 : x3_1.length < 17592186044416
                · rw [if_pos c15] at H
                  have LMc15 := Aside0.mk c15
                  clear c15
                  obtain ⟨y358, hy358⟩ : ∃ y_ : List Int, y_ = (x3_1 ++ [wrap64 (t348 + 50)]) := ⟨_, rfl⟩
                  replace H : (impl_fold.l0 k1 y358 l0 (l0.length : Int) (wrap64 (x10_1 + 1))) = some r := by first | (rw [hy358]; with_reducible exact H) | (have H2_ := (Option.bind_some _ _).symm.trans H; rw [hy358]; with_reducible exact H2_) | (have H2_ := (Option.bind_some _ _).symm.trans H; with_reducible exact H2_) | with_reducible exact H | (rw [hy358]; exact H) | exact H
                  have Ny358 := Aside0.mk hy358
                  clear hy358
                  have H' := Aside0.mk H
                  clear H
                  have p347 : 0 ≤ (x10_1 : Int) := of_decide_eq_true (by first | (with_reducible assumption) | assumption)
                  have q347 : x10_1 < (l0.length : Int) := of_decide_eq_true (by first | (with_reducible assumption) | assumption)
                  obtain ⟨ad347, e347, hx347_0⟩ := Kd.at_int HR0.out x10_1 p347 q347
                  cases e347
                  replace hx347_0 := (HB.out.cell (World.block_lt_of_cell? w _ hx347_0)).trans hx347_0
                  replace p347 := eq_true p347
                  replace q347 := eq_true q347
                  go_wp2_with (first | ((with_reducible refine gate_callee (f := 193) rfl ?_); refine goesL_ (some 16) rfl rfl Tryd.func193 (by kernel_rfl) rfl #[.int .i64 (rd l0 x10_1)] rfl (by (try simp only [List.map_toArray, List.map_cons, List.map_nil]); first | done | rfl | (simp only [List.length_drop, List.length_take]; rfl)) ?_; (with_reducible refine (impl_block.calls (rd l0 x10_1) t348 t349 _ A5.out).mono ?_); rintro e w' ⟨rfl, ⟨nd, rfl⟩⟩; refine ⟨_, rfl, ?_⟩) | ((with_reducible refine gate_callee (f := 194) rfl ?_); refine goesL_ (some 26) rfl rfl Tryd.func194 (by kernel_rfl) rfl #[.int .i64 (rd l0 x10_1), .int .i64 96] rfl (by (try simp only [List.map_toArray, List.map_cons, List.map_nil]); first | done | rfl | (simp only [List.length_drop, List.length_take]; rfl)) ?_; (with_reducible refine (impl_within.calls (rd l0 x10_1) 96 false _ A6.out).mono ?_); rintro e w' ⟨rfl, ⟨nd, rfl⟩⟩; refine ⟨_, rfl, ?_⟩) | ((with_reducible refine gate_callee (f := 194) rfl ?_); refine goesL_ (some 36) rfl rfl Tryd.func194 (by kernel_rfl) rfl #[.int .i64 (rd l0 x10_1), .int .i64 97] rfl (by (try simp only [List.map_toArray, List.map_cons, List.map_nil]); first | done | rfl | (simp only [List.length_drop, List.length_take]; rfl)) ?_; (with_reducible refine (impl_within.calls (rd l0 x10_1) 97 true _ A13.out).mono ?_); rintro e w' ⟨rfl, ⟨nd, rfl⟩⟩; refine ⟨_, rfl, ?_⟩) | ((with_reducible refine gate_builtin (b := .append) (xs := #[.tmp 37, .tmp 40]) rfl ?_); at_builtin; refine Kd.R_append (Kd.int .i64) (w0 := w) w.heap.size rfl (.tmp 37) (.tmp 40) 29 2 (.int .i64 0) 8 rfl Tryd.underlying29 info2 rfl (by decide) (by omega) u3 x3_1 (wrap64 (t348 + 50)) [.int .i64 (wrap64 (t348 + 50))] (fun _ => True) (fun _ => False) rfl rfl ?aP (fun _ hk => hk.elim) ?aF ?aO ?aB ?aS ?aL ?_; (case aP => exact rfl); (case aB => exact (by repeat (first | (with_reducible first | exact HB.out | apply below_alloc | apply pw_below_drewN | apply below_drew1) | exact HB.out))); (case aF => exact (fun _ _ => trivial)); (case aO => exact (by (with_reducible repeat (first | apply Kd.R_alloc | apply Kd.R_drewN | apply Kd.R_drew)); exact HO_3.out)); (case aS => exact (below_size (by repeat (first | (with_reducible first | exact HB.out | apply below_alloc | apply pw_below_drewN | apply below_drew1) | exact HB.out)))); (case aL => have := LMc15.out; omega); intro v359 w16 ho hb hg hat; rw [← Ny358.out] at ho; have n0_ := Aside0.mk (hb); have n1_ := Aside0.mk (ho); clear HB; clear HO_3; have HB := n0_; have HO360 := n1_; clear n0_ n1_; clear ho hb hg hat))
                  go_roundg k1
                  case measure => have := HK1.out; omega
                  case rel => exact ⟨(y358), (wrap64 (x10_1 + 1)), (by first | rfl | (simp; done) | (simp [*]; done)), H', ⟨by have := HK1.out; omega⟩, ⟨by (with_reducible repeat (first | apply Kd.R_alloc | apply Kd.R_drewN | apply Kd.R_drew)); exact HO360.out⟩, ⟨by repeat (first | (with_reducible first | exact HB.out | apply below_alloc | apply pw_below_drewN | apply below_drew1) | exact HB.out)⟩⟩
                · rw [if_neg c15] at H
                  exact absurd H (by simp)
              · replace c14 := Bool.eq_false_iff.mpr c14
                subst c14
                have H1 : ((impl_SimpleLower.f (rd l0 x10_1)).bind fun t361 => (if x3_1.length < 17592186044416 then (impl_fold.l0 k1 (x3_1 ++ [t361]) l0 (l0.length : Int) (wrap64 (x10_1 + 1))) else (none))) = some r := by rw [if_neg (show ¬ (false = true) by decide)] at H; exact H
                clear H
                have H := H1
                clear H1
                replace H := Option.bind_eq_some_iff.mp H
                obtain ⟨t361, A170, H⟩ := H
                replace H : (if x3_1.length < 17592186044416 then (impl_fold.l0 k1 (x3_1 ++ [t361]) l0 (l0.length : Int) (wrap64 (x10_1 + 1))) else (none)) = some r := H
                have A17 := Aside0.mk A170
                clear A170
                by_cases c18 : x3_1.length < 17592186044416
                · rw [if_pos c18] at H
                  have LMc18 := Aside0.mk c18
                  clear c18
                  obtain ⟨y362, hy362⟩ : ∃ y_ : List Int, y_ = (x3_1 ++ [t361]) := ⟨_, rfl⟩
                  replace H : (impl_fold.l0 k1 y362 l0 (l0.length : Int) (wrap64 (x10_1 + 1))) = some r := by first | (rw [hy362]; with_reducible exact H) | (have H2_ := (Option.bind_some _ _).symm.trans H; rw [hy362]; with_reducible exact H2_) | (have H2_ := (Option.bind_some _ _).symm.trans H; with_reducible exact H2_) | with_reducible exact H | (rw [hy362]; exact H) | exact H
                  have Ny362 := Aside0.mk hy362
                  clear hy362
                  have H' := Aside0.mk H
                  clear H
                  have p347 : 0 ≤ (x10_1 : Int) := of_decide_eq_true (by first | (with_reducible assumption) | assumption)
                  have q347 : x10_1 < (l0.length : Int) := of_decide_eq_true (by first | (with_reducible assumption) | assumption)
                  obtain ⟨ad347, e347, hx347_0⟩ := Kd.at_int HR0.out x10_1 p347 q347
                  cases e347
                  replace hx347_0 := (HB.out.cell (World.block_lt_of_cell? w _ hx347_0)).trans hx347_0
                  replace p347 := eq_true p347
                  replace q347 := eq_true q347
                  go_wp2_with (first | ((with_reducible refine gate_callee (f := 193) rfl ?_); refine goesL_ (some 16) rfl rfl Tryd.func193 (by kernel_rfl) rfl #[.int .i64 (rd l0 x10_1)] rfl (by (try simp only [List.map_toArray, List.map_cons, List.map_nil]); first | done | rfl | (simp only [List.length_drop, List.length_take]; rfl)) ?_; (with_reducible refine (impl_block.calls (rd l0 x10_1) t348 t349 _ A5.out).mono ?_); rintro e w' ⟨rfl, ⟨nd, rfl⟩⟩; refine ⟨_, rfl, ?_⟩) | ((with_reducible refine gate_callee (f := 194) rfl ?_); refine goesL_ (some 26) rfl rfl Tryd.func194 (by kernel_rfl) rfl #[.int .i64 (rd l0 x10_1), .int .i64 96] rfl (by (try simp only [List.map_toArray, List.map_cons, List.map_nil]); first | done | rfl | (simp only [List.length_drop, List.length_take]; rfl)) ?_; (with_reducible refine (impl_within.calls (rd l0 x10_1) 96 false _ A6.out).mono ?_); rintro e w' ⟨rfl, ⟨nd, rfl⟩⟩; refine ⟨_, rfl, ?_⟩) | ((with_reducible refine gate_callee (f := 194) rfl ?_); refine goesL_ (some 36) rfl rfl Tryd.func194 (by kernel_rfl) rfl #[.int .i64 (rd l0 x10_1), .int .i64 97] rfl (by (try simp only [List.map_toArray, List.map_cons, List.map_nil]); first | done | rfl | (simp only [List.length_drop, List.length_take]; rfl)) ?_; (with_reducible refine (impl_within.calls (rd l0 x10_1) 97 false _ A13.out).mono ?_); rintro e w' ⟨rfl, ⟨nd, rfl⟩⟩; refine ⟨_, rfl, ?_⟩) | ((with_reducible refine gate_callee (f := 195) rfl ?_); refine goesL_ (some 21) rfl rfl Tryd.func195 (by kernel_rfl) rfl #[.int .i64 (rd l0 x10_1)] rfl (by (try simp only [List.map_toArray, List.map_cons, List.map_nil]); first | done | rfl | (simp only [List.length_drop, List.length_take]; rfl)) ?_; (with_reducible refine (impl_SimpleLower.calls (rd l0 x10_1) t361 _ A17.out).mono ?_); rintro e w' ⟨rfl, ⟨nd, rfl⟩⟩; refine ⟨_, rfl, ?_⟩) | ((with_reducible refine gate_builtin (b := .append) (xs := #[.tmp 19, .tmp 22]) rfl ?_); at_builtin; refine Kd.R_append (Kd.int .i64) (w0 := w) w.heap.size rfl (.tmp 19) (.tmp 22) 29 2 (.int .i64 0) 8 rfl Tryd.underlying29 info2 rfl (by decide) (by omega) u3 x3_1 t361 [.int .i64 t361] (fun _ => True) (fun _ => False) rfl rfl ?aP (fun _ hk => hk.elim) ?aF ?aO ?aB ?aS ?aL ?_; (case aP => exact rfl); (case aB => exact (by repeat (first | (with_reducible first | exact HB.out | apply below_alloc | apply pw_below_drewN | apply below_drew1) | exact HB.out))); (case aF => exact (fun _ _ => trivial)); (case aO => exact (by (with_reducible repeat (first | apply Kd.R_alloc | apply Kd.R_drewN | apply Kd.R_drew)); exact HO_3.out)); (case aS => exact (below_size (by repeat (first | (with_reducible first | exact HB.out | apply below_alloc | apply pw_below_drewN | apply below_drew1) | exact HB.out)))); (case aL => have := LMc18.out; omega); intro v363 w19 ho hb hg hat; rw [← Ny362.out] at ho; have n0_ := Aside0.mk (hb); have n1_ := Aside0.mk (ho); clear HB; clear HO_3; have HB := n0_; have HO364 := n1_; clear n0_ n1_; clear ho hb hg hat))
                  go_roundg k1
                  case measure => have := HK1.out; omega
                  case rel => exact ⟨(y362), (wrap64 (x10_1 + 1)), (by first | rfl | (simp; done) | (simp [*]; done)), H', ⟨by have := HK1.out; omega⟩, ⟨by (with_reducible repeat (first | apply Kd.R_alloc | apply Kd.R_drewN | apply Kd.R_drew)); exact HO364.out⟩, ⟨by repeat (first | (with_reducible first | exact HB.out | apply below_alloc | apply pw_below_drewN | apply below_drew1) | exact HB.out)⟩⟩
                · rw [if_neg c18] at H
                  exact absurd H (by simp)
          · rw [if_neg c4] at H
            exact absurd H (by simp)
        · rw [if_neg c3] at H
          exact absurd H (by simp)
      · rw [if_neg c2] at H
        have c2b0 : decide (x10_1 < (l0.length : Int)) = false := decide_eq_false c2
        clear c2
        obtain rfl := Option.some.inj H
        go_wp2
        go_ret
        exact ⟨_, by first | rfl | (simp [errW_none, errW_some] <;> rfl) | (simp [*, errW_none, errW_some] <;> rfl), by (with_reducible repeat (first | apply Kd.R_alloc | apply Kd.R_drewN | apply Kd.R_drew)); exact HO_3.out, by repeat (first | (with_reducible first | exact HB.out | apply below_alloc | apply pw_below_drewN | apply below_drew1) | exact HB.out)⟩

def impl_fold.one (p : Int) : List Int := if 512 ≤ p ∧ p < 1280 ∧ p % 256 = 96 then [p - p % 256 + 50, p - p % 256 + 50] else if 512 ≤ p ∧ p < 1280 ∧ p % 256 = 97 then [p - p % 256 + 50] else [(impl_cases.g p).2.2]
def W_impl_fold.f (l0 : List Int) : Option (List Int) := if l0.length ≤ 1099511627776 ∧ (∀ p ∈ l0, YtdkoofdfkhogoaaDoorPts.isP p) then some (l0.flatMap impl_fold.one) else none
theorem impl_fold.one_length (p : Int) : (impl_fold.one p).length ≤ 2 := by unfold impl_fold.one; split <;> first | (split <;> simp) | simp
theorem impl_fold.len (l : List Int) : (l.flatMap impl_fold.one).length ≤ 2 * l.length := by
  induction l with
  | nil => simp
  | cons p l ih => rw [List.flatMap_cons, List.length_append, List.length_cons]; have := impl_fold.one_length p; omega
theorem impl_fold.within (p q : Int) (hq : 0 < q) : impl_within.f p q = some (decide (512 ≤ p ∧ p < 1280 ∧ p % 256 = q)) := by
  unfold impl_within.f impl_block.f
  by_cases c : 512 ≤ p ∧ p < 1280
  · rw [if_pos c]
    simp only [Option.bind_some]
    rw [if_pos (by omega)]
    by_cases c2 : p % 256 = q
    · simp [c, c2]
    · simp [c2]
  · rw [if_neg c]
    simp only [Option.bind_some]
    rw [if_neg (by omega)]
    rw [decide_eq_false (fun z => c ⟨z.1, z.2.1⟩)]
theorem impl_fold.run (l : List Int) (hl : l.length ≤ 1099511627776) (hp : ∀ p ∈ l, YtdkoofdfkhogoaaDoorPts.isP p) (d : Nat) : ∀ (k i : Nat), i ≤ l.length → l.length - i = d → d < k →
    impl_fold.l0 k ((l.take i).flatMap impl_fold.one) l (l.length : Int) (i : Int) = some (l.flatMap impl_fold.one) := by
  induction d with
  | zero =>
    intro k i h1 h2 h3
    obtain ⟨k, rfl⟩ : ∃ m, k = m + 1 := ⟨k - 1, by omega⟩
    simp only [impl_fold.l0]
    rw [if_neg (by omega), List.take_of_length_le (by omega)]
  | succ d ih =>
    intro k i h1 h2 h3
    obtain ⟨k, rfl⟩ : ∃ m, k = m + 1 := ⟨k - 1, by omega⟩
    have hlt : i < l.length := by omega
    have hih := ih k (i + 1) (by omega) (by omega) (by omega)
    have hw : wrap64 ((i : Int) + 1) = ((i + 1 : Nat) : Int) := by unfold wrap64; omega
    have hr : rd l (i : Int) = l[i] := by simp [rd, List.getD, hlt]
    have ht : (l.take (i + 1)).flatMap impl_fold.one = (l.take i).flatMap impl_fold.one ++ impl_fold.one l[i] := by
      rw [List.take_succ_eq_append_getElem hlt, List.flatMap_append]
      simp only [List.flatMap_cons, List.flatMap_nil, List.append_nil]
    have hlen := impl_fold.len (l.take i)
    rw [List.length_take] at hlen
    have hpi := hp l[i] (List.getElem_mem hlt)
    simp only [impl_fold.l0]
    rw [if_pos (by omega), if_pos (by omega), if_pos (by omega), hr, hw]
    rw [ht] at hih
    obtain ⟨p, hpe⟩ : ∃ p, l[i] = p := ⟨_, rfl⟩
    rw [hpe] at hih hpi ⊢
    clear ht hr hw ih
    obtain ⟨acc, hacc⟩ : ∃ acc, (l.take i).flatMap impl_fold.one = acc := ⟨_, rfl⟩
    rw [hacc] at hih hlen ⊢
    unfold impl_fold.one at hih
    unfold YtdkoofdfkhogoaaDoorPts.isP at hpi
    rw [impl_fold.within p 96 (by omega), impl_fold.within p 97 (by omega)]
    have hb : impl_block.f p = some (if 512 ≤ p ∧ p < 1280 then (p - p % 256, p % 256) else (0, 0)) := rfl
    rw [hb]
    simp only [Option.bind_some]
    by_cases c : 512 ≤ p ∧ p < 1280 ∧ p % 256 = 96
    · rw [if_pos (decide_eq_true c)]
      rw [if_pos c] at hih
      rw [if_pos (show 512 ≤ p ∧ p < 1280 from ⟨c.1, c.2.1⟩)]
      have hv : wrap64 (p - p % 256 + 50) = p - p % 256 + 50 := by unfold wrap64; omega
      simp only [hv]
      rw [if_pos (by simp only [List.length_cons, List.length_nil]; omega)]
      exact hih
    · rw [if_neg (by simpa using c)]
      rw [if_neg c] at hih
      by_cases c3 : 512 ≤ p ∧ p < 1280 ∧ p % 256 = 97
      · rw [if_pos (decide_eq_true c3)]
        rw [if_pos c3] at hih
        rw [if_pos (show 512 ≤ p ∧ p < 1280 from ⟨c3.1, c3.2.1⟩)]
        have hv : wrap64 (p - p % 256 + 50) = p - p % 256 + 50 := by unfold wrap64; omega
        simp only [hv]
        rw [if_pos (by omega)]
        exact hih
      · rw [if_neg (by simpa using c3)]
        rw [if_neg c3] at hih
        have hs : impl_SimpleLower.f p = some (impl_cases.g p).2.2 := by
          unfold impl_SimpleLower.f impl_isPoint.f
          rw [if_pos hpi.1, if_pos hpi.2.1]
          have : (if p < 55296 then (some true) else (some (decide (p > 57343)))) = some true := by
            split
            · rfl
            · rw [decide_eq_true (by omega)]
          rw [this]
          simp only [Option.bind_some, if_true]
          unfold impl_cases.f
          rw [if_pos ⟨hpi.1, hpi.2.1⟩]
          rfl
        rw [hs]
        simp only [Option.bind_some]
        rw [if_pos (by omega)]
        exact hih
theorem W_impl_fold.to {l0 : List Int} {r : List Int} (h : W_impl_fold.f l0 = some r) : ∃ k, impl_fold.f k l0 = some r := by
  unfold W_impl_fold.f at h
  split at h
  · rename_i hl
    refine ⟨l0.length + 1, ?_⟩
    rw [← h]
    exact impl_fold.run l0 hl.1 hl.2 l0.length (l0.length + 1) 0 (by omega) (by omega) (by omega)
  · cases h
theorem W_impl_fold.calls (A0 : Option Addr) (c0 : Nat) (l0 : List Int) (r : List Int) (w : World) (hr0 : Kd.C (Kd.int .i64) w A0 l0.length l0) (hc0 : l0.length ≤ c0) (h : W_impl_fold.f l0 = some r) :
    Calls Tryd.prog 142 #[.slice A0 l0.length c0] w fun e w' => ∃ v0_ : Value, e = .returned (v0_) ∧ Kd.R (Kd.int .i64) 2 w' w.heap.size (fun _ => True) v0_ r ∧ Below w.heap.size w w' := by
  obtain ⟨k, hk⟩ := W_impl_fold.to h
  exact impl_fold.calls k A0 c0 l0 r w hr0 hc0 hk

/-! ### impl_CaselessSame: function 59 (by hand) -/
def impl_CaselessSame.g (a0 : ByteArray) : Option ByteArray := (W_impl_points.f a0).bind fun l => (impl_normal.f 1 l).bind fun m => (W_impl_fold.f m).bind fun o => (impl_normal.f 1 o).bind fun p => W_impl_write.f p
def impl_CaselessSame.f (a0 a1 : ByteArray) : Option Bool := if (a0.size : Int) > 65536 then some false else if (a1.size : Int) > 65536 then some false else (impl_CaselessSame.g a0).bind fun x => (impl_CaselessSame.g a1).bind fun y => some (x.toList == y.toList)
set_option maxHeartbeats 4000000 in
set_option maxRecDepth 100000 in
theorem impl_CaselessSame.one (a0 : ByteArray) (r : ByteArray) (w : World) (h : impl_CaselessSame.g a0 = some r) (hG : GT w) :
    Calls Tryd.prog 140 #[.string a0] w fun e w' => e = .returned (.string r) ∧ Below w.heap.size w w' := by
  have HG := Aside0.mk hG
  clear hG
  unfold impl_CaselessSame.g at h
  obtain ⟨l, hl, h⟩ := Option.bind_eq_some_iff.mp h
  obtain ⟨m, hm, h⟩ := Option.bind_eq_some_iff.mp h
  obtain ⟨o, ho, h⟩ := Option.bind_eq_some_iff.mp h
  obtain ⟨p, hp, h⟩ := Option.bind_eq_some_iff.mp h
  have H1 := Aside0.mk hl
  have H2 := Aside0.mk hm
  have H3 := Aside0.mk ho
  have H4 := Aside0.mk hp
  have H5 := Aside0.mk h
  clear hl hm ho hp h
  go_enter Tryd.func140, Tryd.ntmps140
  go_wp2_with (first
    | (go_at_call 68; ((with_reducible refine (W_impl_points.calls a0 l _ H1.out (GT.below HG.out (by repeat (first | exact Below.refl _ _ | apply pw_below_drewN | apply below_drew1)))).mono ?_); rintro e w1 ⟨v1, rfl, ho1, hb1⟩; obtain ⟨A1, c1, rfl⟩ := Kd.R_slice ho1; have R1 := Aside0.mk (Kd.R_reads' ho1); have B1 : Aside0 (Below w.heap.size w w1) := Aside0.mk (below_step (by repeat (first | exact Below.refl _ _ | apply pw_below_drewN | apply below_drew1)) hb1); clear ho1 hb1))
    | (go_at_call_of 141 (Value.slice A1 l.length c1); ((with_reducible refine (impl_normal.calls 1 A1 c1 l m _ R1.out.2.2 R1.out.2.1 H2.out).mono ?_); rintro e w2 ⟨v2, rfl, ho2, hb2⟩; obtain ⟨A2, c2, rfl⟩ := Kd.R_slice ho2; have R2 := Aside0.mk (Kd.R_reads' ho2); have B2 := Aside0.mk (below_step B1.out hb2); clear ho2 hb2))
    | (go_at_call 142; ((with_reducible refine (W_impl_fold.calls A2 c2 m o _ R2.out.2.2 R2.out.2.1 H3.out).mono ?_); rintro e w3 ⟨v3, rfl, ho3, hb3⟩; obtain ⟨A3, c3, rfl⟩ := Kd.R_slice ho3; have R3 := Aside0.mk (Kd.R_reads' ho3); have B3 := Aside0.mk (below_step B2.out hb3); clear ho3 hb3))
    | (go_at_call_of 141 (Value.slice A3 o.length c3); ((with_reducible refine (impl_normal.calls 1 A3 c3 o p _ R3.out.2.2 R3.out.2.1 H4.out).mono ?_); rintro e w4 ⟨v4, rfl, ho4, hb4⟩; obtain ⟨A4, c4, rfl⟩ := Kd.R_slice ho4; have R4 := Aside0.mk (Kd.R_reads' ho4); have B4 := Aside0.mk (below_step B3.out hb4); clear ho4 hb4))
    | (go_at_call 74; ((with_reducible refine (W_impl_write.calls A4 c4 p r _ R4.out.2.2 R4.out.2.1 H5.out).mono ?_); rintro e w5 ⟨rfl, hb5⟩; have B5 := Aside0.mk (below_step B4.out hb5); clear hb5)))
  go_ret
  exact ⟨rfl, B5.out⟩
set_option maxHeartbeats 4000000 in
set_option maxRecDepth 100000 in
theorem impl_CaselessSame.calls (a0 : ByteArray) (a1 : ByteArray) (r : Bool) (w : World) (h : impl_CaselessSame.f a0 a1 = some r) (hG : GT w) :
    Calls Tryd.prog 59 #[.string a0, .string a1] w fun e w' => e = .returned (.bool r) ∧ Below w.heap.size w w' := by
  have HG := Aside0.mk hG
  clear hG
  unfold impl_CaselessSame.f at h
  by_cases c : (a0.size : Int) > 65536
  · rw [if_pos c] at h
    obtain rfl := Option.some.inj h
    have HL := fun W => impl_long.calls a0 true W (by unfold impl_long.f; rw [decide_eq_true c])
    clear h c
    go_enter Tryd.func59, Tryd.ntmps59
    go_wp2_with (go_at_call 66; ((with_reducible refine (HL _).mono ?_); rintro e w1 ⟨rfl, ⟨nd, rfl⟩⟩))
    go_ret
    exact ⟨rfl, (by repeat (first | exact Below.refl _ _ | apply pw_below_drewN | apply below_drew1))⟩
  · rw [if_neg c] at h
    have HL := fun W => impl_long.calls a0 false W (by unfold impl_long.f; rw [decide_eq_false c])
    clear c
    by_cases c2 : (a1.size : Int) > 65536
    · rw [if_pos c2] at h
      obtain rfl := Option.some.inj h
      have HL2 := fun W => impl_long.calls a1 true W (by unfold impl_long.f; rw [decide_eq_true c2])
      clear h c2
      go_enter Tryd.func59, Tryd.ntmps59
      go_wp2_with (first | (go_at_call_of 66 (Value.string a0); ((with_reducible refine (HL _).mono ?_); rintro e w1 ⟨rfl, ⟨nd, rfl⟩⟩)) | (go_at_call_of 66 (Value.string a1); ((with_reducible refine (HL2 _).mono ?_); rintro e w1 ⟨rfl, ⟨nd, rfl⟩⟩)))
      go_ret
      exact ⟨rfl, (by repeat (first | exact Below.refl _ _ | apply pw_below_drewN | apply below_drew1))⟩
    · rw [if_neg c2] at h
      have HL2 := fun W => impl_long.calls a1 false W (by unfold impl_long.f; rw [decide_eq_false c2])
      obtain ⟨x, hx, h⟩ := Option.bind_eq_some_iff.mp h
      obtain ⟨y, hy, h⟩ := Option.bind_eq_some_iff.mp h
      obtain rfl := Option.some.inj h
      have H1 := Aside0.mk hx
      have H2 := Aside0.mk hy
      clear hx hy h c2
      go_enter Tryd.func59, Tryd.ntmps59
      go_wp2_with (first
        | (go_at_call_of 66 (Value.string a0); ((with_reducible refine (HL _).mono ?_); rintro e w1 ⟨rfl, ⟨nd, rfl⟩⟩))
        | (go_at_call_of 66 (Value.string a1); ((with_reducible refine (HL2 _).mono ?_); rintro e w1 ⟨rfl, ⟨nd, rfl⟩⟩))
        | (go_at_call_of 140 (Value.string a0); ((with_reducible refine (impl_CaselessSame.one a0 x _ H1.out (GT.below HG.out (by repeat (first | exact Below.refl _ _ | apply pw_below_drewN | apply below_drew1)))).mono ?_); rintro e w2 ⟨rfl, hb2⟩; have B2 : Aside0 (Below w.heap.size w w2) := Aside0.mk (below_step (by repeat (first | exact Below.refl _ _ | apply pw_below_drewN | apply below_drew1)) hb2); clear hb2))
        | (go_at_call_of 140 (Value.string a1); ((with_reducible refine (impl_CaselessSame.one a1 y _ H2.out (GT.below HG.out B2.out)).mono ?_); rintro e w3 ⟨rfl, hb3⟩; have B3 := Aside0.mk (below_step B2.out hb3); clear hb3)))

      go_ret
      exact ⟨rfl, B3.out⟩

end Go.Proofs.YtdkoofdfkhogoaaDoor.QFnExactCaselessSame
