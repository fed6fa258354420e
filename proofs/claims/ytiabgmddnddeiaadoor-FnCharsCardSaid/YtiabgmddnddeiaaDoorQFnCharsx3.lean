/- The law FnChars: at every input the call answers true (this text: contracts on its way, by a program of this session's; no condition of ours). -/
import Derived.Test.YtiabgmddnddeiaaDoorQFnCharsx0
import Derived.Test.YtiabgmddnddeiaaDoorQFnCharsx2
namespace Go.Proofs.YtiabgmddnddeiaaDoor.QFnChars
open Go.RowKit Go.Proofs.YtiabgmddnddeiaaDoorW.PrintWords Go.Proofs.YtiabgmddnddeiaaDoorW.PrintLast Go.Proofs.YtiabgmddnddeiaaDoorW.PrintMore
attribute [local go_sem] max2_int min2_int max_two min_two max_three min_three max_four min_four   -- for this text's walks alone
set_option linter.unusedVariables false
set_option linter.unusedSimpArgs false

/-! ### impl_block: function 206 (by hand) -/
theorem impl_block.bits (p : Int) (h0 : 512 ≤ p) (h1 : p < 1280) : Go.bits .andNot .i64 p 255 = p - p % 256 ∧ Go.bits .and .i64 p 255 = p % 256 := by
  have h : ∀ n : Fin 768, Go.bits .andNot .i64 (512 + (n.val : Int)) 255 = (512 + (n.val : Int)) - (512 + (n.val : Int)) % 256 ∧ Go.bits .and .i64 (512 + (n.val : Int)) 255 = (512 + (n.val : Int)) % 256 := by decide +kernel
  have e : p = 512 + (((⟨(p - 512).toNat, by omega⟩ : Fin 768).val : Nat) : Int) := by simp; omega
  rw [e]; exact h _
def impl_block.f (a0 : Int) : Option (Int × Int) := some (if 512 ≤ a0 ∧ a0 < 1280 then (a0 - a0 % 256, a0 % 256) else (0, 0))
set_option maxHeartbeats 1000000 in
set_option maxRecDepth 100000 in
theorem impl_block.calls (a0 : Int) (r1 : Int) (r2 : Int) (w : World) (h : impl_block.f a0 = some (r1, r2)) :
    Calls Tryd.prog 206 #[.int .i64 a0] w fun e w' => e = .returned (.tuple #[.int .i64 r1, .int .i64 r2]) ∧ Drawn0 w w' := by
  unfold impl_block.f at h
  have h := Option.some.inj h
  by_cases hc : 512 ≤ a0 ∧ a0 < 1280
  · rw [if_pos hc] at h
    obtain ⟨rfl, rfl⟩ := Prod.mk.inj h
    obtain ⟨e1, e2⟩ := impl_block.bits a0 hc.1 hc.2
    rw [← e1, ← e2]
    clear e1 e2 h
    obtain ⟨hc1, hc2⟩ := hc
    go_enter Tryd.func206, Tryd.ntmps206
    go_wp2
    go_ret2
    exact ⟨rfl, Drawn0.refl _⟩
  · rw [if_neg hc] at h
    obtain ⟨rfl, rfl⟩ := Prod.mk.inj h
    clear h
    have hc' : a0 < 512 ∨ 1280 ≤ a0 := by omega
    clear hc
    rcases hc' with hc | hc
    · go_enter Tryd.func206, Tryd.ntmps206
      go_wp2
      go_ret2
      exact ⟨rfl, Drawn0.refl _⟩
    · go_enter Tryd.func206, Tryd.ntmps206
      go_wp2
      go_ret2
      exact ⟨rfl, Drawn0.refl _⟩

/-! ### impl_kind: function 192 (by hand) -/
def impl_kind.g (p : Int) : Int × Int :=
  if 512 ≤ p ∧ p < 1280 then
    (if p % 256 < 32 ∨ 64 ≤ p % 256 ∧ p % 256 ≤ 67 then (4, p / 256)
     else if p % 256 < 64 ∨ 72 ≤ p % 256 ∧ p % 256 ≤ 75 ∨ 96 ≤ p % 256 ∧ p % 256 ≤ 97 then (5, p / 256)
     else if 68 ≤ p % 256 ∧ p % 256 ≤ 71 then (6, p / 256)
     else if 80 ≤ p % 256 ∧ p % 256 ≤ 89 then (8, p / 256)
     else (0, 0))
  else if 0 ≤ p ∧ p ≤ 31 ∨ 127 ≤ p ∧ p ≤ 159 then (1, 0)
  else if p = 32 ∨ p = 160 ∨ p = 8064 then (2, 0)
  else if 48 ≤ p ∧ p ≤ 57 then (8, 0)
  else if 65 ≤ p ∧ p ≤ 90 then (4, 1)
  else if 97 ≤ p ∧ p ≤ 122 then (5, 1)
  else if 33 ≤ p ∧ p ≤ 126 then (9, 0)
  else if p = 173 then (11, 0)
  else if 161 ≤ p ∧ p ≤ 191 then (10, 0)
  else if 1280 ≤ p ∧ p ≤ 1311 then (7, 5)
  else if 1360 ≤ p ∧ p ≤ 1369 then (8, 5)
  else if 1536 ≤ p ∧ p ≤ 1567 then (7, 6)
  else if 1568 ≤ p ∧ p ≤ 1579 ∨ p = 1584 ∨ p = 1585 then (3, 6)
  else if 1616 ≤ p ∧ p ≤ 1625 then (8, 6)
  else if 1792 ≤ p ∧ p ≤ 1810 ∨ 1824 ≤ p ∧ p ≤ 1844 ∨ 1857 ≤ p ∧ p ≤ 1883 ∨ 12288 ≤ p ∧ p ≤ 23459 then (7, 7)
  else if 2048 ≤ p ∧ p ≤ 2095 then (7, 8)
  else if 4096 ≤ p ∧ p ≤ 4159 then (3, 0)
  else if 7680 ≤ p ∧ p ≤ 7748 ∨ 7760 ≤ p ∧ p ≤ 7785 then (10, 0)
  else if 7936 ≤ p ∧ p ≤ 7947 ∨ p = 7953 ∨ p = 7954 then (11, 0)
  else if 8192 ≤ p ∧ p ≤ 9631 ∧ (p - 8192) % 512 < 416 then (if (p - 8192) % 512 < 208 then (4, 1) else (5, 1))
  else if 9728 ≤ p ∧ p ≤ 9753 then (4, 1)
  else if 9984 ≤ p ∧ p ≤ 10009 ∨ 10032 ≤ p ∧ p ≤ 10035 then (10, 0)
  else if 10016 ≤ p ∧ p ≤ 10025 then (8, 0)
  else if 24576 ≤ p ∧ p ≤ 26623 then (7, 9)
  else (0, 0)
def impl_kind.f (a0 : Int) : Option (Int × Int) := some (impl_kind.g a0)
def impl_kind.Post (p : Int) (w : World) (e : Ending) (w' : World) : Prop := e = .returned (.tuple #[.int .i64 (impl_kind.g p).1, .int .i64 (impl_kind.g p).2]) ∧ Drawn0 w w'
theorem impl_kind.post {p a b : Int} {w w' : World} (h : impl_kind.g p = (a, b)) (hb : Drawn0 w w') : impl_kind.Post p w (.returned (.tuple #[.int .i64 a, .int .i64 b])) w' := by
  unfold impl_kind.Post; rw [h]; exact ⟨rfl, hb⟩
set_option maxHeartbeats 1000000 in
set_option maxRecDepth 100000 in
theorem impl_kind.inC (p a b : Int) (w : World) : Calls Tryd.prog 105 #[.int .i64 p, .int .i64 a, .int .i64 b] w fun e w' => e = .returned (.bool (decide (a ≤ p ∧ p ≤ b))) ∧ w = w' := by
  by_cases h : a ≤ p
  · have e : decide (a ≤ p ∧ p ≤ b) = decide (p ≤ b) := by simp [h]
    rw [e]; clear e
    go_enter Tryd.func105, Tryd.ntmps105
    go_wp2
    go_ret
    exact ⟨rfl, rfl⟩
  · have e : decide (a ≤ p ∧ p ≤ b) = false := by simp [h]
    rw [e]; clear e
    go_enter Tryd.func105, Tryd.ntmps105
    go_wp2
    go_ret
    exact ⟨rfl, rfl⟩
set_option maxHeartbeats 8000000 in
set_option maxRecDepth 100000 in
theorem impl_kind.walk1 (a0 : Int) (w : World) (hc : 512 ≤ a0 ∧ a0 < 1280) : Calls Tryd.prog 192 #[.int .i64 a0] w (impl_kind.Post a0 w) := by
  have C := fun W => impl_block.calls a0 (a0 - a0 % 256) (a0 % 256) W (by unfold impl_block.f; rw [if_pos hc])
  obtain ⟨hc1, hc2⟩ := hc
  go_enter Tryd.func192, Tryd.ntmps192
  go_wp2_with (first | (go_at_call 206; refine (C _).mono ?_; rintro e w1 ⟨rfl, ⟨nd, rfl⟩⟩) | (go_at_call 105; refine (impl_kind.inC _ _ _ _).mono ?_; rintro e w1 ⟨rfl, rfl⟩))
  all_goals
    go_ret2
    refine impl_kind.post ?_ (by repeat (first | exact Drawn0.refl _ | apply Drawn0.step))
    go_light
    try simp only [beq_iff_eq, beq_eq_false_iff_ne, ne_eq] at *
  all_goals (try (exfalso; omega))
  all_goals (unfold impl_kind.g; repeat (first | rw [if_pos (by omega)] | rw [if_neg (by omega)]))
  all_goals (try (simp only [Prod.mk.injEq, and_true, true_and]; omega))
set_option maxHeartbeats 8000000 in
set_option maxRecDepth 100000 in
theorem impl_kind.walk2 (a0 : Int) (w : World) (hc : ¬ (512 ≤ a0 ∧ a0 < 1280)) (h0 : 0 ≤ a0) : Calls Tryd.prog 192 #[.int .i64 a0] w (impl_kind.Post a0 w) := by
  have C := fun W => impl_block.calls a0 0 0 W (by unfold impl_block.f; rw [if_neg hc])
  have hc' : a0 < 512 ∨ 1280 ≤ a0 := by omega
  have hc1 := Aside0.mk hc'
  clear hc hc'
  go_enter Tryd.func192, Tryd.ntmps192
  go_wp2_with (first | (go_at_call 206; refine (C _).mono ?_; rintro e w1 ⟨rfl, ⟨nd, rfl⟩⟩) | (go_at_call 105; refine (impl_kind.inC _ _ _ _).mono ?_; rintro e w1 ⟨rfl, rfl⟩))
  all_goals
    go_ret2
    refine impl_kind.post ?_ (by repeat (first | exact Drawn0.refl _ | apply Drawn0.step))
    have hc2 := hc1.out
    go_light
    try simp only [beq_iff_eq, beq_eq_false_iff_ne, ne_eq] at *
  all_goals (try (exfalso; omega))
  all_goals (unfold impl_kind.g; repeat (first | rw [if_pos (by omega)] | rw [if_neg (by omega)]))
  all_goals (try (simp only [Prod.mk.injEq, and_true, true_and]; omega))
set_option maxHeartbeats 8000000 in
set_option maxRecDepth 100000 in
theorem impl_kind.walk3 (a0 : Int) (w : World) (h0 : a0 < 0) : Calls Tryd.prog 192 #[.int .i64 a0] w (impl_kind.Post a0 w) := by
  have C := fun W => impl_block.calls a0 0 0 W (by unfold impl_block.f; rw [if_neg (by omega)])
  go_enter Tryd.func192, Tryd.ntmps192
  go_wp2_with (first | (go_at_call 206; refine (C _).mono ?_; rintro e w1 ⟨rfl, ⟨nd, rfl⟩⟩) | (go_at_call 105; refine (impl_kind.inC _ _ _ _).mono ?_; rintro e w1 ⟨rfl, rfl⟩))
  all_goals
    go_ret2
    refine impl_kind.post ?_ (by repeat (first | exact Drawn0.refl _ | apply Drawn0.step))
    go_light
    try simp only [beq_iff_eq, beq_eq_false_iff_ne, ne_eq] at *
  all_goals (try (exfalso; omega))
  all_goals (unfold impl_kind.g; repeat (first | rw [if_pos (by omega)] | rw [if_neg (by omega)]))
  all_goals (try (simp only [Prod.mk.injEq, and_true, true_and]; omega))
theorem impl_kind.walk (a0 : Int) (w : World) : Calls Tryd.prog 192 #[.int .i64 a0] w (impl_kind.Post a0 w) := by
  by_cases hc : 512 ≤ a0 ∧ a0 < 1280
  · exact impl_kind.walk1 a0 w hc
  · by_cases h0 : 0 ≤ a0
    · exact impl_kind.walk2 a0 w hc h0
    · exact impl_kind.walk3 a0 w (by omega)
theorem impl_kind.calls (a0 : Int) (r1 : Int) (r2 : Int) (w : World) (h : impl_kind.f a0 = some (r1, r2)) :
    Calls Tryd.prog 192 #[.int .i64 a0] w fun e w' => e = .returned (.tuple #[.int .i64 r1, .int .i64 r2]) ∧ Drawn0 w w' := by
  have h := Option.some.inj h
  refine (impl_kind.walk a0 w).mono fun e w' hp => ?_
  unfold impl_kind.Post at hp
  rw [h] at hp
  exact hp

/-! ### impl_Category: function 119 -/
def impl_Category.f (a0 : Int) : Option (Int) := (impl_kind.f a0).bind fun bt136 => (some bt136.1)
set_option maxHeartbeats 8000000 in
set_option maxRecDepth 100000 in
theorem impl_Category.calls (a0 : Int) (r : Int) (w : World) (h : impl_Category.f a0 = some r) :
    Calls Tryd.prog 119 #[.int .i64 a0] w fun e w' => e = .returned (.int .i64 r) ∧ Drawn0 w w' := by
  have H : ((impl_kind.f a0).bind fun bt136 => (some bt136.1)) = some r := h
  clear h
  replace H := Option.bind_eq_some_iff.mp H
  obtain ⟨⟨t136, t137⟩, A20, H⟩ := H
  replace H : (some t136) = some r := H
  have A2 := Aside0.mk A20
  clear A20
  obtain rfl := Option.some.inj H
  go_enter Tryd.func119, Tryd.ntmps119
  go_wp2_with (first | ((with_reducible refine gate_callee (f := 192) rfl ?_); refine goesL_ (some 7) rfl rfl Tryd.func192 (by kernel_rfl) rfl #[.int .i64 a0] rfl (by (try simp only [List.map_toArray, List.map_cons, List.map_nil]); first | done | rfl | (simp only [List.length_drop, List.length_take]; rfl)) ?_; (with_reducible refine (impl_kind.calls a0 t136 t137 _ A2.out).mono ?_); rintro e w' ⟨rfl, ⟨nd, rfl⟩⟩; refine ⟨_, rfl, ?_⟩))
  go_ret
  exact ⟨by first | rfl | (simp; done) | (simp [*]; done), by repeat (first | exact Drawn0.refl _ | apply Drawn0.step)⟩

/-! ### impl_isMark: function 118 -/
def impl_isMark.f (a0 : Int) : Option (Bool) := (impl_Category.f a0).bind fun t138 => (some (t138 == 3))
set_option maxHeartbeats 8000000 in
set_option maxRecDepth 100000 in
theorem impl_isMark.calls (a0 : Int) (r : Bool) (w : World) (h : impl_isMark.f a0 = some r) :
    Calls Tryd.prog 118 #[.int .i64 a0] w fun e w' => e = .returned (.bool r) ∧ Drawn0 w w' := by
  have H : ((impl_Category.f a0).bind fun t138 => (some (t138 == 3))) = some r := h
  clear h
  replace H := Option.bind_eq_some_iff.mp H
  obtain ⟨t138, A20, H⟩ := H
  replace H : (some (t138 == 3)) = some r := H
  have A2 := Aside0.mk A20
  clear A20
  obtain rfl := Option.some.inj H
  go_enter Tryd.func118, Tryd.ntmps118
  go_wp2_with (first | ((with_reducible refine gate_callee (f := 119) rfl ?_); refine goesL_ (some 4) rfl rfl Tryd.func119 (by kernel_rfl) rfl #[.int .i64 a0] rfl (by (try simp only [List.map_toArray, List.map_cons, List.map_nil]); first | done | rfl | (simp only [List.length_drop, List.length_take]; rfl)) ?_; (with_reducible refine (impl_Category.calls a0 t138 _ A2.out).mono ?_); rintro e w' ⟨rfl, ⟨nd, rfl⟩⟩; refine ⟨_, rfl, ?_⟩))
  go_ret
  exact ⟨by first | rfl | (simp; done) | (simp [*]; done), by repeat (first | exact Drawn0.refl _ | apply Drawn0.step)⟩

/-! ### impl_isSyllable: function 229 -/
def impl_isSyllable.f (a0 : Int) : Option (Bool) := (impl_in.f a0 12288 23459).bind fun t139 => (some t139)
set_option maxHeartbeats 8000000 in
set_option maxRecDepth 100000 in
theorem impl_isSyllable.calls (a0 : Int) (r : Bool) (w : World) (h : impl_isSyllable.f a0 = some r) :
    Calls Tryd.prog 229 #[.int .i64 a0] w fun e w' => e = .returned (.bool r) ∧ Drawn0 w w' := by
  have H : ((impl_in.f a0 12288 23459).bind fun t139 => (some t139)) = some r := h
  clear h
  replace H := Option.bind_eq_some_iff.mp H
  obtain ⟨t139, A20, H⟩ := H
  replace H : (some t139) = some r := H
  have A2 := Aside0.mk A20
  clear A20
  obtain rfl := Option.some.inj H
  go_enter Tryd.func229, Tryd.ntmps229
  go_wp2_with (first | ((with_reducible refine gate_callee (f := 105) rfl ?_); refine goesL_ (some 4) rfl rfl Tryd.func105 (by kernel_rfl) rfl #[.int .i64 a0, .int .i64 12288, .int .i64 23459] rfl (by (try simp only [List.map_toArray, List.map_cons, List.map_nil]); first | done | rfl | (simp only [List.length_drop, List.length_take]; rfl)) ?_; (with_reducible refine (impl_in.calls a0 12288 23459 t139 _ A2.out).mono ?_); rintro e w' ⟨rfl, ⟨nd, rfl⟩⟩; refine ⟨_, rfl, ?_⟩))
  go_ret
  exact ⟨by first | rfl | (simp; done) | (simp [*]; done), by repeat (first | exact Drawn0.refl _ | apply Drawn0.step)⟩

/-! ### impl_isOpen: function 222 -/
def impl_isOpen.f (a0 : Int) : Option (Bool) := (impl_isSyllable.f a0).bind fun t140 => (if t140 = true then (some ((Int.tmod (wrap64 (a0 - 12288)) 28) == 0)) else (some false))
set_option maxHeartbeats 8000000 in
set_option maxRecDepth 100000 in
theorem impl_isOpen.calls (a0 : Int) (r : Bool) (w : World) (h : impl_isOpen.f a0 = some r) :
    Calls Tryd.prog 222 #[.int .i64 a0] w fun e w' => e = .returned (.bool r) ∧ Drawn0 w w' := by
  have H : ((impl_isSyllable.f a0).bind fun t140 => (if t140 = true then (some ((Int.tmod (wrap64 (a0 - 12288)) 28) == 0)) else (some false))) = some r := h
  clear h
  replace H := Option.bind_eq_some_iff.mp H
  obtain ⟨t140, A20, H⟩ := H
  replace H : (if t140 = true then (some ((Int.tmod (wrap64 (a0 - 12288)) 28) == 0)) else (some false)) = some r := H
  have A2 := Aside0.mk A20
  clear A20
  by_cases c3 : t140 = true
  · subst c3
    have H1 : (some ((Int.tmod (wrap64 (a0 - 12288)) 28) == 0)) = some r := by rw [if_pos rfl] at H; exact H
    clear H
    have H := H1
    clear H1
    obtain rfl := Option.some.inj H
    go_enter Tryd.func222, Tryd.ntmps222
    go_wp2_with (first | ((with_reducible refine gate_callee (f := 229) rfl ?_); refine goesL_ (some 4) rfl rfl Tryd.func229 (by kernel_rfl) rfl #[.int .i64 a0] rfl (by (try simp only [List.map_toArray, List.map_cons, List.map_nil]); first | done | rfl | (simp only [List.length_drop, List.length_take]; rfl)) ?_; (with_reducible refine (impl_isSyllable.calls a0 true _ A2.out).mono ?_); rintro e w' ⟨rfl, ⟨nd, rfl⟩⟩; refine ⟨_, rfl, ?_⟩))
    go_ret
    exact ⟨by first | rfl | (simp; done) | (simp [*]; done), by repeat (first | exact Drawn0.refl _ | apply Drawn0.step)⟩
  · replace c3 := Bool.eq_false_iff.mpr c3
    subst c3
    have H1 : (some false) = some r := by rw [if_neg (show ¬ (false = true) by decide)] at H; exact H
    clear H
    have H := H1
    clear H1
    obtain rfl := Option.some.inj H
    go_enter Tryd.func222, Tryd.ntmps222
    go_wp2_with (first | ((with_reducible refine gate_callee (f := 229) rfl ?_); refine goesL_ (some 4) rfl rfl Tryd.func229 (by kernel_rfl) rfl #[.int .i64 a0] rfl (by (try simp only [List.map_toArray, List.map_cons, List.map_nil]); first | done | rfl | (simp only [List.length_drop, List.length_take]; rfl)) ?_; (with_reducible refine (impl_isSyllable.calls a0 false _ A2.out).mono ?_); rintro e w' ⟨rfl, ⟨nd, rfl⟩⟩; refine ⟨_, rfl, ?_⟩))
    go_ret
    exact ⟨by first | rfl | (simp; done) | (simp [*]; done), by repeat (first | exact Drawn0.refl _ | apply Drawn0.step)⟩

/-! ### impl_isPicture: function 230 -/
def impl_isPicture.f (a0 : Int) : Option (Bool) := (impl_in.f a0 7680 7743).bind fun t141 => (some t141)
set_option maxHeartbeats 8000000 in
set_option maxRecDepth 100000 in
theorem impl_isPicture.calls (a0 : Int) (r : Bool) (w : World) (h : impl_isPicture.f a0 = some r) :
    Calls Tryd.prog 230 #[.int .i64 a0] w fun e w' => e = .returned (.bool r) ∧ Drawn0 w w' := by
  have H : ((impl_in.f a0 7680 7743).bind fun t141 => (some t141)) = some r := h
  clear h
  replace H := Option.bind_eq_some_iff.mp H
  obtain ⟨t141, A20, H⟩ := H
  replace H : (some t141) = some r := H
  have A2 := Aside0.mk A20
  clear A20
  obtain rfl := Option.some.inj H
  go_enter Tryd.func230, Tryd.ntmps230
  go_wp2_with (first | ((with_reducible refine gate_callee (f := 105) rfl ?_); refine goesL_ (some 4) rfl rfl Tryd.func105 (by kernel_rfl) rfl #[.int .i64 a0, .int .i64 7680, .int .i64 7743] rfl (by (try simp only [List.map_toArray, List.map_cons, List.map_nil]); first | done | rfl | (simp only [List.length_drop, List.length_take]; rfl)) ?_; (with_reducible refine (impl_in.calls a0 7680 7743 t141 _ A2.out).mono ?_); rintro e w' ⟨rfl, ⟨nd, rfl⟩⟩; refine ⟨_, rfl, ?_⟩))
  go_ret
  exact ⟨by first | rfl | (simp; done) | (simp [*]; done), by repeat (first | exact Drawn0.refl _ | apply Drawn0.step)⟩

/-! ### impl_charClass: function 190 -/
mutual
def impl_charClass.j0 : Nat → Int → Bool → Option (Int)
 | 0, _, _ => none
 | k + 1, x0, x3 => if x3 = true then (some 1) else ((impl_isMark.f x0).bind fun t143 => (if t143 = true then (impl_charClass.j1 k x0 true) else (if x0 = 7936 then (impl_charClass.j1 k x0 true) else ((impl_in.f x0 7744 7748).bind fun t144 => (impl_charClass.j1 k x0 t144)))))
def impl_charClass.j1 : Nat → Int → Bool → Option (Int)
 | 0, _, _ => none
 | k + 1, x0, x11 => if x11 = true then (some 2) else ((impl_in.f x0 1792 1810).bind fun t145 => (if t145 = true then (some 3) else ((impl_in.f x0 1824 1844).bind fun t146 => (if t146 = true then (some 4) else ((impl_in.f x0 1857 1883).bind fun t147 => (if t147 = true then (some 5) else ((impl_isOpen.f x0).bind fun t148 => (if t148 = true then (some 6) else ((impl_isSyllable.f x0).bind fun t149 => (if t149 = true then (some 7) else ((impl_isPicture.f x0).bind fun t150 => (if t150 = true then (some 8) else ((impl_in.f x0 7760 7785).bind fun t151 => (if t151 = true then (some 9) else (some 0)))))))))))))))
end
def impl_charClass.f (k : Nat) (a0 : Int) : Option (Int) := (impl_Category.f a0).bind fun t142 => (if t142 = 1 then (impl_charClass.j0 k a0 true) else (impl_charClass.j0 k a0 (a0 == 7954)))
theorem impl_charClass.mono_l : ∀ k, (∀ y0 y1, LeO (impl_charClass.j0 k y0 y1) (impl_charClass.j0 (k + 1) y0 y1)) ∧ (∀ y0 y1, LeO (impl_charClass.j1 k y0 y1) (impl_charClass.j1 (k + 1) y0 y1))
 | 0 => ⟨fun _ _ r h => by simp [impl_charClass.j0] at h, fun _ _ r h => by simp [impl_charClass.j1] at h⟩
 | k + 1 => by
  obtain ⟨ih0, ih1⟩ := impl_charClass.mono_l k; refine ⟨?_, ?_⟩
  ·intro y0 y1
   unfold impl_charClass.j0
   repeat' first
   | (with_reducible exact ih0 _ _)
   | (with_reducible exact ih1 _ _)
   | (with_reducible exact LeO.refl _)
   | (with_reducible exact LeO.none _)
   | (with_reducible refine LeO.ite ?_ ?_)
   | (with_reducible refine LeO.bind ?_ (fun _ => ?_))
   | exact ih0 _ _
   | exact ih1 _ _
   | exact LeO.none _
   | refine LeO.ite ?_ ?_
   | refine LeO.bind ?_ (fun _ => ?_)
  intro y0 y1
  unfold impl_charClass.j1
  repeat' first
  | (with_reducible exact ih0 _ _)
  | (with_reducible exact ih1 _ _)
  | (with_reducible exact LeO.refl _)
  | (with_reducible exact LeO.none _)
  | (with_reducible refine LeO.ite ?_ ?_)
  | (with_reducible refine LeO.bind ?_ (fun _ => ?_))
  | exact ih0 _ _
  | exact ih1 _ _
  | exact LeO.none _
  | refine LeO.ite ?_ ?_
  | refine LeO.bind ?_ (fun _ => ?_)
theorem impl_charClass.mono : ∀ a0 k, LeO (impl_charClass.f k a0) (impl_charClass.f (k + 1) a0) := by
 intro a0 k
 obtain ⟨ih0, ih1⟩ := impl_charClass.mono_l k
 unfold impl_charClass.f
 repeat' first
   | (with_reducible exact ih0 _ _)
   | (with_reducible exact ih1 _ _)
   | (with_reducible exact LeO.refl _)
   | (with_reducible exact LeO.none _)
   | (with_reducible refine LeO.ite ?_ ?_)
   | (with_reducible refine LeO.bind ?_ (fun _ => ?_))
   | exact ih0 _ _
   | exact ih1 _ _
   | exact LeO.none _
   | refine LeO.ite ?_ ?_
   | refine LeO.bind ?_ (fun _ => ?_)
set_option maxHeartbeats 8000000 in
set_option maxRecDepth 100000 in
theorem impl_charClass.calls (k : Nat) (a0 : Int) (r : Int) (w : World) (h : impl_charClass.f k a0 = some r) :
  Calls Tryd.prog 190 #[.int .i64 a0] w fun e w' => e = .returned (.int .i64 r) ∧ Drawn0 w w' := by
 have H : ((impl_Category.f a0).bind fun t142 => (if t142 = 1 then (impl_charClass.j0 k a0 true) else (impl_charClass.j0 k a0 (a0 == 7954)))) = some r := h
 clear h
 have HC2 := Aside0.mk H
 clear H
 go_enter Tryd.func190, Tryd.ntmps190
 go_upto_region 1 with (fail)
 go_cut [3] (fun v3 wc => ∃ (kq : Nat) (x3_1 : Bool), v3 = .bool x3_1 ∧ Aside0 (impl_charClass.j0 kq a0 x3_1 = some r) ∧ Aside0 (kq ≤ k) ∧ Drawn0 w wc)
 case first =>
  have H := HC2.out; clear HC2; replace H := Option.bind_eq_some_iff.mp H; obtain ⟨t142, A30, H⟩ := H
  try dsimp only at H
  have A3 := Aside0.mk A30; clear A30
  by_cases c4 : t142 = 1
  ·rw [if_pos c4] at H
   have c4b0 : (t142 == 1) = true := beq_iff_eq.mpr c4; have c4b1 : (t142 != 1) = false := bne_eq_false_iff_eq.mpr c4; clear c4
   (first | rw [c4b0] | (simp only [i64_w, i32_w]; rw [c4b0]) | skip)
   have H' := Aside0.mk H; clear H
   go_wp2_with (first | ((with_reducible refine gate_callee (f := 119) rfl ?_); refine goesL_ (some 5) rfl rfl Tryd.func119 (by kernel_rfl) rfl #[.int .i64 a0] rfl (by (try simp only [List.map_toArray, List.map_cons, List.map_nil]); first | done | rfl) ?_; (with_reducible refine (impl_Category.calls a0 t142 _ A3.out).mono ?_); rintro e w' ⟨rfl, ⟨nd, rfl⟩⟩; refine ⟨_, rfl, ?_⟩))
   go_meet
   case rel => exact ⟨_, (true), (by first | rfl | (simp; done) | (simp [*]; done)), H', ⟨by first | omega | exact Nat.le_refl _⟩, by repeat (first | exact Drawn0.refl _ | apply Drawn0.step)⟩
  rw [if_neg c4] at H; have c4b0 : (t142 == 1) = false := beq_eq_false_iff_ne.mpr c4; have c4b1 : (t142 != 1) = true := bne_iff_ne.mpr c4
  (first | rw [c4b0] | (simp only [i64_w, i32_w]; rw [c4b0]) | skip)
  have H' := Aside0.mk H; clear H
  go_wp2_with (first | ((with_reducible refine gate_callee (f := 119) rfl ?_); refine goesL_ (some 5) rfl rfl Tryd.func119 (by kernel_rfl) rfl #[.int .i64 a0] rfl (by (try simp only [List.map_toArray, List.map_cons, List.map_nil]); first | done | rfl) ?_; (with_reducible refine (impl_Category.calls a0 t142 _ A3.out).mono ?_); rintro e w' ⟨rfl, ⟨nd, rfl⟩⟩; refine ⟨_, rfl, ?_⟩))
  go_meet
  case rel => exact ⟨_, ((a0 == 7954)), (by first | rfl | (simp; done) | (simp [*]; done)), H', ⟨by first | omega | exact Nat.le_refl _⟩, by repeat (first | exact Drawn0.refl _ | apply Drawn0.step)⟩
 case rest =>
  clear HC2
  try clear c1; try clear p2; try clear c4; try clear c4b0; try clear c4b1
  obtain ⟨kq, x3_1, rfl, HA, HJ1, ⟨mc1, rfl⟩⟩ := hcut
  cases kq with
  | zero => exact absurd HA.out (by simp [impl_charClass.j0])
  | succ kj1 =>
   have H := HA.out; clear HA; simp only [impl_charClass.j0] at H
   by_cases c5 : x3_1 = true
   ·subst c5
    have H1 : (some 1) = some r := by rw [if_pos rfl] at H; exact H
    clear H; have H := H1; clear H1; obtain rfl := Option.some.inj H
    go_wp2
    go_ret
    exact ⟨by first | rfl | (simp; done) | (simp [*]; done), by repeat (first | exact Drawn0.refl _ | apply Drawn0.step)⟩
   replace c5 := Bool.eq_false_iff.mpr c5; subst c5
   have H1 : ((impl_isMark.f a0).bind fun t143 => (if t143 = true then (impl_charClass.j1 kj1 a0 true) else (if a0 = 7936 then (impl_charClass.j1 kj1 a0 true) else ((impl_in.f a0 7744 7748).bind fun t144 => (impl_charClass.j1 kj1 a0 t144))))) = some r := by rw [if_neg (show ¬ (false = true) by decide)] at H; exact H
   clear H; have H := H1; clear H1; have HC6 := Aside0.mk H; clear H
   go_upto_region 3 with (fail)
   go_cut [11] (fun v11 wc => ∃ (kq : Nat) (x11_5 : Bool), v11 = .bool x11_5 ∧ Aside0 (impl_charClass.j1 kq a0 x11_5 = some r) ∧ Aside0 (kq ≤ kj1) ∧ Drawn0 w wc)
   case first =>
    have H := HC6.out; clear HC6; replace H := Option.bind_eq_some_iff.mp H; obtain ⟨t143, A70, H⟩ := H
    try dsimp only at H
    have A7 := Aside0.mk A70; clear A70
    by_cases c8 : t143 = true
    ·subst c8
     have H1 : (impl_charClass.j1 kj1 a0 true) = some r := by rw [if_pos rfl] at H; exact H
     clear H; have H := H1; clear H1; have H' := Aside0.mk H; clear H
     go_wp2_with (first | ((with_reducible refine gate_callee (f := 118) rfl ?_); refine goesL_ (some 13) rfl rfl Tryd.func118 (by kernel_rfl) rfl #[.int .i64 a0] rfl (by (try simp only [List.map_toArray, List.map_cons, List.map_nil]); first | done | rfl) ?_; (with_reducible refine (impl_isMark.calls a0 true _ A7.out).mono ?_); rintro e w' ⟨rfl, ⟨nd, rfl⟩⟩; refine ⟨_, rfl, ?_⟩))
     go_meet
     case rel => exact ⟨_, (true), (by first | rfl | (simp; done) | (simp [*]; done)), H', ⟨by have := HJ1.out; first | omega | exact Nat.le_refl _⟩, by repeat (first | exact Drawn0.refl _ | apply Drawn0.step)⟩
    replace c8 := Bool.eq_false_iff.mpr c8; subst c8
    have H1 : (if a0 = 7936 then (impl_charClass.j1 kj1 a0 true) else ((impl_in.f a0 7744 7748).bind fun t144 => (impl_charClass.j1 kj1 a0 t144))) = some r := by rw [if_neg (show ¬ (false = true) by decide)] at H; exact H
    clear H; have H := H1; clear H1
    by_cases c9 : a0 = 7936
    ·rw [if_pos c9] at H
     have c9b0 : (a0 == 7936) = true := beq_iff_eq.mpr c9; have c9b1 : (a0 != 7936) = false := bne_eq_false_iff_eq.mpr c9; clear c9
     (first | rw [c9b0] | (simp only [i64_w, i32_w]; rw [c9b0]) | skip)
     have H' := Aside0.mk H; clear H
     go_wp2_with (first | ((with_reducible refine gate_callee (f := 118) rfl ?_); refine goesL_ (some 13) rfl rfl Tryd.func118 (by kernel_rfl) rfl #[.int .i64 a0] rfl (by (try simp only [List.map_toArray, List.map_cons, List.map_nil]); first | done | rfl) ?_; (with_reducible refine (impl_isMark.calls a0 false _ A7.out).mono ?_); rintro e w' ⟨rfl, ⟨nd, rfl⟩⟩; refine ⟨_, rfl, ?_⟩))
     go_meet
     case rel => exact ⟨_, (true), (by first | rfl | (simp; done) | (simp [*]; done)), H', ⟨by have := HJ1.out; first | omega | exact Nat.le_refl _⟩, by repeat (first | exact Drawn0.refl _ | apply Drawn0.step)⟩
    rw [if_neg c9] at H; have c9b0 : (a0 == 7936) = false := beq_eq_false_iff_ne.mpr c9; have c9b1 : (a0 != 7936) = true := bne_iff_ne.mpr c9
    (first | rw [c9b0] | (simp only [i64_w, i32_w]; rw [c9b0]) | skip)
    replace H := Option.bind_eq_some_iff.mp H; obtain ⟨t144, A100, H⟩ := H
    try dsimp only at H
    have A10 := Aside0.mk A100; clear A100; have H' := Aside0.mk H; clear H
    go_wp2_with (first | ((with_reducible refine gate_callee (f := 118) rfl ?_); refine goesL_ (some 13) rfl rfl Tryd.func118 (by kernel_rfl) rfl #[.int .i64 a0] rfl (by (try simp only [List.map_toArray, List.map_cons, List.map_nil]); first | done | rfl) ?_; (with_reducible refine (impl_isMark.calls a0 false _ A7.out).mono ?_); rintro e w' ⟨rfl, ⟨nd, rfl⟩⟩; refine ⟨_, rfl, ?_⟩) | (go_at_call 105; (with_reducible refine (impl_in.calls a0 7744 7748 t144 _ A10.out).mono ?_); rintro e w' ⟨rfl, ⟨nd, rfl⟩⟩))
    go_meet
    case rel => exact ⟨_, (t144), (by first | rfl | (simp; done) | (simp [*]; done)), H', ⟨by have := HJ1.out; first | omega | exact Nat.le_refl _⟩, by repeat (first | exact Drawn0.refl _ | apply Drawn0.step)⟩
   case rest =>
    clear HC6
    try clear c1; try clear p2; try clear c4; try clear c4b0; try clear c4b1; try clear c5; try clear c8; try clear c9; try clear c9b0; try clear c9b1; try clear p2
    obtain ⟨kq, x11_5, rfl, HA, HJ5, ⟨mc5, rfl⟩⟩ := hcut
    cases kq with
    | zero => exact absurd HA.out (by simp [impl_charClass.j1])
    | succ kj5 =>
     have H := HA.out; clear HA; simp only [impl_charClass.j1] at H
     by_cases c11 : x11_5 = true
     ·subst c11
      have H1 : (some 2) = some r := by rw [if_pos rfl] at H; exact H
      clear H; have H := H1; clear H1; obtain rfl := Option.some.inj H
      go_wp2
      go_ret
      exact ⟨by first | rfl | (simp; done) | (simp [*]; done), by repeat (first | exact Drawn0.refl _ | apply Drawn0.step)⟩
     replace c11 := Bool.eq_false_iff.mpr c11; subst c11
     have H1 : ((impl_in.f a0 1792 1810).bind fun t145 => (if t145 = true then (some 3) else ((impl_in.f a0 1824 1844).bind fun t146 => (if t146 = true then (some 4) else ((impl_in.f a0 1857 1883).bind fun t147 => (if t147 = true then (some 5) else ((impl_isOpen.f a0).bind fun t148 => (if t148 = true then (some 6) else ((impl_isSyllable.f a0).bind fun t149 => (if t149 = true then (some 7) else ((impl_isPicture.f a0).bind fun t150 => (if t150 = true then (some 8) else ((impl_in.f a0 7760 7785).bind fun t151 => (if t151 = true then (some 9) else (some 0))))))))))))))) = some r := by rw [if_neg (show ¬ (false = true) by decide)] at H; exact H
     clear H; have H := H1; clear H1; replace H := Option.bind_eq_some_iff.mp H; obtain ⟨t145, A120, H⟩ := H
     try dsimp only at H
     have A12 := Aside0.mk A120; clear A120
     by_cases c13 : t145 = true
     ·subst c13
      have H1 : (some 3) = some r := by rw [if_pos rfl] at H; exact H
      clear H; have H := H1; clear H1; obtain rfl := Option.some.inj H
      go_wp2_with (first | ((with_reducible refine gate_callee (f := 105) rfl ?_); refine goesL_ (some 24) rfl rfl Tryd.func105 (by kernel_rfl) rfl #[.int .i64 a0, .int .i64 1792, .int .i64 1810] rfl (by (try simp only [List.map_toArray, List.map_cons, List.map_nil]); first | done | rfl) ?_; (with_reducible refine (impl_in.calls a0 1792 1810 true _ A12.out).mono ?_); rintro e w' ⟨rfl, ⟨nd, rfl⟩⟩; refine ⟨_, rfl, ?_⟩))
      go_ret
      exact ⟨by first | rfl | (simp; done) | (simp [*]; done), by repeat (first | exact Drawn0.refl _ | apply Drawn0.step)⟩
     replace c13 := Bool.eq_false_iff.mpr c13; subst c13
     have H1 : ((impl_in.f a0 1824 1844).bind fun t146 => (if t146 = true then (some 4) else ((impl_in.f a0 1857 1883).bind fun t147 => (if t147 = true then (some 5) else ((impl_isOpen.f a0).bind fun t148 => (if t148 = true then (some 6) else ((impl_isSyllable.f a0).bind fun t149 => (if t149 = true then (some 7) else ((impl_isPicture.f a0).bind fun t150 => (if t150 = true then (some 8) else ((impl_in.f a0 7760 7785).bind fun t151 => (if t151 = true then (some 9) else (some 0))))))))))))) = some r := by rw [if_neg (show ¬ (false = true) by decide)] at H; exact H
     clear H; have H := H1; clear H1; replace H := Option.bind_eq_some_iff.mp H; obtain ⟨t146, A140, H⟩ := H
     try dsimp only at H
     have A14 := Aside0.mk A140; clear A140
     by_cases c15 : t146 = true
     ·subst c15
      have H1 : (some 4) = some r := by rw [if_pos rfl] at H; exact H
      clear H; have H := H1; clear H1; obtain rfl := Option.some.inj H
      go_wp2_with (first | ((with_reducible refine gate_callee (f := 105) rfl ?_); refine goesL_ (some 24) rfl rfl Tryd.func105 (by kernel_rfl) rfl #[.int .i64 a0, .int .i64 1792, .int .i64 1810] rfl (by (try simp only [List.map_toArray, List.map_cons, List.map_nil]); first | done | rfl) ?_; (with_reducible refine (impl_in.calls a0 1792 1810 false _ A12.out).mono ?_); rintro e w' ⟨rfl, ⟨nd, rfl⟩⟩; refine ⟨_, rfl, ?_⟩) | ((with_reducible refine gate_callee (f := 105) rfl ?_); refine goesL_ (some 27) rfl rfl Tryd.func105 (by kernel_rfl) rfl #[.int .i64 a0, .int .i64 1824, .int .i64 1844] rfl (by (try simp only [List.map_toArray, List.map_cons, List.map_nil]); first | done | rfl) ?_; (with_reducible refine (impl_in.calls a0 1824 1844 true _ A14.out).mono ?_); rintro e w' ⟨rfl, ⟨nd, rfl⟩⟩; refine ⟨_, rfl, ?_⟩))
      go_ret
      exact ⟨by first | rfl | (simp; done) | (simp [*]; done), by repeat (first | exact Drawn0.refl _ | apply Drawn0.step)⟩
     replace c15 := Bool.eq_false_iff.mpr c15; subst c15
     have H1 : ((impl_in.f a0 1857 1883).bind fun t147 => (if t147 = true then (some 5) else ((impl_isOpen.f a0).bind fun t148 => (if t148 = true then (some 6) else ((impl_isSyllable.f a0).bind fun t149 => (if t149 = true then (some 7) else ((impl_isPicture.f a0).bind fun t150 => (if t150 = true then (some 8) else ((impl_in.f a0 7760 7785).bind fun t151 => (if t151 = true then (some 9) else (some 0))))))))))) = some r := by rw [if_neg (show ¬ (false = true) by decide)] at H; exact H
     clear H; have H := H1; clear H1; replace H := Option.bind_eq_some_iff.mp H; obtain ⟨t147, A160, H⟩ := H
     try dsimp only at H
     have A16 := Aside0.mk A160; clear A160
     by_cases c17 : t147 = true
     ·subst c17
      have H1 : (some 5) = some r := by rw [if_pos rfl] at H; exact H
      clear H; have H := H1; clear H1; obtain rfl := Option.some.inj H
      go_wp2_with (first | ((with_reducible refine gate_callee (f := 105) rfl ?_); refine goesL_ (some 24) rfl rfl Tryd.func105 (by kernel_rfl) rfl #[.int .i64 a0, .int .i64 1792, .int .i64 1810] rfl (by (try simp only [List.map_toArray, List.map_cons, List.map_nil]); first | done | rfl) ?_; (with_reducible refine (impl_in.calls a0 1792 1810 false _ A12.out).mono ?_); rintro e w' ⟨rfl, ⟨nd, rfl⟩⟩; refine ⟨_, rfl, ?_⟩) | ((with_reducible refine gate_callee (f := 105) rfl ?_); refine goesL_ (some 27) rfl rfl Tryd.func105 (by kernel_rfl) rfl #[.int .i64 a0, .int .i64 1824, .int .i64 1844] rfl (by (try simp only [List.map_toArray, List.map_cons, List.map_nil]); first | done | rfl) ?_; (with_reducible refine (impl_in.calls a0 1824 1844 false _ A14.out).mono ?_); rintro e w' ⟨rfl, ⟨nd, rfl⟩⟩; refine ⟨_, rfl, ?_⟩) | ((with_reducible refine gate_callee (f := 105) rfl ?_); refine goesL_ (some 30) rfl rfl Tryd.func105 (by kernel_rfl) rfl #[.int .i64 a0, .int .i64 1857, .int .i64 1883] rfl (by (try simp only [List.map_toArray, List.map_cons, List.map_nil]); first | done | rfl) ?_; (with_reducible refine (impl_in.calls a0 1857 1883 true _ A16.out).mono ?_); rintro e w' ⟨rfl, ⟨nd, rfl⟩⟩; refine ⟨_, rfl, ?_⟩))
      go_ret
      exact ⟨by first | rfl | (simp; done) | (simp [*]; done), by repeat (first | exact Drawn0.refl _ | apply Drawn0.step)⟩
     replace c17 := Bool.eq_false_iff.mpr c17; subst c17
     have H1 : ((impl_isOpen.f a0).bind fun t148 => (if t148 = true then (some 6) else ((impl_isSyllable.f a0).bind fun t149 => (if t149 = true then (some 7) else ((impl_isPicture.f a0).bind fun t150 => (if t150 = true then (some 8) else ((impl_in.f a0 7760 7785).bind fun t151 => (if t151 = true then (some 9) else (some 0))))))))) = some r := by rw [if_neg (show ¬ (false = true) by decide)] at H; exact H
     clear H; have H := H1; clear H1; replace H := Option.bind_eq_some_iff.mp H; obtain ⟨t148, A180, H⟩ := H
     try dsimp only at H
     have A18 := Aside0.mk A180; clear A180
     by_cases c19 : t148 = true
     ·subst c19
      have H1 : (some 6) = some r := by rw [if_pos rfl] at H; exact H
      clear H; have H := H1; clear H1; obtain rfl := Option.some.inj H
      go_wp2_with (first | ((with_reducible refine gate_callee (f := 105) rfl ?_); refine goesL_ (some 24) rfl rfl Tryd.func105 (by kernel_rfl) rfl #[.int .i64 a0, .int .i64 1792, .int .i64 1810] rfl (by (try simp only [List.map_toArray, List.map_cons, List.map_nil]); first | done | rfl) ?_; (with_reducible refine (impl_in.calls a0 1792 1810 false _ A12.out).mono ?_); rintro e w' ⟨rfl, ⟨nd, rfl⟩⟩; refine ⟨_, rfl, ?_⟩) | ((with_reducible refine gate_callee (f := 105) rfl ?_); refine goesL_ (some 27) rfl rfl Tryd.func105 (by kernel_rfl) rfl #[.int .i64 a0, .int .i64 1824, .int .i64 1844] rfl (by (try simp only [List.map_toArray, List.map_cons, List.map_nil]); first | done | rfl) ?_; (with_reducible refine (impl_in.calls a0 1824 1844 false _ A14.out).mono ?_); rintro e w' ⟨rfl, ⟨nd, rfl⟩⟩; refine ⟨_, rfl, ?_⟩) | ((with_reducible refine gate_callee (f := 105) rfl ?_); refine goesL_ (some 30) rfl rfl Tryd.func105 (by kernel_rfl) rfl #[.int .i64 a0, .int .i64 1857, .int .i64 1883] rfl (by (try simp only [List.map_toArray, List.map_cons, List.map_nil]); first | done | rfl) ?_; (with_reducible refine (impl_in.calls a0 1857 1883 false _ A16.out).mono ?_); rintro e w' ⟨rfl, ⟨nd, rfl⟩⟩; refine ⟨_, rfl, ?_⟩) | ((with_reducible refine gate_callee (f := 222) rfl ?_); refine goesL_ (some 33) rfl rfl Tryd.func222 (by kernel_rfl) rfl #[.int .i64 a0] rfl (by (try simp only [List.map_toArray, List.map_cons, List.map_nil]); first | done | rfl) ?_; (with_reducible refine (impl_isOpen.calls a0 true _ A18.out).mono ?_); rintro e w' ⟨rfl, ⟨nd, rfl⟩⟩; refine ⟨_, rfl, ?_⟩))
      go_ret
      exact ⟨by first | rfl | (simp; done) | (simp [*]; done), by repeat (first | exact Drawn0.refl _ | apply Drawn0.step)⟩
     replace c19 := Bool.eq_false_iff.mpr c19; subst c19
     have H1 : ((impl_isSyllable.f a0).bind fun t149 => (if t149 = true then (some 7) else ((impl_isPicture.f a0).bind fun t150 => (if t150 = true then (some 8) else ((impl_in.f a0 7760 7785).bind fun t151 => (if t151 = true then (some 9) else (some 0))))))) = some r := by rw [if_neg (show ¬ (false = true) by decide)] at H; exact H
     clear H; have H := H1; clear H1; replace H := Option.bind_eq_some_iff.mp H; obtain ⟨t149, A200, H⟩ := H
     try dsimp only at H
     have A20 := Aside0.mk A200; clear A200
     by_cases c21 : t149 = true
     ·subst c21
      have H1 : (some 7) = some r := by rw [if_pos rfl] at H; exact H
      clear H; have H := H1; clear H1; obtain rfl := Option.some.inj H
      go_wp2_with (first | ((with_reducible refine gate_callee (f := 105) rfl ?_); refine goesL_ (some 24) rfl rfl Tryd.func105 (by kernel_rfl) rfl #[.int .i64 a0, .int .i64 1792, .int .i64 1810] rfl (by (try simp only [List.map_toArray, List.map_cons, List.map_nil]); first | done | rfl) ?_; (with_reducible refine (impl_in.calls a0 1792 1810 false _ A12.out).mono ?_); rintro e w' ⟨rfl, ⟨nd, rfl⟩⟩; refine ⟨_, rfl, ?_⟩) | ((with_reducible refine gate_callee (f := 105) rfl ?_); refine goesL_ (some 27) rfl rfl Tryd.func105 (by kernel_rfl) rfl #[.int .i64 a0, .int .i64 1824, .int .i64 1844] rfl (by (try simp only [List.map_toArray, List.map_cons, List.map_nil]); first | done | rfl) ?_; (with_reducible refine (impl_in.calls a0 1824 1844 false _ A14.out).mono ?_); rintro e w' ⟨rfl, ⟨nd, rfl⟩⟩; refine ⟨_, rfl, ?_⟩) | ((with_reducible refine gate_callee (f := 105) rfl ?_); refine goesL_ (some 30) rfl rfl Tryd.func105 (by kernel_rfl) rfl #[.int .i64 a0, .int .i64 1857, .int .i64 1883] rfl (by (try simp only [List.map_toArray, List.map_cons, List.map_nil]); first | done | rfl) ?_; (with_reducible refine (impl_in.calls a0 1857 1883 false _ A16.out).mono ?_); rintro e w' ⟨rfl, ⟨nd, rfl⟩⟩; refine ⟨_, rfl, ?_⟩) | ((with_reducible refine gate_callee (f := 222) rfl ?_); refine goesL_ (some 33) rfl rfl Tryd.func222 (by kernel_rfl) rfl #[.int .i64 a0] rfl (by (try simp only [List.map_toArray, List.map_cons, List.map_nil]); first | done | rfl) ?_; (with_reducible refine (impl_isOpen.calls a0 false _ A18.out).mono ?_); rintro e w' ⟨rfl, ⟨nd, rfl⟩⟩; refine ⟨_, rfl, ?_⟩) | ((with_reducible refine gate_callee (f := 229) rfl ?_); refine goesL_ (some 36) rfl rfl Tryd.func229 (by kernel_rfl) rfl #[.int .i64 a0] rfl (by (try simp only [List.map_toArray, List.map_cons, List.map_nil]); first | done | rfl) ?_; (with_reducible refine (impl_isSyllable.calls a0 true _ A20.out).mono ?_); rintro e w' ⟨rfl, ⟨nd, rfl⟩⟩; refine ⟨_, rfl, ?_⟩))
      go_ret
      exact ⟨by first | rfl | (simp; done) | (simp [*]; done), by repeat (first | exact Drawn0.refl _ | apply Drawn0.step)⟩
     replace c21 := Bool.eq_false_iff.mpr c21; subst c21
     have H1 : ((impl_isPicture.f a0).bind fun t150 => (if t150 = true then (some 8) else ((impl_in.f a0 7760 7785).bind fun t151 => (if t151 = true then (some 9) else (some 0))))) = some r := by rw [if_neg (show ¬ (false = true) by decide)] at H; exact H
     clear H; have H := H1; clear H1; replace H := Option.bind_eq_some_iff.mp H; obtain ⟨t150, A220, H⟩ := H
     try dsimp only at H
     have A22 := Aside0.mk A220; clear A220
     by_cases c23 : t150 = true
     ·subst c23
      have H1 : (some 8) = some r := by rw [if_pos rfl] at H; exact H
      clear H; have H := H1; clear H1; obtain rfl := Option.some.inj H
      go_wp2_with (first | ((with_reducible refine gate_callee (f := 105) rfl ?_); refine goesL_ (some 24) rfl rfl Tryd.func105 (by kernel_rfl) rfl #[.int .i64 a0, .int .i64 1792, .int .i64 1810] rfl (by (try simp only [List.map_toArray, List.map_cons, List.map_nil]); first | done | rfl) ?_; (with_reducible refine (impl_in.calls a0 1792 1810 false _ A12.out).mono ?_); rintro e w' ⟨rfl, ⟨nd, rfl⟩⟩; refine ⟨_, rfl, ?_⟩) | ((with_reducible refine gate_callee (f := 105) rfl ?_); refine goesL_ (some 27) rfl rfl Tryd.func105 (by kernel_rfl) rfl #[.int .i64 a0, .int .i64 1824, .int .i64 1844] rfl (by (try simp only [List.map_toArray, List.map_cons, List.map_nil]); first | done | rfl) ?_; (with_reducible refine (impl_in.calls a0 1824 1844 false _ A14.out).mono ?_); rintro e w' ⟨rfl, ⟨nd, rfl⟩⟩; refine ⟨_, rfl, ?_⟩) | ((with_reducible refine gate_callee (f := 105) rfl ?_); refine goesL_ (some 30) rfl rfl Tryd.func105 (by kernel_rfl) rfl #[.int .i64 a0, .int .i64 1857, .int .i64 1883] rfl (by (try simp only [List.map_toArray, List.map_cons, List.map_nil]); first | done | rfl) ?_; (with_reducible refine (impl_in.calls a0 1857 1883 false _ A16.out).mono ?_); rintro e w' ⟨rfl, ⟨nd, rfl⟩⟩; refine ⟨_, rfl, ?_⟩) | ((with_reducible refine gate_callee (f := 222) rfl ?_); refine goesL_ (some 33) rfl rfl Tryd.func222 (by kernel_rfl) rfl #[.int .i64 a0] rfl (by (try simp only [List.map_toArray, List.map_cons, List.map_nil]); first | done | rfl) ?_; (with_reducible refine (impl_isOpen.calls a0 false _ A18.out).mono ?_); rintro e w' ⟨rfl, ⟨nd, rfl⟩⟩; refine ⟨_, rfl, ?_⟩) | ((with_reducible refine gate_callee (f := 229) rfl ?_); refine goesL_ (some 36) rfl rfl Tryd.func229 (by kernel_rfl) rfl #[.int .i64 a0] rfl (by (try simp only [List.map_toArray, List.map_cons, List.map_nil]); first | done | rfl) ?_; (with_reducible refine (impl_isSyllable.calls a0 false _ A20.out).mono ?_); rintro e w' ⟨rfl, ⟨nd, rfl⟩⟩; refine ⟨_, rfl, ?_⟩) | ((with_reducible refine gate_callee (f := 230) rfl ?_); refine goesL_ (some 39) rfl rfl Tryd.func230 (by kernel_rfl) rfl #[.int .i64 a0] rfl (by (try simp only [List.map_toArray, List.map_cons, List.map_nil]); first | done | rfl) ?_; (with_reducible refine (impl_isPicture.calls a0 true _ A22.out).mono ?_); rintro e w' ⟨rfl, ⟨nd, rfl⟩⟩; refine ⟨_, rfl, ?_⟩))
      go_ret
      exact ⟨by first | rfl | (simp; done) | (simp [*]; done), by repeat (first | exact Drawn0.refl _ | apply Drawn0.step)⟩
     replace c23 := Bool.eq_false_iff.mpr c23; subst c23
     have H1 : ((impl_in.f a0 7760 7785).bind fun t151 => (if t151 = true then (some 9) else (some 0))) = some r := by rw [if_neg (show ¬ (false = true) by decide)] at H; exact H
     clear H; have H := H1; clear H1; replace H := Option.bind_eq_some_iff.mp H; obtain ⟨t151, A240, H⟩ := H
     try dsimp only at H
     have A24 := Aside0.mk A240; clear A240
     by_cases c25 : t151 = true
     ·subst c25
      have H1 : (some 9) = some r := by rw [if_pos rfl] at H; exact H
      clear H; have H := H1; clear H1; obtain rfl := Option.some.inj H
      go_wp2_with (first | ((with_reducible refine gate_callee (f := 105) rfl ?_); refine goesL_ (some 24) rfl rfl Tryd.func105 (by kernel_rfl) rfl #[.int .i64 a0, .int .i64 1792, .int .i64 1810] rfl (by (try simp only [List.map_toArray, List.map_cons, List.map_nil]); first | done | rfl) ?_; (with_reducible refine (impl_in.calls a0 1792 1810 false _ A12.out).mono ?_); rintro e w' ⟨rfl, ⟨nd, rfl⟩⟩; refine ⟨_, rfl, ?_⟩) | ((with_reducible refine gate_callee (f := 105) rfl ?_); refine goesL_ (some 27) rfl rfl Tryd.func105 (by kernel_rfl) rfl #[.int .i64 a0, .int .i64 1824, .int .i64 1844] rfl (by (try simp only [List.map_toArray, List.map_cons, List.map_nil]); first | done | rfl) ?_; (with_reducible refine (impl_in.calls a0 1824 1844 false _ A14.out).mono ?_); rintro e w' ⟨rfl, ⟨nd, rfl⟩⟩; refine ⟨_, rfl, ?_⟩) | ((with_reducible refine gate_callee (f := 105) rfl ?_); refine goesL_ (some 30) rfl rfl Tryd.func105 (by kernel_rfl) rfl #[.int .i64 a0, .int .i64 1857, .int .i64 1883] rfl (by (try simp only [List.map_toArray, List.map_cons, List.map_nil]); first | done | rfl) ?_; (with_reducible refine (impl_in.calls a0 1857 1883 false _ A16.out).mono ?_); rintro e w' ⟨rfl, ⟨nd, rfl⟩⟩; refine ⟨_, rfl, ?_⟩) | ((with_reducible refine gate_callee (f := 222) rfl ?_); refine goesL_ (some 33) rfl rfl Tryd.func222 (by kernel_rfl) rfl #[.int .i64 a0] rfl (by (try simp only [List.map_toArray, List.map_cons, List.map_nil]); first | done | rfl) ?_; (with_reducible refine (impl_isOpen.calls a0 false _ A18.out).mono ?_); rintro e w' ⟨rfl, ⟨nd, rfl⟩⟩; refine ⟨_, rfl, ?_⟩) | ((with_reducible refine gate_callee (f := 229) rfl ?_); refine goesL_ (some 36) rfl rfl Tryd.func229 (by kernel_rfl) rfl #[.int .i64 a0] rfl (by (try simp only [List.map_toArray, List.map_cons, List.map_nil]); first | done | rfl) ?_; (with_reducible refine (impl_isSyllable.calls a0 false _ A20.out).mono ?_); rintro e w' ⟨rfl, ⟨nd, rfl⟩⟩; refine ⟨_, rfl, ?_⟩) | ((with_reducible refine gate_callee (f := 230) rfl ?_); refine goesL_ (some 39) rfl rfl Tryd.func230 (by kernel_rfl) rfl #[.int .i64 a0] rfl (by (try simp only [List.map_toArray, List.map_cons, List.map_nil]); first | done | rfl) ?_; (with_reducible refine (impl_isPicture.calls a0 false _ A22.out).mono ?_); rintro e w' ⟨rfl, ⟨nd, rfl⟩⟩; refine ⟨_, rfl, ?_⟩) | ((with_reducible refine gate_callee (f := 105) rfl ?_); refine goesL_ (some 42) rfl rfl Tryd.func105 (by kernel_rfl) rfl #[.int .i64 a0, .int .i64 7760, .int .i64 7785] rfl (by (try simp only [List.map_toArray, List.map_cons, List.map_nil]); first | done | rfl) ?_; (with_reducible refine (impl_in.calls a0 7760 7785 true _ A24.out).mono ?_); rintro e w' ⟨rfl, ⟨nd, rfl⟩⟩; refine ⟨_, rfl, ?_⟩))
      go_ret
      exact ⟨by first | rfl | (simp; done) | (simp [*]; done), by repeat (first | exact Drawn0.refl _ | apply Drawn0.step)⟩
     replace c25 := Bool.eq_false_iff.mpr c25; subst c25
     have H1 : (some 0) = some r := by rw [if_neg (show ¬ (false = true) by decide)] at H; exact H
     clear H; have H := H1; clear H1; obtain rfl := Option.some.inj H
     go_wp2_with (first | ((with_reducible refine gate_callee (f := 105) rfl ?_); refine goesL_ (some 24) rfl rfl Tryd.func105 (by kernel_rfl) rfl #[.int .i64 a0, .int .i64 1792, .int .i64 1810] rfl (by (try simp only [List.map_toArray, List.map_cons, List.map_nil]); first | done | rfl) ?_; (with_reducible refine (impl_in.calls a0 1792 1810 false _ A12.out).mono ?_); rintro e w' ⟨rfl, ⟨nd, rfl⟩⟩; refine ⟨_, rfl, ?_⟩) | ((with_reducible refine gate_callee (f := 105) rfl ?_); refine goesL_ (some 27) rfl rfl Tryd.func105 (by kernel_rfl) rfl #[.int .i64 a0, .int .i64 1824, .int .i64 1844] rfl (by (try simp only [List.map_toArray, List.map_cons, List.map_nil]); first | done | rfl) ?_; (with_reducible refine (impl_in.calls a0 1824 1844 false _ A14.out).mono ?_); rintro e w' ⟨rfl, ⟨nd, rfl⟩⟩; refine ⟨_, rfl, ?_⟩) | ((with_reducible refine gate_callee (f := 105) rfl ?_); refine goesL_ (some 30) rfl rfl Tryd.func105 (by kernel_rfl) rfl #[.int .i64 a0, .int .i64 1857, .int .i64 1883] rfl (by (try simp only [List.map_toArray, List.map_cons, List.map_nil]); first | done | rfl) ?_; (with_reducible refine (impl_in.calls a0 1857 1883 false _ A16.out).mono ?_); rintro e w' ⟨rfl, ⟨nd, rfl⟩⟩; refine ⟨_, rfl, ?_⟩) | ((with_reducible refine gate_callee (f := 222) rfl ?_); refine goesL_ (some 33) rfl rfl Tryd.func222 (by kernel_rfl) rfl #[.int .i64 a0] rfl (by (try simp only [List.map_toArray, List.map_cons, List.map_nil]); first | done | rfl) ?_; (with_reducible refine (impl_isOpen.calls a0 false _ A18.out).mono ?_); rintro e w' ⟨rfl, ⟨nd, rfl⟩⟩; refine ⟨_, rfl, ?_⟩) | ((with_reducible refine gate_callee (f := 229) rfl ?_); refine goesL_ (some 36) rfl rfl Tryd.func229 (by kernel_rfl) rfl #[.int .i64 a0] rfl (by (try simp only [List.map_toArray, List.map_cons, List.map_nil]); first | done | rfl) ?_; (with_reducible refine (impl_isSyllable.calls a0 false _ A20.out).mono ?_); rintro e w' ⟨rfl, ⟨nd, rfl⟩⟩; refine ⟨_, rfl, ?_⟩) | ((with_reducible refine gate_callee (f := 230) rfl ?_); refine goesL_ (some 39) rfl rfl Tryd.func230 (by kernel_rfl) rfl #[.int .i64 a0] rfl (by (try simp only [List.map_toArray, List.map_cons, List.map_nil]); first | done | rfl) ?_; (with_reducible refine (impl_isPicture.calls a0 false _ A22.out).mono ?_); rintro e w' ⟨rfl, ⟨nd, rfl⟩⟩; refine ⟨_, rfl, ?_⟩) | ((with_reducible refine gate_callee (f := 105) rfl ?_); refine goesL_ (some 42) rfl rfl Tryd.func105 (by kernel_rfl) rfl #[.int .i64 a0, .int .i64 7760, .int .i64 7785] rfl (by (try simp only [List.map_toArray, List.map_cons, List.map_nil]); first | done | rfl) ?_; (with_reducible refine (impl_in.calls a0 7760 7785 false _ A24.out).mono ?_); rintro e w' ⟨rfl, ⟨nd, rfl⟩⟩; refine ⟨_, rfl, ?_⟩))
     go_ret
     exact ⟨by first | rfl | (simp; done) | (simp [*]; done), by repeat (first | exact Drawn0.refl _ | apply Drawn0.step)⟩

def W_impl_charClass.f (p : Int) : Option Int := if 0 ≤ p ∧ p ≤ 1114111 then some (YtiabgmddnddeiaaDoorChr.cc p) else none
theorem impl_charClass.in_ (a b c : Int) : impl_in.f a b c = some (decide (b ≤ a ∧ a ≤ c)) := by
  unfold impl_in.f
  by_cases h : b ≤ a
  · rw [if_pos (show a ≥ b from h)]; congr 1; exact decide_eq_decide.2 ⟨fun z => ⟨h, z⟩, fun z => z.2⟩
  · rw [if_neg (show ¬ a ≥ b from h), decide_eq_false (fun z => h z.1)]
theorem impl_charClass.open_ {p : Int} (h0 : 0 ≤ p) (h1 : p ≤ 1114111) : impl_isOpen.f p = some (decide ((12288 ≤ p ∧ p ≤ 23459) ∧ (p - 12288) % 28 = 0)) := by
  unfold impl_isOpen.f impl_isSyllable.f
  rw [impl_charClass.in_]
  simp only [Option.bind_some]
  by_cases h : 12288 ≤ p ∧ p ≤ 23459
  · rw [decide_eq_true h, if_pos rfl]
    have hw : wrap64 (p - 12288) = p - 12288 := by unfold wrap64; omega
    rw [hw, Int.tmod_eq_emod_of_nonneg (by omega)]
    congr 1
    by_cases g : (p - 12288) % 28 = 0
    · rw [g, decide_eq_true ⟨h, rfl⟩]; rfl
    · rw [decide_eq_false (fun z => g z.2)]; simpa using g
  · rw [decide_eq_false h, if_neg (by decide), decide_eq_false (fun z => h z.1)]
theorem W_impl_charClass.to {p r : Int} (h : W_impl_charClass.f p = some r) : ∃ k, impl_charClass.f k p = some r := by
  unfold W_impl_charClass.f at h
  split at h
  · rename_i hp
    refine ⟨3, ?_⟩
    rw [← h]
    have hc : impl_Category.f p = some (YtiabgmddnddeiaaDoorCas.kind p).1 := rfl
    have j1t : ∀ k, impl_charClass.j1 (k + 1) p true = some 2 := fun k => by simp only [impl_charClass.j1]; rw [if_pos trivial]
    unfold impl_charClass.f YtiabgmddnddeiaaDoorChr.cc
    rw [hc]
    simp only [Option.bind_some]
    by_cases a : (YtiabgmddnddeiaaDoorCas.kind p).1 = 1
    · rw [if_pos a, if_pos (.inl a)]; simp only [impl_charClass.j0]; rw [if_pos trivial]
    rw [if_neg a]
    by_cases b : p = 7954
    · rw [show (p == 7954) = true by simpa using b, if_pos (.inr b)]; simp only [impl_charClass.j0]; rw [if_pos trivial]
    rw [show (p == 7954) = false by simpa using b, if_neg (fun z => z.elim a b)]
    simp only [impl_charClass.j0]
    rw [if_neg (by decide)]
    unfold impl_isMark.f
    rw [hc]
    simp only [Option.bind_some]
    by_cases c : (YtiabgmddnddeiaaDoorCas.kind p).1 = 3
    · rw [show ((YtiabgmddnddeiaaDoorCas.kind p).1 == 3) = true by simpa using c, if_pos rfl, j1t, if_pos (.inl c)]
    rw [show ((YtiabgmddnddeiaaDoorCas.kind p).1 == 3) = false by simpa using c, if_neg (by decide)]
    by_cases d : p = 7936
    · rw [if_pos d, j1t, if_pos (.inr (.inl d))]
    rw [if_neg d, impl_charClass.in_]
    simp only [Option.bind_some]
    by_cases e : 7744 ≤ p ∧ p ≤ 7748
    · rw [decide_eq_true e, j1t, if_pos (.inr (.inr e))]
    rw [decide_eq_false e, if_neg (fun z => z.elim c (fun z => z.elim d e))]
    simp only [impl_charClass.j1, impl_charClass.in_, Option.bind_some]
    rw [if_neg (by decide)]
    simp only [decide_eq_true_eq]
    rw [impl_charClass.open_ hp.1 hp.2]
    simp only [Option.bind_some, decide_eq_true_eq]
    unfold impl_isSyllable.f impl_isPicture.f
    simp only [impl_charClass.in_, Option.bind_some, decide_eq_true_eq]
    repeat' split
    all_goals rfl
  · cases h
theorem W_impl_charClass.calls (a0 : Int) (r : Int) (w : World) (h : W_impl_charClass.f a0 = some r) :
    Calls Tryd.prog 190 #[.int .i64 a0] w fun e w' => e = .returned (.int .i64 r) ∧ Drawn0 w w' := by
  obtain ⟨k, hk⟩ := W_impl_charClass.to h
  exact impl_charClass.calls k a0 r w hk

end Go.Proofs.YtiabgmddnddeiaaDoor.QFnChars
