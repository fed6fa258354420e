/- The law FnExactTitle: at every input the call answers true (this text: contracts on its way, by a program of this session's; no condition of ours). -/
import Derived.Test.YtnonijganceneaaDoorQFnExactTitlex0
import Derived.Test.YtnonijganceneaaDoorQFnExactTitlex3
import Derived.Test.YtnonijganceneaaDoorQFnExactTitlex5
namespace Go.Proofs.YtnonijganceneaaDoor.QFnExactTitle
open Go.RowKit Go.Proofs.YtnonijganceneaaDoorW.PrintWords Go.Proofs.YtnonijganceneaaDoorW.PrintLast Go.Proofs.YtnonijganceneaaDoorW.PrintMore
attribute [local go_sem] max2_int min2_int max_two min_two max_three min_three max_four min_four   -- for this text's walks alone
set_option linter.unusedVariables false
set_option linter.unusedSimpArgs false

/-! ### spec_l06Three: function 202 (by hand) -/
def spec_l06Three.g (p : Int) : Int × Int × Int × Bool :=
  if 65 ≤ p ∧ p ≤ 90 then (p, p, p + 32, true)
  else if 97 ≤ p ∧ p ≤ 122 then (p - 32, p - 32, p, true)
  else if 8192 ≤ p ∧ p < 9728 ∧ p % 512 < 416 then (if 208 ≤ p % 512 then (p - 208, p - 208, p, true) else (p, p, p + 208, true))
  else if p < 512 ∨ 1280 ≤ p then (0, 0, 0, false)
  else if p % 256 < 64 then (p - p % 256 + p % 32, p - p % 256 + p % 32, p - p % 256 + p % 32 + 32, true)
  else if p % 256 < 76 then (p - p % 256 + 64 + p % 4, p - p % 256 + 64 + p % 4 + 4, p - p % 256 + 64 + p % 4 + 8, true)
  else (0, 0, 0, false)
def spec_l06Three.Post (p : Int) (w : World) (e : Ending) (w' : World) : Prop :=
  e = .returned (.tuple #[.agg #[.int .i64 (spec_l06Three.g p).1, .int .i64 (spec_l06Three.g p).2.1, .int .i64 (spec_l06Three.g p).2.2.1], .bool (spec_l06Three.g p).2.2.2]) ∧ Below w.heap.size w w'
theorem spec_l06Three.post {p a b c : Int} {d : Bool} {w w' : World} (h : spec_l06Three.g p = (a, b, c, d)) (hb : Below w.heap.size w w') :
    spec_l06Three.Post p w (.returned (.tuple #[.agg #[.int .i64 a, .int .i64 b, .int .i64 c], .bool d])) w' := by
  unfold spec_l06Three.Post; rw [h]; exact ⟨rfl, hb⟩
set_option maxHeartbeats 1000000 in
set_option maxRecDepth 100000 in
theorem spec_l06Three.calls (p : Int) (w : World) (h0 : 0 ≤ p) (h1 : p ≤ 1114111) :
    Calls Tryd.prog 202 #[.int .i64 p] w (spec_l06Three.Post p w) := by
  go_enter Tryd.func202, Tryd.ntmps202
  go_wp2
  all_goals
    refine bodyPost_ret (by simp [results, Tryd.results202, go_sem]; exact ⟨⟨rfl, rfl, rfl⟩, rfl⟩) rfl (spec_l06Three.post ?_ (by repeat (first | exact Below.refl _ _ | refine Below.setCell ?_ (by simp) _ | refine Below.alloc ?_ (by simp) _)))
    unfold spec_l06Three.g
    repeat (first | rw [if_pos (by omega)] | rw [if_neg (by omega)])
    try (simp only [Prod.mk.injEq, and_true, true_and]; omega)
theorem spec_l06Three.at_ {p a b c : Int} {d : Bool} {w w' : World} {e : Ending} (h : spec_l06Three.g p = (a, b, c, d)) (hp : spec_l06Three.Post p w e w') :
    e = .returned (.tuple #[.agg #[.int .i64 a, .int .i64 b, .int .i64 c], .bool d]) ∧ Below w.heap.size w w' := by
  unfold spec_l06Three.Post at hp; rw [h] at hp; exact hp

/-! ### spec_l06Lower: function 201 (by hand) -/
def spec_l06Lower.g (p : Int) : Int := if 9728 ≤ p ∧ p ≤ 9753 then p - 9728 + 97 else if (spec_l06Three.g p).2.2.2 = true then (spec_l06Three.g p).2.2.1 else p
def spec_l06Lower.f (a0 : Int) : Option Int := if 0 ≤ a0 ∧ a0 ≤ 1114111 then some (spec_l06Lower.g a0) else none
set_option maxHeartbeats 1000000 in
set_option maxRecDepth 100000 in
theorem spec_l06Lower.calls (a0 : Int) (r : Int) (w : World) (h : spec_l06Lower.f a0 = some r) :
    Calls Tryd.prog 201 #[.int .i64 a0] w fun e w' => e = .returned (.int .i64 r) ∧ Below w.heap.size w w' := by
  unfold spec_l06Lower.f at h
  split at h
  · rename_i hp
    obtain ⟨h0, h1⟩ := hp
    obtain rfl := Option.some.inj h
    clear h
    by_cases hc : 9728 ≤ a0 ∧ a0 ≤ 9753
    · have hr : spec_l06Lower.g a0 = a0 - 9728 + 97 := if_pos hc
      rw [hr]; clear hr
      obtain ⟨hc1, hc2⟩ := hc
      go_enter Tryd.func201, Tryd.ntmps201
      go_wp2
      go_ret
      exact ⟨rfl, Below.refl _ _⟩
    · obtain ⟨a, b, c, d, hq⟩ : ∃ a b c d, spec_l06Three.g a0 = (a, b, c, d) := ⟨_, _, _, _, rfl⟩
      have hr : spec_l06Lower.g a0 = if d = true then c else a0 := by unfold spec_l06Lower.g; rw [if_neg hc, hq]
      have HC := fun W => (spec_l06Three.calls a0 W h0 h1).mono (fun e w' h => spec_l06Three.at_ hq h)
      rw [hr]; clear hr hq
      have hc' : a0 < 9728 ∨ 9753 < a0 := by omega
      clear hc
      cases d with
      | true =>
        rw [if_pos rfl]
        rcases hc' with hc' | hc'
        · go_enter Tryd.func201, Tryd.ntmps201
          go_wp2_with (go_at_call 202; refine (HC _).mono ?_; rintro e w1 ⟨rfl, hb⟩)
          go_ret
          exact ⟨rfl, Below.alloc hb (by have := hb.size; omega) _⟩
        · go_enter Tryd.func201, Tryd.ntmps201
          go_wp2_with (go_at_call 202; refine (HC _).mono ?_; rintro e w1 ⟨rfl, hb⟩)
          go_ret
          exact ⟨rfl, Below.alloc hb (by have := hb.size; omega) _⟩
      | false =>
        rw [if_neg (by decide)]
        rcases hc' with hc' | hc'
        · go_enter Tryd.func201, Tryd.ntmps201
          go_wp2_with (go_at_call 202; refine (HC _).mono ?_; rintro e w1 ⟨rfl, hb⟩)
          go_ret
          exact ⟨rfl, Below.alloc hb (by have := hb.size; omega) _⟩
        · go_enter Tryd.func201, Tryd.ntmps201
          go_wp2_with (go_at_call 202; refine (HC _).mono ?_; rintro e w1 ⟨rfl, hb⟩)
          go_ret
          exact ⟨rfl, Below.alloc hb (by have := hb.size; omega) _⟩
  · cases h

/-! ### spec_l06LowerAt: function 144 -/
def spec_l06LowerAt.f (l0 : List Int) (a1 : Int) : Option (Int) := if 0 ≤ a1 then (if a1 < (l0.length : Int) then ((spec_l06Block.f (rd l0 a1)).bind fun t169 => (if t169 > 0 then (if (rd l0 a1) = (wrap64 (t169 + 18)) then ((W_spec_l06Ends.f l0 a1).bind fun t170 => (if t170 = true then (some (wrap64 (t169 + 97))) else ((spec_l06Lower.f (rd l0 a1)).bind fun t171 => (some t171)))) else ((spec_l06Lower.f (rd l0 a1)).bind fun t172 => (some t172))) else ((spec_l06Lower.f (rd l0 a1)).bind fun t173 => (some t173)))) else (none)) else (none)
set_option maxHeartbeats 8000000 in
set_option maxRecDepth 100000 in
theorem spec_l06LowerAt.calls (A0 : Option Addr) (c0 : Nat) (l0 : List Int) (a1 : Int) (r : Int) (w : World) (hr0 : Kd.C (Kd.int .i64) w A0 l0.length l0) (hc0 : l0.length ≤ c0) (h : spec_l06LowerAt.f l0 a1 = some r) :
    Calls Tryd.prog 144 #[.slice A0 l0.length c0, .int .i64 a1] w fun e w' => e = .returned (.int .i64 r) ∧ Below w.heap.size w w' := by
  have HR0 := Aside0.mk hr0
  have HC0 := Aside0.mk hc0
  clear hr0 hc0
  have HB := Aside0.mk (Below.refl w.heap.size w)
  have H : (if 0 ≤ a1 then (if a1 < (l0.length : Int) then ((spec_l06Block.f (rd l0 a1)).bind fun t169 => (if t169 > 0 then (if (rd l0 a1) = (wrap64 (t169 + 18)) then ((W_spec_l06Ends.f l0 a1).bind fun t170 => (if t170 = true then (some (wrap64 (t169 + 97))) else ((spec_l06Lower.f (rd l0 a1)).bind fun t171 => (some t171)))) else ((spec_l06Lower.f (rd l0 a1)).bind fun t172 => (some t172))) else ((spec_l06Lower.f (rd l0 a1)).bind fun t173 => (some t173)))) else (none)) else (none)) = some r := h
  clear h
  by_cases c3 : 0 ≤ a1
  · rw [if_pos c3] at H
    have c3b0 : decide (0 ≤ a1) = true := decide_eq_true c3
    clear c3
    by_cases c4 : a1 < (l0.length : Int)
    · rw [if_pos c4] at H
      have c4b0 : decide (a1 < (l0.length : Int)) = true := decide_eq_true c4
      clear c4
      replace H := Option.bind_eq_some_iff.mp H
      obtain ⟨t169, A50, H⟩ := H
      replace H : (if t169 > 0 then (if (rd l0 a1) = (wrap64 (t169 + 18)) then ((W_spec_l06Ends.f l0 a1).bind fun t170 => (if t170 = true then (some (wrap64 (t169 + 97))) else ((spec_l06Lower.f (rd l0 a1)).bind fun t171 => (some t171)))) else ((spec_l06Lower.f (rd l0 a1)).bind fun t172 => (some t172))) else ((spec_l06Lower.f (rd l0 a1)).bind fun t173 => (some t173))) = some r := H
      have A5 := Aside0.mk A50
      clear A50
      by_cases c6 : t169 > 0
      · rw [if_pos c6] at H
        have c6b0 : decide (0 < t169) = true := decide_eq_true c6
        clear c6
        by_cases c7 : (rd l0 a1) = (wrap64 (t169 + 18))
        · rw [if_pos c7] at H
          have c7b0 : ((rd l0 a1) == (wrap64 (t169 + 18))) = true := beq_iff_eq.mpr c7
          have c7b1 : ((rd l0 a1) != (wrap64 (t169 + 18))) = false := bne_eq_false_iff_eq.mpr c7
          clear c7
          replace H := Option.bind_eq_some_iff.mp H
          obtain ⟨t170, A80, H⟩ := H
          replace H : (if t170 = true then (some (wrap64 (t169 + 97))) else ((spec_l06Lower.f (rd l0 a1)).bind fun t171 => (some t171))) = some r := H
          have A8 := Aside0.mk A80
          clear A80
          by_cases c9 : t170 = true
          · subst c9
            have H1 : (some (wrap64 (t169 + 97))) = some r := by rw [if_pos rfl] at H; exact H
            clear H
            have H := H1
            clear H1
            obtain rfl := Option.some.inj H
            have p168 : 0 ≤ (a1 : Int) := of_decide_eq_true (by first | (with_reducible assumption) | assumption)
            have q168 : a1 < (l0.length : Int) := of_decide_eq_true (by first | (with_reducible assumption) | assumption)
            obtain ⟨ad168, e168, hx168_0⟩ := Kd.at_int HR0.out a1 p168 q168
            cases e168
            replace p168 := eq_true p168
            replace q168 := eq_true q168
            go_enter Tryd.func144, Tryd.ntmps144
            go_wp2_with (first | ((with_reducible refine gate_callee (f := 199) rfl ?_); refine goesL_ (some 12) rfl rfl Tryd.func199 (by kernel_rfl) rfl #[.int .i64 (rd l0 a1)] rfl (by (try simp only [List.map_toArray, List.map_cons, List.map_nil]); first | done | rfl | (simp only [List.length_drop, List.length_take]; rfl)) ?_; (with_reducible refine (spec_l06Block.calls (rd l0 a1) t169 _ A5.out).mono ?_); rintro e w' ⟨rfl, ⟨nd, rfl⟩⟩; refine ⟨_, rfl, ?_⟩) | (go_at_call 200; (with_reducible refine (W_spec_l06Ends.calls _ _ l0 a1 true _ ?side1 ?side2 A8.out).mono ?_); (case side1 => repeat (first | exact HR0.out | (with_reducible refine Kd.C_alloc ?_ _) | (with_reducible refine Kd.C_drewN ?_ _) | (with_reducible refine Kd.C_drew ?_))); (case side2 => exact HC0.out); rintro e w10 ⟨rfl, hb⟩; have n0_ := Aside0.mk (below_step (by repeat (first | (with_reducible first | exact HB.out | apply below_alloc | apply pw_below_drewN | apply below_drew1) | exact HB.out)) hb); clear HB; have HB := n0_; clear n0_; (try clear hb); (try clear hb2); (try clear hk); (try clear hi)))
            go_ret
            exact ⟨by first | rfl | (simp [errW_none, errW_some] <;> rfl) | (simp [*, errW_none, errW_some] <;> rfl), by repeat (first | (with_reducible first | exact HB.out | apply below_alloc | apply pw_below_drewN | apply below_drew1) | exact HB.out)⟩
          · replace c9 := Bool.eq_false_iff.mpr c9
            subst c9
            have H1 : ((spec_l06Lower.f (rd l0 a1)).bind fun t171 => (some t171)) = some r := by rw [if_neg (show ¬ (false = true) by decide)] at H; exact H
            clear H
            have H := H1
            clear H1
            replace H := Option.bind_eq_some_iff.mp H
            obtain ⟨t171, A110, H⟩ := H
            replace H : (some t171) = some r := H
            have A11 := Aside0.mk A110
            clear A110
            obtain rfl := Option.some.inj H
            have p168 : 0 ≤ (a1 : Int) := of_decide_eq_true (by first | (with_reducible assumption) | assumption)
            have q168 : a1 < (l0.length : Int) := of_decide_eq_true (by first | (with_reducible assumption) | assumption)
            obtain ⟨ad168, e168, hx168_0⟩ := Kd.at_int HR0.out a1 p168 q168
            cases e168
            replace p168 := eq_true p168
            replace q168 := eq_true q168
            go_enter Tryd.func144, Tryd.ntmps144
            go_wp2_with (first | ((with_reducible refine gate_callee (f := 199) rfl ?_); refine goesL_ (some 12) rfl rfl Tryd.func199 (by kernel_rfl) rfl #[.int .i64 (rd l0 a1)] rfl (by (try simp only [List.map_toArray, List.map_cons, List.map_nil]); first | done | rfl | (simp only [List.length_drop, List.length_take]; rfl)) ?_; (with_reducible refine (spec_l06Block.calls (rd l0 a1) t169 _ A5.out).mono ?_); rintro e w' ⟨rfl, ⟨nd, rfl⟩⟩; refine ⟨_, rfl, ?_⟩) | (go_at_call 200; (with_reducible refine (W_spec_l06Ends.calls _ _ l0 a1 false _ ?side1 ?side2 A8.out).mono ?_); (case side1 => repeat (first | exact HR0.out | (with_reducible refine Kd.C_alloc ?_ _) | (with_reducible refine Kd.C_drewN ?_ _) | (with_reducible refine Kd.C_drew ?_))); (case side2 => exact HC0.out); rintro e w12 ⟨rfl, hb⟩; have n0_ := Aside0.mk (below_step (by repeat (first | (with_reducible first | exact HB.out | apply below_alloc | apply pw_below_drewN | apply below_drew1) | exact HB.out)) hb); clear HB; have HB := n0_; clear n0_; (try clear hb); (try clear hb2); (try clear hk); (try clear hi)) | ((with_reducible refine gate_callee (f := 201) rfl ?_); refine goesL_ (some 29) rfl rfl Tryd.func201 (by kernel_rfl) rfl #[.int .i64 (rd l0 a1)] rfl (by (try simp only [List.map_toArray, List.map_cons, List.map_nil]); first | done | rfl | (simp only [List.length_drop, List.length_take]; rfl)) ?_; (with_reducible refine (spec_l06Lower.calls (rd l0 a1) t171 _ A11.out).mono ?_); rintro e w13 ⟨rfl, hb⟩; refine ⟨_, rfl, ?_⟩; have n0_ := Aside0.mk (below_step (by repeat (first | (with_reducible first | exact HB.out | apply below_alloc | apply pw_below_drewN | apply below_drew1) | exact HB.out)) hb); clear HB; have HB := n0_; clear n0_; (try clear hb); (try clear hb2); (try clear hk); (try clear hi)))
            go_ret
            exact ⟨by first | rfl | (simp [errW_none, errW_some] <;> rfl) | (simp [*, errW_none, errW_some] <;> rfl), by repeat (first | (with_reducible first | exact HB.out | apply below_alloc | apply pw_below_drewN | apply below_drew1) | exact HB.out)⟩
        · rw [if_neg c7] at H
          have c7b0 : ((rd l0 a1) == (wrap64 (t169 + 18))) = false := beq_eq_false_iff_ne.mpr c7
          have c7b1 : ((rd l0 a1) != (wrap64 (t169 + 18))) = true := bne_iff_ne.mpr c7
          replace H := Option.bind_eq_some_iff.mp H
          obtain ⟨t172, A140, H⟩ := H
          replace H : (some t172) = some r := H
          have A14 := Aside0.mk A140
          clear A140
          obtain rfl := Option.some.inj H
          have p168 : 0 ≤ (a1 : Int) := of_decide_eq_true (by first | (with_reducible assumption) | assumption)
          have q168 : a1 < (l0.length : Int) := of_decide_eq_true (by first | (with_reducible assumption) | assumption)
          obtain ⟨ad168, e168, hx168_0⟩ := Kd.at_int HR0.out a1 p168 q168
          cases e168
          replace p168 := eq_true p168
          replace q168 := eq_true q168
          go_enter Tryd.func144, Tryd.ntmps144
          go_wp2_with (first | ((with_reducible refine gate_callee (f := 199) rfl ?_); refine goesL_ (some 12) rfl rfl Tryd.func199 (by kernel_rfl) rfl #[.int .i64 (rd l0 a1)] rfl (by (try simp only [List.map_toArray, List.map_cons, List.map_nil]); first | done | rfl | (simp only [List.length_drop, List.length_take]; rfl)) ?_; (with_reducible refine (spec_l06Block.calls (rd l0 a1) t169 _ A5.out).mono ?_); rintro e w' ⟨rfl, ⟨nd, rfl⟩⟩; refine ⟨_, rfl, ?_⟩) | ((with_reducible refine gate_callee (f := 201) rfl ?_); refine goesL_ (some 29) rfl rfl Tryd.func201 (by kernel_rfl) rfl #[.int .i64 (rd l0 a1)] rfl (by (try simp only [List.map_toArray, List.map_cons, List.map_nil]); first | done | rfl | (simp only [List.length_drop, List.length_take]; rfl)) ?_; (with_reducible refine (spec_l06Lower.calls (rd l0 a1) t172 _ A14.out).mono ?_); rintro e w15 ⟨rfl, hb⟩; refine ⟨_, rfl, ?_⟩; have n0_ := Aside0.mk (below_step (by repeat (first | (with_reducible first | exact HB.out | apply below_alloc | apply pw_below_drewN | apply below_drew1) | exact HB.out)) hb); clear HB; have HB := n0_; clear n0_; (try clear hb); (try clear hb2); (try clear hk); (try clear hi)))
          go_ret
          exact ⟨by first | rfl | (simp [errW_none, errW_some] <;> rfl) | (simp [*, errW_none, errW_some] <;> rfl), by repeat (first | (with_reducible first | exact HB.out | apply below_alloc | apply pw_below_drewN | apply below_drew1) | exact HB.out)⟩
      · rw [if_neg c6] at H
        have c6b0 : decide (0 < t169) = false := decide_eq_false c6
        clear c6
        replace H := Option.bind_eq_some_iff.mp H
        obtain ⟨t173, A160, H⟩ := H
        replace H : (some t173) = some r := H
        have A16 := Aside0.mk A160
        clear A160
        obtain rfl := Option.some.inj H
        have p168 : 0 ≤ (a1 : Int) := of_decide_eq_true (by first | (with_reducible assumption) | assumption)
        have q168 : a1 < (l0.length : Int) := of_decide_eq_true (by first | (with_reducible assumption) | assumption)
        obtain ⟨ad168, e168, hx168_0⟩ := Kd.at_int HR0.out a1 p168 q168
        cases e168
        replace p168 := eq_true p168
        replace q168 := eq_true q168
        go_enter Tryd.func144, Tryd.ntmps144
        go_wp2_with (first | ((with_reducible refine gate_callee (f := 199) rfl ?_); refine goesL_ (some 12) rfl rfl Tryd.func199 (by kernel_rfl) rfl #[.int .i64 (rd l0 a1)] rfl (by (try simp only [List.map_toArray, List.map_cons, List.map_nil]); first | done | rfl | (simp only [List.length_drop, List.length_take]; rfl)) ?_; (with_reducible refine (spec_l06Block.calls (rd l0 a1) t169 _ A5.out).mono ?_); rintro e w' ⟨rfl, ⟨nd, rfl⟩⟩; refine ⟨_, rfl, ?_⟩) | ((with_reducible refine gate_callee (f := 201) rfl ?_); refine goesL_ (some 29) rfl rfl Tryd.func201 (by kernel_rfl) rfl #[.int .i64 (rd l0 a1)] rfl (by (try simp only [List.map_toArray, List.map_cons, List.map_nil]); first | done | rfl | (simp only [List.length_drop, List.length_take]; rfl)) ?_; (with_reducible refine (spec_l06Lower.calls (rd l0 a1) t173 _ A16.out).mono ?_); rintro e w17 ⟨rfl, hb⟩; refine ⟨_, rfl, ?_⟩; have n0_ := Aside0.mk (below_step (by repeat (first | (with_reducible first | exact HB.out | apply below_alloc | apply pw_below_drewN | apply below_drew1) | exact HB.out)) hb); clear HB; have HB := n0_; clear n0_; (try clear hb); (try clear hb2); (try clear hk); (try clear hi)))
        go_ret
        exact ⟨by first | rfl | (simp [errW_none, errW_some] <;> rfl) | (simp [*, errW_none, errW_some] <;> rfl), by repeat (first | (with_reducible first | exact HB.out | apply below_alloc | apply pw_below_drewN | apply below_drew1) | exact HB.out)⟩
    · rw [if_neg c4] at H
      exact absurd H (by simp)
  · rw [if_neg c3] at H
    exact absurd H (by simp)

/-! ### spec_l06Up: function 146 (by hand) -/
def spec_l06Up.b (p : Int) : Int := if p < 512 ∨ 1280 ≤ p then 0 else p / 256 * 256
def spec_l06Up.g (p k : Int) : Int := if 0 < spec_l06Up.b p ∧ p = spec_l06Up.b p + 97 then spec_l06Up.b p + 18 else if (spec_l06Three.g p).2.2.2 = true then (if k = 0 then (spec_l06Three.g p).1 else (spec_l06Three.g p).2.1) else p
def spec_l06Up.f (a0 a1 : Int) : Option Int := if 0 ≤ a0 ∧ a0 ≤ 1114111 ∧ (a1 = 0 ∨ a1 = 1) then some (spec_l06Up.g a0 a1) else none
set_option maxHeartbeats 1000000 in
set_option maxRecDepth 100000 in
theorem spec_l06Up.blk (p : Int) (w : World) (h0 : 0 ≤ p) (h1 : p ≤ 1114111) :
    Calls Tryd.prog 199 #[.int .i64 p] w fun e w' => e = .returned (.int .i64 (spec_l06Up.b p)) ∧ w = w' := by
  by_cases hc : p < 512 ∨ 1280 ≤ p
  · have hr : spec_l06Up.b p = 0 := if_pos hc
    rw [hr]; clear hr
    rcases hc with hc | hc
    · go_enter Tryd.func199, Tryd.ntmps199
      go_wp2
      go_ret
      exact ⟨rfl, rfl⟩
    · go_enter Tryd.func199, Tryd.ntmps199
      go_wp2
      go_ret
      exact ⟨rfl, rfl⟩
  · have hr : spec_l06Up.b p = p / 256 * 256 := if_neg hc
    rw [hr]; clear hr
    have hc1 : 512 ≤ p := by omega
    have hc2 : p < 1280 := by omega
    clear hc
    go_enter Tryd.func199, Tryd.ntmps199
    go_wp2
    go_ret
    exact ⟨rfl, rfl⟩
set_option maxHeartbeats 2000000 in
set_option maxRecDepth 100000 in
theorem spec_l06Up.calls (a0 : Int) (a1 : Int) (r : Int) (w : World) (h : spec_l06Up.f a0 a1 = some r) :
    Calls Tryd.prog 146 #[.int .i64 a0, .int .i64 a1] w fun e w' => e = .returned (.int .i64 r) ∧ Below w.heap.size w w' := by
  unfold spec_l06Up.f at h
  split at h
  · rename_i hp
    obtain ⟨h0, h1, h2⟩ := hp
    obtain rfl := Option.some.inj h
    clear h
    obtain ⟨b, hb⟩ : ∃ b, spec_l06Up.b a0 = b := ⟨_, rfl⟩
    have hb0 : 0 ≤ b := by rw [← hb]; unfold spec_l06Up.b; split <;> omega
    have hb1 : b ≤ 1114111 := by rw [← hb]; unfold spec_l06Up.b; split <;> omega
    have HB0 := fun W => (spec_l06Up.blk a0 W h0 h1)
    rw [hb] at HB0
    obtain ⟨x, y, z, d, hq⟩ : ∃ a b c d, spec_l06Three.g a0 = (a, b, c, d) := ⟨_, _, _, _, rfl⟩
    have HC := fun W => (spec_l06Three.calls a0 W h0 h1).mono (fun e w' h => spec_l06Three.at_ hq h)
    have hr : spec_l06Up.g a0 a1 = if 0 < b ∧ a0 = b + 97 then b + 18 else if d = true then (if a1 = 0 then x else y) else a0 := by unfold spec_l06Up.g; rw [hb, hq]
    rw [hr]; clear hr hq hb
    by_cases hc : 0 < b ∧ a0 = b + 97
    · rw [if_pos hc]
      obtain ⟨hc1, hc2⟩ := hc
      have hc3 : (a0 == b + 97) = true := by simpa using hc2
      clear hc2
      rcases h2 with h2 | h2 <;> subst h2
      · go_enter Tryd.func146, Tryd.ntmps146
        go_wp2_with (go_at_call 199; refine (HB0 _).mono ?_; rintro e w1 ⟨rfl, rfl⟩)
        go_ret
        exact ⟨rfl, Below.refl _ _⟩
      · go_enter Tryd.func146, Tryd.ntmps146
        go_wp2_with (go_at_call 199; refine (HB0 _).mono ?_; rintro e w1 ⟨rfl, rfl⟩)
        go_ret
        exact ⟨rfl, Below.refl _ _⟩
    · rw [if_neg hc]
      have hc' : b ≤ 0 ∨ (0 < b ∧ (a0 == b + 97) = false) := by
        by_cases h : 0 < b
        · exact .inr ⟨h, by simpa using fun e => hc ⟨h, e⟩⟩
        · exact .inl (by omega)
      clear hc
      rcases hc' with hc1 | ⟨hc1, hc2⟩ <;> rcases h2 with h2 | h2 <;> subst h2 <;> cases d
      all_goals
        go_enter Tryd.func146, Tryd.ntmps146
        go_wp2_with (first | (go_at_call 199; refine (HB0 _).mono ?_; rintro e w1 ⟨rfl, rfl⟩) | (go_at_call 202; refine (HC _).mono ?_; rintro e w1 ⟨rfl, hb⟩))
        go_ret
        exact ⟨by simp, Below.alloc hb (by have := hb.size; omega) _⟩
  · cases h

end Go.Proofs.YtnonijganceneaaDoor.QFnExactTitle
