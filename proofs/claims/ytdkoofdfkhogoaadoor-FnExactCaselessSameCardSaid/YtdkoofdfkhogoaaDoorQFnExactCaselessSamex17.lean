/- The law FnExactCaselessSame: at every input the call answers true (this text: contracts on its way, by a program of this session's; no condition of ours). -/
import Derived.Test.YtdkoofdfkhogoaaDoorQFnExactCaselessSamex0
import Derived.Test.YtdkoofdfkhogoaaDoorQFnExactCaselessSamex10
import Derived.Test.YtdkoofdfkhogoaaDoorQFnExactCaselessSamex16
namespace Go.Proofs.YtdkoofdfkhogoaaDoor.QFnExactCaselessSame
open Go.RowKit Go.Proofs.YtdkoofdfkhogoaaDoorW.PrintWords Go.Proofs.YtdkoofdfkhogoaaDoorW.PrintLast Go.Proofs.YtdkoofdfkhogoaaDoorW.PrintMore
attribute [local go_sem] max2_int min2_int max_two min_two max_three min_three max_four min_four   -- for this text's walks alone
set_option linter.unusedVariables false
set_option linter.unusedSimpArgs false

/-! ### laws_FnExactCaselessSame: function 11 -/
def laws_FnExactCaselessSame.f (k : Nat) (a0 : ByteArray) (a1 : ByteArray) : Option (Bool) := if (a0.size : Int) > 1048576 then (some true) else (if (a1.size : Int) > 1048576 then (some true) else ((spec_CaselessSame.f k a0 a1).bind fun t365 => ((impl_CaselessSame.f a0 a1).bind fun t366 => (if (t366 != t365) = true then (some false) else (some true)))))
theorem laws_FnExactCaselessSame.mono : ∀ a0 a1 k, LeO (laws_FnExactCaselessSame.f k a0 a1) (laws_FnExactCaselessSame.f (k + 1) a0 a1) := by
  intro a0 a1 k
  unfold laws_FnExactCaselessSame.f
  repeat' first
      | (with_reducible exact spec_CaselessSame.mono _ _ _)
      | (with_reducible exact LeO.refl _)
      | (with_reducible exact LeO.none _)
      | (with_reducible refine LeO.ite ?_ ?_)
      | (with_reducible refine LeO.bind ?_ (fun _ => ?_))
      | exact spec_CaselessSame.mono _ _ _
      | exact LeO.none _
      | refine LeO.ite ?_ ?_
      | refine LeO.bind ?_ (fun _ => ?_)
set_option maxHeartbeats 8000000 in
set_option maxRecDepth 100000 in
theorem laws_FnExactCaselessSame.calls (k : Nat) (a0 : ByteArray) (a1 : ByteArray) (w : World) (h : laws_FnExactCaselessSame.f k a0 a1 = some true) (hG : GT w) :
    Calls Tryd.prog 11 #[.string a0, .string a1] w fun e w' => e = .returned (.bool true) ∧ Below w.heap.size w w' := by
  have HG := Aside0.mk hG
  clear hG
  have HB := Aside0.mk (Below.refl w.heap.size w)
  have H : (if (a0.size : Int) > 1048576 then (some true) else (if (a1.size : Int) > 1048576 then (some true) else ((spec_CaselessSame.f k a0 a1).bind fun t365 => ((impl_CaselessSame.f a0 a1).bind fun t366 => (if (t366 != t365) = true then (some false) else (some true)))))) = some true := h
  clear h
  by_cases c3 : (a0.size : Int) > 1048576
  · rw [if_pos c3] at H
    have c3b0 : decide (1048576 < (a0.size : Int)) = true := decide_eq_true c3
    have c3b1 : decide (1048576 < a0.size) = true := decide_eq_true (by omega)
    clear c3
    go_enter Tryd.func11, Tryd.ntmps11
    go_wp2
    go_ret
    exact ⟨by first | rfl | (simp [errW_none, errW_some] <;> rfl) | (simp [*, errW_none, errW_some] <;> rfl), by repeat (first | (with_reducible first | exact HB.out | apply below_alloc | apply pw_below_drewN | apply below_drew1) | exact HB.out)⟩
  · rw [if_neg c3] at H
    have c3b0 : decide (1048576 < (a0.size : Int)) = false := decide_eq_false c3
    have c3b1 : decide (1048576 < a0.size) = false := decide_eq_false (by omega)
    clear c3
    by_cases c4 : (a1.size : Int) > 1048576
    · rw [if_pos c4] at H
      have c4b0 : decide (1048576 < (a1.size : Int)) = true := decide_eq_true c4
      have c4b1 : decide (1048576 < a1.size) = true := decide_eq_true (by omega)
      clear c4
      go_enter Tryd.func11, Tryd.ntmps11
      go_wp2
      go_ret
      exact ⟨by first | rfl | (simp [errW_none, errW_some] <;> rfl) | (simp [*, errW_none, errW_some] <;> rfl), by repeat (first | (with_reducible first | exact HB.out | apply below_alloc | apply pw_below_drewN | apply below_drew1) | exact HB.out)⟩
    · rw [if_neg c4] at H
      have c4b0 : decide (1048576 < (a1.size : Int)) = false := decide_eq_false c4
      have c4b1 : decide (1048576 < a1.size) = false := decide_eq_false (by omega)
      clear c4
      replace H := Option.bind_eq_some_iff.mp H
      obtain ⟨t365, A50, H⟩ := H
      replace H : ((impl_CaselessSame.f a0 a1).bind fun t366 => (if (t366 != t365) = true then (some false) else (some true))) = some true := H
      have A5 := Aside0.mk A50
      clear A50
      replace H := Option.bind_eq_some_iff.mp H
      obtain ⟨t366, A60, H⟩ := H
      replace H : (if (t366 != t365) = true then (some false) else (some true)) = some true := H
      have A6 := Aside0.mk A60
      clear A60
      by_cases c7 : (t366 != t365) = true
      · rw [if_pos c7] at H
        have c7b0 : (t366 != t365) = true := c7
        (try (have c7b1 : decide (t366 = t365) = false := by simpa using c7))
        (try (have c7b2 : (t366 == t365) = false := by simpa using c7))
        (try (have c7b3 : ¬ (t366 = t365) := by simpa using c7))
        clear c7
        exact absurd (Option.some.inj H) (by decide)
      · rw [if_neg c7] at H
        have c7b0 : (t366 != t365) = false := by simpa using c7
        (try (have c7b1 : decide (t366 = t365) = true := by simpa using c7))
        (try (have c7b2 : (t366 == t365) = true := by simpa using c7))
        clear c7
        go_enter Tryd.func11, Tryd.ntmps11
        go_wp2_with (first | ((with_reducible refine gate_callee (f := 58) rfl ?_); refine goesL_ (some 15) rfl rfl Tryd.func58 (by kernel_rfl) rfl #[.string a0, .string a1] rfl (by (try simp only [List.map_toArray, List.map_cons, List.map_nil]); first | done | rfl | (simp only [List.length_drop, List.length_take]; rfl)) ?_; (with_reducible refine (spec_CaselessSame.calls k a0 a1 t365 _ A5.out).mono ?_); rintro e w10 ⟨rfl, hb⟩; refine ⟨_, rfl, ?_⟩; have n0_ := Aside0.mk (below_step (by repeat (first | (with_reducible first | exact HB.out | apply below_alloc | apply pw_below_drewN | apply below_drew1) | exact HB.out)) hb); clear HB; have HB := n0_; clear n0_; (try clear hb); (try clear hb2); (try clear hk); (try clear hi)) | ((with_reducible refine gate_callee (f := 59) rfl ?_); refine goesL_ (some 18) rfl rfl Tryd.func59 (by kernel_rfl) rfl #[.string a0, .string a1] rfl (by (try simp only [List.map_toArray, List.map_cons, List.map_nil]); first | done | rfl | (simp only [List.length_drop, List.length_take]; rfl)) ?_; (with_reducible refine (impl_CaselessSame.calls a0 a1 t366 _ A6.out (by first | exact HG.out | exact GT.below HG.out (by first | exact HB.out | (repeat (first | (with_reducible first | exact HB.out | apply below_alloc | apply pw_below_drewN | apply below_drew1 | refine below_set ?_ (Aside0.out (by assumption))) | exact HB.out))) | exact GT.below HG.out (HB.out))).mono ?_); rintro e w11 ⟨rfl, hb⟩; refine ⟨_, rfl, ?_⟩; have n0_ := Aside0.mk (below_step (by repeat (first | (with_reducible first | exact HB.out | apply below_alloc | apply pw_below_drewN | apply below_drew1) | exact HB.out)) hb); clear HB; have HB := n0_; clear n0_; (try clear hb); (try clear hb2); (try clear hk); (try clear hi)))
        go_ret
        exact ⟨by first | rfl | (simp [errW_none, errW_some] <;> rfl) | (simp [*, errW_none, errW_some] <;> rfl), by repeat (first | (with_reducible first | exact HB.out | apply below_alloc | apply pw_below_drewN | apply below_drew1) | exact HB.out)⟩

/-- THE ONE PURE STATEMENT of laws_FnExactCaselessSame: yours. -/
def laws_FnExactCaselessSame.Pure : Prop := ∀ (a0 : ByteArray) (a1 : ByteArray), a0.size ≤ 140737488351232 → a1.size ≤ 140737488351232 → ∃ k, laws_FnExactCaselessSame.f k a0 a1 = some true
theorem laws_FnExactCaselessSame.walk (P : laws_FnExactCaselessSame.Pure) (a0 : ByteArray) (a1 : ByteArray) (w : World) (hG : GT w) (w0 : a0.size ≤ 140737488351232) (w1 : a1.size ≤ 140737488351232) :
    Calls Tryd.prog 11 #[.string a0, .string a1] w fun e w' => e = .returned (.bool true) ∧ Below w.heap.size w w' := by
  obtain ⟨k, h⟩ := P a0 a1 w0 w1
  refine (laws_FnExactCaselessSame.calls k a0 a1 w h hG).mono ?_
  rintro e w' ⟨rfl, hd⟩
  exact ⟨rfl, hd⟩

end Go.Proofs.YtdkoofdfkhogoaaDoor.QFnExactCaselessSame
