/- The law FnExactTurnedPasses: at every input the call answers true (this text: contracts on its way, by a program of this session's; no condition of ours). -/
import Derived.Test.YtnonijganceneaaDoorQFnExactTurnedPassesx0
import Derived.Test.YtnonijganceneaaDoorQFnExactTurnedPassesx1
import Derived.Test.YtnonijganceneaaDoorQFnExactTurnedPassesx5
import Derived.Test.YtnonijganceneaaDoorQFnExactTurnedPassesx8
import Derived.Test.YtnonijganceneaaDoorQFnExactTurnedPassesx9
import Derived.Test.YtnonijganceneaaDoorQFnExactTurnedPassesx10
import Derived.Test.YtnonijganceneaaDoorQFnExactTurnedPassesx11
namespace Go.Proofs.YtnonijganceneaaDoor.QFnExactTurnedPasses
open Go.RowKit Go.Proofs.YtnonijganceneaaDoorW.PrintWords Go.Proofs.YtnonijganceneaaDoorW.PrintLast Go.Proofs.YtnonijganceneaaDoorW.PrintMore
attribute [local go_sem] max2_int min2_int max_two min_two max_three min_three max_four min_four   -- for this text's walks alone
set_option linter.unusedVariables false
set_option linter.unusedSimpArgs false

/-! ### laws_heldPassS: function 57 -/
def laws_heldPassS.l0 : Nat → List (S123) → Int → Int → Option (Int)
  | 0, _, _, _ => none
  | k + 1, x0, x1, x5 => if x5 < (x0.length : Int) then (if 0 ≤ x5 then ((laws_heldWriteRuleS.f k ((rd_T123 x0 x5).f0) x1).bind fun t296 => (if t296 < 0 then (some (-1)) else (if ((rd_T123 x0 x5).f1) = t296 then (laws_heldPassS.l0 k x0 (wrap64 (t296 + 1)) (wrap64 (x5 + 1))) else (some (-1))))) else (none)) else (some x1)
def laws_heldPassS.f (k : Nat) (l0 : List (S123)) (a1 : Int) : Option (Int) := laws_heldPassS.l0 k l0 a1 0
theorem laws_heldPassS.mono_l : ∀ k, (∀ y0 y1 y2, LeO (laws_heldPassS.l0 k y0 y1 y2) (laws_heldPassS.l0 (k + 1) y0 y1 y2))
  | 0 => fun _ _ _ r h => by simp [laws_heldPassS.l0] at h
  | k + 1 => by
    have ih0 := laws_heldPassS.mono_l k
    · intro y0 y1 y2
      unfold laws_heldPassS.l0
      repeat' first
      | (with_reducible exact ih0 _ _ _)
      | (with_reducible exact laws_heldWriteRuleS.mono _ _ _)
      | (with_reducible exact LeO.refl _)
      | (with_reducible exact LeO.none _)
      | (with_reducible refine LeO.ite ?_ ?_)
      | (with_reducible refine LeO.bind ?_ (fun _ => ?_))
      | exact ih0 _ _ _
      | exact laws_heldWriteRuleS.mono _ _ _
      | exact LeO.none _
      | refine LeO.ite ?_ ?_
      | refine LeO.bind ?_ (fun _ => ?_)
theorem laws_heldPassS.mono : ∀ a0 a1 k, LeO (laws_heldPassS.f k a0 a1) (laws_heldPassS.f (k + 1) a0 a1) := by
  intro a0 a1 k
  have ih0 := laws_heldPassS.mono_l k
  unfold laws_heldPassS.f
  repeat' first
      | (with_reducible exact ih0 _ _ _)
      | (with_reducible exact laws_heldWriteRuleS.mono _ _ _)
      | (with_reducible exact LeO.refl _)
      | (with_reducible exact LeO.none _)
      | (with_reducible refine LeO.ite ?_ ?_)
      | (with_reducible refine LeO.bind ?_ (fun _ => ?_))
      | exact ih0 _ _ _
      | exact laws_heldWriteRuleS.mono _ _ _
      | exact LeO.none _
      | refine LeO.ite ?_ ?_
      | refine LeO.bind ?_ (fun _ => ?_)
set_option maxHeartbeats 8000000 in
set_option maxRecDepth 100000 in
theorem laws_heldPassS.calls (k : Nat) (A0 : Option Addr) (c0 : Nat) (l0 : List (S123)) (a1 : Int) (r : Int) (w : World) (hr0 : Kd.C k123 w A0 l0.length l0) (hc0 : l0.length ≤ c0) (h : laws_heldPassS.f k l0 a1 = some r) :
    Calls Tryd.prog 57 #[.slice A0 l0.length c0, .int .i64 a1] w fun e w' => e = .returned (.int .i64 r) ∧ Below w.heap.size w w' := by
  have HR0 := Aside0.mk hr0
  have HC0 := Aside0.mk hc0
  clear hr0 hc0
  have HB := Aside0.mk (Below.refl w.heap.size w)
  have H : (laws_heldPassS.l0 k l0 a1 0) = some r := h
  clear h
  have H' := Aside0.mk H
  clear H
  go_enter Tryd.func57, Tryd.ntmps57
  go_wp2
  go_loopg [1, 5] k (fun kq v1 v5 w' => ∃ (x1_1 : Int) (x5_1 : Int), v1 = .int .i64 x1_1 ∧ v5 = .int .i64 x5_1 ∧ Aside0 (laws_heldPassS.l0 kq l0 x1_1 x5_1 = some r) ∧ Aside0 (kq ≤ k) ∧ Aside0 (Below w.heap.size w w'))
  case atStart => exact ⟨(a1), (0), (by first | rfl | (simp; done) | (simp [*]; done)), (by first | rfl | (simp; done) | (simp [*]; done)), H', ⟨Nat.le_refl _⟩, ⟨by repeat (first | (with_reducible first | exact HB.out | apply below_alloc | apply pw_below_drewN | apply below_drew1) | exact HB.out)⟩⟩
  case round =>
    clear H'
    try clear p2
    obtain ⟨x1_1, x5_1, rfl, rfl, HA, HK1, HB⟩ := hrel
    cases gk with
    | zero => exact absurd HA.out (by simp [laws_heldPassS.l0])
    | succ k1 =>
      have H := HA.out
      clear HA
      simp only [laws_heldPassS.l0] at H
      by_cases c3 : x5_1 < (l0.length : Int)
      · rw [if_pos c3] at H
        have c3b0 : decide (x5_1 < (l0.length : Int)) = true := decide_eq_true c3
        clear c3
        by_cases c4 : 0 ≤ x5_1
        · rw [if_pos c4] at H
          have c4b0 : decide (0 ≤ x5_1) = true := decide_eq_true c4
          clear c4
          replace H := Option.bind_eq_some_iff.mp H
          obtain ⟨t296, A50, H⟩ := H
          replace H : (if t296 < 0 then (some (-1)) else (if ((rd_T123 l0 x5_1).f1) = t296 then (laws_heldPassS.l0 k1 l0 (wrap64 (t296 + 1)) (wrap64 (x5_1 + 1))) else (some (-1)))) = some r := H
          have A5 := Aside0.mk A50
          clear A50
          by_cases c6 : t296 < 0
          · rw [if_pos c6] at H
            have c6b0 : decide (t296 < 0) = true := decide_eq_true c6
            clear c6
            obtain rfl := Option.some.inj H
            have p295 : 0 ≤ (x5_1 : Int) := of_decide_eq_true (by first | (with_reducible assumption) | assumption)
            have q295 : x5_1 < (l0.length : Int) := of_decide_eq_true (by first | (with_reducible assumption) | assumption)
            obtain ⟨ad295, A295_0, c295_0, e295, hx295_0, hx295_1, hl295_0, hi295_0⟩ := at_T123 HR0.out x5_1 p295 q295
            cases e295
            replace hx295_0 := (HB.out.cell (World.block_lt_of_cell? w _ hx295_0)).trans hx295_0
            replace hx295_1 := (HB.out.cell (World.block_lt_of_cell? w _ hx295_1)).trans hx295_1
            have HR295_0 := Aside0.mk hi295_0
            have HC295_0 := Aside0.mk hl295_0
            clear hi295_0 hl295_0
            replace p295 := eq_true p295
            replace q295 := eq_true q295
            go_wp2_with (first | ((with_reducible refine gate_callee (f := 138) rfl ?_); refine goesL_ (some 18) rfl rfl Tryd.func138 (by kernel_rfl) rfl #[.slice A295_0 ((rd_T123 l0 x5_1).f0).length c295_0, .int .i64 x1_1] rfl (by (try simp only [List.map_toArray, List.map_cons, List.map_nil]); first | done | rfl | (simp only [List.length_drop, List.length_take]; rfl)) ?_; (with_reducible refine (laws_heldWriteRuleS.calls k1 _ _ ((rd_T123 l0 x5_1).f0) x1_1 t296 _ ?side1 ?side2 A5.out).mono ?_); (case side1 => repeat (first | exact (Kd.C_below HR295_0.out HB.out) | (with_reducible refine Kd.C_alloc ?_ _) | (with_reducible refine Kd.C_drewN ?_ _) | (with_reducible refine Kd.C_drew ?_))); (case side2 => exact HC295_0.out); rintro e w7 ⟨rfl, hb⟩; refine ⟨_, rfl, ?_⟩; have n0_ := Aside0.mk (below_step (by repeat (first | (with_reducible first | exact HB.out | apply below_alloc | apply pw_below_drewN | apply below_drew1) | exact HB.out)) hb); clear HB; have HB := n0_; clear n0_; (try clear hb); (try clear hb2); (try clear hk); (try clear hi)))
            go_ret
            exact ⟨by first | rfl | (simp [errW_none, errW_some] <;> rfl) | (simp [*, errW_none, errW_some] <;> rfl), by repeat (first | (with_reducible first | exact HB.out | apply below_alloc | apply pw_below_drewN | apply below_drew1) | exact HB.out)⟩
          · rw [if_neg c6] at H
            have c6b0 : decide (t296 < 0) = false := decide_eq_false c6
            clear c6
            by_cases c8 : ((rd_T123 l0 x5_1).f1) = t296
            · rw [if_pos c8] at H
              have c8b0 : (((rd_T123 l0 x5_1).f1) == t296) = true := beq_iff_eq.mpr c8
              have c8b1 : (((rd_T123 l0 x5_1).f1) != t296) = false := bne_eq_false_iff_eq.mpr c8
              clear c8
              have H' := Aside0.mk H
              clear H
              have p295 : 0 ≤ (x5_1 : Int) := of_decide_eq_true (by first | (with_reducible assumption) | assumption)
              have q295 : x5_1 < (l0.length : Int) := of_decide_eq_true (by first | (with_reducible assumption) | assumption)
              obtain ⟨ad295, A295_0, c295_0, e295, hx295_0, hx295_1, hl295_0, hi295_0⟩ := at_T123 HR0.out x5_1 p295 q295
              cases e295
              replace hx295_0 := (HB.out.cell (World.block_lt_of_cell? w _ hx295_0)).trans hx295_0
              replace hx295_1 := (HB.out.cell (World.block_lt_of_cell? w _ hx295_1)).trans hx295_1
              have HR295_0 := Aside0.mk hi295_0
              have HC295_0 := Aside0.mk hl295_0
              clear hi295_0 hl295_0
              replace p295 := eq_true p295
              replace q295 := eq_true q295
              go_wp2_with (first | ((with_reducible refine gate_callee (f := 138) rfl ?_); refine goesL_ (some 18) rfl rfl Tryd.func138 (by kernel_rfl) rfl #[.slice A295_0 ((rd_T123 l0 x5_1).f0).length c295_0, .int .i64 x1_1] rfl (by (try simp only [List.map_toArray, List.map_cons, List.map_nil]); first | done | rfl | (simp only [List.length_drop, List.length_take]; rfl)) ?_; (with_reducible refine (laws_heldWriteRuleS.calls k1 _ _ ((rd_T123 l0 x5_1).f0) x1_1 t296 _ ?side1 ?side2 A5.out).mono ?_); (case side1 => repeat (first | exact (Kd.C_below HR295_0.out HB.out) | (with_reducible refine Kd.C_alloc ?_ _) | (with_reducible refine Kd.C_drewN ?_ _) | (with_reducible refine Kd.C_drew ?_))); (case side2 => exact HC295_0.out); rintro e w9 ⟨rfl, hb⟩; refine ⟨_, rfl, ?_⟩; have n0_ := Aside0.mk (below_step (by repeat (first | (with_reducible first | exact HB.out | apply below_alloc | apply pw_below_drewN | apply below_drew1) | exact HB.out)) hb); clear HB; have HB := n0_; clear n0_; (try clear hb); (try clear hb2); (try clear hk); (try clear hi); have p297 : 0 ≤ (x5_1 : Int) := of_decide_eq_true (by first | (with_reducible assumption) | assumption); have q297 : x5_1 < (l0.length : Int) := of_decide_eq_true (by first | (with_reducible assumption) | assumption); obtain ⟨ad297, A297_0, c297_0, e297, hx297_0, hx297_1, hl297_0, hi297_0⟩ := at_T123 HR0.out x5_1 p297 q297; obtain rfl : ad295 = ad297 := (by injection e297); replace hx297_0 := (HB.out.cell (World.block_lt_of_cell? w _ hx297_0)).trans hx297_0; replace hx297_1 := (HB.out.cell (World.block_lt_of_cell? w _ hx297_1)).trans hx297_1; have HR297_0 := Aside0.mk hi297_0; have HC297_0 := Aside0.mk hl297_0; clear hi297_0 hl297_0; replace p297 := eq_true p297; replace q297 := eq_true q297))
              go_roundg k1
              case measure => have := HK1.out; omega
              case rel => exact ⟨(wrap64 (t296 + 1)), (wrap64 (x5_1 + 1)), (by first | rfl | (simp; done) | (simp [*]; done)), (by first | rfl | (simp; done) | (simp [*]; done)), H', ⟨by have := HK1.out; omega⟩, ⟨by repeat (first | (with_reducible first | exact HB.out | apply below_alloc | apply pw_below_drewN | apply below_drew1) | exact HB.out)⟩⟩
            · rw [if_neg c8] at H
              have c8b0 : (((rd_T123 l0 x5_1).f1) == t296) = false := beq_eq_false_iff_ne.mpr c8
              have c8b1 : (((rd_T123 l0 x5_1).f1) != t296) = true := bne_iff_ne.mpr c8
              obtain rfl := Option.some.inj H
              have p295 : 0 ≤ (x5_1 : Int) := of_decide_eq_true (by first | (with_reducible assumption) | assumption)
              have q295 : x5_1 < (l0.length : Int) := of_decide_eq_true (by first | (with_reducible assumption) | assumption)
              obtain ⟨ad295, A295_0, c295_0, e295, hx295_0, hx295_1, hl295_0, hi295_0⟩ := at_T123 HR0.out x5_1 p295 q295
              cases e295
              replace hx295_0 := (HB.out.cell (World.block_lt_of_cell? w _ hx295_0)).trans hx295_0
              replace hx295_1 := (HB.out.cell (World.block_lt_of_cell? w _ hx295_1)).trans hx295_1
              have HR295_0 := Aside0.mk hi295_0
              have HC295_0 := Aside0.mk hl295_0
              clear hi295_0 hl295_0
              replace p295 := eq_true p295
              replace q295 := eq_true q295
              go_wp2_with (first | ((with_reducible refine gate_callee (f := 138) rfl ?_); refine goesL_ (some 18) rfl rfl Tryd.func138 (by kernel_rfl) rfl #[.slice A295_0 ((rd_T123 l0 x5_1).f0).length c295_0, .int .i64 x1_1] rfl (by (try simp only [List.map_toArray, List.map_cons, List.map_nil]); first | done | rfl | (simp only [List.length_drop, List.length_take]; rfl)) ?_; (with_reducible refine (laws_heldWriteRuleS.calls k1 _ _ ((rd_T123 l0 x5_1).f0) x1_1 t296 _ ?side1 ?side2 A5.out).mono ?_); (case side1 => repeat (first | exact (Kd.C_below HR295_0.out HB.out) | (with_reducible refine Kd.C_alloc ?_ _) | (with_reducible refine Kd.C_drewN ?_ _) | (with_reducible refine Kd.C_drew ?_))); (case side2 => exact HC295_0.out); rintro e w10 ⟨rfl, hb⟩; refine ⟨_, rfl, ?_⟩; have n0_ := Aside0.mk (below_step (by repeat (first | (with_reducible first | exact HB.out | apply below_alloc | apply pw_below_drewN | apply below_drew1) | exact HB.out)) hb); clear HB; have HB := n0_; clear n0_; (try clear hb); (try clear hb2); (try clear hk); (try clear hi); have p297 : 0 ≤ (x5_1 : Int) := of_decide_eq_true (by first | (with_reducible assumption) | assumption); have q297 : x5_1 < (l0.length : Int) := of_decide_eq_true (by first | (with_reducible assumption) | assumption); obtain ⟨ad297, A297_0, c297_0, e297, hx297_0, hx297_1, hl297_0, hi297_0⟩ := at_T123 HR0.out x5_1 p297 q297; obtain rfl : ad295 = ad297 := (by injection e297); replace hx297_0 := (HB.out.cell (World.block_lt_of_cell? w _ hx297_0)).trans hx297_0; replace hx297_1 := (HB.out.cell (World.block_lt_of_cell? w _ hx297_1)).trans hx297_1; have HR297_0 := Aside0.mk hi297_0; have HC297_0 := Aside0.mk hl297_0; clear hi297_0 hl297_0; replace p297 := eq_true p297; replace q297 := eq_true q297))
              go_ret
              exact ⟨by first | rfl | (simp [errW_none, errW_some] <;> rfl) | (simp [*, errW_none, errW_some] <;> rfl), by repeat (first | (with_reducible first | exact HB.out | apply below_alloc | apply pw_below_drewN | apply below_drew1) | exact HB.out)⟩
        · rw [if_neg c4] at H
          exact absurd H (by simp)
      · rw [if_neg c3] at H
        have c3b0 : decide (x5_1 < (l0.length : Int)) = false := decide_eq_false c3
        clear c3
        obtain rfl := Option.some.inj H
        go_wp2
        go_ret
        exact ⟨by first | rfl | (simp [errW_none, errW_some] <;> rfl) | (simp [*, errW_none, errW_some] <;> rfl), by repeat (first | (with_reducible first | exact HB.out | apply below_alloc | apply pw_below_drewN | apply below_drew1) | exact HB.out)⟩

/-! ### laws_FnExactTurnedPasses: function 8 (by hand) -/
def laws_FnExactTurnedPasses.f (k : Nat) (l0 : List (S117)) : Option Bool :=
  (laws_szPassS.f k l0 1048576).bind fun s => if s < 0 then some true else
  (laws_toPassS.f k l0).bind fun x => (spec_TurnedPasses.f k x).bind fun T => (impl_TurnedPasses.f k x).bind fun G => (laws_eqPassS.f k G T).bind fun b1 => (laws_eqPassS.f k x x).bind fun b2 =>
  (laws_markPassS.f k x 1).bind fun p => (laws_markPassS.f k G 1).bind fun q => (laws_heldPassS.f k q.2 1).bind fun h => if b1 = true ∧ b2 = true ∧ 0 ≤ p.1 ∧ 0 ≤ h ∧ h = q.1 then some true else none
theorem laws_FnExactTurnedPasses.inn {Wa Wb : World} {v : Value} {xs : List (S123)} (h : Kd.S k123 123 Wb Wa.heap.size (fun _ => True) v xs) : Kd.S k123 123 Wb Wa.heap.size (fun k => Wa.heap.size ≤ k ∧ k < Wb.heap.size) v xs := Kd.S_mono (Kd.S_bound h) (fun k hk => ⟨hk.2.1, hk.2.2.1⟩)
theorem laws_FnExactTurnedPasses.mlen (l : Nat) : ∀ (x : List (S123)) (a i r1 : Int) (r2 : List (S123)), laws_markPassS.l0 l x a i = some (r1, r2) → r2.length = x.length := by
  induction l with
  | zero => intro x a i r1 r2 h; simp [laws_markPassS.l0] at h
  | succ l ih =>
    intro x a i r1 r2 h
    rw [laws_markPassS.l0] at h
    split at h
    · split at h
      · obtain ⟨p, _, h⟩ := Option.bind_eq_some_iff.mp h
        have := ih _ _ _ _ _ h
        rw [this, List.length_set]
      · cases h
    · simp only [Option.some.injEq, Prod.mk.injEq] at h
      rw [h.2]
theorem laws_FnExactTurnedPasses.cof {W : World} {b : Nat} {ok : Nat → Prop} {A : Option Addr} {n c : Nat} {xs : List (S123)} (h : Kd.S k123 123 W b ok (.slice A n c) xs) : Kd.C k123 W A xs.length xs ∧ xs.length ≤ c := by
  have := Kd.S_reads' h
  exact ⟨this.2.2, by omega⟩
set_option maxHeartbeats 8000000 in
set_option maxRecDepth 100000 in
theorem laws_FnExactTurnedPasses.calls (k : Nat) (A0 : Option Addr) (c0 : Nat) (l0 : List (S117)) (w : World) (hr0 : Kd.C k117 w A0 l0.length l0) (hc0 : l0.length ≤ c0) (h : laws_FnExactTurnedPasses.f k l0 = some true) (hG : GT w) :
    Calls Tryd.prog 8 #[.slice A0 l0.length c0] w fun e w' => e = .returned (.bool true) ∧ Below w.heap.size w w' := by
  unfold laws_FnExactTurnedPasses.f at h
  obtain ⟨s, hs, h⟩ := Option.bind_eq_some_iff.mp h
  have HS := Aside0.mk hs
  have HR := Aside0.mk hr0
  have HC := Aside0.mk hc0
  have HG := Aside0.mk hG
  clear hs hr0 hc0 hG
  have A51 : Aside0 True := ⟨trivial⟩
  by_cases hneg : s < 0
  · have n1 : decide (s < 0) = true := decide_eq_true hneg
    clear h hneg
    go_enter Tryd.func8, Tryd.ntmps8
    go_wp2_with (go_at_call 51; ((with_reducible refine (laws_szPassS.calls k A0 c0 l0 1048576 s _ HR.out HC.out HS.out).mono ?_); rintro e w1 ⟨rfl, hb1⟩; have B1 := Aside0.mk hb1; clear hb1))
    go_ret
    exact ⟨rfl, B1.out⟩
  · rw [if_neg hneg] at h
    have n1 : decide (s < 0) = false := decide_eq_false hneg
    obtain ⟨x, hx, h⟩ := Option.bind_eq_some_iff.mp h
    obtain ⟨T, hT, h⟩ := Option.bind_eq_some_iff.mp h
    obtain ⟨G, hGG, h⟩ := Option.bind_eq_some_iff.mp h
    obtain ⟨b1, hb1, h⟩ := Option.bind_eq_some_iff.mp h
    obtain ⟨b2, hb2, h⟩ := Option.bind_eq_some_iff.mp h
    obtain ⟨⟨p1, p2⟩, hp, h⟩ := Option.bind_eq_some_iff.mp h
    obtain ⟨⟨q1, q2⟩, hq, h⟩ := Option.bind_eq_some_iff.mp h
    obtain ⟨hd, hh, h⟩ := Option.bind_eq_some_iff.mp h
    dsimp only at hh h
    by_cases c : b1 = true ∧ b2 = true ∧ 0 ≤ p1 ∧ 0 ≤ hd ∧ hd = q1
    · obtain ⟨rfl, rfl, hp0, hh0, rfl⟩ := c
      have HX := Aside0.mk hx
      have HT := Aside0.mk hT
      have HGG := Aside0.mk hGG
      have HE1 := Aside0.mk hb1
      have HE2 := Aside0.mk hb2
      have HM1 := Aside0.mk hp
      have HM2 := Aside0.mk hq
      have HH := Aside0.mk hh
      clear hx hT hGG hb1 hb2 hp hq hh h hneg
      have n2 : decide (p1 < 0) = false := decide_eq_false (by omega)
      have n3 : decide (hd < 0) = false := decide_eq_false (by omega)
      have n4 : (hd != hd) = false := by simp
      clear hp0 hh0
      go_enter Tryd.func8, Tryd.ntmps8
      have HLEN : q2.length = G.length := laws_FnExactTurnedPasses.mlen _ _ _ _ _ _ HM2.out
      have HELD1 : ∀ {Ag : Option Addr} {cg : Nat} (V : World), Kd.C k123 V Ag q2.length q2 → q2.length ≤ cg → Calls Tryd.prog 57 #[.slice Ag G.length cg, .int .i64 1] V fun e w' => e = .returned (.int .i64 hd) ∧ Below V.heap.size V w' := fun {Ag cg} V h1 h2 => by
        have := laws_heldPassS.calls k Ag cg q2 1 hd V h1 h2 HH.out
        rwa [HLEN] at this
      have HLEN2 := Aside0.mk HLEN
      clear HLEN
      go_wp2_with (first
        | (go_at_call 51; ((with_reducible refine (laws_szPassS.calls k A0 c0 l0 1048576 s _ HR.out HC.out HS.out).mono ?_); rintro e w1 ⟨rfl, hb1⟩; have B1 := Aside0.mk hb1; have C1 := Aside0.mk (Kd.C_below HR.out hb1); clear hb1))
        | (go_at_call 53; ((with_reducible refine (laws_toPassS.calls k A0 c0 l0 x _ C1.out HC.out HX.out).mono ?_); rintro e wa ⟨va, rfl, hs_, hb_⟩; obtain ⟨Aa, ca, rfl⟩ := Kd.S_slice hs_; have Ca := Aside0.mk (laws_FnExactTurnedPasses.cof hs_); have Ba := Aside0.mk (below_step B1.out hb_); clear hs_ hb_))
        | (go_at_call 52; ((with_reducible refine (spec_TurnedPasses.calls k Aa ca x T _ Ca.out.1 Ca.out.2 HT.out).mono ?_); rintro e wt ⟨vt, rfl, hs_, hb_⟩; obtain ⟨At, ct, rfl⟩ := Kd.S_slice hs_; have St := Aside0.mk (laws_FnExactTurnedPasses.inn hs_); have Zt := Aside0.mk hb_.size; have Bt := Aside0.mk (below_step Ba.out hb_); have C2 := Aside0.mk (Kd.C_below HR.out Bt.out); clear hs_ hb_))
        | (go_at_call 53; ((with_reducible refine (laws_toPassS.calls k A0 c0 l0 x _ C2.out HC.out HX.out).mono ?_); rintro e wx ⟨vx, rfl, hs_, hb_⟩; obtain ⟨Ax, cx, rfl⟩ := Kd.S_slice hs_; have Sx := Aside0.mk (laws_FnExactTurnedPasses.inn hs_); have Zx := Aside0.mk hb_.size; have Cx := Aside0.mk (laws_FnExactTurnedPasses.cof hs_); have Stx := Aside0.mk (Kd.S_below St.out hb_); have Bx := Aside0.mk (below_step Bt.out hb_); clear hs_ hb_))
        | (go_at_call 54; ((with_reducible refine (impl_TurnedPasses.calls k Ax cx x G _ Cx.out.1 Cx.out.2 HGG.out (GT.below HG.out Bx.out)).mono ?_); rintro e wg ⟨vg, rfl, hs_, hb_⟩; obtain ⟨Ag, cg, rfl⟩ := Kd.S_slice hs_; have Sg := Aside0.mk (laws_FnExactTurnedPasses.inn hs_); have Zg := Aside0.mk hb_.size; have Cg := Aside0.mk (laws_FnExactTurnedPasses.cof hs_); have Stg := Aside0.mk (Kd.S_below Stx.out hb_); have Ctg := Aside0.mk (laws_FnExactTurnedPasses.cof Stg.out); have Sxg := Aside0.mk (Kd.S_below Sx.out hb_); have Bg := Aside0.mk (below_step Bx.out hb_); clear hs_ hb_))
        | (go_at_call 55; ((with_reducible refine (laws_eqPassS.calls k Ag cg G At ct T true _ Cg.out.1 Cg.out.2 Ctg.out.1 Ctg.out.2 HE1.out).mono ?_); rintro e w6 ⟨rfl, hb_⟩; have B6 := Aside0.mk (below_step Bg.out hb_); have St6 := Aside0.mk (Kd.S_below Stg.out hb_); have Sg6 := Aside0.mk (Kd.S_below Sg.out hb_); have Sx6 := Aside0.mk (Kd.S_below Sxg.out hb_); have C6 := Aside0.mk (Kd.C_below HR.out B6.out); have Z6 := Aside0.mk hb_.size; clear hb_))
        | (go_at_call 53; ((with_reducible refine (laws_toPassS.calls k A0 c0 l0 x _ C6.out HC.out HX.out).mono ?_); rintro e wb ⟨vb, rfl, hs_, hb_⟩; obtain ⟨Ab, cb, rfl⟩ := Kd.S_slice hs_; have Cb := Aside0.mk (laws_FnExactTurnedPasses.cof hs_); have Bb := Aside0.mk (below_step B6.out hb_); have Stb := Aside0.mk (Kd.S_below St6.out hb_); have Sgb := Aside0.mk (Kd.S_below Sg6.out hb_); have Sxb := Aside0.mk (Kd.S_below Sx6.out hb_); have Cxb := Aside0.mk (laws_FnExactTurnedPasses.cof Sxb.out); clear hs_ hb_))
        | (go_at_call 55; ((with_reducible refine (laws_eqPassS.calls k Ax cx x Ab cb x true _ Cxb.out.1 Cxb.out.2 Cb.out.1 Cb.out.2 HE2.out).mono ?_); rintro e w8 ⟨rfl, hb_⟩; have B8 := Aside0.mk (below_step Bb.out hb_); have St8 := Aside0.mk (Kd.S_below Stb.out hb_); have Sg8 := Aside0.mk (Kd.S_below Sgb.out hb_); have Sx8 := Aside0.mk (Kd.S_lower (Kd.S_below Sxb.out hb_) Bt.out.size); clear hb_))
        | (go_at_call 56; ((with_reducible refine (laws_markPassS.calls k (fun z_ => wt.heap.size ≤ z_ ∧ z_ < wx.heap.size) (.slice Ax x.length cx) x 1 p1 p2 w _ B8.out Sx8.out HM1.out).mono ?_); rintro e w9 ⟨rfl, hs_, hb_, hk_⟩; have B9 := Aside0.mk hb_; have St9 := Aside0.mk (Kd.S_kept St8.out hk_ (fun z_ h1_ h2_ => absurd h2_.1 (Nat.not_le.2 h1_.2))); have Sg9 := Aside0.mk (Kd.S_kept Sg8.out hk_ (fun z_ h1_ h2_ => absurd h2_.2 (Nat.not_lt.2 h1_.1))); have Ct9 := Aside0.mk (laws_FnExactTurnedPasses.cof St9.out); have Cg9 := Aside0.mk (laws_FnExactTurnedPasses.cof Sg9.out); clear hs_ hb_ hk_))
        | (go_at_call 55; ((with_reducible refine (laws_eqPassS.calls k Ag cg G At ct T true _ Cg9.out.1 Cg9.out.2 Ct9.out.1 Ct9.out.2 HE1.out).mono ?_); rintro e w10 ⟨rfl, hb_⟩; have B10 := Aside0.mk (below_step B9.out hb_); have St10 := Aside0.mk (Kd.S_below St9.out hb_); have Sg10 := Aside0.mk (Kd.S_lower (Kd.S_below Sg9.out hb_) Bx.out.size); clear hb_))
        | (go_at_call 56; ((with_reducible refine (laws_markPassS.calls k (fun z_ => wx.heap.size ≤ z_ ∧ z_ < wg.heap.size) (.slice Ag G.length cg) G 1 hd q2 w _ B10.out Sg10.out HM2.out).mono ?_); rintro e w11 ⟨rfl, hs_, hb_, hk_⟩; have B11 := Aside0.mk hb_; have St11 := Aside0.mk (Kd.S_kept St10.out hk_ (fun z_ h1_ h2_ => absurd (Nat.le_trans Zx.out h2_.1) (Nat.not_le.2 h1_.2))); have Sg11 := Aside0.mk hs_; have Lg := Aside0.mk (Kd.S_reads' hs_).1; have Cg11 := Aside0.mk (laws_FnExactTurnedPasses.cof hs_); clear hs_ hb_ hk_))
        | (go_at_call 57; ((with_reducible refine (HELD1 _ Cg11.out.1 Cg11.out.2).mono ?_); rintro e w12 ⟨rfl, hb_⟩; have B12 := Aside0.mk (below_step B11.out hb_); have St12 := Aside0.mk (Kd.S_below St11.out hb_); have Sg12 := Aside0.mk (Kd.S_below Sg11.out hb_); have C12 := Aside0.mk (Kd.C_below HR.out B12.out); clear hb_))
        | (go_at_call 53; ((with_reducible refine (laws_toPassS.calls k A0 c0 l0 x _ C12.out HC.out HX.out).mono ?_); rintro e wc ⟨vc, rfl, hs_, hb_⟩; obtain ⟨Ac, cc, rfl⟩ := Kd.S_slice hs_; have Cc := Aside0.mk (laws_FnExactTurnedPasses.cof hs_); have Bc := Aside0.mk (below_step B12.out hb_); have Stc := Aside0.mk (Kd.S_below St12.out hb_); have Sgc := Aside0.mk (Kd.S_below Sg12.out hb_); clear hs_ hb_))
        | (go_at_call 54; ((with_reducible refine (impl_TurnedPasses.calls k Ac cc x G _ Cc.out.1 Cc.out.2 HGG.out (GT.below HG.out Bc.out)).mono ?_); rintro e wh ⟨vh, rfl, hs_, hb_⟩; obtain ⟨Ah, ch, rfl⟩ := Kd.S_slice hs_; have Ch := Aside0.mk (laws_FnExactTurnedPasses.cof hs_); have Bh := Aside0.mk (below_step Bc.out hb_); have Sth := Aside0.mk (Kd.S_below Stc.out hb_); have Cth := Aside0.mk (laws_FnExactTurnedPasses.cof Sth.out); have Sgh := Aside0.mk (Kd.S_below Sgc.out hb_); clear hs_ hb_))
        | (go_at_call 55; ((with_reducible refine (laws_eqPassS.calls k Ah ch G At ct T true _ Ch.out.1 Ch.out.2 Cth.out.1 Cth.out.2 HE1.out).mono ?_); rintro e w15 ⟨rfl, hb_⟩; have B15 := Aside0.mk (below_step Bh.out hb_); have Cg15 := Aside0.mk (laws_FnExactTurnedPasses.cof (Kd.S_below Sgh.out hb_)); clear hb_))
        | (go_at_call 57; ((with_reducible refine (HELD1 _ Cg15.out.1 Cg15.out.2).mono ?_); rintro e w16 ⟨rfl, hb_⟩; have B16 := Aside0.mk (below_step B15.out hb_); clear hb_)))
      go_ret
      exact ⟨rfl, B16.out⟩
    · rw [if_neg c] at h
      cases h

end Go.Proofs.YtnonijganceneaaDoor.QFnExactTurnedPasses
