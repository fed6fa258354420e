/- The law FnJoined: at every input the call answers true (this text: contracts on its way, by a program of this session's; no condition of ours). -/
import Derived.Test.YtnonijganceneaaDoorQFnJoinedx0
import Derived.Test.YtnonijganceneaaDoorQFnJoinedx3
import Derived.Test.YtnonijganceneaaDoorQFnJoinedx10
namespace Go.Proofs.YtnonijganceneaaDoor.QFnJoined
open Go.RowKit Go.Proofs.YtnonijganceneaaDoorW.PrintWords Go.Proofs.YtnonijganceneaaDoorW.PrintLast Go.Proofs.YtnonijganceneaaDoorW.PrintMore
attribute [local go_sem] max2_int min2_int max_two min_two max_three min_three max_four min_four   -- for this text's walks alone
set_option linter.unusedVariables false
set_option linter.unusedSimpArgs false

/-! ### spec_l10Letter: function 181 -/
def spec_l10Letter.f (a0 : Int) : Option (Bool) := if a0 ≥ 1280 then (some (decide (a0 ≤ 1311))) else (some false)
set_option maxHeartbeats 8000000 in
set_option maxRecDepth 100000 in
theorem spec_l10Letter.calls (a0 : Int) (r : Bool) (w : World) (h : spec_l10Letter.f a0 = some r) :
    Calls Tryd.prog 181 #[.int .i64 a0] w fun e w' => e = .returned (.bool r) ∧ Drawn0 w w' := by
  have H : (if a0 ≥ 1280 then (some (decide (a0 ≤ 1311))) else (some false)) = some r := h
  clear h
  by_cases c2 : a0 ≥ 1280
  · rw [if_pos c2] at H
    have c2b0 : decide (1280 ≤ a0) = true := decide_eq_true c2
    clear c2
    obtain rfl := Option.some.inj H
    go_enter Tryd.func181, Tryd.ntmps181
    go_wp2
    go_ret
    exact ⟨by first | rfl | (simp; done) | (simp [*]; done), by repeat (first | exact Drawn0.refl _ | apply Drawn0.step)⟩
  · rw [if_neg c2] at H
    have c2b0 : decide (1280 ≤ a0) = false := decide_eq_false c2
    clear c2
    obtain rfl := Option.some.inj H
    go_enter Tryd.func181, Tryd.ntmps181
    go_wp2
    go_ret
    exact ⟨by first | rfl | (simp; done) | (simp [*]; done), by repeat (first | exact Drawn0.refl _ | apply Drawn0.step)⟩

/-! ### spec_JoinsTo: function 180 -/
def spec_JoinsTo.f (a0 : Int) : Option (Int) := (spec_l01Cat.f a0).bind fun t534 => (if t534 = 3 then (some (-1)) else (if a0 = 7936 then (some 3) else ((spec_l10Letter.f a0).bind fun t535 => (if t535 = true then ((some (([3, 2, 3, 0] : List Int) : List Int)).bind fun y536 => (if 0 ≤ (Int.tmod a0 4) then (if (Int.tmod a0 4) < (y536.length : Int) then (some (rd y536 (Int.tmod a0 4))) else (none)) else (none))) else (some 0)))))
set_option maxHeartbeats 8000000 in
set_option maxRecDepth 100000 in
theorem spec_JoinsTo.calls (a0 : Int) (r : Int) (w : World) (h : spec_JoinsTo.f a0 = some r) :
    Calls Tryd.prog 180 #[.int .i64 a0] w fun e w' => e = .returned (.int .i64 r) ∧ Below w.heap.size w w' := by
  have HB := Aside0.mk (Below.refl w.heap.size w)
  have H : ((spec_l01Cat.f a0).bind fun t534 => (if t534 = 3 then (some (-1)) else (if a0 = 7936 then (some 3) else ((spec_l10Letter.f a0).bind fun t535 => (if t535 = true then ((some (([3, 2, 3, 0] : List Int) : List Int)).bind fun y536 => (if 0 ≤ (Int.tmod a0 4) then (if (Int.tmod a0 4) < (y536.length : Int) then (some (rd y536 (Int.tmod a0 4))) else (none)) else (none))) else (some 0)))))) = some r := h
  clear h
  replace H := Option.bind_eq_some_iff.mp H
  obtain ⟨t534, A20, H⟩ := H
  replace H : (if t534 = 3 then (some (-1)) else (if a0 = 7936 then (some 3) else ((spec_l10Letter.f a0).bind fun t535 => (if t535 = true then ((some (([3, 2, 3, 0] : List Int) : List Int)).bind fun y536 => (if 0 ≤ (Int.tmod a0 4) then (if (Int.tmod a0 4) < (y536.length : Int) then (some (rd y536 (Int.tmod a0 4))) else (none)) else (none))) else (some 0))))) = some r := H
  have A2 := Aside0.mk A20
  clear A20
  by_cases c3 : t534 = 3
  · rw [if_pos c3] at H
    have c3b0 : (t534 == 3) = true := beq_iff_eq.mpr c3
    have c3b1 : (t534 != 3) = false := bne_eq_false_iff_eq.mpr c3
    clear c3
    obtain rfl := Option.some.inj H
    go_enter Tryd.func180, Tryd.ntmps180
    go_wp2_with (first | ((with_reducible refine gate_callee (f := 77) rfl ?_); refine goesL_ (some 5) rfl rfl Tryd.func77 (by kernel_rfl) rfl #[.int .i64 a0] rfl (by (try simp only [List.map_toArray, List.map_cons, List.map_nil]); first | done | rfl | (simp only [List.length_drop, List.length_take]; rfl)) ?_; (with_reducible refine (spec_l01Cat.calls a0 t534 _ A2.out).mono ?_); rintro e w4 ⟨rfl, hb⟩; refine ⟨_, rfl, ?_⟩; have n0_ := Aside0.mk (below_step (by repeat (first | (with_reducible first | exact HB.out | apply below_alloc | apply pw_below_drewN | apply below_drew1) | exact HB.out)) hb); clear HB; have HB := n0_; clear n0_; (try clear hb); (try clear hb2); (try clear hk); (try clear hi)))
    go_ret
    exact ⟨by first | rfl | (simp [errW_none, errW_some] <;> rfl) | (simp [*, errW_none, errW_some] <;> rfl), by repeat (first | (with_reducible first | exact HB.out | apply below_alloc | apply pw_below_drewN | apply below_drew1) | exact HB.out)⟩
  · rw [if_neg c3] at H
    have c3b0 : (t534 == 3) = false := beq_eq_false_iff_ne.mpr c3
    have c3b1 : (t534 != 3) = true := bne_iff_ne.mpr c3
    by_cases c5 : a0 = 7936
    · rw [if_pos c5] at H
      have c5b0 : (a0 == 7936) = true := beq_iff_eq.mpr c5
      have c5b1 : (a0 != 7936) = false := bne_eq_false_iff_eq.mpr c5
      clear c5
      obtain rfl := Option.some.inj H
      go_enter Tryd.func180, Tryd.ntmps180
      go_wp2_with (first | ((with_reducible refine gate_callee (f := 77) rfl ?_); refine goesL_ (some 5) rfl rfl Tryd.func77 (by kernel_rfl) rfl #[.int .i64 a0] rfl (by (try simp only [List.map_toArray, List.map_cons, List.map_nil]); first | done | rfl | (simp only [List.length_drop, List.length_take]; rfl)) ?_; (with_reducible refine (spec_l01Cat.calls a0 t534 _ A2.out).mono ?_); rintro e w6 ⟨rfl, hb⟩; refine ⟨_, rfl, ?_⟩; have n0_ := Aside0.mk (below_step (by repeat (first | (with_reducible first | exact HB.out | apply below_alloc | apply pw_below_drewN | apply below_drew1) | exact HB.out)) hb); clear HB; have HB := n0_; clear n0_; (try clear hb); (try clear hb2); (try clear hk); (try clear hi)))
      go_ret
      exact ⟨by first | rfl | (simp [errW_none, errW_some] <;> rfl) | (simp [*, errW_none, errW_some] <;> rfl), by repeat (first | (with_reducible first | exact HB.out | apply below_alloc | apply pw_below_drewN | apply below_drew1) | exact HB.out)⟩
    · rw [if_neg c5] at H
      have c5b0 : (a0 == 7936) = false := beq_eq_false_iff_ne.mpr c5
      have c5b1 : (a0 != 7936) = true := bne_iff_ne.mpr c5
      replace H := Option.bind_eq_some_iff.mp H
      obtain ⟨t535, A70, H⟩ := H
      replace H : (if t535 = true then ((some (([3, 2, 3, 0] : List Int) : List Int)).bind fun y536 => (if 0 ≤ (Int.tmod a0 4) then (if (Int.tmod a0 4) < (y536.length : Int) then (some (rd y536 (Int.tmod a0 4))) else (none)) else (none))) else (some 0)) = some r := H
      have A7 := Aside0.mk A70
      clear A70
      by_cases c8 : t535 = true
      · subst c8
        have H1 : ((some (([3, 2, 3, 0] : List Int) : List Int)).bind fun y536 => (if 0 ≤ (Int.tmod a0 4) then (if (Int.tmod a0 4) < (y536.length : Int) then (some (rd y536 (Int.tmod a0 4))) else (none)) else (none))) = some r := by rw [if_pos rfl] at H; exact H
        clear H
        have H := H1
        clear H1
        obtain ⟨y536, hy536⟩ : ∃ y_ : List Int, y_ = (([3, 2, 3, 0] : List Int)) := ⟨_, rfl⟩
        replace H : (if 0 ≤ (Int.tmod a0 4) then (if (Int.tmod a0 4) < (y536.length : Int) then (some (rd y536 (Int.tmod a0 4))) else (none)) else (none)) = some r := by first | (rw [hy536]; with_reducible exact H) | (have H2_ := (Option.bind_some _ _).symm.trans H; rw [hy536]; with_reducible exact H2_) | (have H2_ := (Option.bind_some _ _).symm.trans H; with_reducible exact H2_) | with_reducible exact H | (rw [hy536]; exact H) | exact H
        have Ny536 := Aside0.mk hy536
        clear hy536
        obtain ⟨ji9, hji9⟩ : ∃ j_ : Int, (Int.tmod a0 4) = j_ := ⟨_, rfl⟩
        replace H : (if 0 ≤ (ji9) then (if (ji9) < (y536.length : Int) then (some (rd y536 (ji9))) else (none)) else (none)) = some r := by first | (rw [hji9] at H; exact H) | (simp only [hji9] at H ⊢; exact H)
        (try rw [hji9] at A2)
        (try rw [hji9] at A7)
        by_cases c10 : 0 ≤ (ji9)
        · rw [if_pos c10] at H
          have c10b0 : decide (0 ≤ (ji9)) = true := decide_eq_true c10
          clear c10
          by_cases c11 : (ji9) < (y536.length : Int)
          · rw [if_pos c11] at H
            have c11b0 : decide ((ji9) < (y536.length : Int)) = true := decide_eq_true c11
            clear c11
            obtain rfl := Option.some.inj H
            go_enter Tryd.func180, Tryd.ntmps180
            go_wp2_with (first | ((with_reducible refine gate_callee (f := 77) rfl ?_); refine goesL_ (some 5) rfl rfl Tryd.func77 (by kernel_rfl) rfl #[.int .i64 a0] rfl (by (try simp only [List.map_toArray, List.map_cons, List.map_nil]); first | done | rfl | (simp only [List.length_drop, List.length_take]; rfl)) ?_; (with_reducible refine (spec_l01Cat.calls a0 t534 _ A2.out).mono ?_); rintro e w12 ⟨rfl, hb⟩; refine ⟨_, rfl, ?_⟩; have n0_ := Aside0.mk (below_step (by repeat (first | (with_reducible first | exact HB.out | apply below_alloc | apply pw_below_drewN | apply below_drew1) | exact HB.out)) hb); clear HB; have HB := n0_; clear n0_; (try clear hb); (try clear hb2); (try clear hk); (try clear hi)) | ((with_reducible refine gate_callee (f := 181) rfl ?_); refine goesL_ (some 12) rfl rfl Tryd.func181 (by kernel_rfl) rfl #[.int .i64 a0] rfl (by (try simp only [List.map_toArray, List.map_cons, List.map_nil]); first | done | rfl | (simp only [List.length_drop, List.length_take]; rfl)) ?_; (with_reducible refine (spec_l10Letter.calls a0 true _ A7.out).mono ?_); rintro e w' ⟨rfl, ⟨nd, rfl⟩⟩; refine ⟨_, rfl, ?_⟩) | ((with_reducible refine gate_dst (N := 14) rfl ?_); refine Kd.R_lit (Kd.int .i64) _ 2 ?hg (N := 14) ?hd (xs := ([3, 2, 3, 0] : List Int)) (inner := [.int .i64 3, .int .i64 2, .int .i64 3, .int .i64 0]) (ok := fun _ => True) (okp := fun _ => True) ?hr ?hp (fun _ hk => hk) trivial (Below.refl _ _) (Nat.le_refl _) (by simp) ?_; (case hd => rfl); (case hg => rfl); (case hr => first | (go_simp; done) | (go_simp; rfl)); (case hp => exact (Reps.one (show Kd.M (Kd.int .i64) _ _ _ 3 [.int .i64 3] from rfl) (Reps.one (show Kd.M (Kd.int .i64) _ _ _ 2 [.int .i64 2] from rfl) (Reps.one (show Kd.M (Kd.int .i64) _ _ _ 3 [.int .i64 3] from rfl) (Reps.one (show Kd.M (Kd.int .i64) _ _ _ 0 [.int .i64 0] from rfl) (Reps.none _ _)))))); intro v537 w13 ho14 hb hg_ hnew_; clear hg_ hnew_; (first | rw [← Ny536.out] at ho14 | (simp only [Int.reduceToNat] at ho14; rw [← Ny536.out] at ho14)); have n0_ := Aside0.mk (Kd.R_lower ho14 (below_size (by repeat (first | (with_reducible first | exact HB.out | apply below_alloc | apply pw_below_drewN | apply below_drew1) | exact HB.out)))); have n1_ := Aside0.mk (below_step (by repeat (first | (with_reducible first | exact HB.out | apply below_alloc | apply pw_below_drewN | apply below_drew1) | exact HB.out)) hb); clear HB; have HO538 := n0_; have HB := n1_; clear n0_ n1_; clear hb ho14; obtain ⟨Ao15, co15, eo15⟩ := Kd.R_slice HO538.out; subst eo15; have p539 : 0 ≤ ((ji9) : Int) := of_decide_eq_true (by first | (with_reducible assumption) | assumption); have q539 : (ji9) < (y536.length : Int) := of_decide_eq_true (by first | (with_reducible assumption) | assumption); obtain ⟨ad539, e539, hx539_0⟩ := Kd.at_int (Kd.R_reads' HO538.out).2.2 (ji9) p539 q539; cases e539; replace p539 := eq_true p539; replace q539 := eq_true q539))
            go_ret
            exact ⟨by first | rfl | (simp [errW_none, errW_some] <;> rfl) | (simp only [← hji9]; first | rfl | (simp [errW_none, errW_some] <;> rfl)) | (simp [*, errW_none, errW_some] <;> rfl), by repeat (first | (with_reducible first | exact HB.out | apply below_alloc | apply pw_below_drewN | apply below_drew1) | exact HB.out)⟩
          · rw [if_neg c11] at H
            exact absurd H (by simp)
        · rw [if_neg c10] at H
          exact absurd H (by simp)
      · replace c8 := Bool.eq_false_iff.mpr c8
        subst c8
        have H1 : (some 0) = some r := by rw [if_neg (show ¬ (false = true) by decide)] at H; exact H
        clear H
        have H := H1
        clear H1
        obtain rfl := Option.some.inj H
        go_enter Tryd.func180, Tryd.ntmps180
        go_wp2_with (first | ((with_reducible refine gate_callee (f := 77) rfl ?_); refine goesL_ (some 5) rfl rfl Tryd.func77 (by kernel_rfl) rfl #[.int .i64 a0] rfl (by (try simp only [List.map_toArray, List.map_cons, List.map_nil]); first | done | rfl | (simp only [List.length_drop, List.length_take]; rfl)) ?_; (with_reducible refine (spec_l01Cat.calls a0 t534 _ A2.out).mono ?_); rintro e w16 ⟨rfl, hb⟩; refine ⟨_, rfl, ?_⟩; have n0_ := Aside0.mk (below_step (by repeat (first | (with_reducible first | exact HB.out | apply below_alloc | apply pw_below_drewN | apply below_drew1) | exact HB.out)) hb); clear HB; have HB := n0_; clear n0_; (try clear hb); (try clear hb2); (try clear hk); (try clear hi)) | ((with_reducible refine gate_callee (f := 181) rfl ?_); refine goesL_ (some 12) rfl rfl Tryd.func181 (by kernel_rfl) rfl #[.int .i64 a0] rfl (by (try simp only [List.map_toArray, List.map_cons, List.map_nil]); first | done | rfl | (simp only [List.length_drop, List.length_take]; rfl)) ?_; (with_reducible refine (spec_l10Letter.calls a0 false _ A7.out).mono ?_); rintro e w' ⟨rfl, ⟨nd, rfl⟩⟩; refine ⟨_, rfl, ?_⟩))
        go_ret
        exact ⟨by first | rfl | (simp [errW_none, errW_some] <;> rfl) | (simp [*, errW_none, errW_some] <;> rfl), by repeat (first | (with_reducible first | exact HB.out | apply below_alloc | apply pw_below_drewN | apply below_drew1) | exact HB.out)⟩

/-! ### spec_l10Forms: function 114 (by hand) -/
def spec_l10Forms.lt (p : Int) : Bool := decide (1280 ≤ p) && decide (p ≤ 1311)
theorem spec_l10Forms.in_ (p : Int) : spec_l10Letter.f p = some (spec_l10Forms.lt p) := by
  unfold spec_l10Letter.f spec_l10Forms.lt
  by_cases c : 1280 ≤ p
  · rw [if_pos (show p ≥ 1280 from c), decide_eq_true c, Bool.true_and]
  · rw [if_neg (show ¬ p ≥ 1280 from c), decide_eq_false c, Bool.false_and]
def spec_l10Forms.first (l out : List Int) (i : Int) : List Int := if spec_l10Forms.lt (rd l i) = true then (if rd out i = 3 then out.set i.toNat 2 else out.set i.toNat 1) else out
def spec_l10Forms.join (l out : List Int) (i j : Int) : List Int := if spec_l10Forms.lt (rd l j) = true then (spec_l10Forms.first l out i).set j.toNat 3 else spec_l10Forms.first l out i
def spec_l10Forms.fine (l out : List Int) (i : Int) : Bool := !spec_l10Forms.lt (rd l i) || (decide (rd out i = 0) || decide (rd out i = 3))
theorem spec_l10Forms.fine_iff (l out : List Int) (i : Int) : spec_l10Forms.fine l out i = true ↔ (spec_l10Forms.lt (rd l i) = false ∨ rd out i = 0 ∨ rd out i = 3) := by
  unfold spec_l10Forms.fine
  cases spec_l10Forms.lt (rd l i) <;> simp
theorem spec_l10Forms.first_len (l out : List Int) (i : Int) : (spec_l10Forms.first l out i).length = out.length := by
  unfold spec_l10Forms.first; split
  · split <;> exact List.length_set
  · rfl
theorem spec_l10Forms.join_len (l out : List Int) (i j : Int) : (spec_l10Forms.join l out i j).length = out.length := by
  unfold spec_l10Forms.join; split
  · rw [List.length_set, spec_l10Forms.first_len]
  · exact spec_l10Forms.first_len l out i
def spec_l10Forms.run (l : List Int) : Nat → List Int → Int → Nat → Option (List Int)
  | 0, out, _, _ => some out
  | d + 1, out, last, i => (spec_JoinsTo.f (rd l (i : Int))).bind fun t => if t < 0 then spec_l10Forms.run l d out last (i + 1) else
      (if 0 ≤ last then (spec_JoinsTo.f (rd l last)).bind fun u => some (decide (u = 3) && decide (2 ≤ t)) else some false).bind fun b => if b = true then (if spec_l10Forms.fine l out last = true then spec_l10Forms.run l d (spec_l10Forms.join l out last (i : Int)) (i : Int) (i + 1) else none) else spec_l10Forms.run l d out (i : Int) (i + 1)
def spec_l10Forms.f (l0 : List Int) : Option (List Int) := if l0.length ≤ 1099511627776 then spec_l10Forms.run l0 l0.length (List.replicate l0.length 0) (-1) 0 else none
structure spec_l10Forms.Inv (w W : World) (l out : List Int) (v : Value) : Prop where
  row : Kd.R (Kd.int .i64) 2 W w.heap.size (fun _ => True) v out
  below : Below w.heap.size w W
  len : out.length = l.length
theorem spec_l10Forms.Inv.step {w W W1 : World} {l out : List Int} {v : Value} (h : spec_l10Forms.Inv w W l out v) (hb : Below W.heap.size W W1) : spec_l10Forms.Inv w W1 l out v := ⟨Kd.R_below h.row hb, below_step h.below hb, h.len⟩
theorem spec_l10Forms.Inv.put {w W : World} {l out : List Int} {v : Value} (h : spec_l10Forms.Inv w W l out v) {g c n : Nat} (hv : v = .slice (some ⟨g, 0, none⟩) n c) (i : Int) (x : Int) : spec_l10Forms.Inv w (W.setCell ⟨g, i.toNat, none⟩ (.int .i64 x)) l (out.set i.toNat x) v := by
  subst hv
  have hb := Kd.R_base h.row g (by simp [Value.ownBlock])
  have hn := (Kd.R_reads' h.row).1
  subst hn
  exact ⟨(Kd.R_put (enc := Value.int .i64) h.row i x).1, below_set h.below hb, by rw [List.length_set]; exact h.len⟩
theorem spec_l10Forms.Inv.at_ {w W : World} {c g : Nat} {l out : List Int} (h : spec_l10Forms.Inv w W l out (.slice (some ⟨g, 0, none⟩) l.length c)) (i : Int) (h0 : 0 ≤ i) (h1 : i < (l.length : Int)) : W.cell? ⟨g, i.toNat, none⟩ = some (.int .i64 (rd out i)) ∧ W.frozen? ⟨g, i.toNat, none⟩ = false := by
  have hr := h.row
  rw [← h.len] at hr
  exact Kd.R_cell (enc := Value.int .i64) 0 hr i h0 (by rw [h.len]; exact h1)
theorem spec_l10Forms.Inv.all {w W : World} {c g : Nat} {l out : List Int} (h : spec_l10Forms.Inv w W l out (.slice (some ⟨g, 0, none⟩) l.length c)) {ad : Addr} (i : Nat) (h1 : (i : Int) < (l.length : Int)) (hx : w.cell? (ad.add i) = some (.int .i64 (rd l (i : Int)))) : W.cell? (ad.add i) = some (.int .i64 (rd l (i : Int))) ∧ W.cell? ⟨g, i, none⟩ = some (.int .i64 (rd out (i : Int))) ∧ W.frozen? ⟨g, i, none⟩ = false :=
  ⟨(h.below.cell (World.block_lt_of_cell? w _ hx)).trans hx, (h.at_ (i : Int) (by omega) h1).1, (h.at_ (i : Int) (by omega) h1).2⟩
set_option maxHeartbeats 8000000 in
set_option maxRecDepth 100000 in
theorem spec_l10Forms.calls (A0 : Option Addr) (c0 : Nat) (l0 : List Int) (r : List Int) (w : World) (hr0 : Kd.C (Kd.int .i64) w A0 l0.length l0) (hc0 : l0.length ≤ c0) (h : spec_l10Forms.f l0 = some r) :
    Calls Tryd.prog 114 #[.slice A0 l0.length c0] w fun e w' => ∃ v0_ : Value, e = .returned (v0_) ∧ Kd.R (Kd.int .i64) 2 w' w.heap.size (fun _ => True) v0_ r ∧ Below w.heap.size w w' := by
  unfold spec_l10Forms.f at h
  by_cases hl : l0.length ≤ 1099511627776
  · rw [if_pos hl] at h
    have H0 := Aside0.mk h
    have HC := Aside0.mk hr0
    clear h hr0 hc0
    have hn : (0 : Int) ≤ (l0.length : Int) := by omega
    go_enter Tryd.func114, Tryd.ntmps114
    go_wp2_with (first | ((with_reducible refine gate_dst (N := 9) rfl ?_); refine Kd.R_make (Kd.int .i64) (w0 := w) w.heap.size 2 rfl (N := 9) rfl 25 _ _ rfl (l0.length : Int) rfl rfl Tryd.underlying25 (.int .i64 0) 8 info2 rfl (by decide) (by omega) 0 (ok := fun _ => True) (okp := fun _ => False) rfl (fun _ hk => hk.elim) trivial hn (by omega) (Below.refl _ _) (Nat.le_refl _) ?_; intro v5 w4 ho5 hb5 hg5 hn5; rw [Int.toNat_natCast] at ho5; obtain ⟨A5, c5, hv5⟩ := Kd.R_slice ho5; rw [List.length_replicate] at hv5; subst hv5; have HO5 := Aside0.mk ho5; have HB5 := Aside0.mk hb5; clear ho5 hb5 hg5 hn5))
    have HI0 := Aside0.mk (show spec_l10Forms.Inv w w4 l0 (List.replicate l0.length 0) (.slice A5 l0.length c5) from ⟨HO5.out, HB5.out, by rw [List.length_replicate]⟩)
    clear HO5 HB5
    go_loopw [4, 5] (fun v4 v5 wr => ∃ (i : Nat) (out : List Int) (last : Int), i ≤ l0.length ∧ -1 ≤ last ∧ last < i ∧ v4 = .int .i64 last ∧ v5 = .int .i64 i ∧ Aside0 (spec_l10Forms.run l0 (l0.length - i) out last i = some r) ∧ Aside0 (spec_l10Forms.Inv w wr l0 out (.slice A5 l0.length c5))) (fun _ v5 _ => l0.length - (intOf v5).toNat)
    case atStart => exact ⟨0, _, -1, Nat.zero_le _, by omega, by omega, rfl, rfl, H0, HI0⟩
    case round =>
      obtain ⟨i, out, last, hi, hl1, hl2, rfl, rfl, HR, HI⟩ := hrel
      clear H0 HI0
      by_cases hlt : i < l0.length
      · obtain ⟨d, hd⟩ : ∃ d, l0.length - i = d + 1 := ⟨l0.length - i - 1, by omega⟩
        have hd' : l0.length - (i + 1) = d := by omega
        have HH := HR.out
        rw [hd] at HH
        unfold spec_l10Forms.run at HH
        obtain ⟨u, hu, HH⟩ := Option.bind_eq_some_iff.mp HH
        rw [← hd'] at HH
        have HU := Aside0.mk hu
        clear hu hd hd' HR
        have i1 : (i : Int) < (l0.length : Int) := by omega
        have i0 : (0 : Int) ≤ (i : Int) := by omega
        obtain ⟨ad, e1, hx0⟩ := Kd.at_int HC.out (i : Int) i0 i1
        subst e1
        rw [Int.toNat_natCast] at hx0
        obtain ⟨g, cg, hvg, _⟩ := Kd.R_form HI.out.row (by rw [HI.out.len]; omega)
        rw [HI.out.len] at hvg
        injection hvg with hvg1 _ hvg2
        subst hvg1
        subst hvg2
        have hx := (HI.out.below.cell (World.block_lt_of_cell? w _ hx0)).trans hx0
        have HX0 := Aside0.mk hx0
        have q0 := eq_true i0
        have q1 := eq_true i1
        have q2 : decide ((i : Int) < (l0.length : Int)) = true := decide_eq_true i1
        clear hx0
        by_cases hneg : u < 0
        · rw [if_pos hneg] at HH
          have H1 := Aside0.mk HH
          have n1 : decide (u < 0) = true := decide_eq_true hneg
          clear HH hneg
          go_wp2_with (go_at_call 180; ((with_reducible refine (spec_JoinsTo.calls (rd l0 (i : Int)) u _ HU.out).mono ?_); rintro e w5 ⟨rfl, hb5⟩; have i5 := HI.out.step hb5; (try have hy5 := (i5.below.cell (World.block_lt_of_cell? w _ HY.out)).trans HY.out); have I5 := Aside0.mk i5; clear hb5 i5))
          go_roundw
          case rel => exact ⟨i + 1, out, last, by omega, by omega, by omega, rfl, by go_num, H1, I5⟩
          case measure => simp [intOf]; omega
        · rw [if_neg hneg] at HH
          have n1 : decide (u < 0) = false := decide_eq_false hneg
          have n2 : (0 : Int) ≤ u := by omega
          clear hneg
          by_cases hlast : 0 ≤ last
          · rw [if_pos hlast] at HH
            obtain ⟨ls, rfl⟩ := Int.eq_ofNat_of_zero_le hlast
            have l1 : (ls : Int) < (l0.length : Int) := by omega
            obtain ⟨b, hb, HH⟩ := Option.bind_eq_some_iff.mp HH
            obtain ⟨x, hx2, hb⟩ := Option.bind_eq_some_iff.mp hb
            have hb := Option.some.inj hb
            have HX2 := Aside0.mk hx2
            obtain ⟨ad2, e2, hy0⟩ := Kd.at_int HC.out (ls : Int) hlast l1
            obtain rfl : ad = ad2 := by injection e2
            rw [Int.toNat_natCast] at hy0
            have HY := Aside0.mk hy0
            have r0 := eq_true hlast
            have r1 := eq_true l1
            have r2 : decide (0 ≤ (ls : Int)) = true := decide_eq_true hlast
            clear hx2 hy0 e2
            by_cases hx3 : x = 3
            · have m1 : (x == 3) = true := beq_iff_eq.mpr hx3
              rw [decide_eq_true hx3, Bool.true_and] at hb
              clear hx3
              by_cases hu2 : 2 ≤ u
              · rw [decide_eq_true hu2] at hb
                subst hb
                rw [if_pos rfl] at HH
                have m2 : decide (2 ≤ u) = true := decide_eq_true hu2
                clear hu2
                by_cases hfine : spec_l10Forms.fine l0 out (ls : Int) = true
                · rw [if_pos hfine] at HH
                  have H1 := Aside0.mk HH
                  clear HH
                  obtain ⟨bl, hbl⟩ : ∃ b, spec_l10Forms.lt (rd l0 (ls : Int)) = b := ⟨_, rfl⟩
                  obtain ⟨bi, hbi⟩ : ∃ b, spec_l10Forms.lt (rd l0 (i : Int)) = b := ⟨_, rfl⟩
                  have HL1 : ∀ V : World, Calls Tryd.prog 181 #[.int .i64 (rd l0 (ls : Int))] V fun e w' => e = .returned (.bool bl) ∧ Drawn0 V w' := fun V => spec_l10Letter.calls _ _ V (by rw [spec_l10Forms.in_, hbl])
                  have HL2 : ∀ V : World, Calls Tryd.prog 181 #[.int .i64 (rd l0 (i : Int))] V fun e w' => e = .returned (.bool bi) ∧ Drawn0 V w' := fun V => spec_l10Letter.calls _ _ V (by rw [spec_l10Forms.in_, hbi])
                  have HBL := Aside0.mk hbl
                  have HBI := Aside0.mk hbi
                  replace hfine := (spec_l10Forms.fine_iff l0 out (ls : Int)).1 hfine
                  rw [hbl] at hfine
                  clear hbl hbi
                  cases bl with
                  | false =>
                    clear hfine
                    have EJ : ∀ b : Bool, spec_l10Forms.lt (rd l0 (i : Int)) = b → spec_l10Forms.join l0 out (ls : Int) (i : Int) = if b = true then out.set i 3 else out := by
                      intro b hb
                      unfold spec_l10Forms.join spec_l10Forms.first
                      rw [hb, HBL.out, Int.toNat_natCast]
                      rfl
                    cases bi with
                    | false =>
                      rw [EJ false HBI.out, if_neg (by decide)] at H1
                      go_wp2_with (first | (go_at_call 180; ((with_reducible refine (spec_JoinsTo.calls (rd l0 (i : Int)) u _ HU.out).mono ?_); rintro e w5 ⟨rfl, hb5⟩; have i5 := HI.out.step hb5; (try have hy5 := (i5.below.cell (World.block_lt_of_cell? w _ HY.out)).trans HY.out); have I5 := Aside0.mk i5; clear hb5 i5)) | (go_at_call 180; ((with_reducible refine (spec_JoinsTo.calls (rd l0 (ls : Int)) x _ HX2.out).mono ?_); rintro e w6 ⟨rfl, hb6⟩; have i6 := I5.out.step hb6; have hy6 := (i6.below.cell (World.block_lt_of_cell? w _ HY.out)).trans HY.out; obtain ⟨f61, f62, f63⟩ := i6.all i i1 HX0.out; have I6 := Aside0.mk i6; clear hb6 i6)) | (go_at_call 181; ((with_reducible refine (HL1 _).mono ?_); rintro e w7 ⟨rfl, ⟨nd, rfl⟩⟩)) | (go_at_call 181; ((with_reducible refine (HL2 _).mono ?_); rintro e w9 ⟨rfl, ⟨nd9, rfl⟩⟩)))
                      go_roundw
                      case rel => exact ⟨i + 1, _, (i : Int), by omega, by omega, by omega, rfl, by go_num, H1, ⟨by exact I6.out.step (pw_below_drewN (Below.refl _ _) _)⟩⟩
                      case measure => simp [intOf]; omega
                    | true =>
                      rw [EJ true HBI.out, if_pos rfl] at H1
                      go_wp2_with (first | (go_at_call 180; ((with_reducible refine (spec_JoinsTo.calls (rd l0 (i : Int)) u _ HU.out).mono ?_); rintro e w5 ⟨rfl, hb5⟩; have i5 := HI.out.step hb5; (try have hy5 := (i5.below.cell (World.block_lt_of_cell? w _ HY.out)).trans HY.out); have I5 := Aside0.mk i5; clear hb5 i5)) | (go_at_call 180; ((with_reducible refine (spec_JoinsTo.calls (rd l0 (ls : Int)) x _ HX2.out).mono ?_); rintro e w6 ⟨rfl, hb6⟩; have i6 := I5.out.step hb6; have hy6 := (i6.below.cell (World.block_lt_of_cell? w _ HY.out)).trans HY.out; obtain ⟨f61, f62, f63⟩ := i6.all i i1 HX0.out; have I6 := Aside0.mk i6; clear hb6 i6)) | (go_at_call 181; ((with_reducible refine (HL1 _).mono ?_); rintro e w7 ⟨rfl, ⟨nd, rfl⟩⟩)) | (go_at_call 181; ((with_reducible refine (HL2 _).mono ?_); rintro e w9 ⟨rfl, ⟨nd9, rfl⟩⟩)))
                      go_roundw
                      case rel => exact ⟨i + 1, _, (i : Int), by omega, by omega, by omega, rfl, by go_num, H1, ⟨(I6.out.step (pw_below_drewN (Below.refl _ _) _)).put rfl (i : Int) 3⟩⟩
                      case measure => simp [intOf]; omega
                  | true =>
                    rcases hfine with hfine | hfine | hfine
                    · cases hfine
                    · have EJ : ∀ b : Bool, spec_l10Forms.lt (rd l0 (i : Int)) = b → spec_l10Forms.join l0 out (ls : Int) (i : Int) = if b = true then (out.set ls 1).set i 3 else out.set ls 1 := by
                        intro b hb
                        unfold spec_l10Forms.join spec_l10Forms.first
                        rw [hb, HBL.out, if_pos rfl, hfine, if_neg (show ¬ ((0 : Int) = 3) by decide), Int.toNat_natCast, Int.toNat_natCast]
                      have HF := Aside0.mk hfine
                      clear hfine
                      cases bi with
                      | false =>
                        rw [EJ false HBI.out, if_neg (by decide)] at H1
                        go_wp2_with (first | (go_at_call 180; ((with_reducible refine (spec_JoinsTo.calls (rd l0 (i : Int)) u _ HU.out).mono ?_); rintro e w5 ⟨rfl, hb5⟩; have i5 := HI.out.step hb5; (try have hy5 := (i5.below.cell (World.block_lt_of_cell? w _ HY.out)).trans HY.out); have I5 := Aside0.mk i5; clear hb5 i5)) | (go_at_call 180; ((with_reducible refine (spec_JoinsTo.calls (rd l0 (ls : Int)) x _ HX2.out).mono ?_); rintro e w6 ⟨rfl, hb6⟩; have i6 := I5.out.step hb6; have hy6 := (i6.below.cell (World.block_lt_of_cell? w _ HY.out)).trans HY.out; obtain ⟨f61, f62, f63⟩ := i6.all i i1 HX0.out; have I6 := Aside0.mk i6; clear hb6 i6)) | (go_at_call 181; ((with_reducible refine (HL1 _).mono ?_); rintro e w7 ⟨rfl, ⟨nd, rfl⟩⟩; have fl : ((w6.drewN nd).alloc (.cells #[.int .i64 1, .int .i64 1, .int .i64 2, .int .i64 2] 2 (0, 0))).cell? ⟨w6.heap.size, 0, none⟩ = some (.int .i64 1) := (blk_cell (blk_new (w6.drewN nd) _) 0).trans rfl; have i7 := I6.out.step (below_alloc (pw_below_drewN (Below.refl w6.heap.size w6) nd) (.cells #[.int .i64 1, .int .i64 1, .int .i64 2, .int .i64 2] 2 (0, 0))); obtain ⟨_, f72, f73⟩ := i7.all ls l1 HY.out; rw [HF.out] at f72; have i8 := i7.put rfl (ls : Int) 1; rw [Int.toNat_natCast] at i8; obtain ⟨f81, f82, f83⟩ := i8.all i i1 HX0.out; have I8 := Aside0.mk i8; clear i7 i8)) | (go_at_call 181; ((with_reducible refine (HL2 _).mono ?_); rintro e w9 ⟨rfl, ⟨nd9, rfl⟩⟩)))
                        go_roundw
                        case rel => exact ⟨i + 1, _, (i : Int), by omega, by omega, by omega, rfl, by go_num, H1, ⟨I8.out.step (pw_below_drewN (Below.refl _ _) _)⟩⟩
                        case measure => simp [intOf]; omega
                      | true =>
                        rw [EJ true HBI.out, if_pos rfl] at H1
                        go_wp2_with (first | (go_at_call 180; ((with_reducible refine (spec_JoinsTo.calls (rd l0 (i : Int)) u _ HU.out).mono ?_); rintro e w5 ⟨rfl, hb5⟩; have i5 := HI.out.step hb5; (try have hy5 := (i5.below.cell (World.block_lt_of_cell? w _ HY.out)).trans HY.out); have I5 := Aside0.mk i5; clear hb5 i5)) | (go_at_call 180; ((with_reducible refine (spec_JoinsTo.calls (rd l0 (ls : Int)) x _ HX2.out).mono ?_); rintro e w6 ⟨rfl, hb6⟩; have i6 := I5.out.step hb6; have hy6 := (i6.below.cell (World.block_lt_of_cell? w _ HY.out)).trans HY.out; obtain ⟨f61, f62, f63⟩ := i6.all i i1 HX0.out; have I6 := Aside0.mk i6; clear hb6 i6)) | (go_at_call 181; ((with_reducible refine (HL1 _).mono ?_); rintro e w7 ⟨rfl, ⟨nd, rfl⟩⟩; have fl : ((w6.drewN nd).alloc (.cells #[.int .i64 1, .int .i64 1, .int .i64 2, .int .i64 2] 2 (0, 0))).cell? ⟨w6.heap.size, 0, none⟩ = some (.int .i64 1) := (blk_cell (blk_new (w6.drewN nd) _) 0).trans rfl; have i7 := I6.out.step (below_alloc (pw_below_drewN (Below.refl w6.heap.size w6) nd) (.cells #[.int .i64 1, .int .i64 1, .int .i64 2, .int .i64 2] 2 (0, 0))); obtain ⟨_, f72, f73⟩ := i7.all ls l1 HY.out; rw [HF.out] at f72; have i8 := i7.put rfl (ls : Int) 1; rw [Int.toNat_natCast] at i8; obtain ⟨f81, f82, f83⟩ := i8.all i i1 HX0.out; have I8 := Aside0.mk i8; clear i7 i8)) | (go_at_call 181; ((with_reducible refine (HL2 _).mono ?_); rintro e w9 ⟨rfl, ⟨nd9, rfl⟩⟩)))
                        go_roundw
                        case rel => exact ⟨i + 1, _, (i : Int), by omega, by omega, by omega, rfl, by go_num, H1, ⟨(I8.out.step (pw_below_drewN (Below.refl _ _) _)).put rfl (i : Int) 3⟩⟩
                        case measure => simp [intOf]; omega
                    · have EJ : ∀ b : Bool, spec_l10Forms.lt (rd l0 (i : Int)) = b → spec_l10Forms.join l0 out (ls : Int) (i : Int) = if b = true then (out.set ls 2).set i 3 else out.set ls 2 := by
                        intro b hb
                        unfold spec_l10Forms.join spec_l10Forms.first
                        rw [hb, HBL.out, if_pos rfl, hfine, if_pos rfl, Int.toNat_natCast, Int.toNat_natCast]
                      have HF := Aside0.mk hfine
                      clear hfine
                      cases bi with
                      | false =>
                        rw [EJ false HBI.out, if_neg (by decide)] at H1
                        go_wp2_with (first | (go_at_call 180; ((with_reducible refine (spec_JoinsTo.calls (rd l0 (i : Int)) u _ HU.out).mono ?_); rintro e w5 ⟨rfl, hb5⟩; have i5 := HI.out.step hb5; (try have hy5 := (i5.below.cell (World.block_lt_of_cell? w _ HY.out)).trans HY.out); have I5 := Aside0.mk i5; clear hb5 i5)) | (go_at_call 180; ((with_reducible refine (spec_JoinsTo.calls (rd l0 (ls : Int)) x _ HX2.out).mono ?_); rintro e w6 ⟨rfl, hb6⟩; have i6 := I5.out.step hb6; have hy6 := (i6.below.cell (World.block_lt_of_cell? w _ HY.out)).trans HY.out; obtain ⟨f61, f62, f63⟩ := i6.all i i1 HX0.out; have I6 := Aside0.mk i6; clear hb6 i6)) | (go_at_call 181; ((with_reducible refine (HL1 _).mono ?_); rintro e w7 ⟨rfl, ⟨nd, rfl⟩⟩; have fl : ((w6.drewN nd).alloc (.cells #[.int .i64 1, .int .i64 1, .int .i64 2, .int .i64 2] 2 (0, 0))).cell? ⟨w6.heap.size, 3, none⟩ = some (.int .i64 2) := (blk_cell (blk_new (w6.drewN nd) _) 3).trans rfl; have i7 := I6.out.step (below_alloc (pw_below_drewN (Below.refl w6.heap.size w6) nd) (.cells #[.int .i64 1, .int .i64 1, .int .i64 2, .int .i64 2] 2 (0, 0))); obtain ⟨_, f72, f73⟩ := i7.all ls l1 HY.out; rw [HF.out] at f72; have i8 := i7.put rfl (ls : Int) 2; rw [Int.toNat_natCast] at i8; obtain ⟨f81, f82, f83⟩ := i8.all i i1 HX0.out; have I8 := Aside0.mk i8; clear i7 i8)) | (go_at_call 181; ((with_reducible refine (HL2 _).mono ?_); rintro e w9 ⟨rfl, ⟨nd9, rfl⟩⟩)))
                        go_roundw
                        case rel => exact ⟨i + 1, _, (i : Int), by omega, by omega, by omega, rfl, by go_num, H1, ⟨I8.out.step (pw_below_drewN (Below.refl _ _) _)⟩⟩
                        case measure => simp [intOf]; omega
                      | true =>
                        rw [EJ true HBI.out, if_pos rfl] at H1
                        go_wp2_with (first | (go_at_call 180; ((with_reducible refine (spec_JoinsTo.calls (rd l0 (i : Int)) u _ HU.out).mono ?_); rintro e w5 ⟨rfl, hb5⟩; have i5 := HI.out.step hb5; (try have hy5 := (i5.below.cell (World.block_lt_of_cell? w _ HY.out)).trans HY.out); have I5 := Aside0.mk i5; clear hb5 i5)) | (go_at_call 180; ((with_reducible refine (spec_JoinsTo.calls (rd l0 (ls : Int)) x _ HX2.out).mono ?_); rintro e w6 ⟨rfl, hb6⟩; have i6 := I5.out.step hb6; have hy6 := (i6.below.cell (World.block_lt_of_cell? w _ HY.out)).trans HY.out; obtain ⟨f61, f62, f63⟩ := i6.all i i1 HX0.out; have I6 := Aside0.mk i6; clear hb6 i6)) | (go_at_call 181; ((with_reducible refine (HL1 _).mono ?_); rintro e w7 ⟨rfl, ⟨nd, rfl⟩⟩; have fl : ((w6.drewN nd).alloc (.cells #[.int .i64 1, .int .i64 1, .int .i64 2, .int .i64 2] 2 (0, 0))).cell? ⟨w6.heap.size, 3, none⟩ = some (.int .i64 2) := (blk_cell (blk_new (w6.drewN nd) _) 3).trans rfl; have i7 := I6.out.step (below_alloc (pw_below_drewN (Below.refl w6.heap.size w6) nd) (.cells #[.int .i64 1, .int .i64 1, .int .i64 2, .int .i64 2] 2 (0, 0))); obtain ⟨_, f72, f73⟩ := i7.all ls l1 HY.out; rw [HF.out] at f72; have i8 := i7.put rfl (ls : Int) 2; rw [Int.toNat_natCast] at i8; obtain ⟨f81, f82, f83⟩ := i8.all i i1 HX0.out; have I8 := Aside0.mk i8; clear i7 i8)) | (go_at_call 181; ((with_reducible refine (HL2 _).mono ?_); rintro e w9 ⟨rfl, ⟨nd9, rfl⟩⟩)))
                        go_roundw
                        case rel => exact ⟨i + 1, _, (i : Int), by omega, by omega, by omega, rfl, by go_num, H1, ⟨(I8.out.step (pw_below_drewN (Below.refl _ _) _)).put rfl (i : Int) 3⟩⟩
                        case measure => simp [intOf]; omega
                · rw [if_neg hfine] at HH
                  cases HH
              · rw [decide_eq_false hu2] at hb
                subst hb
                rw [if_neg (by decide)] at HH
                have H1 := Aside0.mk HH
                have m2 : decide (2 ≤ u) = false := decide_eq_false hu2
                clear HH hu2
                go_wp2_with (first | (go_at_call 180; ((with_reducible refine (spec_JoinsTo.calls (rd l0 (i : Int)) u _ HU.out).mono ?_); rintro e w5 ⟨rfl, hb5⟩; have i5 := HI.out.step hb5; (try have hy5 := (i5.below.cell (World.block_lt_of_cell? w _ HY.out)).trans HY.out); have I5 := Aside0.mk i5; clear hb5 i5)) | (go_at_call 180; ((with_reducible refine (spec_JoinsTo.calls (rd l0 (ls : Int)) x _ HX2.out).mono ?_); rintro e w6 ⟨rfl, hb6⟩; have i6 := I5.out.step hb6; have hy6 := (i6.below.cell (World.block_lt_of_cell? w _ HY.out)).trans HY.out; obtain ⟨f61, f62, f63⟩ := i6.all i i1 HX0.out; have I6 := Aside0.mk i6; clear hb6 i6)))
                go_roundw
                case rel => exact ⟨i + 1, _, (i : Int), by omega, by omega, by omega, rfl, by go_num, H1, I6⟩
                case measure => simp [intOf]; omega
            · have m1 : (x == 3) = false := beq_eq_false_iff_ne.mpr hx3
              rw [decide_eq_false hx3, Bool.false_and] at hb
              subst hb
              rw [if_neg (by decide)] at HH
              have H1 := Aside0.mk HH
              clear HH hx3
              go_wp2_with (first | (go_at_call 180; ((with_reducible refine (spec_JoinsTo.calls (rd l0 (i : Int)) u _ HU.out).mono ?_); rintro e w5 ⟨rfl, hb5⟩; have i5 := HI.out.step hb5; (try have hy5 := (i5.below.cell (World.block_lt_of_cell? w _ HY.out)).trans HY.out); have I5 := Aside0.mk i5; clear hb5 i5)) | (go_at_call 180; ((with_reducible refine (spec_JoinsTo.calls (rd l0 (ls : Int)) x _ HX2.out).mono ?_); rintro e w6 ⟨rfl, hb6⟩; have i6 := I5.out.step hb6; have hy6 := (i6.below.cell (World.block_lt_of_cell? w _ HY.out)).trans HY.out; obtain ⟨f61, f62, f63⟩ := i6.all i i1 HX0.out; have I6 := Aside0.mk i6; clear hb6 i6)))
              go_roundw
              case rel => exact ⟨i + 1, _, (i : Int), by omega, by omega, by omega, rfl, by go_num, H1, I6⟩
              case measure => simp [intOf]; omega
          · rw [if_neg hlast] at HH
            simp only [Option.bind_some] at HH
            rw [if_neg (by decide)] at HH
            have H1 := Aside0.mk HH
            have r2 : decide (0 ≤ last) = false := decide_eq_false hlast
            clear HH hlast
            go_wp2_with (go_at_call 180; ((with_reducible refine (spec_JoinsTo.calls (rd l0 (i : Int)) u _ HU.out).mono ?_); rintro e w5 ⟨rfl, hb5⟩; have i5 := HI.out.step hb5; (try have hy5 := (i5.below.cell (World.block_lt_of_cell? w _ HY.out)).trans HY.out); have I5 := Aside0.mk i5; clear hb5 i5))
            go_roundw
            case rel => exact ⟨i + 1, out, (i : Int), by omega, by omega, by omega, rfl, by go_num, H1, I5⟩
            case measure => simp [intOf]; omega
      · obtain rfl : i = l0.length := by omega
        have HH := HR.out
        rw [Nat.sub_self] at HH
        have HH := Option.some.inj HH
        subst HH
        clear hlt HR
        go_wp2
        go_ret
        exact ⟨_, rfl, HI.out.row, HI.out.below⟩
  · rw [if_neg hl] at h
    cases h

/-! ### spec_FormsOf: function 42 -/
def spec_FormsOf.f (a0 : ByteArray) : Option (List Int) := if (a0.size : Int) > 65536 then (some (([] : List Int))) else ((W_spec_l01Points.f a0).bind fun t543 => ((spec_l10Forms.f t543).bind fun t546 => (some t546)))
set_option maxHeartbeats 8000000 in
set_option maxRecDepth 100000 in
theorem spec_FormsOf.calls (a0 : ByteArray) (r : List Int) (w : World) (h : spec_FormsOf.f a0 = some r) :
    Calls Tryd.prog 42 #[.string a0] w fun e w' => ∃ v0_ : Value, e = .returned (v0_) ∧ Kd.R (Kd.int .i64) 2 w' w.heap.size (fun _ => True) v0_ r ∧ Below w.heap.size w w' := by
  have HB := Aside0.mk (Below.refl w.heap.size w)
  have H : (if (a0.size : Int) > 65536 then (some (([] : List Int))) else ((W_spec_l01Points.f a0).bind fun t543 => ((spec_l10Forms.f t543).bind fun t546 => (some t546)))) = some r := h
  clear h
  by_cases c2 : (a0.size : Int) > 65536
  · rw [if_pos c2] at H
    have c2b0 : decide (65536 < (a0.size : Int)) = true := decide_eq_true c2
    have c2b1 : decide (65536 < a0.size) = true := decide_eq_true (by omega)
    clear c2
    obtain ⟨y540, hy540⟩ : ∃ y_ : List Int, y_ = (([] : List Int)) := ⟨_, rfl⟩
    replace H : (some y540) = some r := by first | (rw [hy540]; with_reducible exact H) | (have H2_ := (Option.bind_some _ _).symm.trans H; rw [hy540]; with_reducible exact H2_) | (have H2_ := (Option.bind_some _ _).symm.trans H; with_reducible exact H2_) | with_reducible exact H | (rw [hy540]; exact H) | exact H
    have Ny540 := Aside0.mk hy540
    clear hy540
    obtain rfl := Option.some.inj H
    go_enter Tryd.func42, Tryd.ntmps42
    go_wp2_with (first | ((with_reducible refine gate_dst (N := 6) rfl ?_); refine Kd.R_lit (Kd.int .i64) _ 2 ?hg (N := 6) ?hd (xs := ([] : List Int)) (inner := []) (ok := fun _ => True) (okp := fun _ => True) ?hr ?hp (fun _ hk => hk) trivial (Below.refl _ _) (Nat.le_refl _) (by simp) ?_; (case hd => rfl); (case hg => rfl); (case hr => first | (go_simp; done) | (go_simp; rfl)); (case hp => exact (Reps.none _ _)); intro v541 w3 ho4 hb hg_ hnew_; clear hg_ hnew_; (first | rw [← Ny540.out] at ho4 | (simp only [Int.reduceToNat] at ho4; rw [← Ny540.out] at ho4)); have n0_ := Aside0.mk (Kd.R_lower ho4 (below_size (by repeat (first | (with_reducible first | exact HB.out | apply below_alloc | apply pw_below_drewN | apply below_drew1) | exact HB.out)))); have n1_ := Aside0.mk (below_step (by repeat (first | (with_reducible first | exact HB.out | apply below_alloc | apply pw_below_drewN | apply below_drew1) | exact HB.out)) hb); clear HB; have HO542 := n0_; have HB := n1_; clear n0_ n1_; clear hb ho4))
    go_ret
    exact ⟨_, by first | rfl | (simp [errW_none, errW_some] <;> rfl) | (simp [*, errW_none, errW_some] <;> rfl), by (with_reducible repeat (first | apply Kd.R_alloc | apply Kd.R_drewN | apply Kd.R_drew)); exact HO542.out, by repeat (first | (with_reducible first | exact HB.out | apply below_alloc | apply pw_below_drewN | apply below_drew1) | exact HB.out)⟩
  · rw [if_neg c2] at H
    have c2b0 : decide (65536 < (a0.size : Int)) = false := decide_eq_false c2
    have c2b1 : decide (65536 < a0.size) = false := decide_eq_false (by omega)
    clear c2
    replace H := Option.bind_eq_some_iff.mp H
    obtain ⟨t543, A50, H⟩ := H
    replace H : ((spec_l10Forms.f t543).bind fun t546 => (some t546)) = some r := H
    have A5 := Aside0.mk A50
    clear A50
    replace H := Option.bind_eq_some_iff.mp H
    obtain ⟨t546, A60, H⟩ := H
    replace H : (some t546) = some r := H
    have A6 := Aside0.mk A60
    clear A60
    obtain rfl := Option.some.inj H
    go_enter Tryd.func42, Tryd.ntmps42
    go_wp2_with (first | ((with_reducible refine gate_callee (f := 102) rfl ?_); refine goesL_ (some 8) rfl rfl Tryd.func102 (by kernel_rfl) rfl #[.string a0] rfl (by (try simp only [List.map_toArray, List.map_cons, List.map_nil]); first | done | rfl | (simp only [List.length_drop, List.length_take]; rfl)) ?_; (with_reducible refine (W_spec_l01Points.calls a0 t543 _ A5.out).mono ?_); rintro e w7 ⟨v544, rfl, ho0, hb⟩; refine ⟨_, rfl, ?_⟩; have n0_ := Aside0.mk (Kd.R_lower ho0 (below_size (by repeat (first | (with_reducible first | exact HB.out | apply below_alloc | apply pw_below_drewN | apply below_drew1) | exact HB.out)))); have n1_ := Aside0.mk (below_step (by repeat (first | (with_reducible first | exact HB.out | apply below_alloc | apply pw_below_drewN | apply below_drew1) | exact HB.out)) hb); clear HB; have HO545 := n0_; have HB := n1_; clear n0_ n1_; (try clear hb); (try clear hb2); (try clear hk); (try clear hi); (try clear ho0); obtain ⟨Ao8, co8, eo8⟩ := Kd.R_slice HO545.out; subst eo8) | ((with_reducible refine gate_callee (f := 114) rfl ?_); refine goesL_ (some 9) rfl rfl Tryd.func114 (by kernel_rfl) rfl #[.slice Ao8 t543.length co8] rfl (by (try simp only [List.map_toArray, List.map_cons, List.map_nil]); first | done | rfl | (simp only [List.length_drop, List.length_take]; rfl)) ?_; (with_reducible refine (spec_l10Forms.calls _ _ t543 t546 _ ?side1 ?side2 A6.out).mono ?_); (case side1 => repeat (first | exact (Kd.R_reads' HO545.out).2.2 | (with_reducible refine Kd.C_alloc ?_ _) | (with_reducible refine Kd.C_drewN ?_ _) | (with_reducible refine Kd.C_drew ?_))); (case side2 => exact (Kd.R_reads' HO545.out).2.1); rintro e w9 ⟨v547, rfl, ho0, hb⟩; refine ⟨_, rfl, ?_⟩; have n0_ := Aside0.mk (Kd.R_elder' (by (with_reducible repeat (first | apply Kd.R_alloc | apply Kd.R_drewN | apply Kd.R_drew)); exact HO545.out) (Kd.R_base ho0) hb); have n1_ := Aside0.mk (Kd.R_lower (Kd.R_new' ho0 (Kd.R_lt (by (with_reducible repeat (first | apply Kd.R_alloc | apply Kd.R_drewN | apply Kd.R_drew)); exact HO545.out))) (below_size (by repeat (first | (with_reducible first | exact HB.out | apply below_alloc | apply pw_below_drewN | apply below_drew1) | exact HB.out)))); have n2_ := Aside0.mk (below_step (by repeat (first | (with_reducible first | exact HB.out | apply below_alloc | apply pw_below_drewN | apply below_drew1) | exact HB.out)) hb); clear HO545; clear HB; have HO545 := n0_; have HO548 := n1_; have HB := n2_; clear n0_ n1_ n2_; (try clear hb); (try clear hb2); (try clear hk); (try clear hi); (try clear ho0)))
    go_ret
    exact ⟨_, by first | rfl | (simp [errW_none, errW_some] <;> rfl) | (simp [*, errW_none, errW_some] <;> rfl), by (with_reducible repeat (first | apply Kd.R_alloc | apply Kd.R_drewN | apply Kd.R_drew)); exact Kd.R_mono HO548.out (fun _ hk => trivial), by repeat (first | (with_reducible first | exact HB.out | apply below_alloc | apply pw_below_drewN | apply below_drew1) | exact HB.out)⟩

end Go.Proofs.YtnonijganceneaaDoor.QFnJoined
