/- The law FnJoined: at every input the call answers true (this text: contracts on its way, by a program of this session's; no condition of ours). -/
import Derived.Test.YtnonijganceneaaDoorQFnJoinedx0
import Derived.Test.YtnonijganceneaaDoorQFnJoinedx8
namespace Go.Proofs.YtnonijganceneaaDoor.QFnJoined
open Go.RowKit Go.Proofs.YtnonijganceneaaDoorW.PrintWords Go.Proofs.YtnonijganceneaaDoorW.PrintLast Go.Proofs.YtnonijganceneaaDoorW.PrintMore
attribute [local go_sem] max2_int min2_int max_two min_two max_three min_three max_four min_four   -- for this text's walks alone
set_option linter.unusedVariables false
set_option linter.unusedSimpArgs false

/-! ### impl_JoinsTo: function 43 -/
def impl_JoinsTo.f (a0 : Int) : Option (Int) := (impl_in.f a0 1280 1311).bind fun t500 => (if t500 = true then ((some (([3, 2, 3, 0] : List Int) : List Int)).bind fun y501 => (if 0 ≤ (Int.tmod a0 4) then (if (Int.tmod a0 4) < (y501.length : Int) then (some (rd y501 (Int.tmod a0 4))) else (none)) else (none))) else (if a0 = 7936 then (some 3) else ((impl_isMark.f a0).bind fun t505 => (if t505 = true then (some (-1)) else (some 0)))))
set_option maxHeartbeats 8000000 in
set_option maxRecDepth 100000 in
theorem impl_JoinsTo.calls (a0 : Int) (r : Int) (w : World) (h : impl_JoinsTo.f a0 = some r) :
    Calls Tryd.prog 43 #[.int .i64 a0] w fun e w' => e = .returned (.int .i64 r) ∧ Below w.heap.size w w' := by
  have HB := Aside0.mk (Below.refl w.heap.size w)
  have H : ((impl_in.f a0 1280 1311).bind fun t500 => (if t500 = true then ((some (([3, 2, 3, 0] : List Int) : List Int)).bind fun y501 => (if 0 ≤ (Int.tmod a0 4) then (if (Int.tmod a0 4) < (y501.length : Int) then (some (rd y501 (Int.tmod a0 4))) else (none)) else (none))) else (if a0 = 7936 then (some 3) else ((impl_isMark.f a0).bind fun t505 => (if t505 = true then (some (-1)) else (some 0)))))) = some r := h
  clear h
  replace H := Option.bind_eq_some_iff.mp H
  obtain ⟨t500, A20, H⟩ := H
  replace H : (if t500 = true then ((some (([3, 2, 3, 0] : List Int) : List Int)).bind fun y501 => (if 0 ≤ (Int.tmod a0 4) then (if (Int.tmod a0 4) < (y501.length : Int) then (some (rd y501 (Int.tmod a0 4))) else (none)) else (none))) else (if a0 = 7936 then (some 3) else ((impl_isMark.f a0).bind fun t505 => (if t505 = true then (some (-1)) else (some 0))))) = some r := H
  have A2 := Aside0.mk A20
  clear A20
  by_cases c3 : t500 = true
  · subst c3
    have H1 : ((some (([3, 2, 3, 0] : List Int) : List Int)).bind fun y501 => (if 0 ≤ (Int.tmod a0 4) then (if (Int.tmod a0 4) < (y501.length : Int) then (some (rd y501 (Int.tmod a0 4))) else (none)) else (none))) = some r := by rw [if_pos rfl] at H; exact H
    clear H
    have H := H1
    clear H1
    obtain ⟨y501, hy501⟩ : ∃ y_ : List Int, y_ = (([3, 2, 3, 0] : List Int)) := ⟨_, rfl⟩
    replace H : (if 0 ≤ (Int.tmod a0 4) then (if (Int.tmod a0 4) < (y501.length : Int) then (some (rd y501 (Int.tmod a0 4))) else (none)) else (none)) = some r := by first | (rw [hy501]; with_reducible exact H) | (have H2_ := (Option.bind_some _ _).symm.trans H; rw [hy501]; with_reducible exact H2_) | (have H2_ := (Option.bind_some _ _).symm.trans H; with_reducible exact H2_) | with_reducible exact H | (rw [hy501]; exact H) | exact H
    have Ny501 := Aside0.mk hy501
    clear hy501
    obtain ⟨ji4, hji4⟩ : ∃ j_ : Int, (Int.tmod a0 4) = j_ := ⟨_, rfl⟩
    replace H : (if 0 ≤ (ji4) then (if (ji4) < (y501.length : Int) then (some (rd y501 (ji4))) else (none)) else (none)) = some r := by first | (rw [hji4] at H; exact H) | (simp only [hji4] at H ⊢; exact H)
    (try rw [hji4] at A2)
    by_cases c5 : 0 ≤ (ji4)
    · rw [if_pos c5] at H
      have c5b0 : decide (0 ≤ (ji4)) = true := decide_eq_true c5
      clear c5
      by_cases c6 : (ji4) < (y501.length : Int)
      · rw [if_pos c6] at H
        have c6b0 : decide ((ji4) < (y501.length : Int)) = true := decide_eq_true c6
        clear c6
        obtain rfl := Option.some.inj H
        go_enter Tryd.func43, Tryd.ntmps43
        go_wp2_with (first | ((with_reducible refine gate_callee (f := 76) rfl ?_); refine goesL_ (some 5) rfl rfl Tryd.func76 (by kernel_rfl) rfl #[.int .i64 a0, .int .i64 1280, .int .i64 1311] rfl (by (try simp only [List.map_toArray, List.map_cons, List.map_nil]); first | done | rfl | (simp only [List.length_drop, List.length_take]; rfl)) ?_; (with_reducible refine (impl_in.calls a0 1280 1311 true _ A2.out).mono ?_); rintro e w' ⟨rfl, ⟨nd, rfl⟩⟩; refine ⟨_, rfl, ?_⟩) | ((with_reducible refine gate_dst (N := 6) rfl ?_); refine Kd.R_lit (Kd.int .i64) _ 2 ?hg (N := 6) ?hd (xs := ([3, 2, 3, 0] : List Int)) (inner := [.int .i64 3, .int .i64 2, .int .i64 3, .int .i64 0]) (ok := fun _ => True) (okp := fun _ => True) ?hr ?hp (fun _ hk => hk) trivial (Below.refl _ _) (Nat.le_refl _) (by simp) ?_; (case hd => rfl); (case hg => rfl); (case hr => first | (go_simp; done) | (go_simp; rfl)); (case hp => exact (Reps.one (show Kd.M (Kd.int .i64) _ _ _ 3 [.int .i64 3] from rfl) (Reps.one (show Kd.M (Kd.int .i64) _ _ _ 2 [.int .i64 2] from rfl) (Reps.one (show Kd.M (Kd.int .i64) _ _ _ 3 [.int .i64 3] from rfl) (Reps.one (show Kd.M (Kd.int .i64) _ _ _ 0 [.int .i64 0] from rfl) (Reps.none _ _)))))); intro v502 w7 ho8 hb hg_ hnew_; clear hg_ hnew_; (first | rw [← Ny501.out] at ho8 | (simp only [Int.reduceToNat] at ho8; rw [← Ny501.out] at ho8)); have n0_ := Aside0.mk (Kd.R_lower ho8 (below_size (by repeat (first | (with_reducible first | exact HB.out | apply below_alloc | apply pw_below_drewN | apply below_drew1) | exact HB.out)))); have n1_ := Aside0.mk (below_step (by repeat (first | (with_reducible first | exact HB.out | apply below_alloc | apply pw_below_drewN | apply below_drew1) | exact HB.out)) hb); clear HB; have HO503 := n0_; have HB := n1_; clear n0_ n1_; clear hb ho8; obtain ⟨Ao9, co9, eo9⟩ := Kd.R_slice HO503.out; subst eo9; have p504 : 0 ≤ ((ji4) : Int) := of_decide_eq_true (by first | (with_reducible assumption) | assumption); have q504 : (ji4) < (y501.length : Int) := of_decide_eq_true (by first | (with_reducible assumption) | assumption); obtain ⟨ad504, e504, hx504_0⟩ := Kd.at_int (Kd.R_reads' HO503.out).2.2 (ji4) p504 q504; cases e504; replace p504 := eq_true p504; replace q504 := eq_true q504))
        go_ret
        exact ⟨by first | rfl | (simp [errW_none, errW_some] <;> rfl) | (simp only [← hji4]; first | rfl | (simp [errW_none, errW_some] <;> rfl)) | (simp [*, errW_none, errW_some] <;> rfl), by repeat (first | (with_reducible first | exact HB.out | apply below_alloc | apply pw_below_drewN | apply below_drew1) | exact HB.out)⟩
      · rw [if_neg c6] at H
        exact absurd H (by simp)
    · rw [if_neg c5] at H
      exact absurd H (by simp)
  · replace c3 := Bool.eq_false_iff.mpr c3
    subst c3
    have H1 : (if a0 = 7936 then (some 3) else ((impl_isMark.f a0).bind fun t505 => (if t505 = true then (some (-1)) else (some 0)))) = some r := by rw [if_neg (show ¬ (false = true) by decide)] at H; exact H
    clear H
    have H := H1
    clear H1
    by_cases c10 : a0 = 7936
    · rw [if_pos c10] at H
      have c10b0 : (a0 == 7936) = true := beq_iff_eq.mpr c10
      have c10b1 : (a0 != 7936) = false := bne_eq_false_iff_eq.mpr c10
      clear c10
      obtain rfl := Option.some.inj H
      go_enter Tryd.func43, Tryd.ntmps43
      go_wp2_with (first | ((with_reducible refine gate_callee (f := 76) rfl ?_); refine goesL_ (some 5) rfl rfl Tryd.func76 (by kernel_rfl) rfl #[.int .i64 a0, .int .i64 1280, .int .i64 1311] rfl (by (try simp only [List.map_toArray, List.map_cons, List.map_nil]); first | done | rfl | (simp only [List.length_drop, List.length_take]; rfl)) ?_; (with_reducible refine (impl_in.calls a0 1280 1311 false _ A2.out).mono ?_); rintro e w' ⟨rfl, ⟨nd, rfl⟩⟩; refine ⟨_, rfl, ?_⟩))
      go_ret
      exact ⟨by first | rfl | (simp [errW_none, errW_some] <;> rfl) | (simp [*, errW_none, errW_some] <;> rfl), by repeat (first | (with_reducible first | exact HB.out | apply below_alloc | apply pw_below_drewN | apply below_drew1) | exact HB.out)⟩
    · rw [if_neg c10] at H
      have c10b0 : (a0 == 7936) = false := beq_eq_false_iff_ne.mpr c10
      have c10b1 : (a0 != 7936) = true := bne_iff_ne.mpr c10
      replace H := Option.bind_eq_some_iff.mp H
      obtain ⟨t505, A110, H⟩ := H
      replace H : (if t505 = true then (some (-1)) else (some 0)) = some r := H
      have A11 := Aside0.mk A110
      clear A110
      by_cases c12 : t505 = true
      · subst c12
        have H1 : (some (-1)) = some r := by rw [if_pos rfl] at H; exact H
        clear H
        have H := H1
        clear H1
        obtain rfl := Option.some.inj H
        go_enter Tryd.func43, Tryd.ntmps43
        go_wp2_with (first | ((with_reducible refine gate_callee (f := 76) rfl ?_); refine goesL_ (some 5) rfl rfl Tryd.func76 (by kernel_rfl) rfl #[.int .i64 a0, .int .i64 1280, .int .i64 1311] rfl (by (try simp only [List.map_toArray, List.map_cons, List.map_nil]); first | done | rfl | (simp only [List.length_drop, List.length_take]; rfl)) ?_; (with_reducible refine (impl_in.calls a0 1280 1311 false _ A2.out).mono ?_); rintro e w' ⟨rfl, ⟨nd, rfl⟩⟩; refine ⟨_, rfl, ?_⟩) | ((with_reducible refine gate_callee (f := 115) rfl ?_); refine goesL_ (some 16) rfl rfl Tryd.func115 (by kernel_rfl) rfl #[.int .i64 a0] rfl (by (try simp only [List.map_toArray, List.map_cons, List.map_nil]); first | done | rfl | (simp only [List.length_drop, List.length_take]; rfl)) ?_; (with_reducible refine (impl_isMark.calls a0 true _ A11.out).mono ?_); rintro e w' ⟨rfl, ⟨nd, rfl⟩⟩; refine ⟨_, rfl, ?_⟩))
        go_ret
        exact ⟨by first | rfl | (simp [errW_none, errW_some] <;> rfl) | (simp [*, errW_none, errW_some] <;> rfl), by repeat (first | (with_reducible first | exact HB.out | apply below_alloc | apply pw_below_drewN | apply below_drew1) | exact HB.out)⟩
      · replace c12 := Bool.eq_false_iff.mpr c12
        subst c12
        have H1 : (some 0) = some r := by rw [if_neg (show ¬ (false = true) by decide)] at H; exact H
        clear H
        have H := H1
        clear H1
        obtain rfl := Option.some.inj H
        go_enter Tryd.func43, Tryd.ntmps43
        go_wp2_with (first | ((with_reducible refine gate_callee (f := 76) rfl ?_); refine goesL_ (some 5) rfl rfl Tryd.func76 (by kernel_rfl) rfl #[.int .i64 a0, .int .i64 1280, .int .i64 1311] rfl (by (try simp only [List.map_toArray, List.map_cons, List.map_nil]); first | done | rfl | (simp only [List.length_drop, List.length_take]; rfl)) ?_; (with_reducible refine (impl_in.calls a0 1280 1311 false _ A2.out).mono ?_); rintro e w' ⟨rfl, ⟨nd, rfl⟩⟩; refine ⟨_, rfl, ?_⟩) | ((with_reducible refine gate_callee (f := 115) rfl ?_); refine goesL_ (some 16) rfl rfl Tryd.func115 (by kernel_rfl) rfl #[.int .i64 a0] rfl (by (try simp only [List.map_toArray, List.map_cons, List.map_nil]); first | done | rfl | (simp only [List.length_drop, List.length_take]; rfl)) ?_; (with_reducible refine (impl_isMark.calls a0 false _ A11.out).mono ?_); rintro e w' ⟨rfl, ⟨nd, rfl⟩⟩; refine ⟨_, rfl, ?_⟩))
        go_ret
        exact ⟨by first | rfl | (simp [errW_none, errW_some] <;> rfl) | (simp [*, errW_none, errW_some] <;> rfl), by repeat (first | (with_reducible first | exact HB.out | apply below_alloc | apply pw_below_drewN | apply below_drew1) | exact HB.out)⟩

/-! ### impl_formsOf: function 113 (by hand) -/
def impl_formsOf.lt (p : Int) : Bool := decide (1280 ≤ p) && decide (p ≤ 1311)
theorem impl_formsOf.in_ (p : Int) : impl_in.f p 1280 1311 = some (impl_formsOf.lt p) := by
  unfold impl_in.f impl_formsOf.lt
  by_cases c : 1280 ≤ p
  · rw [if_pos (show p ≥ 1280 from c), decide_eq_true c, Bool.true_and]
  · rw [if_neg (show ¬ p ≥ 1280 from c), decide_eq_false c, Bool.false_and]
def impl_formsOf.first (l out : List Int) (i : Int) : List Int := if impl_formsOf.lt (rd l i) = true then (if rd out i = 3 then out.set i.toNat 2 else out.set i.toNat 1) else out
def impl_formsOf.join (l out : List Int) (i j : Int) : List Int := if impl_formsOf.lt (rd l j) = true then (impl_formsOf.first l out i).set j.toNat 3 else impl_formsOf.first l out i
theorem impl_formsOf.first_len (l out : List Int) (i : Int) : (impl_formsOf.first l out i).length = out.length := by
  unfold impl_formsOf.first; split
  · split <;> exact List.length_set
  · rfl
theorem impl_formsOf.join_len (l out : List Int) (i j : Int) : (impl_formsOf.join l out i j).length = out.length := by
  unfold impl_formsOf.join; split
  · rw [List.length_set, impl_formsOf.first_len]
  · exact impl_formsOf.first_len l out i
def impl_formsOf.run (l : List Int) : Nat → List Int → Int → Nat → Option (List Int)
  | 0, out, _, _ => some out
  | d + 1, out, last, i => (impl_JoinsTo.f (rd l (i : Int))).bind fun t => if t < 0 then impl_formsOf.run l d out last (i + 1) else
      (if 0 ≤ last then (impl_JoinsTo.f (rd l last)).bind fun u => some (decide (u = 3) && decide (2 ≤ t)) else some false).bind fun b => impl_formsOf.run l d (if b = true then impl_formsOf.join l out last (i : Int) else out) (i : Int) (i + 1)
def impl_formsOf.f (l0 : List Int) : Option (List Int) := if l0.length ≤ 1099511627776 then impl_formsOf.run l0 l0.length (List.replicate l0.length 0) (-1) 0 else none
structure impl_formsOf.Inv (w W : World) (Bl Bo : Nat) (A0 : Option Addr) (c0 : Nat) (l out : List Int) (v : Value) : Prop where
  bl : W.heap[Bl]? = some (.cells #[.slice A0 l.length c0] 25 (0, 0))
  bo : W.heap[Bo]? = some (.cells #[v] 25 (0, 0))
  row : Kd.R (Kd.int .i64) 2 W w.heap.size (fun k => k ≠ Bl ∧ k ≠ Bo) v out
  below : Below w.heap.size w W
  len : out.length = l.length
theorem impl_formsOf.Inv.step {w W W1 : World} {Bl Bo : Nat} {A0 : Option Addr} {c0 : Nat} {l out : List Int} {v : Value} (h : impl_formsOf.Inv w W Bl Bo A0 c0 l out v) (hb : Below W.heap.size W W1) : impl_formsOf.Inv w W1 Bl Bo A0 c0 l out v :=
  ⟨blk_below h.bl hb, blk_below h.bo hb, Kd.R_below h.row hb, below_step h.below hb, h.len⟩
theorem impl_formsOf.Inv.put {w W : World} {Bl Bo : Nat} {A0 : Option Addr} {c0 : Nat} {l out : List Int} {v : Value} (h : impl_formsOf.Inv w W Bl Bo A0 c0 l out v) {g c n : Nat} (hv : v = .slice (some ⟨g, 0, none⟩) n c) (i : Int) (x : Int) : impl_formsOf.Inv w (W.setCell ⟨g, i.toNat, none⟩ (.int .i64 x)) Bl Bo A0 c0 l (out.set i.toNat x) v := by
  subst hv
  have hg := h.row.1 g (by simp [Value.ownBlock])
  have hb := Kd.R_base h.row g (by simp [Value.ownBlock])
  have hn := (Kd.R_reads' h.row).1
  subst hn
  refine ⟨?_, ?_, (Kd.R_put (enc := Value.int .i64) h.row i x).1, below_set h.below hb, by rw [List.length_set]; exact h.len⟩
  · exact (Below.heap_setCell W _ _ _ (fun e => hg.1 e.symm)).trans h.bl
  · exact (Below.heap_setCell W _ _ _ (fun e => hg.2 e.symm)).trans h.bo
theorem impl_formsOf.Inv.form {w W : World} {Bl Bo : Nat} {A0 : Option Addr} {c0 : Nat} {l out : List Int} {v : Value} (h : impl_formsOf.Inv w W Bl Bo A0 c0 l out v) (hp : 0 < l.length) : ∃ g c, v = .slice (some ⟨g, 0, none⟩) l.length c := by
  obtain ⟨g, c, hv, _⟩ := Kd.R_form h.row (by rw [h.len]; exact hp)
  exact ⟨g, c, by rw [hv, h.len]⟩
theorem impl_formsOf.Inv.at_ {w W : World} {Bl Bo : Nat} {A0 : Option Addr} {c0 c g : Nat} {l out : List Int} (h : impl_formsOf.Inv w W Bl Bo A0 c0 l out (.slice (some ⟨g, 0, none⟩) l.length c)) (i : Int) (h0 : 0 ≤ i) (h1 : i < (l.length : Int)) : W.cell? ⟨g, i.toNat, none⟩ = some (.int .i64 (rd out i)) ∧ W.frozen? ⟨g, i.toNat, none⟩ = false := by
  have hr := h.row
  rw [← h.len] at hr
  exact Kd.R_cell (enc := Value.int .i64) 0 hr i h0 (by rw [h.len]; exact h1)
set_option maxHeartbeats 4000000 in
set_option maxRecDepth 100000 in
theorem impl_formsOf.joins (w W : World) (Bl Bo : Nat) (A0 : Option Addr) (c0 : Nat) (l out : List Int) (v : Value) (i j : Int) (hI : impl_formsOf.Inv w W Bl Bo A0 c0 l out v) (hC : Kd.C (Kd.int .i64) w A0 l.length l) (hc0 : l.length ≤ c0) (i0 : 0 ≤ i) (i1 : i < (l.length : Int)) (j0 : 0 ≤ j) (j1 : j < (l.length : Int)) :
    Calls Tryd.prog 179 #[.int .i64 i, .int .i64 j, .pointer (some ⟨Bl, 0, none⟩), .pointer (some ⟨Bo, 0, none⟩)] W fun e w' => e = .returned (.tuple #[]) ∧ impl_formsOf.Inv w w' Bl Bo A0 c0 l (impl_formsOf.join l out i j) v := by
  obtain ⟨g, c, rfl⟩ := hI.form (by omega)
  obtain ⟨ad, e1, hxi0⟩ := Kd.at_int hC i i0 i1
  cases e1
  obtain ⟨ad2, e2, hxj0⟩ := Kd.at_int hC j j0 j1
  obtain rfl : ad = ad2 := by injection e2
  have hxi := (hI.below.cell (World.block_lt_of_cell? w _ hxi0)).trans hxi0
  have hxj := (hI.below.cell (World.block_lt_of_cell? w _ hxj0)).trans hxj0
  have hcl : W.cell? ⟨Bl, 0, none⟩ = some (.slice (some ad) l.length c0) := (blk_cell hI.bl 0).trans rfl
  have hco : W.cell? ⟨Bo, 0, none⟩ = some (.slice (some ⟨g, 0, none⟩) l.length c) := (blk_cell hI.bo 0).trans rfl
  obtain ⟨hoi, foi⟩ := hI.at_ i i0 i1
  obtain ⟨hoj, foj⟩ := hI.at_ j j0 j1
  obtain ⟨bi, hbi⟩ : ∃ b, impl_formsOf.lt (rd l i) = b := ⟨_, rfl⟩
  obtain ⟨bj, hbj⟩ : ∃ b, impl_formsOf.lt (rd l j) = b := ⟨_, rfl⟩
  have H1 : ∀ V : World, Calls Tryd.prog 76 #[.int .i64 (rd l i), .int .i64 1280, .int .i64 1311] V fun e w' => e = .returned (.bool bi) ∧ Drawn0 V w' := fun V => impl_in.calls _ _ _ _ V (by rw [impl_formsOf.in_, hbi])
  have H2 : ∀ V : World, Calls Tryd.prog 76 #[.int .i64 (rd l j), .int .i64 1280, .int .i64 1311] V fun e w' => e = .returned (.bool bj) ∧ Drawn0 V w' := fun V => impl_in.calls _ _ _ _ V (by rw [impl_formsOf.in_, hbj])
  have q0 := eq_true i0
  have q1 := eq_true i1
  have q2 := eq_true j0
  have q3 := eq_true j1
  have fin : ∀ (V : World) (o : List Int) (n : Nat), impl_formsOf.Inv w V Bl Bo (some ad) c0 l o (.slice (some ⟨g, 0, none⟩) l.length c) → o = impl_formsOf.join l out i j → impl_formsOf.Inv w (V.drewN n) Bl Bo (some ad) c0 l (impl_formsOf.join l out i j) (.slice (some ⟨g, 0, none⟩) l.length c) := by
    intro V o n h e
    subst e
    exact h.step (pw_below_drewN (Below.refl _ _) n)
  have HII := Aside0.mk hI
  have HCC := Aside0.mk hC
  have HBI := Aside0.mk hbi
  have HBJ := Aside0.mk hbj
  clear hI hC hbi hbj
  cases bi with
  | false =>
    cases bj with
    | false =>
      go_enter Tryd.func179, Tryd.ntmps179
      go_wp2_with (first | (go_at_call 76; ((with_reducible refine (H1 _).mono ?_); rintro e w1 ⟨rfl, ⟨nd, rfl⟩⟩)) | (go_at_call 76; ((with_reducible refine (H2 _).mono ?_); rintro e w1 ⟨rfl, ⟨nd, rfl⟩⟩)))
      go_end0
      refine ⟨rfl, fin _ _ _ HII.out ?_⟩
      unfold impl_formsOf.join impl_formsOf.first
      rw [if_neg (by rw [HBJ.out]; decide), if_neg (by rw [HBI.out]; decide)]
    | true =>
      go_enter Tryd.func179, Tryd.ntmps179
      go_wp2_with (first | (go_at_call 76; ((with_reducible refine (H1 _).mono ?_); rintro e w1 ⟨rfl, ⟨nd, rfl⟩⟩)) | (go_at_call 76; ((with_reducible refine (H2 _).mono ?_); rintro e w1 ⟨rfl, ⟨nd, rfl⟩⟩)))
      go_end0
      refine ⟨rfl, fin _ _ _ (HII.out.put rfl j 3) ?_⟩
      unfold impl_formsOf.join impl_formsOf.first
      rw [if_pos HBJ.out, if_neg (by rw [HBI.out]; decide)]
  | true =>
    have two : ∀ x : Int, (if rd out i = 3 then out.set i.toNat 2 else out.set i.toNat 1) = out.set i.toNat x → ∀ nd : Nat, impl_formsOf.Inv w ((W.drewN nd).setCell ⟨g, i.toNat, none⟩ (.int .i64 x)) Bl Bo (some ad) c0 l (impl_formsOf.first l out i) (.slice (some ⟨g, 0, none⟩) l.length c) := by
      intro x hx nd
      have := (HII.out.step (pw_below_drewN (Below.refl _ _) nd)).put rfl i x
      unfold impl_formsOf.first
      rw [if_pos HBI.out, hx]
      exact this
    have see : ∀ (x : Int) (nd : Nat), impl_formsOf.Inv w ((W.drewN nd).setCell ⟨g, i.toNat, none⟩ (.int .i64 x)) Bl Bo (some ad) c0 l (impl_formsOf.first l out i) (.slice (some ⟨g, 0, none⟩) l.length c) → ((W.drewN nd).setCell ⟨g, i.toNat, none⟩ (.int .i64 x)).cell? ⟨Bl, 0, none⟩ = some (.slice (some ad) l.length c0) ∧ ((W.drewN nd).setCell ⟨g, i.toNat, none⟩ (.int .i64 x)).cell? ⟨Bo, 0, none⟩ = some (.slice (some ⟨g, 0, none⟩) l.length c) ∧ ((W.drewN nd).setCell ⟨g, i.toNat, none⟩ (.int .i64 x)).cell? (ad.add j.toNat) = some (.int .i64 (rd l j)) ∧ ((W.drewN nd).setCell ⟨g, i.toNat, none⟩ (.int .i64 x)).cell? ⟨g, j.toNat, none⟩ = some (.int .i64 (rd (impl_formsOf.first l out i) j)) ∧ ((W.drewN nd).setCell ⟨g, i.toNat, none⟩ (.int .i64 x)).frozen? ⟨g, j.toNat, none⟩ = false := by
      intro x nd h
      exact ⟨(blk_cell h.bl 0).trans rfl, (blk_cell h.bo 0).trans rfl, (h.below.cell (World.block_lt_of_cell? w _ hxj0)).trans hxj0, (h.at_ j j0 j1).1, (h.at_ j j0 j1).2⟩
    have fin' : ∀ (V : World) (o : List Int), impl_formsOf.Inv w V Bl Bo (some ad) c0 l o (.slice (some ⟨g, 0, none⟩) l.length c) → o = impl_formsOf.join l out i j → impl_formsOf.Inv w V Bl Bo (some ad) c0 l (impl_formsOf.join l out i j) (.slice (some ⟨g, 0, none⟩) l.length c) := by
      intro V o h e
      subst e
      exact h
    have SEE := Aside0.mk see
    have HX := Aside0.mk hxj0
    clear see hxj0 hxi0
    by_cases h3 : rd out i = 3
    · have I1 := Aside0.mk (two 2 (if_pos h3))
      have h4 : (rd out i == 3) = true := beq_iff_eq.mpr h3
      clear h3 two
      cases bj with
      | false =>
        go_enter Tryd.func179, Tryd.ntmps179
        go_wp2_with (first | (go_at_call 76; ((with_reducible refine (H1 _).mono ?_); rintro e w1 ⟨rfl, ⟨nd, rfl⟩⟩; obtain ⟨s1, s2, s3, s4, s5⟩ := SEE.out _ nd (I1.out nd))) | (go_at_call 76; ((with_reducible refine (H2 _).mono ?_); rintro e w1 ⟨rfl, ⟨nd, rfl⟩⟩)))
        go_end0
        refine ⟨rfl, fin _ _ _ (I1.out _) ?_⟩
        unfold impl_formsOf.join
        rw [if_neg (by rw [HBJ.out]; decide)]
      | true =>
        go_enter Tryd.func179, Tryd.ntmps179
        go_wp2_with (first | (go_at_call 76; ((with_reducible refine (H1 _).mono ?_); rintro e w1 ⟨rfl, ⟨nd, rfl⟩⟩; obtain ⟨s1, s2, s3, s4, s5⟩ := SEE.out _ nd (I1.out nd))) | (go_at_call 76; ((with_reducible refine (H2 _).mono ?_); rintro e w1 ⟨rfl, ⟨nd, rfl⟩⟩)))
        go_end0
        refine ⟨rfl, fin' _ _ (((I1.out _).step (pw_below_drewN (Below.refl _ _) _)).put rfl j 3) ?_⟩
        unfold impl_formsOf.join
        rw [if_pos HBJ.out]
    · have I1 := Aside0.mk (two 1 (if_neg h3))
      have h4 : (rd out i == 3) = false := beq_eq_false_iff_ne.mpr h3
      clear h3 two
      cases bj with
      | false =>
        go_enter Tryd.func179, Tryd.ntmps179
        go_wp2_with (first | (go_at_call 76; ((with_reducible refine (H1 _).mono ?_); rintro e w1 ⟨rfl, ⟨nd, rfl⟩⟩; obtain ⟨s1, s2, s3, s4, s5⟩ := SEE.out _ nd (I1.out nd))) | (go_at_call 76; ((with_reducible refine (H2 _).mono ?_); rintro e w1 ⟨rfl, ⟨nd, rfl⟩⟩)))
        go_end0
        refine ⟨rfl, fin _ _ _ (I1.out _) ?_⟩
        unfold impl_formsOf.join
        rw [if_neg (by rw [HBJ.out]; decide)]
      | true =>
        go_enter Tryd.func179, Tryd.ntmps179
        go_wp2_with (first | (go_at_call 76; ((with_reducible refine (H1 _).mono ?_); rintro e w1 ⟨rfl, ⟨nd, rfl⟩⟩; obtain ⟨s1, s2, s3, s4, s5⟩ := SEE.out _ nd (I1.out nd))) | (go_at_call 76; ((with_reducible refine (H2 _).mono ?_); rintro e w1 ⟨rfl, ⟨nd, rfl⟩⟩)))
        go_end0
        refine ⟨rfl, fin' _ _ (((I1.out _).step (pw_below_drewN (Below.refl _ _) _)).put rfl j 3) ?_⟩
        unfold impl_formsOf.join
        rw [if_pos HBJ.out]
set_option maxHeartbeats 4000000 in
set_option maxRecDepth 100000 in
theorem impl_formsOf.calls (A0 : Option Addr) (c0 : Nat) (l0 : List Int) (r : List Int) (w : World) (hr0 : Kd.C (Kd.int .i64) w A0 l0.length l0) (hc0 : l0.length ≤ c0) (h : impl_formsOf.f l0 = some r) :
    Calls Tryd.prog 113 #[.slice A0 l0.length c0] w fun e w' => ∃ v0_ : Value, e = .returned (v0_) ∧ Kd.R (Kd.int .i64) 2 w' w.heap.size (fun _ => True) v0_ r ∧ Below w.heap.size w w' := by
  unfold impl_formsOf.f at h
  by_cases hl : l0.length ≤ 1099511627776
  · rw [if_pos hl] at h
    have H0 := Aside0.mk h
    have HC := Aside0.mk hr0
    have HC0 := Aside0.mk hc0
    clear h hr0 hc0
    have hn : (0 : Int) ≤ (l0.length : Int) := by omega
    have hbx := Aside0.mk (heap_alloc_new w (.cells #[.slice A0 l0.length c0] 25 (0, 0)))
    have HB1 := Aside0.mk (below_alloc (Below.refl w.heap.size w) (.cells #[.slice A0 l0.length c0] 25 (0, 0)))
    go_enter Tryd.func113, Tryd.ntmps113
    go_wp2_with (first | ((with_reducible refine gate_dst (N := 11) rfl ?_); refine Kd.R_make (Kd.int .i64) (w0 := w) w.heap.size 2 rfl (N := 11) rfl 25 _ _ rfl (l0.length : Int) rfl rfl Tryd.underlying25 (.int .i64 0) 8 info2 rfl (by decide) (by omega) 0 (ok := fun k => k ≠ w.heap.size) (okp := fun _ => False) rfl (fun _ hk => hk.elim) ?aF hn (by omega) HB1.out (by simp) ?_; (case aF => simp); intro v5 w4 ho5 hb5 hg5 hn5; rw [Int.toNat_natCast] at ho5; obtain ⟨A5, c5, hv5⟩ := Kd.R_slice ho5; rw [List.length_replicate] at hv5; subst hv5; have hx5 := blk_grown hbx.out hg5 (by simp); have HX := Aside0.mk hx5; have HO5 := Aside0.mk ho5; have HB5 := Aside0.mk hb5; have k1 : (w4.alloc (.cells #[.slice A5 l0.length c5] 25 (0, 0))).cell? ⟨w.heap.size, 0, none⟩ = some (.slice A0 l0.length c0) := (blk_cell (blk_alloc hx5 _) 0).trans rfl; clear ho5 hb5 hg5 hn5 hx5))
    have hI0 : impl_formsOf.Inv w (w4.alloc (.cells #[.slice A5 l0.length c5] 25 (0, 0))) w.heap.size w4.heap.size A0 c0 l0 (List.replicate l0.length 0) (.slice A5 l0.length c5) :=
      ⟨blk_alloc HX.out _, blk_new w4 _, Kd.R_alloc (Kd.R_mono (Kd.R_bound HO5.out) (fun k hk => ⟨hk.1, fun e => by have := hk.2.2.1; omega⟩)) _, below_alloc HB5.out _, by rw [List.length_replicate]⟩
    have HI0 := Aside0.mk hI0
    clear hI0 HX HO5 HB5 k1 HB1 hbx
    go_loopw [4, 15] (fun v4 v15 wr => ∃ (i : Nat) (out : List Int) (last : Int), i ≤ l0.length ∧ -1 ≤ last ∧ last < i ∧ v4 = .int .i64 last ∧ v15 = .int .i64 i ∧ Aside0 (impl_formsOf.run l0 (l0.length - i) out last i = some r) ∧ Aside0 (impl_formsOf.Inv w wr w.heap.size w4.heap.size A0 c0 l0 out (.slice A5 l0.length c5))) (fun _ v15 _ => l0.length - (intOf v15).toNat)
    case atStart => exact ⟨0, _, -1, Nat.zero_le _, by omega, by omega, rfl, rfl, H0, HI0⟩
    case round =>
      obtain ⟨i, out, last, hi, hl1, hl2, rfl, rfl, HR, HI⟩ := hrel
      clear H0 HI0
      by_cases hlt : i < l0.length
      · obtain ⟨d, hd⟩ : ∃ d, l0.length - i = d + 1 := ⟨l0.length - i - 1, by omega⟩
        have hd' : l0.length - (i + 1) = d := by omega
        have HH := HR.out
        rw [hd] at HH
        unfold impl_formsOf.run at HH
        obtain ⟨u, hu, HH⟩ := Option.bind_eq_some_iff.mp HH
        rw [← hd'] at HH
        have HU := Aside0.mk hu
        clear hu hd hd' HR
        have i1 : (i : Int) < (l0.length : Int) := by omega
        have i0 : (0 : Int) ≤ (i : Int) := by omega
        obtain ⟨ad, e1, hx0⟩ := Kd.at_int HC.out (i : Int) i0 i1
        subst e1
        have hx := (HI.out.below.cell (World.block_lt_of_cell? w _ hx0)).trans hx0
        rw [Int.toNat_natCast] at hx
        have k1 : World.cell? wr ⟨w.heap.size, 0, none⟩ = some (.slice (some ad) l0.length c0) := (blk_cell HI.out.bl 0).trans rfl
        have q0 := eq_true i0
        have q1 := eq_true i1
        have q2 : decide ((i : Int) < (l0.length : Int)) = true := decide_eq_true i1
        clear hx0
        by_cases hneg : u < 0
        · rw [if_pos hneg] at HH
          have H1 := Aside0.mk HH
          have n1 : decide (u < 0) = true := decide_eq_true hneg
          clear HH hneg
          go_wp2_with (go_at_call 43; ((with_reducible refine (impl_JoinsTo.calls (rd l0 (i : Int)) u _ HU.out).mono ?_); rintro e w5 ⟨rfl, hb5⟩; have I5 := Aside0.mk (HI.out.step hb5); clear hb5))
          go_roundw
          case rel => exact ⟨i + 1, out, last, by omega, by omega, by omega, rfl, by go_num, H1, I5⟩
          case measure => simp [intOf]; omega
        · rw [if_neg hneg] at HH
          have n1 : decide (u < 0) = false := decide_eq_false hneg
          have n2 : (0 : Int) ≤ u := by omega
          clear hneg
          by_cases hlast : 0 ≤ last
          · rw [if_pos hlast] at HH
            have l1 : last < (l0.length : Int) := by omega
            obtain ⟨b, hb, HH⟩ := Option.bind_eq_some_iff.mp HH
            obtain ⟨x, hx2, hb⟩ := Option.bind_eq_some_iff.mp hb
            have hb := Option.some.inj hb
            have HX2 := Aside0.mk hx2
            obtain ⟨ad2, e2, hy0⟩ := Kd.at_int HC.out last hlast l1
            obtain rfl : ad = ad2 := by injection e2
            have HY := Aside0.mk hy0
            have r0 := eq_true hlast
            have r1 := eq_true l1
            have r2 : decide (0 ≤ last) = true := decide_eq_true hlast
            clear hx2 hy0 e2
            by_cases hx3 : x = 3
            · have m1 : (x == 3) = true := beq_iff_eq.mpr hx3
              rw [decide_eq_true hx3, Bool.true_and] at hb
              clear hx3
              by_cases hu2 : 2 ≤ u
              · rw [decide_eq_true hu2] at hb
                subst hb
                rw [if_pos rfl] at HH
                have H1 := Aside0.mk HH
                have m2 : decide (2 ≤ u) = true := decide_eq_true hu2
                clear HH hu2
                go_wp2_with (first
                  | (go_at_call 43; ((with_reducible refine (impl_JoinsTo.calls (rd l0 (i : Int)) u _ HU.out).mono ?_); rintro e w5 ⟨rfl, hb5⟩; have i5 := HI.out.step hb5; have k5 : World.cell? w5 ⟨w.heap.size, 0, none⟩ = some (.slice (some ad) l0.length c0) := (blk_cell i5.bl 0).trans rfl; have hy5 := (i5.below.cell (World.block_lt_of_cell? w _ HY.out)).trans HY.out; have I5 := Aside0.mk i5; clear hb5 i5))
                  | (go_at_call 43; ((with_reducible refine (impl_JoinsTo.calls (rd l0 last) x _ HX2.out).mono ?_); rintro e w6 ⟨rfl, hb6⟩; have I6 := Aside0.mk (I5.out.step hb6); clear hb6))
                  | (go_at_call 179; ((with_reducible refine (impl_formsOf.joins w _ w.heap.size w4.heap.size (some ad) c0 l0 out _ last (i : Int) I6.out HC.out HC0.out hlast l1 i0 i1).mono ?_); rintro e w7 ⟨rfl, i7⟩; have I7 := Aside0.mk i7; clear i7)))
                go_roundw
                case rel => exact ⟨i + 1, _, (i : Int), by omega, by omega, by omega, rfl, by go_num, H1, I7⟩
                case measure => simp [intOf]; omega
              · rw [decide_eq_false hu2] at hb
                subst hb
                rw [if_neg (by decide)] at HH
                have H1 := Aside0.mk HH
                have m2 : decide (2 ≤ u) = false := decide_eq_false hu2
                clear HH hu2
                go_wp2_with (first
                  | (go_at_call 43; ((with_reducible refine (impl_JoinsTo.calls (rd l0 (i : Int)) u _ HU.out).mono ?_); rintro e w5 ⟨rfl, hb5⟩; have i5 := HI.out.step hb5; have k5 : World.cell? w5 ⟨w.heap.size, 0, none⟩ = some (.slice (some ad) l0.length c0) := (blk_cell i5.bl 0).trans rfl; have hy5 := (i5.below.cell (World.block_lt_of_cell? w _ HY.out)).trans HY.out; have I5 := Aside0.mk i5; clear hb5 i5))
                  | (go_at_call 43; ((with_reducible refine (impl_JoinsTo.calls (rd l0 last) x _ HX2.out).mono ?_); rintro e w6 ⟨rfl, hb6⟩; have I6 := Aside0.mk (I5.out.step hb6); clear hb6)))
                go_roundw
                case rel => exact ⟨i + 1, _, (i : Int), by omega, by omega, by omega, rfl, by go_num, H1, I6⟩
                case measure => simp [intOf]; omega
            · have m1 : (x == 3) = false := beq_eq_false_iff_ne.mpr hx3
              rw [decide_eq_false hx3, Bool.false_and] at hb
              subst hb
              rw [if_neg (by decide)] at HH
              have H1 := Aside0.mk HH
              clear HH hx3
              go_wp2_with (first
                | (go_at_call 43; ((with_reducible refine (impl_JoinsTo.calls (rd l0 (i : Int)) u _ HU.out).mono ?_); rintro e w5 ⟨rfl, hb5⟩; have i5 := HI.out.step hb5; have k5 : World.cell? w5 ⟨w.heap.size, 0, none⟩ = some (.slice (some ad) l0.length c0) := (blk_cell i5.bl 0).trans rfl; have hy5 := (i5.below.cell (World.block_lt_of_cell? w _ HY.out)).trans HY.out; have I5 := Aside0.mk i5; clear hb5 i5))
                | (go_at_call 43; ((with_reducible refine (impl_JoinsTo.calls (rd l0 last) x _ HX2.out).mono ?_); rintro e w6 ⟨rfl, hb6⟩; have I6 := Aside0.mk (I5.out.step hb6); clear hb6)))
              go_roundw
              case rel => exact ⟨i + 1, _, (i : Int), by omega, by omega, by omega, rfl, by go_num, H1, I6⟩
              case measure => simp [intOf]; omega
          · rw [if_neg hlast] at HH
            simp only [Option.bind_some] at HH
            rw [if_neg (by decide)] at HH
            have H1 := Aside0.mk HH
            have r2 : decide (0 ≤ last) = false := decide_eq_false hlast
            clear HH hlast
            go_wp2_with (go_at_call 43; ((with_reducible refine (impl_JoinsTo.calls (rd l0 (i : Int)) u _ HU.out).mono ?_); rintro e w5 ⟨rfl, hb5⟩; have I5 := Aside0.mk (HI.out.step hb5); clear hb5))
            go_roundw
            case rel => exact ⟨i + 1, out, (i : Int), by omega, by omega, by omega, rfl, by go_num, H1, I5⟩
            case measure => simp [intOf]; omega
      · obtain rfl : i = l0.length := by omega
        have HH := HR.out
        rw [Nat.sub_self] at HH
        have HH := Option.some.inj HH
        subst HH
        have k2 : World.cell? wr ⟨w4.heap.size, 0, none⟩ = some (.slice A5 l0.length c5) := (blk_cell HI.out.bo 0).trans rfl
        clear hlt HR
        go_wp2
        go_ret
        exact ⟨_, rfl, Kd.R_mono HI.out.row (fun _ _ => trivial), HI.out.below⟩
  · rw [if_neg hl] at h
    cases h

/-! ### impl_FormsOf: function 41 -/
def impl_FormsOf.f (a0 : ByteArray) : Option (List Int) := (impl_long.f a0).bind fun t506 => (if t506 = true then (some ([] : List Int)) else ((W_impl_points.f a0).bind fun t507 => ((impl_formsOf.f t507).bind fun t510 => (some t510))))
set_option maxHeartbeats 8000000 in
set_option maxRecDepth 100000 in
theorem impl_FormsOf.calls (a0 : ByteArray) (r : List Int) (w : World) (h : impl_FormsOf.f a0 = some r) (hG : GT w) :
    Calls Tryd.prog 41 #[.string a0] w fun e w' => ∃ v0_ : Value, e = .returned (v0_) ∧ Kd.R (Kd.int .i64) 2 w' w.heap.size (fun _ => True) v0_ r ∧ Below w.heap.size w w' := by
  have HG := Aside0.mk hG
  clear hG
  have HB := Aside0.mk (Below.refl w.heap.size w)
  have H : ((impl_long.f a0).bind fun t506 => (if t506 = true then (some ([] : List Int)) else ((W_impl_points.f a0).bind fun t507 => ((impl_formsOf.f t507).bind fun t510 => (some t510))))) = some r := h
  clear h
  replace H := Option.bind_eq_some_iff.mp H
  obtain ⟨t506, A20, H⟩ := H
  replace H : (if t506 = true then (some ([] : List Int)) else ((W_impl_points.f a0).bind fun t507 => ((impl_formsOf.f t507).bind fun t510 => (some t510)))) = some r := H
  have A2 := Aside0.mk A20
  clear A20
  by_cases c3 : t506 = true
  · subst c3
    have H1 : (some ([] : List Int)) = some r := by rw [if_pos rfl] at H; exact H
    clear H
    have H := H1
    clear H1
    obtain rfl := Option.some.inj H
    go_enter Tryd.func41, Tryd.ntmps41
    go_wp2_with (first | ((with_reducible refine gate_callee (f := 98) rfl ?_); refine goesL_ (some 4) rfl rfl Tryd.func98 (by kernel_rfl) rfl #[.string a0] rfl (by (try simp only [List.map_toArray, List.map_cons, List.map_nil]); first | done | rfl | (simp only [List.length_drop, List.length_take]; rfl)) ?_; (with_reducible refine (impl_long.calls a0 true _ A2.out).mono ?_); rintro e w' ⟨rfl, ⟨nd, rfl⟩⟩; refine ⟨_, rfl, ?_⟩))
    go_ret
    exact ⟨_, by first | rfl | (simp [errW_none, errW_some] <;> rfl) | (simp [*, errW_none, errW_some] <;> rfl), by first | exact Kd.R_nil _ _ _ _ _ | exact Kd.N_nil _ _ _ _ _ | exact Kd.V_nil _ _ _ _ _ | exact Kd.Q_nil _ _ _ _ _ | exact Kd.S_nil _ _ _ _ _, by repeat (first | (with_reducible first | exact HB.out | apply below_alloc | apply pw_below_drewN | apply below_drew1) | exact HB.out)⟩
  · replace c3 := Bool.eq_false_iff.mpr c3
    subst c3
    have H1 : ((W_impl_points.f a0).bind fun t507 => ((impl_formsOf.f t507).bind fun t510 => (some t510))) = some r := by rw [if_neg (show ¬ (false = true) by decide)] at H; exact H
    clear H
    have H := H1
    clear H1
    replace H := Option.bind_eq_some_iff.mp H
    obtain ⟨t507, A40, H⟩ := H
    replace H : ((impl_formsOf.f t507).bind fun t510 => (some t510)) = some r := H
    have A4 := Aside0.mk A40
    clear A40
    replace H := Option.bind_eq_some_iff.mp H
    obtain ⟨t510, A50, H⟩ := H
    replace H : (some t510) = some r := H
    have A5 := Aside0.mk A50
    clear A50
    obtain rfl := Option.some.inj H
    go_enter Tryd.func41, Tryd.ntmps41
    go_wp2_with (first | ((with_reducible refine gate_callee (f := 98) rfl ?_); refine goesL_ (some 4) rfl rfl Tryd.func98 (by kernel_rfl) rfl #[.string a0] rfl (by (try simp only [List.map_toArray, List.map_cons, List.map_nil]); first | done | rfl | (simp only [List.length_drop, List.length_take]; rfl)) ?_; (with_reducible refine (impl_long.calls a0 false _ A2.out).mono ?_); rintro e w' ⟨rfl, ⟨nd, rfl⟩⟩; refine ⟨_, rfl, ?_⟩) | ((with_reducible refine gate_callee (f := 103) rfl ?_); refine goesL_ (some 6) rfl rfl Tryd.func103 (by kernel_rfl) rfl #[.string a0] rfl (by (try simp only [List.map_toArray, List.map_cons, List.map_nil]); first | done | rfl | (simp only [List.length_drop, List.length_take]; rfl)) ?_; (with_reducible refine (W_impl_points.calls a0 t507 _ A4.out (by first | exact HG.out | exact GT.below HG.out (by first | exact HB.out | (repeat (first | (with_reducible first | exact HB.out | apply below_alloc | apply pw_below_drewN | apply below_drew1 | refine below_set ?_ (Aside0.out (by assumption))) | exact HB.out))) | exact GT.below HG.out (HB.out))).mono ?_); rintro e w6 ⟨v508, rfl, ho0, hb⟩; refine ⟨_, rfl, ?_⟩; have n0_ := Aside0.mk (Kd.R_lower ho0 (below_size (by repeat (first | (with_reducible first | exact HB.out | apply below_alloc | apply pw_below_drewN | apply below_drew1) | exact HB.out)))); have n1_ := Aside0.mk (below_step (by repeat (first | (with_reducible first | exact HB.out | apply below_alloc | apply pw_below_drewN | apply below_drew1) | exact HB.out)) hb); clear HB; have HO509 := n0_; have HB := n1_; clear n0_ n1_; (try clear hb); (try clear hb2); (try clear hk); (try clear hi); (try clear ho0); obtain ⟨Ao7, co7, eo7⟩ := Kd.R_slice HO509.out; subst eo7) | ((with_reducible refine gate_callee (f := 113) rfl ?_); refine goesL_ (some 7) rfl rfl Tryd.func113 (by kernel_rfl) rfl #[.slice Ao7 t507.length co7] rfl (by (try simp only [List.map_toArray, List.map_cons, List.map_nil]); first | done | rfl | (simp only [List.length_drop, List.length_take]; rfl)) ?_; (with_reducible refine (impl_formsOf.calls _ _ t507 t510 _ ?side1 ?side2 A5.out).mono ?_); (case side1 => repeat (first | exact (Kd.R_reads' HO509.out).2.2 | (with_reducible refine Kd.C_alloc ?_ _) | (with_reducible refine Kd.C_drewN ?_ _) | (with_reducible refine Kd.C_drew ?_))); (case side2 => exact (Kd.R_reads' HO509.out).2.1); rintro e w8 ⟨v511, rfl, ho0, hb⟩; refine ⟨_, rfl, ?_⟩; have n0_ := Aside0.mk (Kd.R_elder' (by (with_reducible repeat (first | apply Kd.R_alloc | apply Kd.R_drewN | apply Kd.R_drew)); exact HO509.out) (Kd.R_base ho0) hb); have n1_ := Aside0.mk (Kd.R_lower (Kd.R_new' ho0 (Kd.R_lt (by (with_reducible repeat (first | apply Kd.R_alloc | apply Kd.R_drewN | apply Kd.R_drew)); exact HO509.out))) (below_size (by repeat (first | (with_reducible first | exact HB.out | apply below_alloc | apply pw_below_drewN | apply below_drew1) | exact HB.out)))); have n2_ := Aside0.mk (below_step (by repeat (first | (with_reducible first | exact HB.out | apply below_alloc | apply pw_below_drewN | apply below_drew1) | exact HB.out)) hb); clear HO509; clear HB; have HO509 := n0_; have HO512 := n1_; have HB := n2_; clear n0_ n1_ n2_; (try clear hb); (try clear hb2); (try clear hk); (try clear hi); (try clear ho0)))
    go_ret
    exact ⟨_, by first | rfl | (simp [errW_none, errW_some] <;> rfl) | (simp [*, errW_none, errW_some] <;> rfl), by (with_reducible repeat (first | apply Kd.R_alloc | apply Kd.R_drewN | apply Kd.R_drew)); exact Kd.R_mono HO512.out (fun _ hk => trivial), by repeat (first | (with_reducible first | exact HB.out | apply below_alloc | apply pw_below_drewN | apply below_drew1) | exact HB.out)⟩

/-! ### spec_l01Rows: function 157 -/
def spec_l01Rows.f  : Option ((List (S150))) := some (([(⟨0, 31, 1, 0⟩ : S150), (⟨32, 32, 2, 0⟩ : S150), (⟨48, 57, 8, 0⟩ : S150), (⟨65, 90, 4, 1⟩ : S150), (⟨97, 122, 5, 1⟩ : S150), (⟨33, 126, 9, 0⟩ : S150), (⟨127, 159, 1, 0⟩ : S150), (⟨160, 160, 2, 0⟩ : S150), (⟨173, 173, 11, 0⟩ : S150), (⟨161, 191, 10, 0⟩ : S150), (⟨1280, 1311, 7, 5⟩ : S150), (⟨1360, 1369, 8, 5⟩ : S150), (⟨1536, 1567, 7, 6⟩ : S150), (⟨1568, 1579, 3, 6⟩ : S150), (⟨1584, 1585, 3, 6⟩ : S150), (⟨1616, 1625, 8, 6⟩ : S150), (⟨1792, 1810, 7, 7⟩ : S150), (⟨1824, 1844, 7, 7⟩ : S150), (⟨1857, 1883, 7, 7⟩ : S150), (⟨2048, 2095, 7, 8⟩ : S150), (⟨4096, 4159, 3, 0⟩ : S150), (⟨7680, 7748, 10, 0⟩ : S150), (⟨7760, 7785, 10, 0⟩ : S150), (⟨7936, 7947, 11, 0⟩ : S150), (⟨7953, 7954, 11, 0⟩ : S150), (⟨8064, 8064, 2, 0⟩ : S150), (⟨9728, 9753, 4, 1⟩ : S150), (⟨9984, 10009, 10, 0⟩ : S150), (⟨10016, 10025, 8, 0⟩ : S150), (⟨10032, 10035, 10, 0⟩ : S150), (⟨12288, 23459, 7, 7⟩ : S150), (⟨24576, 26623, 7, 9⟩ : S150)] : List (S150)))
set_option maxHeartbeats 8000000 in
set_option maxRecDepth 100000 in
theorem spec_l01Rows.calls  (r : List (S150)) (w : World) (h : spec_l01Rows.f  = some r) :
    Calls Tryd.prog 157 #[] w fun e w' => ∃ v0_ : Value, e = .returned (v0_) ∧ Kd.R k150 150 w' w.heap.size (fun _ => True) v0_ r ∧ Below w.heap.size w w' := by
  have hu150 := Tryd.underlying150
  have HB := Aside0.mk (Below.refl w.heap.size w)
  have H : (some (([(⟨0, 31, 1, 0⟩ : S150), (⟨32, 32, 2, 0⟩ : S150), (⟨48, 57, 8, 0⟩ : S150), (⟨65, 90, 4, 1⟩ : S150), (⟨97, 122, 5, 1⟩ : S150), (⟨33, 126, 9, 0⟩ : S150), (⟨127, 159, 1, 0⟩ : S150), (⟨160, 160, 2, 0⟩ : S150), (⟨173, 173, 11, 0⟩ : S150), (⟨161, 191, 10, 0⟩ : S150), (⟨1280, 1311, 7, 5⟩ : S150), (⟨1360, 1369, 8, 5⟩ : S150), (⟨1536, 1567, 7, 6⟩ : S150), (⟨1568, 1579, 3, 6⟩ : S150), (⟨1584, 1585, 3, 6⟩ : S150), (⟨1616, 1625, 8, 6⟩ : S150), (⟨1792, 1810, 7, 7⟩ : S150), (⟨1824, 1844, 7, 7⟩ : S150), (⟨1857, 1883, 7, 7⟩ : S150), (⟨2048, 2095, 7, 8⟩ : S150), (⟨4096, 4159, 3, 0⟩ : S150), (⟨7680, 7748, 10, 0⟩ : S150), (⟨7760, 7785, 10, 0⟩ : S150), (⟨7936, 7947, 11, 0⟩ : S150), (⟨7953, 7954, 11, 0⟩ : S150), (⟨8064, 8064, 2, 0⟩ : S150), (⟨9728, 9753, 4, 1⟩ : S150), (⟨9984, 10009, 10, 0⟩ : S150), (⟨10016, 10025, 8, 0⟩ : S150), (⟨10032, 10035, 10, 0⟩ : S150), (⟨12288, 23459, 7, 7⟩ : S150), (⟨24576, 26623, 7, 9⟩ : S150)] : List (S150)))) = some r := h
  clear h
  obtain ⟨y513, hy513⟩ : ∃ y_ : List (S150), y_ = (([(⟨0, 31, 1, 0⟩ : S150), (⟨32, 32, 2, 0⟩ : S150), (⟨48, 57, 8, 0⟩ : S150), (⟨65, 90, 4, 1⟩ : S150), (⟨97, 122, 5, 1⟩ : S150), (⟨33, 126, 9, 0⟩ : S150), (⟨127, 159, 1, 0⟩ : S150), (⟨160, 160, 2, 0⟩ : S150), (⟨173, 173, 11, 0⟩ : S150), (⟨161, 191, 10, 0⟩ : S150), (⟨1280, 1311, 7, 5⟩ : S150), (⟨1360, 1369, 8, 5⟩ : S150), (⟨1536, 1567, 7, 6⟩ : S150), (⟨1568, 1579, 3, 6⟩ : S150), (⟨1584, 1585, 3, 6⟩ : S150), (⟨1616, 1625, 8, 6⟩ : S150), (⟨1792, 1810, 7, 7⟩ : S150), (⟨1824, 1844, 7, 7⟩ : S150), (⟨1857, 1883, 7, 7⟩ : S150), (⟨2048, 2095, 7, 8⟩ : S150), (⟨4096, 4159, 3, 0⟩ : S150), (⟨7680, 7748, 10, 0⟩ : S150), (⟨7760, 7785, 10, 0⟩ : S150), (⟨7936, 7947, 11, 0⟩ : S150), (⟨7953, 7954, 11, 0⟩ : S150), (⟨8064, 8064, 2, 0⟩ : S150), (⟨9728, 9753, 4, 1⟩ : S150), (⟨9984, 10009, 10, 0⟩ : S150), (⟨10016, 10025, 8, 0⟩ : S150), (⟨10032, 10035, 10, 0⟩ : S150), (⟨12288, 23459, 7, 7⟩ : S150), (⟨24576, 26623, 7, 9⟩ : S150)] : List (S150))) := ⟨_, rfl⟩
  replace H : (some y513) = some r := by first | (rw [hy513]; with_reducible exact H) | (have H2_ := (Option.bind_some _ _).symm.trans H; rw [hy513]; with_reducible exact H2_) | (have H2_ := (Option.bind_some _ _).symm.trans H; with_reducible exact H2_) | with_reducible exact H | (rw [hy513]; exact H) | exact H
  have Ny513 := Aside0.mk hy513
  clear hy513
  obtain rfl := Option.some.inj H
  go_enter Tryd.func157, Tryd.ntmps157
  go_wp2_with (first | ((with_reducible refine gate_dst (N := 33) rfl ?_); refine Kd.R_lit k150 _ 150 ?hg (N := 33) ?hd (xs := ([(⟨0, 31, 1, 0⟩ : S150), (⟨32, 32, 2, 0⟩ : S150), (⟨48, 57, 8, 0⟩ : S150), (⟨65, 90, 4, 1⟩ : S150), (⟨97, 122, 5, 1⟩ : S150), (⟨33, 126, 9, 0⟩ : S150), (⟨127, 159, 1, 0⟩ : S150), (⟨160, 160, 2, 0⟩ : S150), (⟨173, 173, 11, 0⟩ : S150), (⟨161, 191, 10, 0⟩ : S150), (⟨1280, 1311, 7, 5⟩ : S150), (⟨1360, 1369, 8, 5⟩ : S150), (⟨1536, 1567, 7, 6⟩ : S150), (⟨1568, 1579, 3, 6⟩ : S150), (⟨1584, 1585, 3, 6⟩ : S150), (⟨1616, 1625, 8, 6⟩ : S150), (⟨1792, 1810, 7, 7⟩ : S150), (⟨1824, 1844, 7, 7⟩ : S150), (⟨1857, 1883, 7, 7⟩ : S150), (⟨2048, 2095, 7, 8⟩ : S150), (⟨4096, 4159, 3, 0⟩ : S150), (⟨7680, 7748, 10, 0⟩ : S150), (⟨7760, 7785, 10, 0⟩ : S150), (⟨7936, 7947, 11, 0⟩ : S150), (⟨7953, 7954, 11, 0⟩ : S150), (⟨8064, 8064, 2, 0⟩ : S150), (⟨9728, 9753, 4, 1⟩ : S150), (⟨9984, 10009, 10, 0⟩ : S150), (⟨10016, 10025, 8, 0⟩ : S150), (⟨10032, 10035, 10, 0⟩ : S150), (⟨12288, 23459, 7, 7⟩ : S150), (⟨24576, 26623, 7, 9⟩ : S150)] : List (S150))) (inner := [.int .i64 0, .int .i64 31, .int .i64 1, .int .i64 0, .int .i64 32, .int .i64 32, .int .i64 2, .int .i64 0, .int .i64 48, .int .i64 57, .int .i64 8, .int .i64 0, .int .i64 65, .int .i64 90, .int .i64 4, .int .i64 1, .int .i64 97, .int .i64 122, .int .i64 5, .int .i64 1, .int .i64 33, .int .i64 126, .int .i64 9, .int .i64 0, .int .i64 127, .int .i64 159, .int .i64 1, .int .i64 0, .int .i64 160, .int .i64 160, .int .i64 2, .int .i64 0, .int .i64 173, .int .i64 173, .int .i64 11, .int .i64 0, .int .i64 161, .int .i64 191, .int .i64 10, .int .i64 0, .int .i64 1280, .int .i64 1311, .int .i64 7, .int .i64 5, .int .i64 1360, .int .i64 1369, .int .i64 8, .int .i64 5, .int .i64 1536, .int .i64 1567, .int .i64 7, .int .i64 6, .int .i64 1568, .int .i64 1579, .int .i64 3, .int .i64 6, .int .i64 1584, .int .i64 1585, .int .i64 3, .int .i64 6, .int .i64 1616, .int .i64 1625, .int .i64 8, .int .i64 6, .int .i64 1792, .int .i64 1810, .int .i64 7, .int .i64 7, .int .i64 1824, .int .i64 1844, .int .i64 7, .int .i64 7, .int .i64 1857, .int .i64 1883, .int .i64 7, .int .i64 7, .int .i64 2048, .int .i64 2095, .int .i64 7, .int .i64 8, .int .i64 4096, .int .i64 4159, .int .i64 3, .int .i64 0, .int .i64 7680, .int .i64 7748, .int .i64 10, .int .i64 0, .int .i64 7760, .int .i64 7785, .int .i64 10, .int .i64 0, .int .i64 7936, .int .i64 7947, .int .i64 11, .int .i64 0, .int .i64 7953, .int .i64 7954, .int .i64 11, .int .i64 0, .int .i64 8064, .int .i64 8064, .int .i64 2, .int .i64 0, .int .i64 9728, .int .i64 9753, .int .i64 4, .int .i64 1, .int .i64 9984, .int .i64 10009, .int .i64 10, .int .i64 0, .int .i64 10016, .int .i64 10025, .int .i64 8, .int .i64 0, .int .i64 10032, .int .i64 10035, .int .i64 10, .int .i64 0, .int .i64 12288, .int .i64 23459, .int .i64 7, .int .i64 7, .int .i64 24576, .int .i64 26623, .int .i64 7, .int .i64 9]) (ok := fun _ => True) (okp := fun _ => True) ?hr ?hp (fun _ hk => hk) trivial (Below.refl _ _) (Nat.le_refl _) (by simp) ?_; (case hd => rfl); (case hg => rfl); (case hr => first | (go_simp; done) | (go_simp; rfl)); (case hp => exact (Reps.c4 (show Kd.M k150 _ _ _ (⟨0, 31, 1, 0⟩ : S150) [.int .i64 0, .int .i64 31, .int .i64 1, .int .i64 0] from (k150_mkM _ _ _ (⟨0, 31, 1, 0⟩ : S150) )) (Reps.c4 (show Kd.M k150 _ _ _ (⟨32, 32, 2, 0⟩ : S150) [.int .i64 32, .int .i64 32, .int .i64 2, .int .i64 0] from (k150_mkM _ _ _ (⟨32, 32, 2, 0⟩ : S150) )) (Reps.c4 (show Kd.M k150 _ _ _ (⟨48, 57, 8, 0⟩ : S150) [.int .i64 48, .int .i64 57, .int .i64 8, .int .i64 0] from (k150_mkM _ _ _ (⟨48, 57, 8, 0⟩ : S150) )) (Reps.c4 (show Kd.M k150 _ _ _ (⟨65, 90, 4, 1⟩ : S150) [.int .i64 65, .int .i64 90, .int .i64 4, .int .i64 1] from (k150_mkM _ _ _ (⟨65, 90, 4, 1⟩ : S150) )) (Reps.c4 (show Kd.M k150 _ _ _ (⟨97, 122, 5, 1⟩ : S150) [.int .i64 97, .int .i64 122, .int .i64 5, .int .i64 1] from (k150_mkM _ _ _ (⟨97, 122, 5, 1⟩ : S150) )) (Reps.c4 (show Kd.M k150 _ _ _ (⟨33, 126, 9, 0⟩ : S150) [.int .i64 33, .int .i64 126, .int .i64 9, .int .i64 0] from (k150_mkM _ _ _ (⟨33, 126, 9, 0⟩ : S150) )) (Reps.c4 (show Kd.M k150 _ _ _ (⟨127, 159, 1, 0⟩ : S150) [.int .i64 127, .int .i64 159, .int .i64 1, .int .i64 0] from (k150_mkM _ _ _ (⟨127, 159, 1, 0⟩ : S150) )) (Reps.c4 (show Kd.M k150 _ _ _ (⟨160, 160, 2, 0⟩ : S150) [.int .i64 160, .int .i64 160, .int .i64 2, .int .i64 0] from (k150_mkM _ _ _ (⟨160, 160, 2, 0⟩ : S150) )) (Reps.c4 (show Kd.M k150 _ _ _ (⟨173, 173, 11, 0⟩ : S150) [.int .i64 173, .int .i64 173, .int .i64 11, .int .i64 0] from (k150_mkM _ _ _ (⟨173, 173, 11, 0⟩ : S150) )) (Reps.c4 (show Kd.M k150 _ _ _ (⟨161, 191, 10, 0⟩ : S150) [.int .i64 161, .int .i64 191, .int .i64 10, .int .i64 0] from (k150_mkM _ _ _ (⟨161, 191, 10, 0⟩ : S150) )) (Reps.c4 (show Kd.M k150 _ _ _ (⟨1280, 1311, 7, 5⟩ : S150) [.int .i64 1280, .int .i64 1311, .int .i64 7, .int .i64 5] from (k150_mkM _ _ _ (⟨1280, 1311, 7, 5⟩ : S150) )) (Reps.c4 (show Kd.M k150 _ _ _ (⟨1360, 1369, 8, 5⟩ : S150) [.int .i64 1360, .int .i64 1369, .int .i64 8, .int .i64 5] from (k150_mkM _ _ _ (⟨1360, 1369, 8, 5⟩ : S150) )) (Reps.c4 (show Kd.M k150 _ _ _ (⟨1536, 1567, 7, 6⟩ : S150) [.int .i64 1536, .int .i64 1567, .int .i64 7, .int .i64 6] from (k150_mkM _ _ _ (⟨1536, 1567, 7, 6⟩ : S150) )) (Reps.c4 (show Kd.M k150 _ _ _ (⟨1568, 1579, 3, 6⟩ : S150) [.int .i64 1568, .int .i64 1579, .int .i64 3, .int .i64 6] from (k150_mkM _ _ _ (⟨1568, 1579, 3, 6⟩ : S150) )) (Reps.c4 (show Kd.M k150 _ _ _ (⟨1584, 1585, 3, 6⟩ : S150) [.int .i64 1584, .int .i64 1585, .int .i64 3, .int .i64 6] from (k150_mkM _ _ _ (⟨1584, 1585, 3, 6⟩ : S150) )) (Reps.c4 (show Kd.M k150 _ _ _ (⟨1616, 1625, 8, 6⟩ : S150) [.int .i64 1616, .int .i64 1625, .int .i64 8, .int .i64 6] from (k150_mkM _ _ _ (⟨1616, 1625, 8, 6⟩ : S150) )) (Reps.c4 (show Kd.M k150 _ _ _ (⟨1792, 1810, 7, 7⟩ : S150) [.int .i64 1792, .int .i64 1810, .int .i64 7, .int .i64 7] from (k150_mkM _ _ _ (⟨1792, 1810, 7, 7⟩ : S150) )) (Reps.c4 (show Kd.M k150 _ _ _ (⟨1824, 1844, 7, 7⟩ : S150) [.int .i64 1824, .int .i64 1844, .int .i64 7, .int .i64 7] from (k150_mkM _ _ _ (⟨1824, 1844, 7, 7⟩ : S150) )) (Reps.c4 (show Kd.M k150 _ _ _ (⟨1857, 1883, 7, 7⟩ : S150) [.int .i64 1857, .int .i64 1883, .int .i64 7, .int .i64 7] from (k150_mkM _ _ _ (⟨1857, 1883, 7, 7⟩ : S150) )) (Reps.c4 (show Kd.M k150 _ _ _ (⟨2048, 2095, 7, 8⟩ : S150) [.int .i64 2048, .int .i64 2095, .int .i64 7, .int .i64 8] from (k150_mkM _ _ _ (⟨2048, 2095, 7, 8⟩ : S150) )) (Reps.c4 (show Kd.M k150 _ _ _ (⟨4096, 4159, 3, 0⟩ : S150) [.int .i64 4096, .int .i64 4159, .int .i64 3, .int .i64 0] from (k150_mkM _ _ _ (⟨4096, 4159, 3, 0⟩ : S150) )) (Reps.c4 (show Kd.M k150 _ _ _ (⟨7680, 7748, 10, 0⟩ : S150) [.int .i64 7680, .int .i64 7748, .int .i64 10, .int .i64 0] from (k150_mkM _ _ _ (⟨7680, 7748, 10, 0⟩ : S150) )) (Reps.c4 (show Kd.M k150 _ _ _ (⟨7760, 7785, 10, 0⟩ : S150) [.int .i64 7760, .int .i64 7785, .int .i64 10, .int .i64 0] from (k150_mkM _ _ _ (⟨7760, 7785, 10, 0⟩ : S150) )) (Reps.c4 (show Kd.M k150 _ _ _ (⟨7936, 7947, 11, 0⟩ : S150) [.int .i64 7936, .int .i64 7947, .int .i64 11, .int .i64 0] from (k150_mkM _ _ _ (⟨7936, 7947, 11, 0⟩ : S150) )) (Reps.c4 (show Kd.M k150 _ _ _ (⟨7953, 7954, 11, 0⟩ : S150) [.int .i64 7953, .int .i64 7954, .int .i64 11, .int .i64 0] from (k150_mkM _ _ _ (⟨7953, 7954, 11, 0⟩ : S150) )) (Reps.c4 (show Kd.M k150 _ _ _ (⟨8064, 8064, 2, 0⟩ : S150) [.int .i64 8064, .int .i64 8064, .int .i64 2, .int .i64 0] from (k150_mkM _ _ _ (⟨8064, 8064, 2, 0⟩ : S150) )) (Reps.c4 (show Kd.M k150 _ _ _ (⟨9728, 9753, 4, 1⟩ : S150) [.int .i64 9728, .int .i64 9753, .int .i64 4, .int .i64 1] from (k150_mkM _ _ _ (⟨9728, 9753, 4, 1⟩ : S150) )) (Reps.c4 (show Kd.M k150 _ _ _ (⟨9984, 10009, 10, 0⟩ : S150) [.int .i64 9984, .int .i64 10009, .int .i64 10, .int .i64 0] from (k150_mkM _ _ _ (⟨9984, 10009, 10, 0⟩ : S150) )) (Reps.c4 (show Kd.M k150 _ _ _ (⟨10016, 10025, 8, 0⟩ : S150) [.int .i64 10016, .int .i64 10025, .int .i64 8, .int .i64 0] from (k150_mkM _ _ _ (⟨10016, 10025, 8, 0⟩ : S150) )) (Reps.c4 (show Kd.M k150 _ _ _ (⟨10032, 10035, 10, 0⟩ : S150) [.int .i64 10032, .int .i64 10035, .int .i64 10, .int .i64 0] from (k150_mkM _ _ _ (⟨10032, 10035, 10, 0⟩ : S150) )) (Reps.c4 (show Kd.M k150 _ _ _ (⟨12288, 23459, 7, 7⟩ : S150) [.int .i64 12288, .int .i64 23459, .int .i64 7, .int .i64 7] from (k150_mkM _ _ _ (⟨12288, 23459, 7, 7⟩ : S150) )) (Reps.c4 (show Kd.M k150 _ _ _ (⟨24576, 26623, 7, 9⟩ : S150) [.int .i64 24576, .int .i64 26623, .int .i64 7, .int .i64 9] from (k150_mkM _ _ _ (⟨24576, 26623, 7, 9⟩ : S150) )) (Reps.none _ _)))))))))))))))))))))))))))))))))); intro v514 w1 ho2 hb hg_ hnew_; clear hg_ hnew_; (first | rw [← Ny513.out] at ho2 | (simp only [Int.reduceToNat] at ho2; rw [← Ny513.out] at ho2)); have n0_ := Aside0.mk (Kd.R_lower ho2 (below_size (by repeat (first | (with_reducible first | exact HB.out | apply below_alloc | apply pw_below_drewN | apply below_drew1) | exact HB.out)))); have n1_ := Aside0.mk (below_step (by repeat (first | (with_reducible first | exact HB.out | apply below_alloc | apply pw_below_drewN | apply below_drew1) | exact HB.out)) hb); clear HB; have HO515 := n0_; have HB := n1_; clear n0_ n1_; clear hb ho2))
  go_ret
  exact ⟨_, by first | rfl | (simp [errW_none, errW_some] <;> rfl) | (simp [*, errW_none, errW_some] <;> rfl), by (with_reducible repeat (first | apply Kd.R_alloc | apply Kd.R_drewN | apply Kd.R_drew)); exact HO515.out, by repeat (first | (with_reducible first | exact HB.out | apply below_alloc | apply pw_below_drewN | apply below_drew1) | exact HB.out)⟩

/-! ### spec_l01Cased: function 158 -/
def spec_l01Cased.f  : Option ((List (S150))) := some (([(⟨0, 31, 4, 0⟩ : S150), (⟨32, 63, 5, 0⟩ : S150), (⟨64, 67, 4, 0⟩ : S150), (⟨68, 71, 6, 0⟩ : S150), (⟨72, 75, 5, 0⟩ : S150), (⟨80, 89, 8, 0⟩ : S150), (⟨96, 97, 5, 0⟩ : S150)] : List (S150)))
set_option maxHeartbeats 8000000 in
set_option maxRecDepth 100000 in
theorem spec_l01Cased.calls  (r : List (S150)) (w : World) (h : spec_l01Cased.f  = some r) :
    Calls Tryd.prog 158 #[] w fun e w' => ∃ v0_ : Value, e = .returned (v0_) ∧ Kd.R k150 150 w' w.heap.size (fun _ => True) v0_ r ∧ Below w.heap.size w w' := by
  have hu150 := Tryd.underlying150
  have HB := Aside0.mk (Below.refl w.heap.size w)
  have H : (some (([(⟨0, 31, 4, 0⟩ : S150), (⟨32, 63, 5, 0⟩ : S150), (⟨64, 67, 4, 0⟩ : S150), (⟨68, 71, 6, 0⟩ : S150), (⟨72, 75, 5, 0⟩ : S150), (⟨80, 89, 8, 0⟩ : S150), (⟨96, 97, 5, 0⟩ : S150)] : List (S150)))) = some r := h
  clear h
  obtain ⟨y516, hy516⟩ : ∃ y_ : List (S150), y_ = (([(⟨0, 31, 4, 0⟩ : S150), (⟨32, 63, 5, 0⟩ : S150), (⟨64, 67, 4, 0⟩ : S150), (⟨68, 71, 6, 0⟩ : S150), (⟨72, 75, 5, 0⟩ : S150), (⟨80, 89, 8, 0⟩ : S150), (⟨96, 97, 5, 0⟩ : S150)] : List (S150))) := ⟨_, rfl⟩
  replace H : (some y516) = some r := by first | (rw [hy516]; with_reducible exact H) | (have H2_ := (Option.bind_some _ _).symm.trans H; rw [hy516]; with_reducible exact H2_) | (have H2_ := (Option.bind_some _ _).symm.trans H; with_reducible exact H2_) | with_reducible exact H | (rw [hy516]; exact H) | exact H
  have Ny516 := Aside0.mk hy516
  clear hy516
  obtain rfl := Option.some.inj H
  go_enter Tryd.func158, Tryd.ntmps158
  go_wp2_with (first | ((with_reducible refine gate_dst (N := 8) rfl ?_); refine Kd.R_lit k150 _ 150 ?hg (N := 8) ?hd (xs := ([(⟨0, 31, 4, 0⟩ : S150), (⟨32, 63, 5, 0⟩ : S150), (⟨64, 67, 4, 0⟩ : S150), (⟨68, 71, 6, 0⟩ : S150), (⟨72, 75, 5, 0⟩ : S150), (⟨80, 89, 8, 0⟩ : S150), (⟨96, 97, 5, 0⟩ : S150)] : List (S150))) (inner := [.int .i64 0, .int .i64 31, .int .i64 4, .int .i64 0, .int .i64 32, .int .i64 63, .int .i64 5, .int .i64 0, .int .i64 64, .int .i64 67, .int .i64 4, .int .i64 0, .int .i64 68, .int .i64 71, .int .i64 6, .int .i64 0, .int .i64 72, .int .i64 75, .int .i64 5, .int .i64 0, .int .i64 80, .int .i64 89, .int .i64 8, .int .i64 0, .int .i64 96, .int .i64 97, .int .i64 5, .int .i64 0]) (ok := fun _ => True) (okp := fun _ => True) ?hr ?hp (fun _ hk => hk) trivial (Below.refl _ _) (Nat.le_refl _) (by simp) ?_; (case hd => rfl); (case hg => rfl); (case hr => first | (go_simp; done) | (go_simp; rfl)); (case hp => exact (Reps.c4 (show Kd.M k150 _ _ _ (⟨0, 31, 4, 0⟩ : S150) [.int .i64 0, .int .i64 31, .int .i64 4, .int .i64 0] from (k150_mkM _ _ _ (⟨0, 31, 4, 0⟩ : S150) )) (Reps.c4 (show Kd.M k150 _ _ _ (⟨32, 63, 5, 0⟩ : S150) [.int .i64 32, .int .i64 63, .int .i64 5, .int .i64 0] from (k150_mkM _ _ _ (⟨32, 63, 5, 0⟩ : S150) )) (Reps.c4 (show Kd.M k150 _ _ _ (⟨64, 67, 4, 0⟩ : S150) [.int .i64 64, .int .i64 67, .int .i64 4, .int .i64 0] from (k150_mkM _ _ _ (⟨64, 67, 4, 0⟩ : S150) )) (Reps.c4 (show Kd.M k150 _ _ _ (⟨68, 71, 6, 0⟩ : S150) [.int .i64 68, .int .i64 71, .int .i64 6, .int .i64 0] from (k150_mkM _ _ _ (⟨68, 71, 6, 0⟩ : S150) )) (Reps.c4 (show Kd.M k150 _ _ _ (⟨72, 75, 5, 0⟩ : S150) [.int .i64 72, .int .i64 75, .int .i64 5, .int .i64 0] from (k150_mkM _ _ _ (⟨72, 75, 5, 0⟩ : S150) )) (Reps.c4 (show Kd.M k150 _ _ _ (⟨80, 89, 8, 0⟩ : S150) [.int .i64 80, .int .i64 89, .int .i64 8, .int .i64 0] from (k150_mkM _ _ _ (⟨80, 89, 8, 0⟩ : S150) )) (Reps.c4 (show Kd.M k150 _ _ _ (⟨96, 97, 5, 0⟩ : S150) [.int .i64 96, .int .i64 97, .int .i64 5, .int .i64 0] from (k150_mkM _ _ _ (⟨96, 97, 5, 0⟩ : S150) )) (Reps.none _ _))))))))); intro v517 w1 ho2 hb hg_ hnew_; clear hg_ hnew_; (first | rw [← Ny516.out] at ho2 | (simp only [Int.reduceToNat] at ho2; rw [← Ny516.out] at ho2)); have n0_ := Aside0.mk (Kd.R_lower ho2 (below_size (by repeat (first | (with_reducible first | exact HB.out | apply below_alloc | apply pw_below_drewN | apply below_drew1) | exact HB.out)))); have n1_ := Aside0.mk (below_step (by repeat (first | (with_reducible first | exact HB.out | apply below_alloc | apply pw_below_drewN | apply below_drew1) | exact HB.out)) hb); clear HB; have HO518 := n0_; have HB := n1_; clear n0_ n1_; clear hb ho2))
  go_ret
  exact ⟨_, by first | rfl | (simp [errW_none, errW_some] <;> rfl) | (simp [*, errW_none, errW_some] <;> rfl), by (with_reducible repeat (first | apply Kd.R_alloc | apply Kd.R_drewN | apply Kd.R_drew)); exact HO518.out, by repeat (first | (with_reducible first | exact HB.out | apply below_alloc | apply pw_below_drewN | apply below_drew1) | exact HB.out)⟩

end Go.Proofs.YtnonijganceneaaDoor.QFnJoined
