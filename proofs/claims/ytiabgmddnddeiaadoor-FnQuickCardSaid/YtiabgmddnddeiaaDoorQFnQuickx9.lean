/- The law FnQuick: at every input the call answers true (this text: contracts on its way, by a program of this session's; no condition of ours). -/
import Derived.Test.YtiabgmddnddeiaaDoorQFnQuickx0
import Derived.Test.YtiabgmddnddeiaaDoorQFnQuickx1
import Derived.Test.YtiabgmddnddeiaaDoorQFnQuickx8
namespace Go.Proofs.YtiabgmddnddeiaaDoor.QFnQuick
open Go.RowKit Go.Proofs.YtiabgmddnddeiaaDoorW.PrintWords Go.Proofs.YtiabgmddnddeiaaDoorW.PrintLast Go.Proofs.YtiabgmddnddeiaaDoorW.PrintMore
attribute [local go_sem] max2_int min2_int max_two min_two max_three min_three max_four min_four   -- for this text's walks alone
set_option linter.unusedVariables false
set_option linter.unusedSimpArgs false

/-! ### spec_l05All: function 174 -/
mutual
def spec_l05All.l0 : Nat → Bool → List Int → List Int → Int → Option (List Int)
 | 0, _, _, _, _ => none
 | k + 1, x1, x5, x6, x7 => if x7 < (x5.length : Int) then (if 0 ≤ x7 then ((spec_l05All.f k (rd x5 x7) x1).bind fun t254 => (if x6.length + t254.length < 17592186044416 then (spec_l05All.l0 k x1 x5 (x6 ++ t254) (wrap64 (x7 + 1))) else (none))) else (none)) else (some x6)
def spec_l05All.f : Nat → Int → Bool → Option (List Int)
 | 0, _, _ => none
 | k + 1, a0, a1 => (W_spec_l05Parts.f a0 a1).bind fun t244 => (if (t244.length : Int) = 0 then (some (([a0] : List Int))) else (spec_l05All.l0 k a1 t244 (([] : List Int)) 0))
end
theorem spec_l05All.mono_l : ∀ k, (∀ y0 y1, LeO (spec_l05All.f k y0 y1) (spec_l05All.f (k + 1) y0 y1)) ∧ (∀ y0 y1 y2 y3, LeO (spec_l05All.l0 k y0 y1 y2 y3) (spec_l05All.l0 (k + 1) y0 y1 y2 y3))
 | 0 => ⟨fun _ _ r h => by simp [spec_l05All.f] at h, fun _ _ _ _ r h => by simp [spec_l05All.l0] at h⟩
 | k + 1 => by
  obtain ⟨ih0, ih1⟩ := spec_l05All.mono_l k; refine ⟨?_, ?_⟩
  ·intro y0 y1
   unfold spec_l05All.f
   repeat' first
   | (with_reducible exact ih0 _ _)
   | (with_reducible exact ih1 _ _ _ _)
   | (with_reducible exact LeO.refl _)
   | (with_reducible exact LeO.none _)
   | (with_reducible refine LeO.ite ?_ ?_)
   | (with_reducible refine LeO.bind ?_ (fun _ => ?_))
   | exact ih0 _ _
   | exact ih1 _ _ _ _
   | exact LeO.none _
   | refine LeO.ite ?_ ?_
   | refine LeO.bind ?_ (fun _ => ?_)
  intro y0 y1 y2 y3
  unfold spec_l05All.l0
  repeat' first
  | (with_reducible exact ih0 _ _)
  | (with_reducible exact ih1 _ _ _ _)
  | (with_reducible exact LeO.refl _)
  | (with_reducible exact LeO.none _)
  | (with_reducible refine LeO.ite ?_ ?_)
  | (with_reducible refine LeO.bind ?_ (fun _ => ?_))
  | exact ih0 _ _
  | exact ih1 _ _ _ _
  | exact LeO.none _
  | refine LeO.ite ?_ ?_
  | refine LeO.bind ?_ (fun _ => ?_)
theorem spec_l05All.mono : ∀ a0 a1 k, LeO (spec_l05All.f k a0 a1) (spec_l05All.f (k + 1) a0 a1) := by
 intro a0 a1 k
 obtain ⟨ih0, ih1⟩ := spec_l05All.mono_l k
 exact ih0 a0 a1
set_option maxHeartbeats 8000000 in
set_option maxRecDepth 100000 in
theorem spec_l05All.calls (k : Nat) : ∀ (a0 : Int) (a1 : Bool) (r : List Int) (w : World) (h : spec_l05All.f k a0 a1 = some r),
  Calls Tryd.prog 174 #[.int .i64 a0, .bool a1] w fun e w' => ∃ v0_ : Value, e = .returned (v0_) ∧ Kd.R (Kd.int .i64) 2 w' w.heap.size (fun _ => True) v0_ r ∧ Below w.heap.size w w' := by
 induction k using Nat.strongRecOn with
 | _ k ih =>
 intro a0 a1 r w h
 cases k with
 | zero => exact absurd h (by simp [spec_l05All.f])
 | succ k =>
 simp only [spec_l05All.f] at h
 have HB := Aside0.mk (Below.refl w.heap.size w)
 have H : ((W_spec_l05Parts.f a0 a1).bind fun t244 => (if (t244.length : Int) = 0 then (some (([a0] : List Int))) else (spec_l05All.l0 k a1 t244 (([] : List Int)) 0))) = some r := h
 clear h
 replace H := Option.bind_eq_some_iff.mp H
 obtain ⟨t244, A30, H⟩ := H
 try dsimp only at H
 have A3 := Aside0.mk A30
 clear A30
 by_cases c4 : (t244.length : Int) = 0
 ·rw [if_pos c4] at H
  have c4b0 : ((t244.length : Int) == 0) = true := beq_iff_eq.mpr c4; have c4b1 : ((t244.length : Int) != 0) = false := bne_eq_false_iff_eq.mpr c4; clear c4; obtain ⟨y247, hy247⟩ : ∃ y_ : List Int, y_ = (([a0] : List Int)) := ⟨_, rfl⟩
  replace H : (some y247) = some r := by first | (rw [hy247]; with_reducible exact H) | (have H2_ := (Option.bind_some _ _).symm.trans H; rw [hy247]; with_reducible exact H2_) | (have H2_ := (Option.bind_some _ _).symm.trans H; with_reducible exact H2_) | with_reducible exact H | (rw [hy247]; exact H) | exact H
  have Ny247 := Aside0.mk hy247; clear hy247; obtain rfl := Option.some.inj H
  go_enter Tryd.func174, Tryd.ntmps174
  go_wp2_with (first | ((with_reducible refine gate_callee (f := 223) rfl ?_); refine goesL_ (some 10) rfl rfl Tryd.func223 (by kernel_rfl) rfl #[.int .i64 a0, .bool a1] rfl (by (try simp only [List.map_toArray, List.map_cons, List.map_nil]); first | done | rfl) ?_; (with_reducible refine (W_spec_l05Parts.calls a0 a1 t244 _ A3.out).mono ?_); rintro e w5 ⟨v245, rfl, ho0, hb⟩; refine ⟨_, rfl, ?_⟩; have n0_ := Aside0.mk (Kd.R_lower ho0 (below_size (belowA))); have n1_ := Aside0.mk (below_step (belowA) hb); clear HB; have HO246 := n0_; have HB := n1_; clear n0_ n1_; (try clear hb); (try clear hb2); (try clear hk); (try clear hi); (try clear ho0); obtain ⟨Ao6, co6, eo6⟩ := Kd.R_slice HO246.out; subst eo6) | ((with_reducible refine gate_dst (N := 15) rfl ?_); refine Kd.R_lit (Kd.int .i64) _ 2 ?hg (N := 15) ?hd (xs := ([a0] : List Int)) (inner := [.int .i64 a0]) (ok := fun _ => True) (okp := fun _ => True) ?hr ?hp (fun _ hk => hk) trivial (Below.refl _ _) (Nat.le_refl _) (by simp) ?_; (case hd => rfl); (case hg => rfl); (case hr => first | (go_simp; done) | (go_simp; rfl)); (case hp => exact (Reps.one (show Kd.M (Kd.int .i64) _ _ _ a0 [.int .i64 a0] from rfl) (Reps.none _ _))); intro v248 w7 ho8 hb hg_ hnew_; clear hg_ hnew_; (first | rw [← Ny247.out] at ho8 | (simp only [Int.reduceToNat] at ho8; rw [← Ny247.out] at ho8)); have n0_ := Aside0.mk (Kd.R_elder' (by (with_reducible repeat (first | apply Kd.R_alloc | apply Kd.R_drewN | apply Kd.R_drew)); exact HO246.out) (Kd.R_base ho8) hb); have n1_ := Aside0.mk (Kd.R_lower (Kd.R_new' ho8 (Kd.R_lt (by (with_reducible repeat (first | apply Kd.R_alloc | apply Kd.R_drewN | apply Kd.R_drew)); exact HO246.out))) (below_size (belowA))); have n2_ := Aside0.mk (below_step (belowA) hb); clear HO246; clear HB; have HO246 := n0_; have HO249 := n1_; have HB := n2_; clear n0_ n1_ n2_; clear hb ho8))
  go_ret
  exact ⟨_, by first | rfl | (simp [errW_none, errW_some] <;> rfl) | (simp [*, errW_none, errW_some] <;> rfl), by (with_reducible repeat (first | apply Kd.R_alloc | apply Kd.R_drewN | apply Kd.R_drew)); exact Kd.R_mono HO249.out (fun _ hk => trivial), belowA⟩
 rw [if_neg c4] at H
 have c4b0 : ((t244.length : Int) == 0) = false := beq_eq_false_iff_ne.mpr c4
 have c4b1 : ((t244.length : Int) != 0) = true := bne_iff_ne.mpr c4
 have c4b2 : ¬ (t244 = []) := fun h_ => c4 (by rw [h_]; rfl)
 obtain ⟨y250, hy250⟩ : ∃ y_ : List Int, y_ = (([] : List Int)) := ⟨_, rfl⟩
 replace H : (spec_l05All.l0 k a1 t244 y250 0) = some r := by first | (rw [hy250]; with_reducible exact H) | (have H2_ := (Option.bind_some _ _).symm.trans H; rw [hy250]; with_reducible exact H2_) | (have H2_ := (Option.bind_some _ _).symm.trans H; with_reducible exact H2_) | with_reducible exact H | (rw [hy250]; exact H) | exact H
 have Ny250 := Aside0.mk hy250
 clear hy250
 have H' := Aside0.mk H
 clear H
 go_enter Tryd.func174, Tryd.ntmps174
 go_wp2_with (first | ((with_reducible refine gate_callee (f := 223) rfl ?_); refine goesL_ (some 10) rfl rfl Tryd.func223 (by kernel_rfl) rfl #[.int .i64 a0, .bool a1] rfl (by (try simp only [List.map_toArray, List.map_cons, List.map_nil]); first | done | rfl) ?_; (with_reducible refine (W_spec_l05Parts.calls a0 a1 t244 _ A3.out).mono ?_); rintro e w9 ⟨v245, rfl, ho0, hb⟩; refine ⟨_, rfl, ?_⟩; have n0_ := Aside0.mk (Kd.R_lower ho0 (below_size (belowA))); have n1_ := Aside0.mk (below_step (belowA) hb); clear HB; have HO246 := n0_; have HB := n1_; clear n0_ n1_; (try clear hb); (try clear hb2); (try clear hk); (try clear hi); (try clear ho0); obtain ⟨Ao10, co10, eo10⟩ := Kd.R_slice HO246.out; subst eo10) | ((with_reducible refine gate_dst (N := 16) rfl ?_); refine Kd.R_lit (Kd.int .i64) _ 2 ?hg (N := 16) ?hd (xs := ([] : List Int)) (inner := []) (ok := fun _ => True) (okp := fun _ => True) ?hr ?hp (fun _ hk => hk) trivial (Below.refl _ _) (Nat.le_refl _) (by simp) ?_; (case hd => rfl); (case hg => rfl); (case hr => first | (go_simp; done) | (go_simp; rfl)); (case hp => exact (Reps.none _ _)); intro v251 w11 ho12 hb hg_ hnew_; clear hg_ hnew_; (first | rw [← Ny250.out] at ho12 | (simp only [Int.reduceToNat] at ho12; rw [← Ny250.out] at ho12)); have n0_ := Aside0.mk (Kd.R_elder' (by (with_reducible repeat (first | apply Kd.R_alloc | apply Kd.R_drewN | apply Kd.R_drew)); exact HO246.out) (Kd.R_base ho12) hb); have n1_ := Aside0.mk (Kd.R_lower (Kd.R_new' ho12 (Kd.R_lt (by (with_reducible repeat (first | apply Kd.R_alloc | apply Kd.R_drewN | apply Kd.R_drew)); exact HO246.out))) (below_size (belowA))); have n2_ := Aside0.mk (below_step (belowA) hb); clear HO246; clear HB; have HO246 := n0_; have HO252 := n1_; have HB := n2_; clear n0_ n1_ n2_; clear hb ho12))
 go_loopg [6, 7] k (fun kq v6 v7 w' => ∃ (x6_1 : List Int) (x7_1 : Int), v7 = .int .i64 x7_1 ∧ Aside0 (spec_l05All.l0 kq a1 t244 x6_1 x7_1 = some r) ∧ Aside0 (kq ≤ k) ∧ Aside0 (Kd.R (Kd.int .i64) 2 w' w.heap.size (fun k_ => some k_ ≠ (v6 : Value).ownBlock) (.slice Ao10 t244.length co10) t244) ∧ Aside0 (Kd.R (Kd.int .i64) 2 w' w.heap.size (fun k_ => some k_ ≠ ((.slice Ao10 t244.length co10) : Value).ownBlock) v6 x6_1) ∧ Aside0 (Below w.heap.size w w'))
 case atStart => exact ⟨(y250), (0), (by first | rfl | (simp; done) | (simp [*]; done)), H', ⟨Nat.le_refl _⟩, ⟨by (with_reducible repeat (first | apply Kd.R_alloc | apply Kd.R_drewN | apply Kd.R_drew)); exact Kd.R_mono HO246.out (fun _ hk => hk.2)⟩, ⟨by (with_reducible repeat (first | apply Kd.R_alloc | apply Kd.R_drewN | apply Kd.R_drew)); exact Kd.R_mono HO252.out (fun _ hk => hk.2)⟩, ⟨belowA⟩⟩
 case round =>
  clear H'
  try clear c1; try clear c2; try clear p2; try clear c4; try clear c4b0; try clear c4b1; try clear c4b2
  obtain ⟨x6_1, x7_1, rfl, HA, HK1, HO_5, HO_6, HB⟩ := hrel
  cases gk with
  | zero => exact absurd HA.out (by simp [spec_l05All.l0])
  | succ k1 =>
   have H := HA.out; clear HA; simp only [spec_l05All.l0] at H
   by_cases c13 : x7_1 < (t244.length : Int)
   ·rw [if_pos c13] at H
    have c13b0 : decide (x7_1 < (t244.length : Int)) = true := decide_eq_true c13; clear c13
    by_cases c14 : 0 ≤ x7_1
    ·rw [if_pos c14] at H
     have c14b0 : decide (0 ≤ x7_1) = true := decide_eq_true c14; clear c14; replace H := Option.bind_eq_some_iff.mp H; obtain ⟨t254, A150, H⟩ := H
     try dsimp only at H
     have A15 := Aside0.mk A150; clear A150
     by_cases c16 : x6_1.length + t254.length < 17592186044416
     ·rw [if_pos c16] at H
      have LMc16 := Aside0.mk c16; clear c16; obtain ⟨y257, hy257⟩ : ∃ y_ : List Int, y_ = (x6_1 ++ t254) := ⟨_, rfl⟩
      replace H : (spec_l05All.l0 k1 a1 t244 y257 (wrap64 (x7_1 + 1))) = some r := by first | (rw [hy257]; with_reducible exact H) | (have H2_ := (Option.bind_some _ _).symm.trans H; rw [hy257]; with_reducible exact H2_) | (have H2_ := (Option.bind_some _ _).symm.trans H; with_reducible exact H2_) | with_reducible exact H | (rw [hy257]; exact H) | exact H
      have Ny257 := Aside0.mk hy257; clear hy257; have H' := Aside0.mk H; clear H
      have p253 : 0 ≤ (x7_1 : Int) := of_decide_eq_true (by first | (with_reducible assumption) | assumption)
      have q253 : x7_1 < (t244.length : Int) := of_decide_eq_true (by first | (with_reducible assumption) | assumption)
      obtain ⟨ad253, e253, hx253_0⟩ := Kd.at_int (Kd.R_reads' HO_5.out).2.2 x7_1 p253 q253; cases e253; replace p253 := eq_true p253; replace q253 := eq_true q253
      go_wp2_with (first | ((with_reducible refine gate_callee (f := 174) rfl ?_); refine goesL_ (some 29) rfl rfl Tryd.func174 (by kernel_rfl) rfl #[.int .i64 (rd t244 x7_1), .bool a1] rfl (by (try simp only [List.map_toArray, List.map_cons, List.map_nil]); first | done | rfl) ?_; (with_reducible refine (ih k1 (by have := HK1.out; omega) (rd t244 x7_1) a1 t254 _ A15.out).mono ?_); rintro e w17 ⟨v255, rfl, ho0, hb⟩; refine ⟨_, rfl, ?_⟩; have n0_ := Aside0.mk (Kd.R_elder' (by (with_reducible repeat (first | apply Kd.R_alloc | apply Kd.R_drewN | apply Kd.R_drew)); exact HO_5.out) (Kd.R_base ho0) hb); have n1_ := Aside0.mk (Kd.R_elder' (by (with_reducible repeat (first | apply Kd.R_alloc | apply Kd.R_drewN | apply Kd.R_drew)); exact HO_6.out) (Kd.R_base ho0) hb); have n2_ := Aside0.mk (Kd.R_lower (Kd.R_new' (Kd.R_new' ho0 (Kd.R_lt (by (with_reducible repeat (first | apply Kd.R_alloc | apply Kd.R_drewN | apply Kd.R_drew)); exact HO_5.out))) (Kd.R_lt (by (with_reducible repeat (first | apply Kd.R_alloc | apply Kd.R_drewN | apply Kd.R_drew)); exact HO_6.out))) (below_size (belowA))); have n3_ := Aside0.mk (below_step (belowA) hb); clear HO_5; clear HO_6; clear HB; have HO_5 := n0_; have HO_6 := n1_; have HO256 := n2_; have HB := n3_; clear n0_ n1_ n2_ n3_; (try clear hb); (try clear hb2); (try clear hk); (try clear hi); (try clear ho0); obtain ⟨Ao19, co19, eo19⟩ := Kd.R_slice HO256.out; subst eo19) | ((with_reducible refine gate_builtin (b := .append) (xs := #[.tmp 23, .tmp 29]) rfl ?_); at_builtin; refine Kd.R_append_rows (Kd.int .i64) (w0 := w) w.heap.size rfl (.tmp 23) (.tmp 29) 28 2 (.int .i64 0) 8 rfl Tryd.underlying28 info2 rfl (by decide) (by omega) u6 x6_1 t254 _ _ _ (fun k_ => some k_ ≠ (.slice (some ad253) t244.length co10 : Value).ownBlock ∧ some k_ ≠ (.slice Ao19 t254.length co19 : Value).ownBlock) (fun _ => False) rfl rfl ?aO ?aR (fun _ _ h => h) (fun _ h => h.elim) ?aF ?aB ?aS ?aL ?_; (case aR => repeat (first | exact (Kd.R_reads' HO256.out).2.2 | (with_reducible refine Kd.C_alloc ?_ _) | (with_reducible refine Kd.C_drewN ?_ _) | (with_reducible refine Kd.C_drew ?_))); (case aB => exact (belowA)); (case aF => exact (fun k_ hk => ⟨Kd.fresh' (Kd.R_lt (by (with_reducible repeat (first | apply Kd.R_alloc | apply Kd.R_drewN | apply Kd.R_drew)); exact HO_5.out)) k_ hk, Kd.fresh' (Kd.R_lt (by (with_reducible repeat (first | apply Kd.R_alloc | apply Kd.R_drewN | apply Kd.R_drew)); exact HO256.out)) k_ hk⟩)); (case aO => exact (by (with_reducible repeat (first | apply Kd.R_alloc | apply Kd.R_drewN | apply Kd.R_drew)); exact HO_6.out)); (case aS => exact (below_size (belowA))); (case aL => have := LMc16.out; omega); intro v258 w18 ho hb hg hat; rw [← Ny257.out] at ho; have n0_ := Aside0.mk (Kd.R_after (ok := (fun k_ => some k_ ≠ (.slice Ao19 t254.length co19 : Value).ownBlock)) (by (with_reducible repeat (first | apply Kd.R_alloc | apply Kd.R_drewN | apply Kd.R_drew)); exact Kd.R_mono HO_5.out (fun _ hk => ⟨hk.2, hk.1⟩)) hg hat); have n1_ := Aside0.mk (Kd.R_after (ok := (fun k_ => some k_ ≠ (.slice (some ad253) t244.length co10 : Value).ownBlock)) (by (with_reducible repeat (first | apply Kd.R_alloc | apply Kd.R_drewN | apply Kd.R_drew)); exact Kd.R_mono HO256.out (fun _ hk => ⟨hk.1.2, hk.2⟩)) hg hat); have n2_ := Aside0.mk (hb); have n3_ := Aside0.mk (ho); clear HO_5; clear HO256; clear HB; clear HO_6; have HO_5 := n0_; have HO256 := n1_; have HB := n2_; have HO259 := n3_; clear n0_ n1_ n2_ n3_; clear ho hb hg hat))
      go_roundg k1
      case measure => have := HK1.out; omega
      case rel => exact ⟨(y257), (wrap64 (x7_1 + 1)), (by first | rfl | (simp; done) | (simp [*]; done)), H', ⟨by have := HK1.out; omega⟩, ⟨by (with_reducible repeat (first | apply Kd.R_alloc | apply Kd.R_drewN | apply Kd.R_drew)); exact Kd.R_mono HO_5.out (fun _ hk => hk.2)⟩, ⟨by (with_reducible repeat (first | apply Kd.R_alloc | apply Kd.R_drewN | apply Kd.R_drew)); exact Kd.R_mono HO259.out (fun _ hk => hk.1)⟩, ⟨belowA⟩⟩
     rw [if_neg c16] at H
     exact absurd H (by simp)
    rw [if_neg c14] at H
    exact absurd H (by simp)
   rw [if_neg c13] at H; have c13b0 : decide (x7_1 < (t244.length : Int)) = false := decide_eq_false c13; clear c13; obtain rfl := Option.some.inj H
   go_wp2
   go_ret
   exact ⟨_, by first | rfl | (simp [errW_none, errW_some] <;> rfl) | (simp [*, errW_none, errW_some] <;> rfl), by (with_reducible repeat (first | apply Kd.R_alloc | apply Kd.R_drewN | apply Kd.R_drew)); exact Kd.R_mono HO_6.out (fun _ hk => trivial), belowA⟩

def W_spec_l05All.f (a0 : Int) (a1 : Bool) : Option (List Int) := if 0 ≤ a0 ∧ a0 ≤ 1114111 then some (YtiabgmddnddeiaaDoorNrm.dec a1 a0) else none
theorem spec_l05All.len (k : Bool) (p : Int) : (YtiabgmddnddeiaaDoorNrm.dec k p).length ≤ 3 := by
  unfold YtiabgmddnddeiaaDoorNrm.dec
  repeat' split
  all_goals simp
theorem spec_l05All.plen (k : Bool) (p : Int) : (YtiabgmddnddeiaaDoorNrm.prt k p).length ≤ 2 := by
  unfold YtiabgmddnddeiaaDoorNrm.prt
  repeat' split
  all_goals simp
theorem spec_l05All.flen (k : Bool) (l : List Int) : (l.flatMap (YtiabgmddnddeiaaDoorNrm.dec k)).length ≤ 3 * l.length := by
  induction l with
  | nil => simp
  | cons x t ih => rw [List.flatMap_cons, List.length_append, List.length_cons]; have := spec_l05All.len k x; omega
theorem spec_l05All.prange {k : Bool} {p : Int} (h0 : 0 ≤ p) (h1 : p ≤ 1114111) : ∀ q ∈ YtiabgmddnddeiaaDoorNrm.prt k p, 0 ≤ q ∧ q ≤ 1114111 := by
  have := @YtiabgmddnddeiaaDoorNrm.letter_range (p % 512 / 8)
  intro q hq
  unfold YtiabgmddnddeiaaDoorNrm.prt at hq
  repeat' split at hq
  all_goals simp only [List.mem_cons, List.mem_nil_iff, or_false] at hq
  all_goals omega
theorem spec_l05All.loop (k : Bool) (L : List Int) (hl : L.length ≤ 2) (N : Nat) (H : ∀ q ∈ L, ∀ K, N ≤ K → spec_l05All.f K q k = some (YtiabgmddnddeiaaDoorNrm.dec k q)) (d : Nat) : ∀ (i K : Nat), i ≤ L.length → L.length - i = d → N + d < K →
    spec_l05All.l0 K k L ((L.take i).flatMap (YtiabgmddnddeiaaDoorNrm.dec k)) (i : Int) = some (L.flatMap (YtiabgmddnddeiaaDoorNrm.dec k)) := by
  induction d with
  | zero =>
    intro i K h1 h2 h3
    obtain ⟨K, rfl⟩ : ∃ m, K = m + 1 := ⟨K - 1, by omega⟩
    simp only [spec_l05All.l0]
    rw [if_neg (by omega), List.take_of_length_le (by omega)]
  | succ d ih =>
    intro i K h1 h2 h3
    obtain ⟨K, rfl⟩ : ∃ m, K = m + 1 := ⟨K - 1, by omega⟩
    have hlt : i < L.length := by omega
    have hih := ih (i + 1) K (by omega) (by omega) (by omega)
    have hw : wrap64 ((i : Int) + 1) = ((i + 1 : Nat) : Int) := by unfold wrap64; omega
    have hr : rd L (i : Int) = L[i] := by simp [rd, List.getD, hlt]
    have ht : (L.take (i + 1)).flatMap (YtiabgmddnddeiaaDoorNrm.dec k) = (L.take i).flatMap (YtiabgmddnddeiaaDoorNrm.dec k) ++ YtiabgmddnddeiaaDoorNrm.dec k L[i] := by
      rw [List.take_succ_eq_append_getElem hlt, List.flatMap_append]
      simp only [List.flatMap_cons, List.flatMap_nil, List.append_nil]
    have hlen := spec_l05All.flen k (L.take i)
    rw [List.length_take] at hlen
    have hl3 := spec_l05All.len k L[i]
    simp only [spec_l05All.l0]
    rw [if_pos (by omega), if_pos (by omega), hr, hw, H L[i] (List.getElem_mem hlt) K (by omega)]
    simp only [Option.bind_some]
    rw [if_pos (by omega), ← ht]
    exact hih
theorem spec_l05All.eq_ (n : Nat) : ∀ (p : Int) (k : Bool) (K : Nat), YtiabgmddnddeiaaDoorNrm.rk p ≤ n → 0 ≤ p → p ≤ 1114111 → 4 * n + 4 ≤ K → spec_l05All.f K p k = some (YtiabgmddnddeiaaDoorNrm.dec k p) := by
  induction n using Nat.strongRecOn with
  | _ n ih =>
  intro p k K hrk h0 h1 hK
  obtain ⟨K, rfl⟩ : ∃ m, K = m + 1 := ⟨K - 1, by omega⟩
  simp only [spec_l05All.f]
  unfold W_spec_l05Parts.f
  rw [if_pos ⟨h0, h1⟩]
  simp only [Option.bind_some]
  by_cases hp : YtiabgmddnddeiaaDoorNrm.prt k p = []
  · rw [hp, YtiabgmddnddeiaaDoorNrm.prt_nil hp]; rfl
  · have hpos := List.length_pos_iff.2 hp
    rw [if_neg (by omega), ← YtiabgmddnddeiaaDoorNrm.prt_dec hp]
    have hrks := @YtiabgmddnddeiaaDoorNrm.prt_rk k p
    have hrng := @spec_l05All.prange k p h0 h1
    have hl2 := spec_l05All.plen k p
    obtain ⟨L, hL⟩ : ∃ L, YtiabgmddnddeiaaDoorNrm.prt k p = L := ⟨_, rfl⟩
    rw [hL] at hpos hrks hrng hl2 ⊢
    have hn : 1 ≤ n := by
      cases L with
      | nil => simp at hpos
      | cons x t => have := hrks x (by simp); omega
    refine spec_l05All.loop k L hl2 (4 * (n - 1) + 4) (fun q hq K' hK' => ?_) L.length 0 K (by omega) (by omega) (by omega)
    have := hrks q hq
    exact ih (n - 1) (by omega) q k K' (by omega) (hrng q hq).1 (hrng q hq).2 hK'
theorem W_spec_l05All.to {a0 : Int} {a1 : Bool} {r : List Int} (h : W_spec_l05All.f a0 a1 = some r) : ∃ k, spec_l05All.f k a0 a1 = some r := by
  unfold W_spec_l05All.f at h
  split at h
  · rename_i hp
    exact ⟨4 * YtiabgmddnddeiaaDoorNrm.rk a0 + 4, by rw [← h]; exact spec_l05All.eq_ _ a0 a1 _ (Nat.le_refl _) hp.1 hp.2 (Nat.le_refl _)⟩
  · cases h
theorem W_spec_l05All.calls (a0 : Int) (a1 : Bool) (r : List Int) (w : World) (h : W_spec_l05All.f a0 a1 = some r) :
    Calls Tryd.prog 174 #[.int .i64 a0, .bool a1] w fun e w' => ∃ v0_ : Value, e = .returned (v0_) ∧ Kd.R (Kd.int .i64) 2 w' w.heap.size (fun _ => True) v0_ r ∧ Below w.heap.size w w' := by
  obtain ⟨k, hk⟩ := W_spec_l05All.to h
  exact spec_l05All.calls k a0 a1 r w hk

/-! ### spec_l05K: function 175 -/
def spec_l05K.f (a0 : Int) : Option (Bool) := some (decide (a0 ≥ 3))
set_option maxHeartbeats 8000000 in
set_option maxRecDepth 100000 in
theorem spec_l05K.calls (a0 : Int) (r : Bool) (w : World) (h : spec_l05K.f a0 = some r) :
    Calls Tryd.prog 175 #[.int .i64 a0] w fun e w' => e = .returned (.bool r) ∧ Drawn0 w w' := by
  have H : (some (decide (a0 ≥ 3))) = some r := h
  clear h
  obtain rfl := Option.some.inj H
  go_enter Tryd.func175, Tryd.ntmps175
  go_wp2
  go_ret
  exact ⟨by first | rfl | (simp; done) | (simp [*]; done), by repeat (first | exact Drawn0.refl _ | apply Drawn0.step)⟩

/-! ### spec_l01Class: function 145 -/
def spec_l01Class.j0 : Nat → Int → Bool → Option (Int)
 | 0, _, _ => none
 | k + 1, x0, x13 => if x13 = true then (some 0) else (if (wrap64 (x0 - 4096)) < 16 then (some 230) else (if (wrap64 (x0 - 4096)) < 32 then (some 220) else (if (wrap64 (x0 - 4096)) < 40 then (some 202) else (if (wrap64 (x0 - 4096)) < 48 then (some 1) else (if (wrap64 (x0 - 4096)) < 56 then (some 232) else (some 0))))))
def spec_l01Class.f (k : Nat) (a0 : Int) : Option (Int) := if a0 = 1584 then (some 9) else (if a0 = 1585 then (some 7) else (if a0 < 4096 then (spec_l01Class.j0 k a0 true) else (spec_l01Class.j0 k a0 (decide (a0 > 4159)))))
theorem spec_l01Class.mono_l : ∀ k, (∀ y0 y1, LeO (spec_l01Class.j0 k y0 y1) (spec_l01Class.j0 (k + 1) y0 y1))
 | 0 => fun _ _ r h => by simp [spec_l01Class.j0] at h
 | k + 1 => by
  have ih0 := spec_l01Class.mono_l k; intro y0 y1
  unfold spec_l01Class.j0
  repeat' first
  | (with_reducible exact ih0 _ _)
  | (with_reducible exact LeO.refl _)
  | (with_reducible exact LeO.none _)
  | (with_reducible refine LeO.ite ?_ ?_)
  | (with_reducible refine LeO.bind ?_ (fun _ => ?_))
  | exact ih0 _ _
  | exact LeO.none _
  | refine LeO.ite ?_ ?_
  | refine LeO.bind ?_ (fun _ => ?_)
theorem spec_l01Class.mono : ∀ a0 k, LeO (spec_l01Class.f k a0) (spec_l01Class.f (k + 1) a0) := by
 intro a0 k
 have ih0 := spec_l01Class.mono_l k
 unfold spec_l01Class.f
 repeat' first
   | (with_reducible exact ih0 _ _)
   | (with_reducible exact LeO.refl _)
   | (with_reducible exact LeO.none _)
   | (with_reducible refine LeO.ite ?_ ?_)
   | (with_reducible refine LeO.bind ?_ (fun _ => ?_))
   | exact ih0 _ _
   | exact LeO.none _
   | refine LeO.ite ?_ ?_
   | refine LeO.bind ?_ (fun _ => ?_)
set_option maxHeartbeats 8000000 in
set_option maxRecDepth 100000 in
theorem spec_l01Class.calls (k : Nat) (a0 : Int) (r : Int) (w : World) (h : spec_l01Class.f k a0 = some r) :
  Calls Tryd.prog 145 #[.int .i64 a0] w fun e w' => e = .returned (.int .i64 r) ∧ Drawn0 w w' := by
 have H : (if a0 = 1584 then (some 9) else (if a0 = 1585 then (some 7) else (if a0 < 4096 then (spec_l01Class.j0 k a0 true) else (spec_l01Class.j0 k a0 (decide (a0 > 4159)))))) = some r := h
 clear h
 by_cases c2 : a0 = 1584
 ·rw [if_pos c2] at H
  have c2b0 : (a0 == 1584) = true := beq_iff_eq.mpr c2; have c2b1 : (a0 != 1584) = false := bne_eq_false_iff_eq.mpr c2; clear c2; obtain rfl := Option.some.inj H
  go_enter Tryd.func145, Tryd.ntmps145
  go_wp2
  go_ret
  exact ⟨by first | rfl | (simp; done) | (simp [*]; done), by repeat (first | exact Drawn0.refl _ | apply Drawn0.step)⟩
 rw [if_neg c2] at H
 have c2b0 : (a0 == 1584) = false := beq_eq_false_iff_ne.mpr c2
 have c2b1 : (a0 != 1584) = true := bne_iff_ne.mpr c2
 by_cases c3 : a0 = 1585
 ·rw [if_pos c3] at H
  have c3b0 : (a0 == 1585) = true := beq_iff_eq.mpr c3; have c3b1 : (a0 != 1585) = false := bne_eq_false_iff_eq.mpr c3; clear c3; obtain rfl := Option.some.inj H
  go_enter Tryd.func145, Tryd.ntmps145
  go_wp2
  go_ret
  exact ⟨by first | rfl | (simp; done) | (simp [*]; done), by repeat (first | exact Drawn0.refl _ | apply Drawn0.step)⟩
 rw [if_neg c3] at H
 have c3b0 : (a0 == 1585) = false := beq_eq_false_iff_ne.mpr c3
 have c3b1 : (a0 != 1585) = true := bne_iff_ne.mpr c3
 have HC4 := Aside0.mk H
 clear H
 go_enter Tryd.func145, Tryd.ntmps145
 go_upto_region 5 with (fail)
 go_cut [13] (fun v13 wc => ∃ (kq : Nat) (x13_3 : Bool), v13 = .bool x13_3 ∧ Aside0 (spec_l01Class.j0 kq a0 x13_3 = some r) ∧ Aside0 (kq ≤ k) ∧ Drawn0 w wc)
 case first =>
  have H := HC4.out; clear HC4
  by_cases c5 : a0 < 4096
  ·rw [if_pos c5] at H
   have c5b0 : decide (a0 < 4096) = true := decide_eq_true c5; clear c5
   (first | rw [c5b0] | (simp only [i64_w, i32_w]; rw [c5b0]) | skip)
   have H' := Aside0.mk H; clear H
   go_wp2
   go_meet
   case rel => exact ⟨_, (true), (by first | rfl | (simp; done) | (simp [*]; done)), H', ⟨by first | omega | exact Nat.le_refl _⟩, by repeat (first | exact Drawn0.refl _ | apply Drawn0.step)⟩
  rw [if_neg c5] at H; have c5b0 : decide (a0 < 4096) = false := decide_eq_false c5; clear c5
  (first | rw [c5b0] | (simp only [i64_w, i32_w]; rw [c5b0]) | skip)
  have H' := Aside0.mk H; clear H
  go_wp2
  go_meet
  case rel => exact ⟨_, (decide (a0 > 4159)), (by first | rfl | (simp; done) | (simp [*]; done)), H', ⟨by first | omega | exact Nat.le_refl _⟩, by repeat (first | exact Drawn0.refl _ | apply Drawn0.step)⟩
 case rest =>
  clear HC4
  try clear c1; try clear c2; try clear c2b0; try clear c2b1; try clear p2; try clear c3; try clear c3b0; try clear c3b1; try clear c5; try clear c5b0
  obtain ⟨kq, x13_3, rfl, HA, HJ3, ⟨mc3, rfl⟩⟩ := hcut
  cases kq with
  | zero => exact absurd HA.out (by simp [spec_l01Class.j0])
  | succ kj3 =>
   have H := HA.out; clear HA; simp only [spec_l01Class.j0] at H
   by_cases c6 : x13_3 = true
   ·subst c6
    have H1 : (some 0) = some r := by rw [if_pos rfl] at H; exact H
    clear H; have H := H1; clear H1; obtain rfl := Option.some.inj H
    go_wp2
    go_ret
    exact ⟨by first | rfl | (simp; done) | (simp [*]; done), by repeat (first | exact Drawn0.refl _ | apply Drawn0.step)⟩
   replace c6 := Bool.eq_false_iff.mpr c6; subst c6
   have H1 : (if (wrap64 (a0 - 4096)) < 16 then (some 230) else (if (wrap64 (a0 - 4096)) < 32 then (some 220) else (if (wrap64 (a0 - 4096)) < 40 then (some 202) else (if (wrap64 (a0 - 4096)) < 48 then (some 1) else (if (wrap64 (a0 - 4096)) < 56 then (some 232) else (some 0)))))) = some r := by rw [if_neg (show ¬ (false = true) by decide)] at H; exact H
   clear H; have H := H1; clear H1
   by_cases c7 : (wrap64 (a0 - 4096)) < 16
   ·rw [if_pos c7] at H
    have c7b0 : decide ((wrap64 (a0 - 4096)) < 16) = true := decide_eq_true c7; clear c7; obtain rfl := Option.some.inj H
    go_wp2
    go_ret
    exact ⟨by first | rfl | (simp; done) | (simp [*]; done), by repeat (first | exact Drawn0.refl _ | apply Drawn0.step)⟩
   rw [if_neg c7] at H; have c7b0 : decide ((wrap64 (a0 - 4096)) < 16) = false := decide_eq_false c7; clear c7
   by_cases c8 : (wrap64 (a0 - 4096)) < 32
   ·rw [if_pos c8] at H
    have c8b0 : decide ((wrap64 (a0 - 4096)) < 32) = true := decide_eq_true c8; clear c8; obtain rfl := Option.some.inj H
    go_wp2
    go_ret
    exact ⟨by first | rfl | (simp; done) | (simp [*]; done), by repeat (first | exact Drawn0.refl _ | apply Drawn0.step)⟩
   rw [if_neg c8] at H; have c8b0 : decide ((wrap64 (a0 - 4096)) < 32) = false := decide_eq_false c8; clear c8
   by_cases c9 : (wrap64 (a0 - 4096)) < 40
   ·rw [if_pos c9] at H
    have c9b0 : decide ((wrap64 (a0 - 4096)) < 40) = true := decide_eq_true c9; clear c9; obtain rfl := Option.some.inj H
    go_wp2
    go_ret
    exact ⟨by first | rfl | (simp; done) | (simp [*]; done), by repeat (first | exact Drawn0.refl _ | apply Drawn0.step)⟩
   rw [if_neg c9] at H; have c9b0 : decide ((wrap64 (a0 - 4096)) < 40) = false := decide_eq_false c9; clear c9
   by_cases c10 : (wrap64 (a0 - 4096)) < 48
   ·rw [if_pos c10] at H
    have c10b0 : decide ((wrap64 (a0 - 4096)) < 48) = true := decide_eq_true c10; clear c10; obtain rfl := Option.some.inj H
    go_wp2
    go_ret
    exact ⟨by first | rfl | (simp; done) | (simp [*]; done), by repeat (first | exact Drawn0.refl _ | apply Drawn0.step)⟩
   rw [if_neg c10] at H; have c10b0 : decide ((wrap64 (a0 - 4096)) < 48) = false := decide_eq_false c10; clear c10
   by_cases c11 : (wrap64 (a0 - 4096)) < 56
   ·rw [if_pos c11] at H
    have c11b0 : decide ((wrap64 (a0 - 4096)) < 56) = true := decide_eq_true c11; clear c11; obtain rfl := Option.some.inj H
    go_wp2
    go_ret
    exact ⟨by first | rfl | (simp; done) | (simp [*]; done), by repeat (first | exact Drawn0.refl _ | apply Drawn0.step)⟩
   rw [if_neg c11] at H; have c11b0 : decide ((wrap64 (a0 - 4096)) < 56) = false := decide_eq_false c11; clear c11; obtain rfl := Option.some.inj H
   go_wp2
   go_ret
   exact ⟨by first | rfl | (simp; done) | (simp [*]; done), by repeat (first | exact Drawn0.refl _ | apply Drawn0.step)⟩

def W_spec_l01Class.f (a0 : Int) : Option Int := if -4611686018427387904 ≤ a0 ∧ a0 ≤ 4611686018427387904 then some (YtiabgmddnddeiaaDoorNrm.cls a0) else none
theorem W_spec_l01Class.eq {p : Int} (h0 : 0 ≤ p) (h1 : p ≤ 1114111) : W_spec_l01Class.f p = some (YtiabgmddnddeiaaDoorNrm.cls p) := if_pos (by omega)
theorem W_spec_l01Class.to {a0 : Int} {r : Int} (h : W_spec_l01Class.f a0 = some r) : ∃ k, spec_l01Class.f k a0 = some r := by
  unfold W_spec_l01Class.f at h
  split at h
  · rename_i hp
    refine ⟨1, ?_⟩
    rw [← h]
    unfold spec_l01Class.f YtiabgmddnddeiaaDoorNrm.cls
    by_cases c1 : a0 = 1584
    · rw [if_pos c1, if_pos c1]
    rw [if_neg c1, if_neg c1]
    by_cases c2 : a0 = 1585
    · rw [if_pos c2, if_pos c2]
    rw [if_neg c2, if_neg c2]
    have e : wrap64 (a0 - 4096) = a0 - 4096 := by unfold wrap64; omega
    by_cases c3 : a0 < 4096
    · rw [if_pos c3, if_pos (show a0 < 4096 ∨ 4159 < a0 by omega)]
      simp only [spec_l01Class.j0]
      rw [if_pos trivial]
    · rw [if_neg c3]
      by_cases c4 : a0 > 4159
      · rw [decide_eq_true c4, if_pos (show a0 < 4096 ∨ 4159 < a0 by omega)]
        simp only [spec_l01Class.j0]
        rw [if_pos trivial]
      · rw [decide_eq_false c4, if_neg (show ¬ (a0 < 4096 ∨ 4159 < a0) by omega)]
        simp only [spec_l01Class.j0]
        rw [if_neg (by decide), e]
        repeat' split
        all_goals first
          | rfl
          | (exfalso; omega)
  · cases h
theorem W_spec_l01Class.calls (a0 : Int) (r : Int) (w : World) (h : W_spec_l01Class.f a0 = some r) :
    Calls Tryd.prog 145 #[.int .i64 a0] w fun e w' => e = .returned (.int .i64 r) ∧ Drawn0 w w' := by
  obtain ⟨k, hk⟩ := W_spec_l01Class.to h
  exact spec_l01Class.calls k a0 r w hk

end Go.Proofs.YtiabgmddnddeiaaDoor.QFnQuick
