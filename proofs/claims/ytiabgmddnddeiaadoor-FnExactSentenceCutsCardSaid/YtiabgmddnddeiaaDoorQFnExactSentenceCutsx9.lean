/- The law FnExactSentenceCuts: at every input the call answers true (this text: contracts on its way, by a program of this session's; no condition of ours). -/
import Derived.Test.YtiabgmddnddeiaaDoorQFnExactSentenceCutsx0
import Derived.Test.YtiabgmddnddeiaaDoorQFnExactSentenceCutsx1
import Derived.Test.YtiabgmddnddeiaaDoorQFnExactSentenceCutsx2
import Derived.Test.YtiabgmddnddeiaaDoorQFnExactSentenceCutsx3
import Derived.Test.YtiabgmddnddeiaaDoorQFnExactSentenceCutsx5
import Derived.Test.YtiabgmddnddeiaaDoorQFnExactSentenceCutsx8
namespace Go.Proofs.YtiabgmddnddeiaaDoor.QFnExactSentenceCuts
open Go.RowKit Go.Proofs.YtiabgmddnddeiaaDoorW.PrintWords Go.Proofs.YtiabgmddnddeiaaDoorW.PrintLast Go.Proofs.YtiabgmddnddeiaaDoorW.PrintMore
attribute [local go_sem] max2_int min2_int max_two min_two max_three min_three max_four min_four   -- for this text's walks alone
set_option linter.unusedVariables false
set_option linter.unusedSimpArgs false

/-! ### spec_SentenceCuts: function 33 -/
mutual
def spec_SentenceCuts.j0 : Nat → ByteArray → List Int → Bool → Option (List Int)
 | 0, _, _, _ => none
 | k + 1, x0, x3, x17 => if x17 = true then (some x3) else ((W_spec_l07RowOf.f x0).bind fun bt194 => (if 0 ≤ (wrap64 ((bt194.1.length : Int) + 1)) then (if (wrap64 ((bt194.1.length : Int) + 1) : Int).toNat ≤ 281474976710656 then ((some (List.replicate (wrap64 ((bt194.1.length : Int) + 1) : Int).toNat false : List Bool)).bind fun y201 => (if 0 < (y201.length : Int) then (if 0 ≤ (bt194.1.length : Int) then (if (bt194.1.length : Int) < (y201.length : Int) then (spec_SentenceCuts.l0 k x3 ((y201.set (0 : Int).toNat true).set ((bt194.1.length : Int) : Int).toNat true) 0 bt194.1 bt194.2) else (none)) else (none)) else (none))) else (none)) else (none)))
def spec_SentenceCuts.l0 : Nat → List Int → List Bool → Int → List Int → List Int → Option (List Int)
 | 0, _, _, _, _, _ => none
 | k + 1, x3, x5, x6, x201000, x201001 => if x6 < (x201000.length : Int) then (if 0 ≤ x6 then (if (rd x201000 x6) = 10 then (spec_SentenceCuts.j2 k x3 x5 x6 true x201000 x201001) else (if (rd x201000 x6) = 13 then (if (wrap64 (x6 + 1)) = (x201000.length : Int) then (spec_SentenceCuts.j2 k x3 x5 x6 true x201000 x201001) else (if 0 ≤ (wrap64 (x6 + 1)) then (if (wrap64 (x6 + 1)) < (x201000.length : Int) then (spec_SentenceCuts.j2 k x3 x5 x6 ((rd x201000 (wrap64 (x6 + 1))) != 10) x201000 x201001) else (none)) else (none))) else (spec_SentenceCuts.j2 k x3 x5 x6 false x201000 x201001))) else (none)) else (spec_SentenceCuts.l1 k x3 x5 0 x201000 x201001)
def spec_SentenceCuts.j2 : Nat → List Int → List Bool → Int → Bool → List Int → List Int → Option (List Int)
 | 0, _, _, _, _, _, _ => none
 | k + 1, x3, x5, x6, x70, x201000, x201001 => if x70 = true then (if 0 ≤ (wrap64 (x6 + 1)) then (if (wrap64 (x6 + 1)) < (x5.length : Int) then (spec_SentenceCuts.j3 k x3 (x5.set ((wrap64 (x6 + 1)) : Int).toNat true) x6 x201000 x201001) else (none)) else (none)) else (spec_SentenceCuts.j3 k x3 x5 x6 x201000 x201001)
def spec_SentenceCuts.j3 : Nat → List Int → List Bool → Int → List Int → List Int → Option (List Int)
 | 0, _, _, _, _, _ => none
 | k + 1, x3, x5, x6, x201000, x201001 => if 0 ≤ x6 then (if x6 < (x201000.length : Int) then ((W_spec_l08In.f (rd x201000 x6) (⟨#[46, 33, 63]⟩ : ByteArray)).bind fun t211 => (if t211 = true then (if x6 = 0 then (spec_SentenceCuts.j4 k x3 x5 x6 true x201000 x201001) else (if 0 ≤ (wrap64 (x6 - 1)) then (if (wrap64 (x6 - 1)) < (x201000.length : Int) then ((W_spec_l08In.f (rd x201000 (wrap64 (x6 - 1))) (⟨#[46, 33, 63]⟩ : ByteArray)).bind fun t213 => (spec_SentenceCuts.j4 k x3 x5 x6 (!t213) x201000 x201001)) else (none)) else (none))) else (spec_SentenceCuts.j4 k x3 x5 x6 false x201000 x201001))) else (none)) else (none)
def spec_SentenceCuts.j4 : Nat → List Int → List Bool → Int → Bool → List Int → List Int → Option (List Int)
 | 0, _, _, _, _, _, _ => none
 | k + 1, x3, x5, x6, x94, x201000, x201001 => if x94 = true then ((W_spec_l08Closes.f x201000 x6).bind fun bt214 => (if bt214.2 = true then (if 0 ≤ bt214.1 then (if bt214.1 < (x5.length : Int) then (spec_SentenceCuts.l0 k x3 (x5.set (bt214.1 : Int).toNat true) (wrap64 (x6 + 1)) x201000 x201001) else (none)) else (none)) else (spec_SentenceCuts.l0 k x3 x5 (wrap64 (x6 + 1)) x201000 x201001))) else (spec_SentenceCuts.l0 k x3 x5 (wrap64 (x6 + 1)) x201000 x201001)
def spec_SentenceCuts.l1 : Nat → List Int → List Bool → Int → List Int → List Int → Option (List Int)
 | 0, _, _, _, _, _ => none
 | k + 1, x3, x5, x9, x201000, x201001 => if x9 < (x5.length : Int) then (if 0 ≤ x9 then (if rdOf false x5 x9 = true then (if x9 = 0 then (if x9 < (x201001.length : Int) then (if x3.length < 17592186044416 then (spec_SentenceCuts.l1 k (x3 ++ [rd x201001 x9]) x5 (wrap64 (x9 + 1)) x201000 x201001) else (none)) else (none)) else (if x9 = (x201000.length : Int) then (if x9 < (x201001.length : Int) then (if x3.length < 17592186044416 then (spec_SentenceCuts.l1 k (x3 ++ [rd x201001 x9]) x5 (wrap64 (x9 + 1)) x201000 x201001) else (none)) else (none)) else ((W_spec_l07Char.f x201000 x9).bind fun t226 => (if t226 = true then (if x9 < (x201001.length : Int) then (if x3.length < 17592186044416 then (spec_SentenceCuts.l1 k (x3 ++ [rd x201001 x9]) x5 (wrap64 (x9 + 1)) x201000 x201001) else (none)) else (none)) else (spec_SentenceCuts.l1 k x3 x5 (wrap64 (x9 + 1)) x201000 x201001))))) else (spec_SentenceCuts.l1 k x3 x5 (wrap64 (x9 + 1)) x201000 x201001)) else (none)) else (some x3)
end
def spec_SentenceCuts.f (k : Nat) (a0 : ByteArray) : Option (List Int) := (some (([] : List Int) : List Int)).bind fun y191 => (if (a0.size : Int) > 65536 then (spec_SentenceCuts.j0 k a0 y191 true) else (spec_SentenceCuts.j0 k a0 y191 (a0.toList == ([] : List UInt8))))
theorem spec_SentenceCuts.mono_l : ∀ k, (∀ y0 y1 y2, LeO (spec_SentenceCuts.j0 k y0 y1 y2) (spec_SentenceCuts.j0 (k + 1) y0 y1 y2)) ∧ (∀ y0 y1 y2 y3 y4, LeO (spec_SentenceCuts.l0 k y0 y1 y2 y3 y4) (spec_SentenceCuts.l0 (k + 1) y0 y1 y2 y3 y4)) ∧ (∀ y0 y1 y2 y3 y4 y5, LeO (spec_SentenceCuts.j2 k y0 y1 y2 y3 y4 y5) (spec_SentenceCuts.j2 (k + 1) y0 y1 y2 y3 y4 y5)) ∧ (∀ y0 y1 y2 y3 y4, LeO (spec_SentenceCuts.j3 k y0 y1 y2 y3 y4) (spec_SentenceCuts.j3 (k + 1) y0 y1 y2 y3 y4)) ∧ (∀ y0 y1 y2 y3 y4 y5, LeO (spec_SentenceCuts.j4 k y0 y1 y2 y3 y4 y5) (spec_SentenceCuts.j4 (k + 1) y0 y1 y2 y3 y4 y5)) ∧ (∀ y0 y1 y2 y3 y4, LeO (spec_SentenceCuts.l1 k y0 y1 y2 y3 y4) (spec_SentenceCuts.l1 (k + 1) y0 y1 y2 y3 y4))
 | 0 => ⟨fun _ _ _ r h => by simp [spec_SentenceCuts.j0] at h, fun _ _ _ _ _ r h => by simp [spec_SentenceCuts.l0] at h, fun _ _ _ _ _ _ r h => by simp [spec_SentenceCuts.j2] at h, fun _ _ _ _ _ r h => by simp [spec_SentenceCuts.j3] at h, fun _ _ _ _ _ _ r h => by simp [spec_SentenceCuts.j4] at h, fun _ _ _ _ _ r h => by simp [spec_SentenceCuts.l1] at h⟩
 | k + 1 => by
  obtain ⟨ih0, ih1, ih2, ih3, ih4, ih5⟩ := spec_SentenceCuts.mono_l k; refine ⟨?_, ?_, ?_, ?_, ?_, ?_⟩
  ·intro y0 y1 y2
   unfold spec_SentenceCuts.j0
   repeat' first
   | (with_reducible exact ih0 _ _ _)
   | (with_reducible exact ih1 _ _ _ _ _)
   | (with_reducible exact ih2 _ _ _ _ _ _)
   | (with_reducible exact ih3 _ _ _ _ _)
   | (with_reducible exact ih4 _ _ _ _ _ _)
   | (with_reducible exact ih5 _ _ _ _ _)
   | (with_reducible exact LeO.refl _)
   | (with_reducible exact LeO.none _)
   | (with_reducible refine LeO.ite ?_ ?_)
   | (with_reducible refine LeO.bind ?_ (fun _ => ?_))
   | exact ih0 _ _ _
   | exact ih1 _ _ _ _ _
   | exact ih2 _ _ _ _ _ _
   | exact ih3 _ _ _ _ _
   | exact ih4 _ _ _ _ _ _
   | exact ih5 _ _ _ _ _
   | exact LeO.none _
   | refine LeO.ite ?_ ?_
   | refine LeO.bind ?_ (fun _ => ?_)
  ·intro y0 y1 y2 y3 y4
   unfold spec_SentenceCuts.l0
   repeat' first
   | (with_reducible exact ih0 _ _ _)
   | (with_reducible exact ih1 _ _ _ _ _)
   | (with_reducible exact ih2 _ _ _ _ _ _)
   | (with_reducible exact ih3 _ _ _ _ _)
   | (with_reducible exact ih4 _ _ _ _ _ _)
   | (with_reducible exact ih5 _ _ _ _ _)
   | (with_reducible exact LeO.refl _)
   | (with_reducible exact LeO.none _)
   | (with_reducible refine LeO.ite ?_ ?_)
   | (with_reducible refine LeO.bind ?_ (fun _ => ?_))
   | exact ih0 _ _ _
   | exact ih1 _ _ _ _ _
   | exact ih2 _ _ _ _ _ _
   | exact ih3 _ _ _ _ _
   | exact ih4 _ _ _ _ _ _
   | exact ih5 _ _ _ _ _
   | exact LeO.none _
   | refine LeO.ite ?_ ?_
   | refine LeO.bind ?_ (fun _ => ?_)
  ·intro y0 y1 y2 y3 y4 y5
   unfold spec_SentenceCuts.j2
   repeat' first
   | (with_reducible exact ih0 _ _ _)
   | (with_reducible exact ih1 _ _ _ _ _)
   | (with_reducible exact ih2 _ _ _ _ _ _)
   | (with_reducible exact ih3 _ _ _ _ _)
   | (with_reducible exact ih4 _ _ _ _ _ _)
   | (with_reducible exact ih5 _ _ _ _ _)
   | (with_reducible exact LeO.refl _)
   | (with_reducible exact LeO.none _)
   | (with_reducible refine LeO.ite ?_ ?_)
   | (with_reducible refine LeO.bind ?_ (fun _ => ?_))
   | exact ih0 _ _ _
   | exact ih1 _ _ _ _ _
   | exact ih2 _ _ _ _ _ _
   | exact ih3 _ _ _ _ _
   | exact ih4 _ _ _ _ _ _
   | exact ih5 _ _ _ _ _
   | exact LeO.none _
   | refine LeO.ite ?_ ?_
   | refine LeO.bind ?_ (fun _ => ?_)
  ·intro y0 y1 y2 y3 y4
   unfold spec_SentenceCuts.j3
   repeat' first
   | (with_reducible exact ih0 _ _ _)
   | (with_reducible exact ih1 _ _ _ _ _)
   | (with_reducible exact ih2 _ _ _ _ _ _)
   | (with_reducible exact ih3 _ _ _ _ _)
   | (with_reducible exact ih4 _ _ _ _ _ _)
   | (with_reducible exact ih5 _ _ _ _ _)
   | (with_reducible exact LeO.refl _)
   | (with_reducible exact LeO.none _)
   | (with_reducible refine LeO.ite ?_ ?_)
   | (with_reducible refine LeO.bind ?_ (fun _ => ?_))
   | exact ih0 _ _ _
   | exact ih1 _ _ _ _ _
   | exact ih2 _ _ _ _ _ _
   | exact ih3 _ _ _ _ _
   | exact ih4 _ _ _ _ _ _
   | exact ih5 _ _ _ _ _
   | exact LeO.none _
   | refine LeO.ite ?_ ?_
   | refine LeO.bind ?_ (fun _ => ?_)
  ·intro y0 y1 y2 y3 y4 y5
   unfold spec_SentenceCuts.j4
   repeat' first
   | (with_reducible exact ih0 _ _ _)
   | (with_reducible exact ih1 _ _ _ _ _)
   | (with_reducible exact ih2 _ _ _ _ _ _)
   | (with_reducible exact ih3 _ _ _ _ _)
   | (with_reducible exact ih4 _ _ _ _ _ _)
   | (with_reducible exact ih5 _ _ _ _ _)
   | (with_reducible exact LeO.refl _)
   | (with_reducible exact LeO.none _)
   | (with_reducible refine LeO.ite ?_ ?_)
   | (with_reducible refine LeO.bind ?_ (fun _ => ?_))
   | exact ih0 _ _ _
   | exact ih1 _ _ _ _ _
   | exact ih2 _ _ _ _ _ _
   | exact ih3 _ _ _ _ _
   | exact ih4 _ _ _ _ _ _
   | exact ih5 _ _ _ _ _
   | exact LeO.none _
   | refine LeO.ite ?_ ?_
   | refine LeO.bind ?_ (fun _ => ?_)
  intro y0 y1 y2 y3 y4
  unfold spec_SentenceCuts.l1
  repeat' first
  | (with_reducible exact ih0 _ _ _)
  | (with_reducible exact ih1 _ _ _ _ _)
  | (with_reducible exact ih2 _ _ _ _ _ _)
  | (with_reducible exact ih3 _ _ _ _ _)
  | (with_reducible exact ih4 _ _ _ _ _ _)
  | (with_reducible exact ih5 _ _ _ _ _)
  | (with_reducible exact LeO.refl _)
  | (with_reducible exact LeO.none _)
  | (with_reducible refine LeO.ite ?_ ?_)
  | (with_reducible refine LeO.bind ?_ (fun _ => ?_))
  | exact ih0 _ _ _
  | exact ih1 _ _ _ _ _
  | exact ih2 _ _ _ _ _ _
  | exact ih3 _ _ _ _ _
  | exact ih4 _ _ _ _ _ _
  | exact ih5 _ _ _ _ _
  | exact LeO.none _
  | refine LeO.ite ?_ ?_
  | refine LeO.bind ?_ (fun _ => ?_)
theorem spec_SentenceCuts.mono : ∀ a0 k, LeO (spec_SentenceCuts.f k a0) (spec_SentenceCuts.f (k + 1) a0) := by
 intro a0 k
 obtain ⟨ih0, ih1, ih2, ih3, ih4, ih5⟩ := spec_SentenceCuts.mono_l k
 unfold spec_SentenceCuts.f
 repeat' first
   | (with_reducible exact ih0 _ _ _)
   | (with_reducible exact ih1 _ _ _ _ _)
   | (with_reducible exact ih2 _ _ _ _ _ _)
   | (with_reducible exact ih3 _ _ _ _ _)
   | (with_reducible exact ih4 _ _ _ _ _ _)
   | (with_reducible exact ih5 _ _ _ _ _)
   | (with_reducible exact LeO.refl _)
   | (with_reducible exact LeO.none _)
   | (with_reducible refine LeO.ite ?_ ?_)
   | (with_reducible refine LeO.bind ?_ (fun _ => ?_))
   | exact ih0 _ _ _
   | exact ih1 _ _ _ _ _
   | exact ih2 _ _ _ _ _ _
   | exact ih3 _ _ _ _ _
   | exact ih4 _ _ _ _ _ _
   | exact ih5 _ _ _ _ _
   | exact LeO.none _
   | refine LeO.ite ?_ ?_
   | refine LeO.bind ?_ (fun _ => ?_)
set_option maxHeartbeats 8000000 in
set_option maxRecDepth 100000 in
theorem spec_SentenceCuts.calls (k : Nat) (a0 : ByteArray) (r : List Int) (w : World) (h : spec_SentenceCuts.f k a0 = some r) :
  Calls Tryd.prog 33 #[.string a0] w fun e w' => ∃ v0_ : Value, e = .returned (v0_) ∧ Kd.R (Kd.int .i64) 2 w' w.heap.size (fun _ => True) v0_ r ∧ Below w.heap.size w w' := by
 have hu88 := Tryd.underlying88
 have HB := Aside0.mk (Below.refl w.heap.size w)
 have H : ((some (([] : List Int) : List Int)).bind fun y191 => (if (a0.size : Int) > 65536 then (spec_SentenceCuts.j0 k a0 y191 true) else (spec_SentenceCuts.j0 k a0 y191 (a0.toList == ([] : List UInt8))))) = some r := h
 clear h
 obtain ⟨y191, hy191⟩ : ∃ y_ : List Int, y_ = (([] : List Int)) := ⟨_, rfl⟩
 replace H : (if (a0.size : Int) > 65536 then (spec_SentenceCuts.j0 k a0 y191 true) else (spec_SentenceCuts.j0 k a0 y191 (a0.toList == ([] : List UInt8)))) = some r := by first | (rw [hy191]; with_reducible exact H) | (have H2_ := (Option.bind_some _ _).symm.trans H; rw [hy191]; with_reducible exact H2_) | (have H2_ := (Option.bind_some _ _).symm.trans H; with_reducible exact H2_) | with_reducible exact H | (rw [hy191]; exact H) | exact H
 have Ny191 := Aside0.mk hy191
 clear hy191
 have HC2 := Aside0.mk H
 clear H
 go_enter Tryd.func33, Tryd.ntmps33
 go_upto_region 2 with (first | ((with_reducible refine gate_dst (N := 10) rfl ?_); (try (refine gate_guard (by rfl) ?_; dsimp only)); refine Kd.R_lit (Kd.int .i64) _ 2 ?hg (N := 10) ?hd (xs := ([] : List Int)) (inner := []) (ok := fun _ => True) (okp := fun _ => True) ?hr ?hp (fun _ hk => hk) trivial (Below.refl _ _) (Nat.le_refl _) (by simp) ?_; (case hd => rfl); (case hg => rfl); (case hr => first | (go_simp; done) | (go_simp; rfl)); (case hp => exact (Reps.none _ _)); intro v192 w3 ho4 hb hg_ hnew_; clear hg_ hnew_; (first | rw [← Ny191.out] at ho4 | (simp only [Int.reduceToNat] at ho4; rw [← Ny191.out] at ho4)); have n0_ := Aside0.mk (Kd.R_lower ho4 (below_size (belowA))); have n1_ := Aside0.mk (below_step (belowA) hb); clear HB; have HO193 := n0_; have HB := n1_; clear n0_ n1_; clear hb ho4))
 (try simp only [Act.put, List.setIfInBounds_toArray, List.set_cons_zero, List.set_cons_succ])
 go_cut [17] (fun v17 wc => ∃ (kq : Nat) (x17_1 : Bool), v17 = .bool x17_1 ∧ Aside0 (spec_SentenceCuts.j0 kq a0 y191 x17_1 = some r) ∧ Aside0 (kq ≤ k) ∧ Aside0 (Kd.R (Kd.int .i64) 2 wc w.heap.size (fun _ => True) v192 y191) ∧ Aside0 (Below w.heap.size w wc))
 case first =>
  have H := HC2.out; clear HC2
  by_cases c5 : (a0.size : Int) > 65536
  ·rw [if_pos c5] at H
   have c5b0 : decide (65536 < (a0.size : Int)) = true := decide_eq_true c5
   have c5b1 : decide (65536 < a0.size) = true := decide_eq_true (by omega)
   clear c5
   (first | rw [c5b0] | (simp only [i64_w, i32_w]; rw [c5b0]) | skip)
   have H' := Aside0.mk H; clear H
   go_wp2
   go_meet
   case rel => exact ⟨_, (true), (by first | rfl | (simp; done) | (simp [*]; done)), H', ⟨by first | omega | exact Nat.le_refl _⟩, ⟨by (with_reducible repeat (first | apply Kd.R_alloc | apply Kd.R_drewN | apply Kd.R_drew)); exact HO193.out⟩, ⟨belowA⟩⟩
  rw [if_neg c5] at H; have c5b0 : decide (65536 < (a0.size : Int)) = false := decide_eq_false c5
  have c5b1 : decide (65536 < a0.size) = false := decide_eq_false (by omega)
  clear c5
  (first | rw [c5b0] | (simp only [i64_w, i32_w]; rw [c5b0]) | skip)
  have H' := Aside0.mk H; clear H
  go_wp2
  go_meet
  case rel => exact ⟨_, ((a0.toList == ([] : List UInt8))), (by first | rfl | (simp; done) | (simp [*]; done)), H', ⟨by first | omega | exact Nat.le_refl _⟩, ⟨by (with_reducible repeat (first | apply Kd.R_alloc | apply Kd.R_drewN | apply Kd.R_drew)); exact HO193.out⟩, ⟨belowA⟩⟩
 case rest =>
  clear HC2
  try clear p2; try clear c3; try clear c5; try clear c5b0; try clear c5b1
  obtain ⟨kq, x17_1, rfl, HA, HJ1, HO_3, HB⟩ := hcut
  cases kq with
  | zero => exact absurd HA.out (by simp [spec_SentenceCuts.j0])
  | succ kj1 =>
   have H := HA.out; clear HA; simp only [spec_SentenceCuts.j0] at H
   by_cases c6 : x17_1 = true
   ·subst c6
    have H1 : (some y191) = some r := by rw [if_pos rfl] at H; exact H
    clear H; have H := H1; clear H1; obtain rfl := Option.some.inj H
    go_wp2
    go_ret
    exact ⟨_, by first | rfl | (simp [errW_none, errW_some] <;> rfl) | (simp [*, errW_none, errW_some] <;> rfl), by (with_reducible repeat (first | apply Kd.R_alloc | apply Kd.R_drewN | apply Kd.R_drew)); exact HO_3.out, belowA⟩
   replace c6 := Bool.eq_false_iff.mpr c6; subst c6
   have H1 : ((W_spec_l07RowOf.f a0).bind fun bt194 => (if 0 ≤ (wrap64 ((bt194.1.length : Int) + 1)) then (if (wrap64 ((bt194.1.length : Int) + 1) : Int).toNat ≤ 281474976710656 then ((some (List.replicate (wrap64 ((bt194.1.length : Int) + 1) : Int).toNat false : List Bool)).bind fun y201 => (if 0 < (y201.length : Int) then (if 0 ≤ (bt194.1.length : Int) then (if (bt194.1.length : Int) < (y201.length : Int) then (spec_SentenceCuts.l0 kj1 y191 ((y201.set (0 : Int).toNat true).set ((bt194.1.length : Int) : Int).toNat true) 0 bt194.1 bt194.2) else (none)) else (none)) else (none))) else (none)) else (none))) = some r := by rw [if_neg (show ¬ (false = true) by decide)] at H; exact H
   clear H; have H := H1; clear H1; replace H := Option.bind_eq_some_iff.mp H; obtain ⟨⟨t194, t197⟩, A70, H⟩ := H
   try dsimp only at H
   have A7 := Aside0.mk A70; clear A70; obtain ⟨ji8, hji8⟩ : ∃ j_ : Int, (wrap64 ((t194.length : Int) + 1)) = j_ := ⟨_, rfl⟩
   replace H : (if 0 ≤ (ji8) then (if (ji8 : Int).toNat ≤ 281474976710656 then ((some (List.replicate (ji8 : Int).toNat false : List Bool)).bind fun y201 => (if 0 < (y201.length : Int) then (if 0 ≤ (t194.length : Int) then (if (t194.length : Int) < (y201.length : Int) then (spec_SentenceCuts.l0 kj1 y191 ((y201.set (0 : Int).toNat true).set ((t194.length : Int) : Int).toNat true) 0 t194 t197) else (none)) else (none)) else (none))) else (none)) else (none)) = some r := by first | (rw [hji8] at H; exact H) | (simp only [hji8] at H ⊢; exact H)
   (try rw [hji8] at A7)
   have hji8w : (IntKind.i64.wrap ((t194.length : Int) + 1)) = ji8 := (i64_w _).trans hji8
   by_cases c9 : 0 ≤ (ji8)
   ·rw [if_pos c9] at H
    have c9b0 := eq_true c9; have c9b1 : decide (0 ≤ (ji8)) = true := decide_eq_true c9; clear c9
    by_cases c10 : (ji8 : Int).toNat ≤ 281474976710656
    ·rw [if_pos c10] at H
     have c10b0 := eq_true c10; have c10b1 : decide ((ji8 : Int).toNat ≤ 281474976710656) = true := decide_eq_true c10; clear c10; obtain ⟨y201, hy201⟩ : ∃ y_ : List Bool, y_ = (List.replicate (ji8 : Int).toNat false) := ⟨_, rfl⟩
     replace H : (if 0 < (y201.length : Int) then (if 0 ≤ (t194.length : Int) then (if (t194.length : Int) < (y201.length : Int) then (spec_SentenceCuts.l0 kj1 y191 ((y201.set (0 : Int).toNat true).set ((t194.length : Int) : Int).toNat true) 0 t194 t197) else (none)) else (none)) else (none)) = some r := by first | (rw [hy201]; with_reducible exact H) | (have H2_ := (Option.bind_some _ _).symm.trans H; rw [hy201]; with_reducible exact H2_) | (have H2_ := (Option.bind_some _ _).symm.trans H; with_reducible exact H2_) | with_reducible exact H | (rw [hy201]; exact H) | exact H
     have Ny201 := Aside0.mk hy201; clear hy201
     by_cases c11 : 0 < (y201.length : Int)
     ·rw [if_pos c11] at H
      have c11b0 : decide (0 < (y201.length : Int)) = true := decide_eq_true c11
      have c11b1 : decide (0 < y201.length) = true := decide_eq_true (by omega)
      clear c11; obtain ⟨y204, hy204⟩ : ∃ y_ : List Bool, y_ = (y201.set (0 : Int).toNat true) := ⟨_, rfl⟩
      replace H : (if 0 ≤ (t194.length : Int) then (if (t194.length : Int) < (y201.length : Int) then (spec_SentenceCuts.l0 kj1 y191 (y204.set ((t194.length : Int) : Int).toNat true) 0 t194 t197) else (none)) else (none)) = some r := by first | (rw [hy204]; with_reducible exact H) | (have H2_ := (Option.bind_some _ _).symm.trans H; rw [hy204]; with_reducible exact H2_) | (have H2_ := (Option.bind_some _ _).symm.trans H; with_reducible exact H2_) | with_reducible exact H | (rw [hy204]; exact H) | exact H
      have Ny204 := Aside0.mk hy204; clear hy204
      by_cases c13 : 0 ≤ (t194.length : Int)
      ·rw [if_pos c13] at H
       have c13b0 : decide (0 ≤ (t194.length : Int)) = true := decide_eq_true c13
       have c13b1 : decide (0 ≤ t194.length) = true := decide_eq_true (by omega)
       clear c13
       by_cases c14 : (t194.length : Int) < (y201.length : Int)
       ·rw [if_pos c14] at H
        have c14b0 : decide ((t194.length : Int) < (y201.length : Int)) = true := decide_eq_true c14; have c14b1 : decide (t194.length < y201.length) = true := decide_eq_true (Int.ofNat_lt.mp c14); clear c14; obtain ⟨y205, hy205⟩ : ∃ y_ : List Bool, y_ = (y204.set ((t194.length : Int) : Int).toNat true) := ⟨_, rfl⟩
        replace H : (spec_SentenceCuts.l0 kj1 y191 y205 0 t194 t197) = some r := by first | (rw [hy205]; with_reducible exact H) | (have H2_ := (Option.bind_some _ _).symm.trans H; rw [hy205]; with_reducible exact H2_) | (have H2_ := (Option.bind_some _ _).symm.trans H; with_reducible exact H2_) | with_reducible exact H | (rw [hy205]; exact H) | exact H
        have Ny205 := Aside0.mk hy205; clear hy205; have H' := Aside0.mk H; clear H
        go_wp2_with (first | ((with_reducible refine gate_callee (f := 109) rfl ?_); refine goesL_ (some 20) rfl rfl Tryd.func109 (by kernel_rfl) rfl #[.string a0] rfl (by (try simp only [List.map_toArray, List.map_cons, List.map_nil]); first | done | rfl) ?_; (with_reducible refine (W_spec_l07RowOf.calls a0 t194 t197 _ A7.out).mono ?_); rintro e w16 ⟨v195, v198, rfl, ho0, ho1, hb⟩; refine ⟨_, rfl, ?_⟩; have n0_ := Aside0.mk (Kd.R_mono (Kd.R_told (Kd.R_told (Kd.R_old (by (with_reducible repeat (first | apply Kd.R_alloc | apply Kd.R_drewN | apply Kd.R_drew)); exact HO_3.out) hb) (Kd.R_base ho0)) (Kd.R_base ho1)) (fun _ h_ => h_.1)); have n1_ := Aside0.mk (Kd.R_lower (Kd.R_new' ho0 (Kd.R_lt (by (with_reducible repeat (first | apply Kd.R_alloc | apply Kd.R_drewN | apply Kd.R_drew)); exact HO_3.out))) (below_size (belowA))); have n2_ := Aside0.mk (Kd.R_lower (Kd.R_new' ho1 (Kd.R_lt (by (with_reducible repeat (first | apply Kd.R_alloc | apply Kd.R_drewN | apply Kd.R_drew)); exact HO_3.out))) (below_size (belowA))); have n3_ := Aside0.mk (below_step (belowA) hb); clear HO_3; clear HB; have HO_3 := n0_; have HO196 := n1_; have HO199 := n2_; have HB := n3_; clear n0_ n1_ n2_ n3_; (try clear hb); (try clear hb2); (try clear hk); (try clear hi); (try clear ho0); (try clear ho1)) | ((with_reducible refine gate_dst (N := 4) rfl ?_); (try (refine gate_guard (by rfl) ?_; dsimp only)); refine box_event ?hg (N := 4) ?hd (cs := #[.slice none 0 0, .slice none 0 0]) (t := 88) ?hr ?_; (case hd => rfl); (case hg => rfl); (case hr => first | (go_simp; done) | (go_simp; rfl)); intro gb200 hg w17 hbox hb; have n0_ := Aside0.mk (Kd.R_below (by (with_reducible repeat (first | apply Kd.R_alloc | apply Kd.R_drewN | apply Kd.R_drew)); exact HO_3.out) hb); have n1_ := Aside0.mk (Kd.R_below (by (with_reducible repeat (first | apply Kd.R_alloc | apply Kd.R_drewN | apply Kd.R_drew)); exact HO196.out) hb); have n2_ := Aside0.mk (Kd.R_below (by (with_reducible repeat (first | apply Kd.R_alloc | apply Kd.R_drewN | apply Kd.R_drew)); exact HO199.out) hb); have n3_ := Aside0.mk (below_step (belowA) hb); have n4_ := Aside0.mk (hbox); have n5_ := Aside0.mk ((by rw [hg]; exact (below_size (belowA)) : w.heap.size ≤ gb200)); have n6_ := Aside0.mk ((by rw [hg]; exact (below_size (belowA)) : w.heap.size ≤ gb200)); clear HO_3; clear HO196; clear HO199; clear HB; have HO_3 := n0_; have HO196 := n1_; have HO199 := n2_; have HB := n3_; have BK200 := n4_; have GW200 := n5_; have GE200 := n6_; clear n0_ n1_ n2_ n3_ n4_ n5_ n6_; clear hb hbox hg; obtain ⟨Ao18, co18, eo18⟩ := Kd.R_slice HO196.out; subst eo18; have hcz19_0 : w17.cell? ⟨gb200, 0, none⟩ = some (.slice none 0 0) := (blk_cell BK200.out 0).trans rfl; have hcz19_1 : w17.cell? ⟨gb200, 1, none⟩ = some (.slice none 0 0) := (blk_cell BK200.out 1).trans rfl; have hfz19_0 := blk_frozen BK200.out 0; have hfz19_1 := blk_frozen BK200.out 1; obtain ⟨Ao20, co20, eo20⟩ := Kd.R_slice HO199.out; subst eo20) | ((with_reducible refine gate_dst (N := 25) rfl ?_); (try (refine gate_guard (by rfl) ?_; dsimp only)); refine Kd.R_make Kd.bool _ 4 rfl (N := 25) rfl 90 _ _ rfl ji8 rfl rfl Tryd.underlying90 (.bool false) 1 info4 rfl (by decide) (by omega) false (ok := fun _ => True) (okp := fun _ => True) rfl (fun _ hk => hk) trivial (of_decide_eq_true (by first | (with_reducible assumption) | assumption)) (Nat.le_trans (Nat.mul_le_mul_right _ (of_decide_eq_true (by first | (with_reducible assumption) | assumption) : ji8.toNat ≤ 281474976710656)) (by omega)) (Below.refl _ _) (Nat.le_refl _) ?_; intro v202 w21 ho22 hb hg_ hnew_; clear hg_ hnew_; (first | rw [← Ny201.out] at ho22 | (simp only [Int.reduceToNat] at ho22; rw [← Ny201.out] at ho22)); have n0_ := Aside0.mk (Kd.R_below (by (with_reducible repeat (first | apply Kd.R_alloc | apply Kd.R_drewN | apply Kd.R_drew)); exact (Kd.R_mono (Kd.R_far (p := ⟨gb200, 1, none⟩) (Kd.R_far (p := ⟨gb200, 0, none⟩) (Kd.R_types HO_3.out BK200.out (by decide)) (fun _ hk => hk.2) (.slice Ao18 t194.length co18)) (fun _ hk => hk.2) (.slice Ao20 t197.length co20)) (fun _ h_ => h_.1))) hb); have n1_ := Aside0.mk (Kd.R_below (by (with_reducible repeat (first | apply Kd.R_alloc | apply Kd.R_drewN | apply Kd.R_drew)); exact (Kd.R_mono (Kd.R_far (p := ⟨gb200, 1, none⟩) (Kd.R_far (p := ⟨gb200, 0, none⟩) (Kd.R_types HO196.out BK200.out (by decide)) (fun _ hk => hk.2) (.slice Ao18 t194.length co18)) (fun _ hk => hk.2) (.slice Ao20 t197.length co20)) (fun _ h_ => h_.1))) hb); have n2_ := Aside0.mk (Kd.R_below (by (with_reducible repeat (first | apply Kd.R_alloc | apply Kd.R_drewN | apply Kd.R_drew)); exact (Kd.R_mono (Kd.R_far (p := ⟨gb200, 1, none⟩) (Kd.R_far (p := ⟨gb200, 0, none⟩) (Kd.R_types HO199.out BK200.out (by decide)) (fun _ hk => hk.2) (.slice Ao18 t194.length co18)) (fun _ hk => hk.2) (.slice Ao20 t197.length co20)) (fun _ h_ => h_.1))) hb); have n3_ := Aside0.mk (Kd.R_lower ho22 (below_size (by repeat (first | (with_reducible first | exact HB.out | apply below_alloc | apply pw_below_drewN | apply below_drew1 | refine below_set ?_ GE200.out) | exact HB.out)))); have n4_ := Aside0.mk (blk_below (g := gb200) (o := .cells #[.slice Ao18 t194.length co18, .slice Ao20 t197.length co20] 88 (0, 0)) (by (with_reducible repeat (first | refine blk_drewN ?_ _ | refine blk_drew ?_ | refine blk_alloc ?_ _)); refine blk_put (cs := #[.slice Ao18 t194.length co18, .slice none 0 0]) ?_ 1 _ rfl; (with_reducible repeat (first | refine blk_drewN ?_ _ | refine blk_drew ?_ | refine blk_alloc ?_ _)); refine blk_put (cs := #[.slice none 0 0, .slice none 0 0]) ?_ 0 _ rfl; (with_reducible repeat (first | refine blk_drewN ?_ _ | refine blk_drew ?_ | refine blk_alloc ?_ _)); exact BK200.out) hb); have n5_ := Aside0.mk (below_step (by repeat (first | (with_reducible first | exact HB.out | apply below_alloc | apply pw_below_drewN | apply below_drew1 | refine below_set ?_ GE200.out) | exact HB.out)) hb); clear HO_3; clear HO196; clear HO199; clear BK200; clear HB; have HO_3 := n0_; have HO196 := n1_; have HO199 := n2_; have HO203 := n3_; have BK200 := n4_; have HB := n5_; clear n0_ n1_ n2_ n3_ n4_ n5_; clear hb ho22; have p12 : 0 ≤ (0 : Int) := (by omega); have q12 : (0 : Int) < ((y201.length : Int) : Int) := of_decide_eq_true (by first | (with_reducible assumption) | assumption); have qi12 : (0 < y201.length) = True := eq_true (by omega); obtain ⟨go12, co12, eo12, gb12, gl12, cl12, HG12⟩ := Kd.R_form HO203.out (by omega); (first | cases eo12 | (injection eo12 with ea_ en_ ec_; (first | subst ea_ | (injection ea_ with ea_; subst ea_)); subst ec_; clear en_)); have GB12 := Aside0.mk gb12; have GG12 := Aside0.mk HG12; clear gb12 gl12 HG12; obtain ⟨hx12_0, hf12_0⟩ := Kd.R_celln false HO203.out (0 : Int) p12 q12; (try rw [show ((0 : Int)).toNat = 0 from rfl] at hx12_0); (try simp only [Nat.reduceMul, Nat.zero_mul, Nat.zero_add, Nat.reduceAdd] at hx12_0); (try rw [show ((0 : Int)).toNat = 0 from rfl] at hf12_0); (try simp only [Nat.reduceMul, Nat.zero_mul, Nat.zero_add, Nat.reduceAdd] at hf12_0); replace p12 := eq_true p12; replace q12 := eq_true q12; obtain ⟨hy23_, hz23_⟩ := Kd.R_celln false HO203.out (0 : Int) (by omega) (of_decide_eq_true (by first | (with_reducible assumption) | assumption)); (try simp only [Int.reduceToNat, Int.toNat_zero, Int.toNat_ofNat, Nat.reduceMul, Nat.zero_mul, Nat.zero_add] at hy23_ hz23_); (try rw [show ((0 : Int)).toNat = 0 from rfl] at hy23_); (try rw [show ((0 : Int)).toNat = 0 from rfl] at hz23_); have HP23 := Kd.R_putg HO203.out (0 : Int) true) | ((with_reducible refine gate_store (t := 4) (p := 27) rfl ?_); refine store_event (t := 4) (p := 27) (v := ?vo_w24) (w1 := (w21.setCell ⟨go12, (0 : Int).toNat, none⟩ (.bool true))) ?hg ?ho ?hn ?hr ?_; (case ho => rfl); (case hg => rfl); (case hn => rfl); (case hr => first | (go_simp; done) | (go_simp; rfl)); intro w24 hw; have hg : w21.grownBy w24 (some go12) := (by rw [hw]; exact HP23.2); have hp_ : Kd.R Kd.bool 4 w24 w.heap.size (fun _ => True) (.slice (some ⟨go12, 0, none⟩) y201.length co12) y204 := (by rw [hw, Ny204.out]; exact HP23.1); clear HP23; have n0_ := Aside0.mk (Kd.R_over' (v := (.slice (some ⟨go12, 0, none⟩) y201.length co12)) (by (with_reducible repeat (first | apply Kd.R_alloc | apply Kd.R_drewN | apply Kd.R_drew)); exact HO_3.out) (Kd.R_typed HO203.out) (by decide) hg); have n1_ := Aside0.mk (Kd.R_over' (v := (.slice (some ⟨go12, 0, none⟩) y201.length co12)) (by (with_reducible repeat (first | apply Kd.R_alloc | apply Kd.R_drewN | apply Kd.R_drew)); exact HO196.out) (Kd.R_typed HO203.out) (by decide) hg); have n2_ := Aside0.mk (Kd.R_over' (v := (.slice (some ⟨go12, 0, none⟩) y201.length co12)) (by (with_reducible repeat (first | apply Kd.R_alloc | apply Kd.R_drewN | apply Kd.R_drew)); exact HO199.out) (Kd.R_typed HO203.out) (by decide) hg); have n3_ := Aside0.mk (blk_grown (g := gb200) (o := .cells #[.slice Ao18 t194.length co18, .slice Ao20 t197.length co20] 88 (0, 0)) (by (with_reducible repeat (first | refine blk_drewN ?_ _ | refine blk_drew ?_ | refine blk_alloc ?_ _)); exact BK200.out) hg (Kd.R_ne HO203.out BK200.out (by decide))); have n4_ := Aside0.mk (hp_); have n5_ := Aside0.mk ((by rw [hw]; exact below_set (HB.out) GB12.out : Below w.heap.size w w24)); clear HO_3; clear HO196; clear HO199; clear BK200; clear HO203; clear HB; have HO_3 := n0_; have HO196 := n1_; have HO199 := n2_; have BK200 := n3_; have HO203 := n4_; have HB := n5_; clear n0_ n1_ n2_ n3_ n4_ n5_; clear hg hw hp_; have hcz25_0 : w24.cell? ⟨gb200, 0, none⟩ = some (.slice Ao18 t194.length co18) := (blk_cell BK200.out 0).trans rfl; have hcz25_1 : w24.cell? ⟨gb200, 1, none⟩ = some (.slice Ao20 t197.length co20) := (blk_cell BK200.out 1).trans rfl; have hfz25_0 := blk_frozen BK200.out 0; have hfz25_1 := blk_frozen BK200.out 1; have p15 : 0 ≤ ((t194.length : Int) : Int) := of_decide_eq_true (by first | (with_reducible assumption) | assumption); have q15 : ((t194.length : Int) : Int) < ((y201.length : Int) : Int) := of_decide_eq_true (by first | (with_reducible assumption) | assumption); obtain ⟨hx15_0, hf15_0⟩ := Kd.R_celln false HO203.out ((t194.length : Int) : Int) p15 q15; replace p15 := eq_true p15; replace q15 := eq_true q15; obtain ⟨hy26_, hz26_⟩ := Kd.R_celln false HO203.out ((t194.length : Int) : Int) (of_decide_eq_true (by first | (with_reducible assumption) | assumption)) (of_decide_eq_true (by first | (with_reducible assumption) | assumption)); (try simp only [Go.IntWalk.toNatUp] at hy26_ hz26_); have HP26 := Kd.R_putg HO203.out ((t194.length : Int) : Int) true) | ((with_reducible refine gate_store (t := 4) (p := 32) rfl ?_); refine store_event (t := 4) (p := 32) (v := ?vo_w27) (w1 := (w24.setCell ⟨go12, ((t194.length : Int) : Int).toNat, none⟩ (.bool true))) ?hg ?ho ?hn ?hr ?_; (case ho => rfl); (case hg => rfl); (case hn => rfl); (case hr => first | (go_simp; done) | (go_simp; rfl)); intro w27 hw; have hg : w24.grownBy w27 (some go12) := (by rw [hw]; exact HP26.2); have hp_ : Kd.R Kd.bool 4 w27 w.heap.size (fun _ => True) (.slice (some ⟨go12, 0, none⟩) y201.length co12) y205 := (by rw [hw, Ny205.out]; exact HP26.1); clear HP26; have n0_ := Aside0.mk (Kd.R_over' (v := (.slice (some ⟨go12, 0, none⟩) y201.length co12)) (by (with_reducible repeat (first | apply Kd.R_alloc | apply Kd.R_drewN | apply Kd.R_drew)); exact HO_3.out) (Kd.R_typed HO203.out) (by decide) hg); have n1_ := Aside0.mk (Kd.R_over' (v := (.slice (some ⟨go12, 0, none⟩) y201.length co12)) (by (with_reducible repeat (first | apply Kd.R_alloc | apply Kd.R_drewN | apply Kd.R_drew)); exact HO196.out) (Kd.R_typed HO203.out) (by decide) hg); have n2_ := Aside0.mk (Kd.R_over' (v := (.slice (some ⟨go12, 0, none⟩) y201.length co12)) (by (with_reducible repeat (first | apply Kd.R_alloc | apply Kd.R_drewN | apply Kd.R_drew)); exact HO199.out) (Kd.R_typed HO203.out) (by decide) hg); have n3_ := Aside0.mk (blk_grown (g := gb200) (o := .cells #[.slice Ao18 t194.length co18, .slice Ao20 t197.length co20] 88 (0, 0)) (by (with_reducible repeat (first | refine blk_drewN ?_ _ | refine blk_drew ?_ | refine blk_alloc ?_ _)); exact BK200.out) hg (Kd.R_ne HO203.out BK200.out (by decide))); have n4_ := Aside0.mk (hp_); have n5_ := Aside0.mk ((by rw [hw]; exact below_set (HB.out) GB12.out : Below w.heap.size w w27)); clear HO_3; clear HO196; clear HO199; clear BK200; clear HO203; clear HB; have HO_3 := n0_; have HO196 := n1_; have HO199 := n2_; have BK200 := n3_; have HO203 := n4_; have HB := n5_; clear n0_ n1_ n2_ n3_ n4_ n5_; clear hg hw hp_))
        go_loopg [6] kj1 (fun kq v6 w' => ∃ (x5_2 : List Bool) (x6_2 : Int), v6 = .int .i64 x6_2 ∧ Aside0 (spec_SentenceCuts.l0 kq y191 x5_2 x6_2 t194 t197 = some r) ∧ Aside0 (kq ≤ kj1) ∧ Aside0 (Kd.R (Kd.int .i64) 2 w' w.heap.size (fun k_ => some k_ ≠ ((.slice Ao18 t194.length co18) : Value).ownBlock ∧ some k_ ≠ ((.slice Ao20 t197.length co20) : Value).ownBlock) v192 y191) ∧ Aside0 (Kd.R Kd.bool 4 w' w.heap.size (fun _ => True) (.slice (some ⟨go12, 0, none⟩) y201.length co12) x5_2) ∧ Aside0 (Kd.R (Kd.int .i64) 2 w' w.heap.size (fun k_ => some k_ ≠ (v192 : Value).ownBlock ∧ some k_ ≠ ((.slice Ao20 t197.length co20) : Value).ownBlock) (.slice Ao18 t194.length co18) t194) ∧ Aside0 (Kd.R (Kd.int .i64) 2 w' w.heap.size (fun k_ => some k_ ≠ (v192 : Value).ownBlock ∧ some k_ ≠ ((.slice Ao18 t194.length co18) : Value).ownBlock) (.slice Ao20 t197.length co20) t197) ∧ Aside0 (w'.heap[gb200]? = some (.cells #[(.slice Ao18 t194.length co18), (.slice Ao20 t197.length co20)] 88 (0, 0))) ∧ Aside0 (Below w.heap.size w w'))
        case atStart => exact ⟨(y205), (0), (by first | rfl | (simp; done) | (simp [*]; done)), H', ⟨Nat.le_refl _⟩, ⟨by (with_reducible repeat (first | apply Kd.R_alloc | apply Kd.R_drewN | apply Kd.R_drew)); exact Kd.R_mono HO_3.out (fun _ hk => ⟨hk.1.2, hk.2⟩)⟩, ⟨by (with_reducible repeat (first | apply Kd.R_alloc | apply Kd.R_drewN | apply Kd.R_drew)); exact HO203.out⟩, ⟨by (with_reducible repeat (first | apply Kd.R_alloc | apply Kd.R_drewN | apply Kd.R_drew)); exact Kd.R_mono HO196.out (fun _ hk => ⟨hk.2, hk.1⟩)⟩, ⟨by (with_reducible repeat (first | apply Kd.R_alloc | apply Kd.R_drewN | apply Kd.R_drew)); exact Kd.R_mono HO199.out (fun _ hk => ⟨hk.2, hk.1⟩)⟩, ⟨by (with_reducible repeat (first | refine blk_drewN ?_ _ | refine blk_drew ?_ | refine blk_alloc ?_ _)); exact BK200.out⟩, ⟨by repeat (first | (with_reducible first | exact HB.out | apply below_alloc | apply pw_below_drewN | apply below_drew1 | refine below_set ?_ GE200.out) | exact HB.out)⟩⟩
        case round =>
         clear H'
         try clear c1; try clear p1; try clear q1; try clear hx1; try clear qi1; try clear hf1; try clear p2; try clear c3; try clear c5; try clear c5b0; try clear c5b1; try clear c6; try clear p6; try clear c9; try clear c9b0; try clear c9b1; try clear c10; try clear c10b0; try clear c10b1; try clear c11; try clear c11b0; try clear c11b1; try clear p12; try clear q12; try clear hx12; try clear qi12; try clear hf12; try clear c13; try clear c13b0; try clear c13b1; try clear c14; try clear c14b0; try clear c14b1; try clear p15; try clear q15; try clear hx15; try clear hf15; try clear hcz19_0; try clear hcz19_1; try clear hcz25_0; try clear hcz25_1; try clear hfz19_0; try clear hfz19_1; try clear hfz25_0; try clear hfz25_1; try clear hx12_0; try clear hx15_0; try clear p12; try clear p15; try clear p2; try clear q12; try clear q15
         obtain ⟨x5_2, x6_2, rfl, HA, HK2, HO_3, HO_5, HO_201000, HO_201001, BK200, HB⟩ := hrel; have hl5_2 := (Kd.R_reads' HO_5.out).1; rw [hl5_2] at HO_5
         (try simp only [hl5_2])
         (try simp only [hl5_2] at BK200)
         (try simp only [hl5_2] at HO_3)
         (try simp only [hl5_2] at HO_201000)
         (try simp only [hl5_2] at HO_201001)
         cases gk with
         | zero => exact absurd HA.out (by simp [spec_SentenceCuts.l0])
         | succ k2 =>
          have H := HA.out; clear HA; simp only [spec_SentenceCuts.l0] at H
          by_cases c28 : x6_2 < (t194.length : Int)
          ·rw [if_pos c28] at H
           have c28b0 : decide (x6_2 < (t194.length : Int)) = true := decide_eq_true c28; clear c28; have HC29 := Aside0.mk H; clear H; have hcz30_0 : wr.cell? ⟨gb200, 0, none⟩ = some (.slice Ao18 t194.length co18) := (blk_cell BK200.out 0).trans rfl; have hcz30_1 : wr.cell? ⟨gb200, 1, none⟩ = some (.slice Ao20 t197.length co20) := (blk_cell BK200.out 1).trans rfl; have hfz30_0 := blk_frozen BK200.out 0; have hfz30_1 := blk_frozen BK200.out 1
           go_upto_region 11 with (fail)
           go_cut [70] (fun v70 wc => ∃ (kq : Nat) (x70_28 : Bool), v70 = .bool x70_28 ∧ Aside0 (spec_SentenceCuts.j2 kq y191 x5_2 x6_2 x70_28 t194 t197 = some r) ∧ Aside0 (kq ≤ k2) ∧ Aside0 (Kd.R (Kd.int .i64) 2 wc w.heap.size (fun k_ => some k_ ≠ ((.slice Ao18 t194.length co18) : Value).ownBlock ∧ some k_ ≠ ((.slice Ao20 t197.length co20) : Value).ownBlock) v192 y191) ∧ Aside0 (Kd.R Kd.bool 4 wc w.heap.size (fun _ => True) (.slice (some ⟨go12, 0, none⟩) x5_2.length co12) x5_2) ∧ Aside0 (Kd.R (Kd.int .i64) 2 wc w.heap.size (fun k_ => some k_ ≠ (v192 : Value).ownBlock ∧ some k_ ≠ ((.slice Ao20 t197.length co20) : Value).ownBlock) (.slice Ao18 t194.length co18) t194) ∧ Aside0 (Kd.R (Kd.int .i64) 2 wc w.heap.size (fun k_ => some k_ ≠ (v192 : Value).ownBlock ∧ some k_ ≠ ((.slice Ao18 t194.length co18) : Value).ownBlock) (.slice Ao20 t197.length co20) t197) ∧ Aside0 (wc.heap[gb200]? = some (.cells #[(.slice Ao18 t194.length co18), (.slice Ao20 t197.length co20)] 88 (0, 0))) ∧ Aside0 (Below w.heap.size w wc))
           case first =>
            have H := HC29.out; clear HC29
            by_cases c31 : 0 ≤ x6_2
            ·rw [if_pos c31] at H
             have c31b0 : decide (0 ≤ x6_2) = true := decide_eq_true c31; clear c31
             (first | rw [c31b0] | (simp only [i64_w, i32_w]; rw [c31b0]) | skip)
             by_cases c32 : (rd t194 x6_2) = 10
             ·rw [if_pos c32] at H
              have c32b0 : ((rd t194 x6_2) == 10) = true := beq_iff_eq.mpr c32; have c32b1 : ((rd t194 x6_2) != 10) = false := bne_eq_false_iff_eq.mpr c32; clear c32; have H' := Aside0.mk H; clear H; have hcz33_0 : wr.cell? ⟨gb200, 0, none⟩ = some (.slice Ao18 t194.length co18) := (blk_cell BK200.out 0).trans rfl; have hcz33_1 : wr.cell? ⟨gb200, 1, none⟩ = some (.slice Ao20 t197.length co20) := (blk_cell BK200.out 1).trans rfl; have hfz33_0 := blk_frozen BK200.out 0; have hfz33_1 := blk_frozen BK200.out 1
              have p206 : 0 ≤ (x6_2 : Int) := of_decide_eq_true (by first | (with_reducible assumption) | assumption)
              have q206 : x6_2 < (t194.length : Int) := of_decide_eq_true (by first | (with_reducible assumption) | assumption)
              obtain ⟨ad206, e206, hx206_0⟩ := Kd.at_int (Kd.R_reads' HO_201000.out).2.2 x6_2 p206 q206; cases e206; replace p206 := eq_true p206; replace q206 := eq_true q206
              go_wp2
              go_meet
              case rel => exact ⟨_, (true), (by first | rfl | (simp; done) | (simp [*]; done)), H', ⟨by have := HJ1.out; have := HK2.out; first | omega | exact Nat.le_refl _⟩, ⟨by (try simp only [hl5_2]); (with_reducible repeat (first | apply Kd.R_alloc | apply Kd.R_drewN | apply Kd.R_drew)); exact HO_3.out⟩, ⟨by (try simp only [hl5_2]); (with_reducible repeat (first | apply Kd.R_alloc | apply Kd.R_drewN | apply Kd.R_drew)); exact HO_5.out⟩, ⟨by (try simp only [hl5_2]); (with_reducible repeat (first | apply Kd.R_alloc | apply Kd.R_drewN | apply Kd.R_drew)); exact HO_201000.out⟩, ⟨by (try simp only [hl5_2]); (with_reducible repeat (first | apply Kd.R_alloc | apply Kd.R_drewN | apply Kd.R_drew)); exact HO_201001.out⟩, ⟨by (try simp only [hl5_2]); (with_reducible repeat (first | refine blk_drewN ?_ _ | refine blk_drew ?_ | refine blk_alloc ?_ _)); exact BK200.out⟩, ⟨by repeat (first | (with_reducible first | exact HB.out | apply below_alloc | apply pw_below_drewN | apply below_drew1 | refine below_set ?_ GE200.out) | exact HB.out)⟩⟩
             rw [if_neg c32] at H; have c32b0 : ((rd t194 x6_2) == 10) = false := beq_eq_false_iff_ne.mpr c32; have c32b1 : ((rd t194 x6_2) != 10) = true := bne_iff_ne.mpr c32
             by_cases c34 : (rd t194 x6_2) = 13
             ·rw [if_pos c34] at H
              have c34b0 : ((rd t194 x6_2) == 13) = true := beq_iff_eq.mpr c34; have c34b1 : ((rd t194 x6_2) != 13) = false := bne_eq_false_iff_eq.mpr c34; clear c34
              by_cases c35 : (wrap64 (x6_2 + 1)) = (t194.length : Int)
              ·rw [if_pos c35] at H
               have c35b0 : ((wrap64 (x6_2 + 1)) == (t194.length : Int)) = true := beq_iff_eq.mpr c35; have c35b1 : ((wrap64 (x6_2 + 1)) != (t194.length : Int)) = false := bne_eq_false_iff_eq.mpr c35; clear c35; have H' := Aside0.mk H; clear H; have hcz36_0 : wr.cell? ⟨gb200, 0, none⟩ = some (.slice Ao18 t194.length co18) := (blk_cell BK200.out 0).trans rfl; have hcz36_1 : wr.cell? ⟨gb200, 1, none⟩ = some (.slice Ao20 t197.length co20) := (blk_cell BK200.out 1).trans rfl; have hfz36_0 := blk_frozen BK200.out 0; have hfz36_1 := blk_frozen BK200.out 1
               have p206 : 0 ≤ (x6_2 : Int) := of_decide_eq_true (by first | (with_reducible assumption) | assumption)
               have q206 : x6_2 < (t194.length : Int) := of_decide_eq_true (by first | (with_reducible assumption) | assumption)
               obtain ⟨ad206, e206, hx206_0⟩ := Kd.at_int (Kd.R_reads' HO_201000.out).2.2 x6_2 p206 q206; cases e206; replace p206 := eq_true p206; replace q206 := eq_true q206
               have p207 : 0 ≤ (x6_2 : Int) := of_decide_eq_true (by first | (with_reducible assumption) | assumption)
               have q207 : x6_2 < (t194.length : Int) := of_decide_eq_true (by first | (with_reducible assumption) | assumption)
               obtain ⟨ad207, e207, hx207_0⟩ := Kd.at_int (Kd.R_reads' HO_201000.out).2.2 x6_2 p207 q207
               obtain rfl : ad206 = ad207 := (by injection e207)
               replace p207 := eq_true p207; replace q207 := eq_true q207
               go_wp2
               go_meet
               case rel => exact ⟨_, (true), (by first | rfl | (simp; done) | (simp [*]; done)), H', ⟨by have := HJ1.out; have := HK2.out; first | omega | exact Nat.le_refl _⟩, ⟨by (try simp only [hl5_2]); (with_reducible repeat (first | apply Kd.R_alloc | apply Kd.R_drewN | apply Kd.R_drew)); exact HO_3.out⟩, ⟨by (try simp only [hl5_2]); (with_reducible repeat (first | apply Kd.R_alloc | apply Kd.R_drewN | apply Kd.R_drew)); exact HO_5.out⟩, ⟨by (try simp only [hl5_2]); (with_reducible repeat (first | apply Kd.R_alloc | apply Kd.R_drewN | apply Kd.R_drew)); exact HO_201000.out⟩, ⟨by (try simp only [hl5_2]); (with_reducible repeat (first | apply Kd.R_alloc | apply Kd.R_drewN | apply Kd.R_drew)); exact HO_201001.out⟩, ⟨by (try simp only [hl5_2]); (with_reducible repeat (first | refine blk_drewN ?_ _ | refine blk_drew ?_ | refine blk_alloc ?_ _)); exact BK200.out⟩, ⟨by repeat (first | (with_reducible first | exact HB.out | apply below_alloc | apply pw_below_drewN | apply below_drew1 | refine below_set ?_ GE200.out) | exact HB.out)⟩⟩
              rw [if_neg c35] at H; have c35b0 : ((wrap64 (x6_2 + 1)) == (t194.length : Int)) = false := beq_eq_false_iff_ne.mpr c35; have c35b1 : ((wrap64 (x6_2 + 1)) != (t194.length : Int)) = true := bne_iff_ne.mpr c35; obtain ⟨ji37, hji37⟩ : ∃ j_ : Int, (wrap64 (x6_2 + 1)) = j_ := ⟨_, rfl⟩
              replace H : (if 0 ≤ (ji37) then (if (ji37) < (t194.length : Int) then (spec_SentenceCuts.j2 k2 y191 x5_2 x6_2 ((rd t194 (ji37)) != 10) t194 t197) else (none)) else (none)) = some r := by first | (rw [hji37] at H; exact H) | (simp only [hji37] at H ⊢; exact H)
              (try rw [hji37] at c35b0)
              (try rw [hji37] at c35b1)
              have hji37w : (IntKind.i64.wrap (x6_2 + 1)) = ji37 := (i64_w _).trans hji37
              by_cases c38 : 0 ≤ (ji37)
              ·rw [if_pos c38] at H
               have c38b0 : decide (0 ≤ (ji37)) = true := decide_eq_true c38; clear c38
               by_cases c39 : (ji37) < (t194.length : Int)
               ·rw [if_pos c39] at H
                have c39b0 : decide ((ji37) < (t194.length : Int)) = true := decide_eq_true c39; clear c39; have H' := Aside0.mk H; clear H; have hcz40_0 : wr.cell? ⟨gb200, 0, none⟩ = some (.slice Ao18 t194.length co18) := (blk_cell BK200.out 0).trans rfl; have hcz40_1 : wr.cell? ⟨gb200, 1, none⟩ = some (.slice Ao20 t197.length co20) := (blk_cell BK200.out 1).trans rfl; have hfz40_0 := blk_frozen BK200.out 0; have hfz40_1 := blk_frozen BK200.out 1
                have p206 : 0 ≤ (x6_2 : Int) := of_decide_eq_true (by first | (with_reducible assumption) | assumption)
                have q206 : x6_2 < (t194.length : Int) := of_decide_eq_true (by first | (with_reducible assumption) | assumption)
                obtain ⟨ad206, e206, hx206_0⟩ := Kd.at_int (Kd.R_reads' HO_201000.out).2.2 x6_2 p206 q206; cases e206; replace p206 := eq_true p206; replace q206 := eq_true q206
                have p207 : 0 ≤ (x6_2 : Int) := of_decide_eq_true (by first | (with_reducible assumption) | assumption)
                have q207 : x6_2 < (t194.length : Int) := of_decide_eq_true (by first | (with_reducible assumption) | assumption)
                obtain ⟨ad207, e207, hx207_0⟩ := Kd.at_int (Kd.R_reads' HO_201000.out).2.2 x6_2 p207 q207
                obtain rfl : ad206 = ad207 := (by injection e207)
                replace p207 := eq_true p207; replace q207 := eq_true q207
                have p208 : 0 ≤ ((ji37) : Int) := of_decide_eq_true (by first | (with_reducible assumption) | assumption)
                have q208 : (ji37) < (t194.length : Int) := of_decide_eq_true (by first | (with_reducible assumption) | assumption)
                obtain ⟨ad208, e208, hx208_0⟩ := Kd.at_int (Kd.R_reads' HO_201000.out).2.2 (ji37) p208 q208
                obtain rfl : ad206 = ad208 := (by injection e208)
                replace p208 := eq_true p208; replace q208 := eq_true q208
                go_wp2
                go_meet
                case rel => exact ⟨_, (((rd t194 (ji37)) != 10)), (by first | rfl | (simp; done) | (simp only [← hji37] <;> (first | rfl | simp)) | (simp [*]; done)), H', ⟨by have := HJ1.out; have := HK2.out; first | omega | exact Nat.le_refl _⟩, ⟨by (try simp only [hl5_2]); (with_reducible repeat (first | apply Kd.R_alloc | apply Kd.R_drewN | apply Kd.R_drew)); exact HO_3.out⟩, ⟨by (try simp only [hl5_2]); (with_reducible repeat (first | apply Kd.R_alloc | apply Kd.R_drewN | apply Kd.R_drew)); exact HO_5.out⟩, ⟨by (try simp only [hl5_2]); (with_reducible repeat (first | apply Kd.R_alloc | apply Kd.R_drewN | apply Kd.R_drew)); exact HO_201000.out⟩, ⟨by (try simp only [hl5_2]); (with_reducible repeat (first | apply Kd.R_alloc | apply Kd.R_drewN | apply Kd.R_drew)); exact HO_201001.out⟩, ⟨by (try simp only [hl5_2]); (with_reducible repeat (first | refine blk_drewN ?_ _ | refine blk_drew ?_ | refine blk_alloc ?_ _)); exact BK200.out⟩, ⟨by repeat (first | (with_reducible first | exact HB.out | apply below_alloc | apply pw_below_drewN | apply below_drew1 | refine below_set ?_ GE200.out) | exact HB.out)⟩⟩
               rw [if_neg c39] at H
               exact absurd H (by simp)
              rw [if_neg c38] at H
              exact absurd H (by simp)
             rw [if_neg c34] at H; have c34b0 : ((rd t194 x6_2) == 13) = false := beq_eq_false_iff_ne.mpr c34; have c34b1 : ((rd t194 x6_2) != 13) = true := bne_iff_ne.mpr c34; have H' := Aside0.mk H; clear H; have hcz41_0 : wr.cell? ⟨gb200, 0, none⟩ = some (.slice Ao18 t194.length co18) := (blk_cell BK200.out 0).trans rfl; have hcz41_1 : wr.cell? ⟨gb200, 1, none⟩ = some (.slice Ao20 t197.length co20) := (blk_cell BK200.out 1).trans rfl; have hfz41_0 := blk_frozen BK200.out 0; have hfz41_1 := blk_frozen BK200.out 1
             have p206 : 0 ≤ (x6_2 : Int) := of_decide_eq_true (by first | (with_reducible assumption) | assumption)
             have q206 : x6_2 < (t194.length : Int) := of_decide_eq_true (by first | (with_reducible assumption) | assumption)
             obtain ⟨ad206, e206, hx206_0⟩ := Kd.at_int (Kd.R_reads' HO_201000.out).2.2 x6_2 p206 q206; cases e206; replace p206 := eq_true p206; replace q206 := eq_true q206
             have p207 : 0 ≤ (x6_2 : Int) := of_decide_eq_true (by first | (with_reducible assumption) | assumption)
             have q207 : x6_2 < (t194.length : Int) := of_decide_eq_true (by first | (with_reducible assumption) | assumption)
             obtain ⟨ad207, e207, hx207_0⟩ := Kd.at_int (Kd.R_reads' HO_201000.out).2.2 x6_2 p207 q207
             obtain rfl : ad206 = ad207 := (by injection e207)
             replace p207 := eq_true p207; replace q207 := eq_true q207
             go_wp2
             go_meet
             case rel => exact ⟨_, (false), (by first | rfl | (simp; done) | (simp [*]; done)), H', ⟨by have := HJ1.out; have := HK2.out; first | omega | exact Nat.le_refl _⟩, ⟨by (try simp only [hl5_2]); (with_reducible repeat (first | apply Kd.R_alloc | apply Kd.R_drewN | apply Kd.R_drew)); exact HO_3.out⟩, ⟨by (try simp only [hl5_2]); (with_reducible repeat (first | apply Kd.R_alloc | apply Kd.R_drewN | apply Kd.R_drew)); exact HO_5.out⟩, ⟨by (try simp only [hl5_2]); (with_reducible repeat (first | apply Kd.R_alloc | apply Kd.R_drewN | apply Kd.R_drew)); exact HO_201000.out⟩, ⟨by (try simp only [hl5_2]); (with_reducible repeat (first | apply Kd.R_alloc | apply Kd.R_drewN | apply Kd.R_drew)); exact HO_201001.out⟩, ⟨by (try simp only [hl5_2]); (with_reducible repeat (first | refine blk_drewN ?_ _ | refine blk_drew ?_ | refine blk_alloc ?_ _)); exact BK200.out⟩, ⟨by repeat (first | (with_reducible first | exact HB.out | apply below_alloc | apply pw_below_drewN | apply below_drew1 | refine below_set ?_ GE200.out) | exact HB.out)⟩⟩
            rw [if_neg c31] at H
            exact absurd H (by simp)
           case rest =>
            clear HC29
            try clear c1; try clear p1; try clear q1; try clear hx1; try clear qi1; try clear hf1; try clear c2; try clear p2; try clear q2; try clear hx2; try clear c3; try clear c5; try clear c5b0; try clear c5b1; try clear c6; try clear p6; try clear c9; try clear c9b0; try clear c9b1; try clear c10; try clear c10b0; try clear c10b1; try clear c11; try clear c11b0; try clear c11b1; try clear p12; try clear q12; try clear hx12; try clear qi12; try clear hf12; try clear c13; try clear c13b0; try clear c13b1; try clear c14; try clear c14b0; try clear c14b1; try clear p15; try clear q15; try clear hx15; try clear hf15; try clear p20; try clear q20; try clear hx20; try clear c28; try clear c28b0; try clear c31; try clear c31b0; try clear c32; try clear c32b0; try clear c32b1; try clear c33; try clear c34; try clear c34b0; try clear c34b1; try clear c35; try clear c35b0; try clear c35b1; try clear c38; try clear c38b0; try clear c39; try clear c39b0; try clear hcz19_0; try clear hcz19_1; try clear hcz25_0; try clear hcz25_1; try clear hcz30_0; try clear hcz30_1; try clear hcz33_0; try clear hcz33_1; try clear hcz36_0; try clear hcz36_1; try clear hcz40_0; try clear hcz40_1; try clear hcz41_0; try clear hcz41_1; try clear hfz19_0; try clear hfz19_1; try clear hfz25_0; try clear hfz25_1; try clear hfz30_0; try clear hfz30_1; try clear hfz33_0; try clear hfz33_1; try clear hfz36_0; try clear hfz36_1; try clear hfz40_0; try clear hfz40_1; try clear hfz41_0; try clear hfz41_1; try clear hx12_0; try clear hx15_0; try clear hx206_0; try clear hx207_0; try clear hx208_0; try clear p1; try clear p12; try clear p15; try clear p2; try clear p206; try clear p207; try clear p208; try clear p6; try clear q1; try clear q12; try clear q15; try clear q206; try clear q207; try clear q208
            obtain ⟨kq, x70_28, rfl, HA, HJ28, HO_3, HO_5, HO_201000, HO_201001, BK200, HB⟩ := hcut
            cases kq with
            | zero => exact absurd HA.out (by simp [spec_SentenceCuts.j2])
            | succ kj28 =>
             have H := HA.out; clear HA; simp only [spec_SentenceCuts.j2] at H; have HC42 := Aside0.mk H; clear H
             go_upto_if 70 with (fail)
             go_cut [] (fun wc => ∃ (kq : Nat) (x5_41 : List Bool), Aside0 (spec_SentenceCuts.j3 kq y191 x5_41 x6_2 t194 t197 = some r) ∧ Aside0 (kq ≤ kj28) ∧ Aside0 (Kd.R (Kd.int .i64) 2 wc w.heap.size (fun k_ => some k_ ≠ ((.slice Ao18 t194.length co18) : Value).ownBlock ∧ some k_ ≠ ((.slice Ao20 t197.length co20) : Value).ownBlock) v192 y191) ∧ Aside0 (Kd.R Kd.bool 4 wc w.heap.size (fun _ => True) (.slice (some ⟨go12, 0, none⟩) x5_2.length co12) x5_41) ∧ Aside0 (Kd.R (Kd.int .i64) 2 wc w.heap.size (fun k_ => some k_ ≠ (v192 : Value).ownBlock ∧ some k_ ≠ ((.slice Ao20 t197.length co20) : Value).ownBlock) (.slice Ao18 t194.length co18) t194) ∧ Aside0 (Kd.R (Kd.int .i64) 2 wc w.heap.size (fun k_ => some k_ ≠ (v192 : Value).ownBlock ∧ some k_ ≠ ((.slice Ao18 t194.length co18) : Value).ownBlock) (.slice Ao20 t197.length co20) t197) ∧ Aside0 (wc.heap[gb200]? = some (.cells #[(.slice Ao18 t194.length co18), (.slice Ao20 t197.length co20)] 88 (0, 0))) ∧ Aside0 (Below w.heap.size w wc))
             case first =>
              have H := HC42.out; clear HC42
              by_cases c43 : x70_28 = true
              ·subst c43
               have H1 : (if 0 ≤ (wrap64 (x6_2 + 1)) then (if (wrap64 (x6_2 + 1)) < (x5_2.length : Int) then (spec_SentenceCuts.j3 kj28 y191 (x5_2.set ((wrap64 (x6_2 + 1)) : Int).toNat true) x6_2 t194 t197) else (none)) else (none)) = some r := by rw [if_pos rfl] at H; exact H
               clear H; have H := H1; clear H1; obtain ⟨ji44, hji44⟩ : ∃ j_ : Int, (wrap64 (x6_2 + 1)) = j_ := ⟨_, rfl⟩
               replace H : (if 0 ≤ (ji44) then (if (ji44) < (x5_2.length : Int) then (spec_SentenceCuts.j3 kj28 y191 (x5_2.set ((ji44) : Int).toNat true) x6_2 t194 t197) else (none)) else (none)) = some r := by first | (rw [hji44] at H; exact H) | (simp only [hji44] at H ⊢; exact H)
               have hji44w : (IntKind.i64.wrap (x6_2 + 1)) = ji44 := (i64_w _).trans hji44
               by_cases c45 : 0 ≤ (ji44)
               ·rw [if_pos c45] at H
                have c45b0 : decide (0 ≤ (ji44)) = true := decide_eq_true c45; clear c45
                (first | rw [c45b0] | (simp only [i64_w, i32_w]; rw [c45b0]) | skip)
                by_cases c46 : (ji44) < (x5_2.length : Int)
                ·rw [if_pos c46] at H
                 have c46b0 : decide ((ji44) < (x5_2.length : Int)) = true := decide_eq_true c46; clear c46; obtain ⟨y209, hy209⟩ : ∃ y_ : List Bool, y_ = (x5_2.set ((ji44) : Int).toNat true) := ⟨_, rfl⟩
                 replace H : (spec_SentenceCuts.j3 kj28 y191 y209 x6_2 t194 t197) = some r := by first | (rw [hy209]; with_reducible exact H) | (have H2_ := (Option.bind_some _ _).symm.trans H; rw [hy209]; with_reducible exact H2_) | (have H2_ := (Option.bind_some _ _).symm.trans H; with_reducible exact H2_) | with_reducible exact H | (rw [hy209]; exact H) | exact H
                 have Ny209 := Aside0.mk hy209; clear hy209; have H' := Aside0.mk H; clear H
                 have p47 : 0 ≤ ((ji44) : Int) := of_decide_eq_true (by first | (with_reducible assumption) | assumption)
                 have q47 : ((ji44) : Int) < ((x5_2.length : Int) : Int) := of_decide_eq_true (by first | (with_reducible assumption) | assumption)
                 obtain ⟨hx47_0, hf47_0⟩ := Kd.R_celln false HO_5.out ((ji44) : Int) p47 q47; replace p47 := eq_true p47; replace q47 := eq_true q47; have HP48 := Kd.R_putg HO_5.out ((ji44) : Int) true
                 go_wp2_with (first | ((with_reducible refine gate_store (t := 4) (p := 74) rfl ?_); refine store_event (t := 4) (p := 74) (v := ?vo_w49) (w1 := (wc.setCell ⟨go12, ((ji44) : Int).toNat, none⟩ (.bool true))) ?hg ?ho ?hn ?hr ?_; (case ho => rfl); (case hg => rfl); (case hn => rfl); (case hr => first | (go_simp; done) | (go_simp; rfl)); intro w49 hw; have hg : wc.grownBy w49 (some go12) := (by rw [hw]; exact HP48.2); have hp_ : Kd.R Kd.bool 4 w49 w.heap.size (fun _ => True) (.slice (some ⟨go12, 0, none⟩) x5_2.length co12) y209 := (by rw [hw, Ny209.out]; exact HP48.1); clear HP48; have n0_ := Aside0.mk (Kd.R_over' (v := (.slice (some ⟨go12, 0, none⟩) x5_2.length co12)) (by (with_reducible repeat (first | apply Kd.R_alloc | apply Kd.R_drewN | apply Kd.R_drew)); exact HO_3.out) (Kd.R_typed HO_5.out) (by decide) hg); have n1_ := Aside0.mk (hp_); have n2_ := Aside0.mk (Kd.R_over' (v := (.slice (some ⟨go12, 0, none⟩) x5_2.length co12)) (by (with_reducible repeat (first | apply Kd.R_alloc | apply Kd.R_drewN | apply Kd.R_drew)); exact HO_201000.out) (Kd.R_typed HO_5.out) (by decide) hg); have n3_ := Aside0.mk (Kd.R_over' (v := (.slice (some ⟨go12, 0, none⟩) x5_2.length co12)) (by (with_reducible repeat (first | apply Kd.R_alloc | apply Kd.R_drewN | apply Kd.R_drew)); exact HO_201001.out) (Kd.R_typed HO_5.out) (by decide) hg); have n4_ := Aside0.mk (blk_grown (g := gb200) (o := .cells #[.slice Ao18 t194.length co18, .slice Ao20 t197.length co20] 88 (0, 0)) (by (with_reducible repeat (first | refine blk_drewN ?_ _ | refine blk_drew ?_ | refine blk_alloc ?_ _)); exact BK200.out) hg (Kd.R_ne HO_5.out BK200.out (by decide))); have n5_ := Aside0.mk ((by rw [hw]; exact below_set (HB.out) GB12.out : Below w.heap.size w w49)); clear HO_3; clear HO_5; clear HO_201000; clear HO_201001; clear BK200; clear HB; have HO_3 := n0_; have HO_5 := n1_; have HO_201000 := n2_; have HO_201001 := n3_; have BK200 := n4_; have HB := n5_; clear n0_ n1_ n2_ n3_ n4_ n5_; clear hg hw hp_))
                 go_meet
                 case rel => exact ⟨_, (y209), H', ⟨by have := HJ1.out; have := HK2.out; have := HJ28.out; first | omega | exact Nat.le_refl _⟩, ⟨by (try simp only [hl5_2]); (with_reducible repeat (first | apply Kd.R_alloc | apply Kd.R_drewN | apply Kd.R_drew)); exact HO_3.out⟩, ⟨by (try simp only [hl5_2]); (with_reducible repeat (first | apply Kd.R_alloc | apply Kd.R_drewN | apply Kd.R_drew)); exact HO_5.out⟩, ⟨by (try simp only [hl5_2]); (with_reducible repeat (first | apply Kd.R_alloc | apply Kd.R_drewN | apply Kd.R_drew)); exact HO_201000.out⟩, ⟨by (try simp only [hl5_2]); (with_reducible repeat (first | apply Kd.R_alloc | apply Kd.R_drewN | apply Kd.R_drew)); exact HO_201001.out⟩, ⟨by (try simp only [hl5_2]); (with_reducible repeat (first | refine blk_drewN ?_ _ | refine blk_drew ?_ | refine blk_alloc ?_ _)); exact BK200.out⟩, ⟨by repeat (first | (with_reducible first | exact HB.out | apply below_alloc | apply pw_below_drewN | apply below_drew1 | refine below_set ?_ GE200.out) | exact HB.out)⟩⟩
                rw [if_neg c46] at H
                exact absurd H (by simp)
               rw [if_neg c45] at H
               exact absurd H (by simp)
              replace c43 := Bool.eq_false_iff.mpr c43; subst c43
              have H1 : (spec_SentenceCuts.j3 kj28 y191 x5_2 x6_2 t194 t197) = some r := by rw [if_neg (show ¬ (false = true) by decide)] at H; exact H
              clear H; have H := H1; clear H1; have H' := Aside0.mk H; clear H
              go_wp2
              go_meet
              case rel => exact ⟨_, (x5_2), H', ⟨by have := HJ1.out; have := HK2.out; have := HJ28.out; first | omega | exact Nat.le_refl _⟩, ⟨by (try simp only [hl5_2]); (with_reducible repeat (first | apply Kd.R_alloc | apply Kd.R_drewN | apply Kd.R_drew)); exact HO_3.out⟩, ⟨by (try simp only [hl5_2]); (with_reducible repeat (first | apply Kd.R_alloc | apply Kd.R_drewN | apply Kd.R_drew)); exact HO_5.out⟩, ⟨by (try simp only [hl5_2]); (with_reducible repeat (first | apply Kd.R_alloc | apply Kd.R_drewN | apply Kd.R_drew)); exact HO_201000.out⟩, ⟨by (try simp only [hl5_2]); (with_reducible repeat (first | apply Kd.R_alloc | apply Kd.R_drewN | apply Kd.R_drew)); exact HO_201001.out⟩, ⟨by (try simp only [hl5_2]); (with_reducible repeat (first | refine blk_drewN ?_ _ | refine blk_drew ?_ | refine blk_alloc ?_ _)); exact BK200.out⟩, ⟨by repeat (first | (with_reducible first | exact HB.out | apply below_alloc | apply pw_below_drewN | apply below_drew1 | refine below_set ?_ GE200.out) | exact HB.out)⟩⟩
             case rest =>
              clear HC42
              try clear c1; try clear p1; try clear q1; try clear hx1; try clear qi1; try clear hf1; try clear c2; try clear p2; try clear q2; try clear hx2; try clear c3; try clear c4; try clear p4; try clear q4; try clear hx4; try clear hf4; try clear c5; try clear c5b0; try clear c5b1; try clear c6; try clear p6; try clear c9; try clear c9b0; try clear c9b1; try clear c10; try clear c10b0; try clear c10b1; try clear c11; try clear c11b0; try clear c11b1; try clear p12; try clear q12; try clear hx12; try clear qi12; try clear hf12; try clear c13; try clear c13b0; try clear c13b1; try clear c14; try clear c14b0; try clear c14b1; try clear p15; try clear q15; try clear hx15; try clear hf15; try clear p20; try clear q20; try clear hx20; try clear c28; try clear c28b0; try clear c31; try clear c31b0; try clear c32; try clear c32b0; try clear c32b1; try clear c33; try clear c34; try clear c34b0; try clear c34b1; try clear c35; try clear c35b0; try clear c35b1; try clear c38; try clear c38b0; try clear c39; try clear c39b0; try clear c43; try clear c45; try clear c45b0; try clear c46; try clear c46b0; try clear p47; try clear q47; try clear hx47; try clear hf47; try clear hcz19_0; try clear hcz19_1; try clear hcz25_0; try clear hcz25_1; try clear hcz30_0; try clear hcz30_1; try clear hcz33_0; try clear hcz33_1; try clear hcz36_0; try clear hcz36_1; try clear hcz40_0; try clear hcz40_1; try clear hcz41_0; try clear hcz41_1; try clear hfz19_0; try clear hfz19_1; try clear hfz25_0; try clear hfz25_1; try clear hfz30_0; try clear hfz30_1; try clear hfz33_0; try clear hfz33_1; try clear hfz36_0; try clear hfz36_1; try clear hfz40_0; try clear hfz40_1; try clear hfz41_0; try clear hfz41_1; try clear hx12_0; try clear hx15_0; try clear hx206_0; try clear hx207_0; try clear hx208_0; try clear hx47_0; try clear p1; try clear p12; try clear p15; try clear p2; try clear p20; try clear p206; try clear p207; try clear p208; try clear p47; try clear p6; try clear q1; try clear q12; try clear q15; try clear q2; try clear q20; try clear q206; try clear q207; try clear q208; try clear q47
              obtain ⟨kq, x5_41, HA, HJ41, HO_3, HO_5, HO_201000, HO_201001, BK200, HB⟩ := hcut; have hl5_41 := (Kd.R_reads' HO_5.out).1; rw [hl5_41] at HO_5
              (try simp only [hl5_41])
              (try simp only [hl5_41] at BK200)
              (try simp only [hl5_41] at HO_3)
              (try simp only [hl5_41] at HO_201000)
              (try simp only [hl5_41] at HO_201001)
              cases kq with
              | zero => exact absurd HA.out (by simp [spec_SentenceCuts.j3])
              | succ kj41 =>
               have H := HA.out; clear HA; simp only [spec_SentenceCuts.j3] at H; have HC50 := Aside0.mk H; clear H
               go_upto_region 13 with (fail)
               go_cut [94] (fun v94 wc => ∃ (kq : Nat) (x94_49 : Bool), v94 = .bool x94_49 ∧ Aside0 (spec_SentenceCuts.j4 kq y191 x5_41 x6_2 x94_49 t194 t197 = some r) ∧ Aside0 (kq ≤ kj41) ∧ Aside0 (Kd.R (Kd.int .i64) 2 wc w.heap.size (fun k_ => some k_ ≠ ((.slice Ao18 t194.length co18) : Value).ownBlock ∧ some k_ ≠ ((.slice Ao20 t197.length co20) : Value).ownBlock) v192 y191) ∧ Aside0 (Kd.R Kd.bool 4 wc w.heap.size (fun _ => True) (.slice (some ⟨go12, 0, none⟩) x5_41.length co12) x5_41) ∧ Aside0 (Kd.R (Kd.int .i64) 2 wc w.heap.size (fun k_ => some k_ ≠ (v192 : Value).ownBlock ∧ some k_ ≠ ((.slice Ao20 t197.length co20) : Value).ownBlock) (.slice Ao18 t194.length co18) t194) ∧ Aside0 (Kd.R (Kd.int .i64) 2 wc w.heap.size (fun k_ => some k_ ≠ (v192 : Value).ownBlock ∧ some k_ ≠ ((.slice Ao18 t194.length co18) : Value).ownBlock) (.slice Ao20 t197.length co20) t197) ∧ Aside0 (wc.heap[gb200]? = some (.cells #[(.slice Ao18 t194.length co18), (.slice Ao20 t197.length co20)] 88 (0, 0))) ∧ Aside0 (Below w.heap.size w wc))
               case first =>
                have H := HC50.out; clear HC50
                by_cases c51 : 0 ≤ x6_2
                ·rw [if_pos c51] at H
                 have c51b0 : decide (0 ≤ x6_2) = true := decide_eq_true c51; clear c51
                 (first | rw [c51b0] | (simp only [i64_w, i32_w]; rw [c51b0]) | skip)
                 by_cases c52 : x6_2 < (t194.length : Int)
                 ·rw [if_pos c52] at H
                  have c52b0 : decide (x6_2 < (t194.length : Int)) = true := decide_eq_true c52; clear c52; replace H := Option.bind_eq_some_iff.mp H; obtain ⟨t211, A530, H⟩ := H
                  try dsimp only at H
                  have A53 := Aside0.mk A530; clear A530
                  by_cases c54 : t211 = true
                  ·subst c54
                   have H1 : (if x6_2 = 0 then (spec_SentenceCuts.j4 kj41 y191 x5_41 x6_2 true t194 t197) else (if 0 ≤ (wrap64 (x6_2 - 1)) then (if (wrap64 (x6_2 - 1)) < (t194.length : Int) then ((W_spec_l08In.f (rd t194 (wrap64 (x6_2 - 1))) (⟨#[46, 33, 63]⟩ : ByteArray)).bind fun t213 => (spec_SentenceCuts.j4 kj41 y191 x5_41 x6_2 (!t213) t194 t197)) else (none)) else (none))) = some r := by rw [if_pos rfl] at H; exact H
                   clear H; have H := H1; clear H1
                   by_cases c55 : x6_2 = 0
                   ·rw [if_pos c55] at H
                    have c55b0 : (x6_2 == 0) = true := beq_iff_eq.mpr c55; have c55b1 : (x6_2 != 0) = false := bne_eq_false_iff_eq.mpr c55; clear c55; have H' := Aside0.mk H; clear H; have hcz56_0 : wc.cell? ⟨gb200, 0, none⟩ = some (.slice Ao18 t194.length co18) := (blk_cell BK200.out 0).trans rfl; have hcz56_1 : wc.cell? ⟨gb200, 1, none⟩ = some (.slice Ao20 t197.length co20) := (blk_cell BK200.out 1).trans rfl; have hfz56_0 := blk_frozen BK200.out 0; have hfz56_1 := blk_frozen BK200.out 1
                    have p210 : 0 ≤ (x6_2 : Int) := of_decide_eq_true (by first | (with_reducible assumption) | assumption)
                    have q210 : x6_2 < (t194.length : Int) := of_decide_eq_true (by first | (with_reducible assumption) | assumption)
                    obtain ⟨ad210, e210, hx210_0⟩ := Kd.at_int (Kd.R_reads' HO_201000.out).2.2 x6_2 p210 q210; cases e210; replace p210 := eq_true p210; replace q210 := eq_true q210
                    go_wp2_with (first | ((with_reducible refine gate_callee (f := 110) rfl ?_); refine goesL_ (some 80) rfl rfl Tryd.func110 (by kernel_rfl) rfl #[.int .i64 (rd t194 x6_2), .string (⟨#[46, 33, 63]⟩ : ByteArray)] rfl (by (try simp only [List.map_toArray, List.map_cons, List.map_nil]); first | done | rfl) ?_; (with_reducible refine (W_spec_l08In.calls (rd t194 x6_2) (⟨#[46, 33, 63]⟩ : ByteArray) true _ A53.out).mono ?_); rintro e w' ⟨rfl, ⟨nd, rfl⟩⟩; refine ⟨_, rfl, ?_⟩))
                    go_meet
                    case rel => exact ⟨_, (true), (by first | rfl | (simp; done) | (simp [*]; done)), H', ⟨by have := HJ1.out; have := HK2.out; have := HJ28.out; have := HJ41.out; first | omega | exact Nat.le_refl _⟩, ⟨by (try simp only [hl5_2]); (try simp only [hl5_41]); (with_reducible repeat (first | apply Kd.R_alloc | apply Kd.R_drewN | apply Kd.R_drew)); exact HO_3.out⟩, ⟨by (try simp only [hl5_2]); (try simp only [hl5_41]); (with_reducible repeat (first | apply Kd.R_alloc | apply Kd.R_drewN | apply Kd.R_drew)); exact HO_5.out⟩, ⟨by (try simp only [hl5_2]); (try simp only [hl5_41]); (with_reducible repeat (first | apply Kd.R_alloc | apply Kd.R_drewN | apply Kd.R_drew)); exact HO_201000.out⟩, ⟨by (try simp only [hl5_2]); (try simp only [hl5_41]); (with_reducible repeat (first | apply Kd.R_alloc | apply Kd.R_drewN | apply Kd.R_drew)); exact HO_201001.out⟩, ⟨by (try simp only [hl5_2]); (try simp only [hl5_41]); (with_reducible repeat (first | refine blk_drewN ?_ _ | refine blk_drew ?_ | refine blk_alloc ?_ _)); exact BK200.out⟩, ⟨by repeat (first | (with_reducible first | exact HB.out | apply below_alloc | apply pw_below_drewN | apply below_drew1 | refine below_set ?_ GE200.out) | exact HB.out)⟩⟩
                   rw [if_neg c55] at H; have c55b0 : (x6_2 == 0) = false := beq_eq_false_iff_ne.mpr c55; have c55b1 : (x6_2 != 0) = true := bne_iff_ne.mpr c55; obtain ⟨ji57, hji57⟩ : ∃ j_ : Int, (wrap64 (x6_2 - 1)) = j_ := ⟨_, rfl⟩
                   replace H : (if 0 ≤ (ji57) then (if (ji57) < (t194.length : Int) then ((W_spec_l08In.f (rd t194 (ji57)) (⟨#[46, 33, 63]⟩ : ByteArray)).bind fun t213 => (spec_SentenceCuts.j4 kj41 y191 x5_41 x6_2 (!t213) t194 t197)) else (none)) else (none)) = some r := by first | (rw [hji57] at H; exact H) | (simp only [hji57] at H ⊢; exact H)
                   (try rw [hji57] at A53)
                   have hji57w : (IntKind.i64.wrap (x6_2 - 1)) = ji57 := (i64_w _).trans hji57
                   by_cases c58 : 0 ≤ (ji57)
                   ·rw [if_pos c58] at H
                    have c58b0 : decide (0 ≤ (ji57)) = true := decide_eq_true c58; clear c58
                    by_cases c59 : (ji57) < (t194.length : Int)
                    ·rw [if_pos c59] at H
                     have c59b0 : decide ((ji57) < (t194.length : Int)) = true := decide_eq_true c59; clear c59; replace H := Option.bind_eq_some_iff.mp H; obtain ⟨t213, A600, H⟩ := H
                     try dsimp only at H
                     have A60 := Aside0.mk A600; clear A600; have H' := Aside0.mk H; clear H; have hcz61_0 : wc.cell? ⟨gb200, 0, none⟩ = some (.slice Ao18 t194.length co18) := (blk_cell BK200.out 0).trans rfl; have hcz61_1 : wc.cell? ⟨gb200, 1, none⟩ = some (.slice Ao20 t197.length co20) := (blk_cell BK200.out 1).trans rfl; have hfz61_0 := blk_frozen BK200.out 0; have hfz61_1 := blk_frozen BK200.out 1
                     have p210 : 0 ≤ (x6_2 : Int) := of_decide_eq_true (by first | (with_reducible assumption) | assumption)
                     have q210 : x6_2 < (t194.length : Int) := of_decide_eq_true (by first | (with_reducible assumption) | assumption)
                     obtain ⟨ad210, e210, hx210_0⟩ := Kd.at_int (Kd.R_reads' HO_201000.out).2.2 x6_2 p210 q210; cases e210; replace p210 := eq_true p210; replace q210 := eq_true q210
                     go_wp2_with (first | ((with_reducible refine gate_callee (f := 110) rfl ?_); refine goesL_ (some 80) rfl rfl Tryd.func110 (by kernel_rfl) rfl #[.int .i64 (rd t194 x6_2), .string (⟨#[46, 33, 63]⟩ : ByteArray)] rfl (by (try simp only [List.map_toArray, List.map_cons, List.map_nil]); first | done | rfl) ?_; (with_reducible refine (W_spec_l08In.calls (rd t194 x6_2) (⟨#[46, 33, 63]⟩ : ByteArray) true _ A53.out).mono ?_); rintro e w' ⟨rfl, ⟨nd, rfl⟩⟩; refine ⟨_, rfl, ?_⟩; have p212 : 0 ≤ ((ji57) : Int) := of_decide_eq_true (by first | (with_reducible assumption) | assumption); have q212 : (ji57) < (t194.length : Int) := of_decide_eq_true (by first | (with_reducible assumption) | assumption); obtain ⟨ad212, e212, hx212_0⟩ := Kd.at_int (Kd.R_reads' HO_201000.out).2.2 (ji57) p212 q212; obtain rfl : ad210 = ad212 := (by injection e212); replace p212 := eq_true p212; replace q212 := eq_true q212) | (go_at_call 110; (with_reducible refine (W_spec_l08In.calls (rd t194 (ji57)) (⟨#[46, 33, 63]⟩ : ByteArray) t213 _ A60.out).mono ?_); rintro e w' ⟨rfl, ⟨nd, rfl⟩⟩))
                     go_meet
                     case rel => exact ⟨_, (!t213), (by first | rfl | (simp; done) | (simp [*]; done)), H', ⟨by have := HJ1.out; have := HK2.out; have := HJ28.out; have := HJ41.out; first | omega | exact Nat.le_refl _⟩, ⟨by (try simp only [hl5_2]); (try simp only [hl5_41]); (with_reducible repeat (first | apply Kd.R_alloc | apply Kd.R_drewN | apply Kd.R_drew)); exact HO_3.out⟩, ⟨by (try simp only [hl5_2]); (try simp only [hl5_41]); (with_reducible repeat (first | apply Kd.R_alloc | apply Kd.R_drewN | apply Kd.R_drew)); exact HO_5.out⟩, ⟨by (try simp only [hl5_2]); (try simp only [hl5_41]); (with_reducible repeat (first | apply Kd.R_alloc | apply Kd.R_drewN | apply Kd.R_drew)); exact HO_201000.out⟩, ⟨by (try simp only [hl5_2]); (try simp only [hl5_41]); (with_reducible repeat (first | apply Kd.R_alloc | apply Kd.R_drewN | apply Kd.R_drew)); exact HO_201001.out⟩, ⟨by (try simp only [hl5_2]); (try simp only [hl5_41]); (with_reducible repeat (first | refine blk_drewN ?_ _ | refine blk_drew ?_ | refine blk_alloc ?_ _)); exact BK200.out⟩, ⟨by repeat (first | (with_reducible first | exact HB.out | apply below_alloc | apply pw_below_drewN | apply below_drew1 | refine below_set ?_ GE200.out) | exact HB.out)⟩⟩
                    rw [if_neg c59] at H
                    exact absurd H (by simp)
                   rw [if_neg c58] at H
                   exact absurd H (by simp)
                  replace c54 := Bool.eq_false_iff.mpr c54; subst c54
                  have H1 : (spec_SentenceCuts.j4 kj41 y191 x5_41 x6_2 false t194 t197) = some r := by rw [if_neg (show ¬ (false = true) by decide)] at H; exact H
                  clear H; have H := H1; clear H1; have H' := Aside0.mk H; clear H; have hcz62_0 : wc.cell? ⟨gb200, 0, none⟩ = some (.slice Ao18 t194.length co18) := (blk_cell BK200.out 0).trans rfl; have hcz62_1 : wc.cell? ⟨gb200, 1, none⟩ = some (.slice Ao20 t197.length co20) := (blk_cell BK200.out 1).trans rfl; have hfz62_0 := blk_frozen BK200.out 0; have hfz62_1 := blk_frozen BK200.out 1
                  have p210 : 0 ≤ (x6_2 : Int) := of_decide_eq_true (by first | (with_reducible assumption) | assumption)
                  have q210 : x6_2 < (t194.length : Int) := of_decide_eq_true (by first | (with_reducible assumption) | assumption)
                  obtain ⟨ad210, e210, hx210_0⟩ := Kd.at_int (Kd.R_reads' HO_201000.out).2.2 x6_2 p210 q210; cases e210; replace p210 := eq_true p210; replace q210 := eq_true q210
                  go_wp2_with (first | ((with_reducible refine gate_callee (f := 110) rfl ?_); refine goesL_ (some 80) rfl rfl Tryd.func110 (by kernel_rfl) rfl #[.int .i64 (rd t194 x6_2), .string (⟨#[46, 33, 63]⟩ : ByteArray)] rfl (by (try simp only [List.map_toArray, List.map_cons, List.map_nil]); first | done | rfl) ?_; (with_reducible refine (W_spec_l08In.calls (rd t194 x6_2) (⟨#[46, 33, 63]⟩ : ByteArray) false _ A53.out).mono ?_); rintro e w' ⟨rfl, ⟨nd, rfl⟩⟩; refine ⟨_, rfl, ?_⟩))
                  go_meet
                  case rel => exact ⟨_, (false), (by first | rfl | (simp; done) | (simp [*]; done)), H', ⟨by have := HJ1.out; have := HK2.out; have := HJ28.out; have := HJ41.out; first | omega | exact Nat.le_refl _⟩, ⟨by (try simp only [hl5_2]); (try simp only [hl5_41]); (with_reducible repeat (first | apply Kd.R_alloc | apply Kd.R_drewN | apply Kd.R_drew)); exact HO_3.out⟩, ⟨by (try simp only [hl5_2]); (try simp only [hl5_41]); (with_reducible repeat (first | apply Kd.R_alloc | apply Kd.R_drewN | apply Kd.R_drew)); exact HO_5.out⟩, ⟨by (try simp only [hl5_2]); (try simp only [hl5_41]); (with_reducible repeat (first | apply Kd.R_alloc | apply Kd.R_drewN | apply Kd.R_drew)); exact HO_201000.out⟩, ⟨by (try simp only [hl5_2]); (try simp only [hl5_41]); (with_reducible repeat (first | apply Kd.R_alloc | apply Kd.R_drewN | apply Kd.R_drew)); exact HO_201001.out⟩, ⟨by (try simp only [hl5_2]); (try simp only [hl5_41]); (with_reducible repeat (first | refine blk_drewN ?_ _ | refine blk_drew ?_ | refine blk_alloc ?_ _)); exact BK200.out⟩, ⟨by repeat (first | (with_reducible first | exact HB.out | apply below_alloc | apply pw_below_drewN | apply below_drew1 | refine below_set ?_ GE200.out) | exact HB.out)⟩⟩
                 rw [if_neg c52] at H
                 exact absurd H (by simp)
                rw [if_neg c51] at H
                exact absurd H (by simp)
               case rest =>
                clear HC50
                try clear c1; try clear p1; try clear q1; try clear hx1; try clear qi1; try clear hf1; try clear c2; try clear p2; try clear q2; try clear hx2; try clear c3; try clear c4; try clear p4; try clear q4; try clear hx4; try clear hf4; try clear c5; try clear c5b0; try clear c5b1; try clear c6; try clear p6; try clear c9; try clear c9b0; try clear c9b1; try clear c10; try clear c10b0; try clear c10b1; try clear c11; try clear c11b0; try clear c11b1; try clear p12; try clear q12; try clear hx12; try clear qi12; try clear hf12; try clear c13; try clear c13b0; try clear c13b1; try clear c14; try clear c14b0; try clear c14b1; try clear p15; try clear q15; try clear hx15; try clear hf15; try clear p20; try clear q20; try clear hx20; try clear p21; try clear q21; try clear hx21; try clear c28; try clear c28b0; try clear c31; try clear c31b0; try clear c32; try clear c32b0; try clear c32b1; try clear c33; try clear c34; try clear c34b0; try clear c34b1; try clear c35; try clear c35b0; try clear c35b1; try clear c38; try clear c38b0; try clear c39; try clear c39b0; try clear c43; try clear c45; try clear c45b0; try clear c46; try clear c46b0; try clear p47; try clear q47; try clear hx47; try clear hf47; try clear c51; try clear c51b0; try clear c52; try clear c52b0; try clear c54; try clear c55; try clear c55b0; try clear c55b1; try clear c58; try clear c58b0; try clear c59; try clear c59b0; try clear hcz19_0; try clear hcz19_1; try clear hcz25_0; try clear hcz25_1; try clear hcz30_0; try clear hcz30_1; try clear hcz33_0; try clear hcz33_1; try clear hcz36_0; try clear hcz36_1; try clear hcz40_0; try clear hcz40_1; try clear hcz41_0; try clear hcz41_1; try clear hcz56_0; try clear hcz56_1; try clear hcz61_0; try clear hcz61_1; try clear hcz62_0; try clear hcz62_1; try clear hfz19_0; try clear hfz19_1; try clear hfz25_0; try clear hfz25_1; try clear hfz30_0; try clear hfz30_1; try clear hfz33_0; try clear hfz33_1; try clear hfz36_0; try clear hfz36_1; try clear hfz40_0; try clear hfz40_1; try clear hfz41_0; try clear hfz41_1; try clear hfz56_0; try clear hfz56_1; try clear hfz61_0; try clear hfz61_1; try clear hfz62_0; try clear hfz62_1; try clear hx12_0; try clear hx15_0; try clear hx206_0; try clear hx207_0; try clear hx208_0; try clear hx210_0; try clear hx212_0; try clear hx47_0; try clear p1; try clear p12; try clear p15; try clear p2; try clear p20; try clear p206; try clear p207; try clear p208; try clear p210; try clear p212; try clear p4; try clear p47; try clear p6; try clear q1; try clear q12; try clear q15; try clear q2; try clear q20; try clear q206; try clear q207; try clear q208; try clear q210; try clear q212; try clear q4; try clear q47
                obtain ⟨kq, x94_49, rfl, HA, HJ49, HO_3, HO_5, HO_201000, HO_201001, BK200, HB⟩ := hcut
                cases kq with
                | zero => exact absurd HA.out (by simp [spec_SentenceCuts.j4])
                | succ kj49 =>
                 have H := HA.out; clear HA; simp only [spec_SentenceCuts.j4] at H
                 by_cases c63 : x94_49 = true
                 ·subst c63
                  have H1 : ((W_spec_l08Closes.f t194 x6_2).bind fun bt214 => (if bt214.2 = true then (if 0 ≤ bt214.1 then (if bt214.1 < (x5_41.length : Int) then (spec_SentenceCuts.l0 kj49 y191 (x5_41.set (bt214.1 : Int).toNat true) (wrap64 (x6_2 + 1)) t194 t197) else (none)) else (none)) else (spec_SentenceCuts.l0 kj49 y191 x5_41 (wrap64 (x6_2 + 1)) t194 t197))) = some r := by rw [if_pos rfl] at H; exact H
                  clear H; have H := H1; clear H1; replace H := Option.bind_eq_some_iff.mp H; obtain ⟨⟨t214, t215⟩, A640, H⟩ := H
                  try dsimp only at H
                  have A64 := Aside0.mk A640; clear A640
                  by_cases c65 : t215 = true
                  ·subst c65
                   have H1 : (if 0 ≤ t214 then (if t214 < (x5_41.length : Int) then (spec_SentenceCuts.l0 kj49 y191 (x5_41.set (t214 : Int).toNat true) (wrap64 (x6_2 + 1)) t194 t197) else (none)) else (none)) = some r := by rw [if_pos rfl] at H; exact H
                   clear H; have H := H1; clear H1
                   by_cases c66 : 0 ≤ t214
                   ·rw [if_pos c66] at H
                    have c66b0 : decide (0 ≤ t214) = true := decide_eq_true c66; clear c66
                    by_cases c67 : t214 < (x5_41.length : Int)
                    ·rw [if_pos c67] at H
                     have c67b0 : decide (t214 < (x5_41.length : Int)) = true := decide_eq_true c67; clear c67; obtain ⟨y216, hy216⟩ : ∃ y_ : List Bool, y_ = (x5_41.set (t214 : Int).toNat true) := ⟨_, rfl⟩
                     replace H : (spec_SentenceCuts.l0 kj49 y191 y216 (wrap64 (x6_2 + 1)) t194 t197) = some r := by first | (rw [hy216]; with_reducible exact H) | (have H2_ := (Option.bind_some _ _).symm.trans H; rw [hy216]; with_reducible exact H2_) | (have H2_ := (Option.bind_some _ _).symm.trans H; with_reducible exact H2_) | with_reducible exact H | (rw [hy216]; exact H) | exact H
                     have Ny216 := Aside0.mk hy216; clear hy216; have H' := Aside0.mk H; clear H; have hcz69_0 : wc.cell? ⟨gb200, 0, none⟩ = some (.slice Ao18 t194.length co18) := (blk_cell BK200.out 0).trans rfl; have hcz69_1 : wc.cell? ⟨gb200, 1, none⟩ = some (.slice Ao20 t197.length co20) := (blk_cell BK200.out 1).trans rfl; have hfz69_0 := blk_frozen BK200.out 0; have hfz69_1 := blk_frozen BK200.out 1
                     go_wp2_with (first | ((with_reducible refine gate_callee (f := 111) rfl ?_); refine goesL_ (some 99) rfl rfl Tryd.func111 (by kernel_rfl) rfl #[.slice Ao18 t194.length co18, .int .i64 x6_2] rfl (by (try simp only [List.map_toArray, List.map_cons, List.map_nil]); first | done | rfl) ?_; (with_reducible refine (W_spec_l08Closes.calls _ _ t194 x6_2 t214 true _ ?side1 ?side2 A64.out).mono ?_); (case side1 => repeat (first | exact (Kd.R_reads' HO_201000.out).2.2 | (with_reducible refine Kd.C_alloc ?_ _) | (with_reducible refine Kd.C_drewN ?_ _) | (with_reducible refine Kd.C_drew ?_))); (case side2 => exact (Kd.R_reads' HO_201000.out).2.1); rintro e w70 ⟨rfl, hb⟩; refine ⟨_, rfl, ?_⟩; have n0_ := Aside0.mk (Kd.R_below (by (with_reducible repeat (first | apply Kd.R_alloc | apply Kd.R_drewN | apply Kd.R_drew)); exact HO_3.out) hb); have n1_ := Aside0.mk (Kd.R_below (by (with_reducible repeat (first | apply Kd.R_alloc | apply Kd.R_drewN | apply Kd.R_drew)); exact HO_5.out) hb); have n2_ := Aside0.mk (Kd.R_below (by (with_reducible repeat (first | apply Kd.R_alloc | apply Kd.R_drewN | apply Kd.R_drew)); exact HO_201000.out) hb); have n3_ := Aside0.mk (Kd.R_below (by (with_reducible repeat (first | apply Kd.R_alloc | apply Kd.R_drewN | apply Kd.R_drew)); exact HO_201001.out) hb); have n4_ := Aside0.mk (blk_below (g := gb200) (o := .cells #[.slice Ao18 t194.length co18, .slice Ao20 t197.length co20] 88 (0, 0)) (by (with_reducible repeat (first | refine blk_drewN ?_ _ | refine blk_drew ?_ | refine blk_alloc ?_ _)); exact BK200.out) hb); have n5_ := Aside0.mk (below_step (by repeat (first | (with_reducible first | exact HB.out | apply below_alloc | apply pw_below_drewN | apply below_drew1 | refine below_set ?_ GE200.out) | exact HB.out)) hb); clear HO_3; clear HO_5; clear HO_201000; clear HO_201001; clear BK200; clear HB; have HO_3 := n0_; have HO_5 := n1_; have HO_201000 := n2_; have HO_201001 := n3_; have BK200 := n4_; have HB := n5_; clear n0_ n1_ n2_ n3_ n4_ n5_; (try clear hb); (try clear hb2); (try clear hk); (try clear hi); have p68 : 0 ≤ (t214 : Int) := of_decide_eq_true (by first | (with_reducible assumption) | assumption); have q68 : (t214 : Int) < ((x5_41.length : Int) : Int) := of_decide_eq_true (by first | (with_reducible assumption) | assumption); obtain ⟨hx68_0, hf68_0⟩ := Kd.R_celln false HO_5.out (t214 : Int) p68 q68; replace p68 := eq_true p68; replace q68 := eq_true q68; obtain ⟨hy71_, hz71_⟩ := Kd.R_celln false HO_5.out (t214 : Int) (of_decide_eq_true (by first | (with_reducible assumption) | assumption)) (of_decide_eq_true (by first | (with_reducible assumption) | assumption)); have HP71 := Kd.R_putg HO_5.out (t214 : Int) true) | ((with_reducible refine gate_store (t := 4) (p := 105) rfl ?_); refine store_event (t := 4) (p := 105) (v := ?vo_w72) (w1 := (w70.setCell ⟨go12, (t214 : Int).toNat, none⟩ (.bool true))) ?hg ?ho ?hn ?hr ?_; (case ho => rfl); (case hg => rfl); (case hn => rfl); (case hr => first | (go_simp; done) | (go_simp; rfl)); intro w72 hw; have hg : w70.grownBy w72 (some go12) := (by rw [hw]; exact HP71.2); have hp_ : Kd.R Kd.bool 4 w72 w.heap.size (fun _ => True) (.slice (some ⟨go12, 0, none⟩) x5_41.length co12) y216 := (by rw [hw, Ny216.out]; exact HP71.1); clear HP71; have n0_ := Aside0.mk (Kd.R_over' (v := (.slice (some ⟨go12, 0, none⟩) x5_41.length co12)) (by (with_reducible repeat (first | apply Kd.R_alloc | apply Kd.R_drewN | apply Kd.R_drew)); exact HO_3.out) (Kd.R_typed HO_5.out) (by decide) hg); have n1_ := Aside0.mk (hp_); have n2_ := Aside0.mk (Kd.R_over' (v := (.slice (some ⟨go12, 0, none⟩) x5_41.length co12)) (by (with_reducible repeat (first | apply Kd.R_alloc | apply Kd.R_drewN | apply Kd.R_drew)); exact HO_201000.out) (Kd.R_typed HO_5.out) (by decide) hg); have n3_ := Aside0.mk (Kd.R_over' (v := (.slice (some ⟨go12, 0, none⟩) x5_41.length co12)) (by (with_reducible repeat (first | apply Kd.R_alloc | apply Kd.R_drewN | apply Kd.R_drew)); exact HO_201001.out) (Kd.R_typed HO_5.out) (by decide) hg); have n4_ := Aside0.mk (blk_grown (g := gb200) (o := .cells #[.slice Ao18 t194.length co18, .slice Ao20 t197.length co20] 88 (0, 0)) (by (with_reducible repeat (first | refine blk_drewN ?_ _ | refine blk_drew ?_ | refine blk_alloc ?_ _)); exact BK200.out) hg (Kd.R_ne HO_5.out BK200.out (by decide))); have n5_ := Aside0.mk ((by rw [hw]; exact below_set (HB.out) GB12.out : Below w.heap.size w w72)); clear HO_3; clear HO_5; clear HO_201000; clear HO_201001; clear BK200; clear HB; have HO_3 := n0_; have HO_5 := n1_; have HO_201000 := n2_; have HO_201001 := n3_; have BK200 := n4_; have HB := n5_; clear n0_ n1_ n2_ n3_ n4_ n5_; clear hg hw hp_))
                     (try simp only [← hl5_2, ← hl5_41])
                     go_roundg kj49
                     case measure => have := HJ1.out; have := HK2.out; have := HJ28.out; have := HJ41.out; have := HJ49.out; omega
                     case rel => exact ⟨(y216), (wrap64 (x6_2 + 1)), (by first | rfl | (simp; done) | (simp [*]; done)), H', ⟨by have := HJ1.out; have := HK2.out; have := HJ28.out; have := HJ41.out; have := HJ49.out; omega⟩, ⟨by (try simp only [hl5_2]); (try simp only [hl5_41]); (with_reducible repeat (first | apply Kd.R_alloc | apply Kd.R_drewN | apply Kd.R_drew)); exact HO_3.out⟩, ⟨by (try simp only [hl5_2]); (try simp only [hl5_41]); (with_reducible repeat (first | apply Kd.R_alloc | apply Kd.R_drewN | apply Kd.R_drew)); exact HO_5.out⟩, ⟨by (try simp only [hl5_2]); (try simp only [hl5_41]); (with_reducible repeat (first | apply Kd.R_alloc | apply Kd.R_drewN | apply Kd.R_drew)); exact HO_201000.out⟩, ⟨by (try simp only [hl5_2]); (try simp only [hl5_41]); (with_reducible repeat (first | apply Kd.R_alloc | apply Kd.R_drewN | apply Kd.R_drew)); exact HO_201001.out⟩, ⟨by (try simp only [hl5_2]); (try simp only [hl5_41]); (with_reducible repeat (first | refine blk_drewN ?_ _ | refine blk_drew ?_ | refine blk_alloc ?_ _)); exact BK200.out⟩, ⟨by repeat (first | (with_reducible first | exact HB.out | apply below_alloc | apply pw_below_drewN | apply below_drew1 | refine below_set ?_ GE200.out) | exact HB.out)⟩⟩
                    rw [if_neg c67] at H
                    exact absurd H (by simp)
                   rw [if_neg c66] at H
                   exact absurd H (by simp)
                  replace c65 := Bool.eq_false_iff.mpr c65; subst c65
                  have H1 : (spec_SentenceCuts.l0 kj49 y191 x5_41 (wrap64 (x6_2 + 1)) t194 t197) = some r := by rw [if_neg (show ¬ (false = true) by decide)] at H; exact H
                  clear H; have H := H1; clear H1; have H' := Aside0.mk H; clear H; have hcz73_0 : wc.cell? ⟨gb200, 0, none⟩ = some (.slice Ao18 t194.length co18) := (blk_cell BK200.out 0).trans rfl; have hcz73_1 : wc.cell? ⟨gb200, 1, none⟩ = some (.slice Ao20 t197.length co20) := (blk_cell BK200.out 1).trans rfl; have hfz73_0 := blk_frozen BK200.out 0; have hfz73_1 := blk_frozen BK200.out 1
                  go_wp2_with (first | ((with_reducible refine gate_callee (f := 111) rfl ?_); refine goesL_ (some 99) rfl rfl Tryd.func111 (by kernel_rfl) rfl #[.slice Ao18 t194.length co18, .int .i64 x6_2] rfl (by (try simp only [List.map_toArray, List.map_cons, List.map_nil]); first | done | rfl) ?_; (with_reducible refine (W_spec_l08Closes.calls _ _ t194 x6_2 t214 false _ ?side1 ?side2 A64.out).mono ?_); (case side1 => repeat (first | exact (Kd.R_reads' HO_201000.out).2.2 | (with_reducible refine Kd.C_alloc ?_ _) | (with_reducible refine Kd.C_drewN ?_ _) | (with_reducible refine Kd.C_drew ?_))); (case side2 => exact (Kd.R_reads' HO_201000.out).2.1); rintro e w74 ⟨rfl, hb⟩; refine ⟨_, rfl, ?_⟩; have n0_ := Aside0.mk (Kd.R_below (by (with_reducible repeat (first | apply Kd.R_alloc | apply Kd.R_drewN | apply Kd.R_drew)); exact HO_3.out) hb); have n1_ := Aside0.mk (Kd.R_below (by (with_reducible repeat (first | apply Kd.R_alloc | apply Kd.R_drewN | apply Kd.R_drew)); exact HO_5.out) hb); have n2_ := Aside0.mk (Kd.R_below (by (with_reducible repeat (first | apply Kd.R_alloc | apply Kd.R_drewN | apply Kd.R_drew)); exact HO_201000.out) hb); have n3_ := Aside0.mk (Kd.R_below (by (with_reducible repeat (first | apply Kd.R_alloc | apply Kd.R_drewN | apply Kd.R_drew)); exact HO_201001.out) hb); have n4_ := Aside0.mk (blk_below (g := gb200) (o := .cells #[.slice Ao18 t194.length co18, .slice Ao20 t197.length co20] 88 (0, 0)) (by (with_reducible repeat (first | refine blk_drewN ?_ _ | refine blk_drew ?_ | refine blk_alloc ?_ _)); exact BK200.out) hb); have n5_ := Aside0.mk (below_step (by repeat (first | (with_reducible first | exact HB.out | apply below_alloc | apply pw_below_drewN | apply below_drew1 | refine below_set ?_ GE200.out) | exact HB.out)) hb); clear HO_3; clear HO_5; clear HO_201000; clear HO_201001; clear BK200; clear HB; have HO_3 := n0_; have HO_5 := n1_; have HO_201000 := n2_; have HO_201001 := n3_; have BK200 := n4_; have HB := n5_; clear n0_ n1_ n2_ n3_ n4_ n5_; (try clear hb); (try clear hb2); (try clear hk); (try clear hi)))
                  (try simp only [← hl5_2, ← hl5_41])
                  go_roundg kj49
                  case measure => have := HJ1.out; have := HK2.out; have := HJ28.out; have := HJ41.out; have := HJ49.out; omega
                  case rel => exact ⟨(x5_41), (wrap64 (x6_2 + 1)), (by first | rfl | (simp; done) | (simp [*]; done)), H', ⟨by have := HJ1.out; have := HK2.out; have := HJ28.out; have := HJ41.out; have := HJ49.out; omega⟩, ⟨by (try simp only [hl5_2]); (try simp only [hl5_41]); (with_reducible repeat (first | apply Kd.R_alloc | apply Kd.R_drewN | apply Kd.R_drew)); exact HO_3.out⟩, ⟨by (try simp only [hl5_2]); (try simp only [hl5_41]); (with_reducible repeat (first | apply Kd.R_alloc | apply Kd.R_drewN | apply Kd.R_drew)); exact HO_5.out⟩, ⟨by (try simp only [hl5_2]); (try simp only [hl5_41]); (with_reducible repeat (first | apply Kd.R_alloc | apply Kd.R_drewN | apply Kd.R_drew)); exact HO_201000.out⟩, ⟨by (try simp only [hl5_2]); (try simp only [hl5_41]); (with_reducible repeat (first | apply Kd.R_alloc | apply Kd.R_drewN | apply Kd.R_drew)); exact HO_201001.out⟩, ⟨by (try simp only [hl5_2]); (try simp only [hl5_41]); (with_reducible repeat (first | refine blk_drewN ?_ _ | refine blk_drew ?_ | refine blk_alloc ?_ _)); exact BK200.out⟩, ⟨by repeat (first | (with_reducible first | exact HB.out | apply below_alloc | apply pw_below_drewN | apply below_drew1 | refine below_set ?_ GE200.out) | exact HB.out)⟩⟩
                 replace c63 := Bool.eq_false_iff.mpr c63; subst c63
                 have H1 : (spec_SentenceCuts.l0 kj49 y191 x5_41 (wrap64 (x6_2 + 1)) t194 t197) = some r := by rw [if_neg (show ¬ (false = true) by decide)] at H; exact H
                 clear H; have H := H1; clear H1; have H' := Aside0.mk H; clear H
                 go_wp2
                 (try simp only [← hl5_2, ← hl5_41])
                 go_roundg kj49
                 case measure => have := HJ1.out; have := HK2.out; have := HJ28.out; have := HJ41.out; have := HJ49.out; omega
                 case rel => exact ⟨(x5_41), (wrap64 (x6_2 + 1)), (by first | rfl | (simp; done) | (simp [*]; done)), H', ⟨by have := HJ1.out; have := HK2.out; have := HJ28.out; have := HJ41.out; have := HJ49.out; omega⟩, ⟨by (try simp only [hl5_2]); (try simp only [hl5_41]); (with_reducible repeat (first | apply Kd.R_alloc | apply Kd.R_drewN | apply Kd.R_drew)); exact HO_3.out⟩, ⟨by (try simp only [hl5_2]); (try simp only [hl5_41]); (with_reducible repeat (first | apply Kd.R_alloc | apply Kd.R_drewN | apply Kd.R_drew)); exact HO_5.out⟩, ⟨by (try simp only [hl5_2]); (try simp only [hl5_41]); (with_reducible repeat (first | apply Kd.R_alloc | apply Kd.R_drewN | apply Kd.R_drew)); exact HO_201000.out⟩, ⟨by (try simp only [hl5_2]); (try simp only [hl5_41]); (with_reducible repeat (first | apply Kd.R_alloc | apply Kd.R_drewN | apply Kd.R_drew)); exact HO_201001.out⟩, ⟨by (try simp only [hl5_2]); (try simp only [hl5_41]); (with_reducible repeat (first | refine blk_drewN ?_ _ | refine blk_drew ?_ | refine blk_alloc ?_ _)); exact BK200.out⟩, ⟨by repeat (first | (with_reducible first | exact HB.out | apply below_alloc | apply pw_below_drewN | apply below_drew1 | refine below_set ?_ GE200.out) | exact HB.out)⟩⟩
          rw [if_neg c28] at H; have c28b0 : decide (x6_2 < (t194.length : Int)) = false := decide_eq_false c28
          (try simp only [hl5_2] at c28b0)
          (try simp only [hl5_41] at c28b0)
          clear c28; have H' := Aside0.mk H; clear H; have hcz75_0 : wr.cell? ⟨gb200, 0, none⟩ = some (.slice Ao18 t194.length co18) := (blk_cell BK200.out 0).trans rfl; have hcz75_1 : wr.cell? ⟨gb200, 1, none⟩ = some (.slice Ao20 t197.length co20) := (blk_cell BK200.out 1).trans rfl; have hfz75_0 := blk_frozen BK200.out 0; have hfz75_1 := blk_frozen BK200.out 1
          go_wp2
          go_loopg [3, 9] k2 (fun kq v3 v9 w' => ∃ (x3_3 : List Int) (x9_3 : Int), v9 = .int .i64 x9_3 ∧ Aside0 (spec_SentenceCuts.l1 kq x3_3 x5_2 x9_3 t194 t197 = some r) ∧ Aside0 (kq ≤ k2) ∧ Aside0 (Kd.R (Kd.int .i64) 2 w' w.heap.size (fun k_ => some k_ ≠ ((.slice Ao18 t194.length co18) : Value).ownBlock ∧ some k_ ≠ ((.slice Ao20 t197.length co20) : Value).ownBlock) v3 x3_3) ∧ Aside0 (Kd.R Kd.bool 4 w' w.heap.size (fun _ => True) (.slice (some ⟨go12, 0, none⟩) x5_2.length co12) x5_2) ∧ Aside0 (Kd.R (Kd.int .i64) 2 w' w.heap.size (fun k_ => some k_ ≠ (v3 : Value).ownBlock ∧ some k_ ≠ ((.slice Ao20 t197.length co20) : Value).ownBlock) (.slice Ao18 t194.length co18) t194) ∧ Aside0 (Kd.R (Kd.int .i64) 2 w' w.heap.size (fun k_ => some k_ ≠ (v3 : Value).ownBlock ∧ some k_ ≠ ((.slice Ao18 t194.length co18) : Value).ownBlock) (.slice Ao20 t197.length co20) t197) ∧ Aside0 (w'.heap[gb200]? = some (.cells #[(.slice Ao18 t194.length co18), (.slice Ao20 t197.length co20)] 88 (0, 0))) ∧ Aside0 (Below w.heap.size w w'))
          case atStart => exact ⟨(y191), (0), (by first | rfl | (simp; done) | (simp [*]; done)), H', ⟨Nat.le_refl _⟩, ⟨by (try simp only [hl5_2]); (with_reducible repeat (first | apply Kd.R_alloc | apply Kd.R_drewN | apply Kd.R_drew)); exact HO_3.out⟩, ⟨by (try simp only [hl5_2]); (with_reducible repeat (first | apply Kd.R_alloc | apply Kd.R_drewN | apply Kd.R_drew)); exact HO_5.out⟩, ⟨by (try simp only [hl5_2]); (with_reducible repeat (first | apply Kd.R_alloc | apply Kd.R_drewN | apply Kd.R_drew)); exact HO_201000.out⟩, ⟨by (try simp only [hl5_2]); (with_reducible repeat (first | apply Kd.R_alloc | apply Kd.R_drewN | apply Kd.R_drew)); exact HO_201001.out⟩, ⟨by (try simp only [hl5_2]); (with_reducible repeat (first | refine blk_drewN ?_ _ | refine blk_drew ?_ | refine blk_alloc ?_ _)); exact BK200.out⟩, ⟨by repeat (first | (with_reducible first | exact HB.out | apply below_alloc | apply pw_below_drewN | apply below_drew1 | refine below_set ?_ GE200.out) | exact HB.out)⟩⟩
          case round =>
           clear H'
           try clear c1; try clear p1; try clear q1; try clear hx1; try clear qi1; try clear hf1; try clear c2; try clear p2; try clear q2; try clear hx2; try clear c3; try clear c4; try clear p4; try clear q4; try clear hx4; try clear hf4; try clear c5; try clear c5b0; try clear c5b1; try clear c6; try clear p6; try clear q6; try clear hx6; try clear hf6; try clear c9; try clear c9b0; try clear c9b1; try clear c10; try clear c10b0; try clear c10b1; try clear c11; try clear c11b0; try clear c11b1; try clear p12; try clear q12; try clear hx12; try clear qi12; try clear hf12; try clear c13; try clear c13b0; try clear c13b1; try clear c14; try clear c14b0; try clear c14b1; try clear p15; try clear q15; try clear hx15; try clear hf15; try clear p20; try clear q20; try clear hx20; try clear p21; try clear q21; try clear hx21; try clear c28; try clear c28b0; try clear c31; try clear c31b0; try clear c32; try clear c32b0; try clear c32b1; try clear c33; try clear c34; try clear c34b0; try clear c34b1; try clear c35; try clear c35b0; try clear c35b1; try clear c38; try clear c38b0; try clear c39; try clear c39b0; try clear c43; try clear c45; try clear c45b0; try clear c46; try clear c46b0; try clear p47; try clear q47; try clear hx47; try clear hf47; try clear c51; try clear c51b0; try clear c52; try clear c52b0; try clear c54; try clear c55; try clear c55b0; try clear c55b1; try clear c58; try clear c58b0; try clear c59; try clear c59b0; try clear c63; try clear p64; try clear c65; try clear c66; try clear c66b0; try clear c67; try clear c67b0; try clear p68; try clear q68; try clear hx68; try clear hf68; try clear hcz19_0; try clear hcz19_1; try clear hcz25_0; try clear hcz25_1; try clear hcz30_0; try clear hcz30_1; try clear hcz33_0; try clear hcz33_1; try clear hcz36_0; try clear hcz36_1; try clear hcz40_0; try clear hcz40_1; try clear hcz41_0; try clear hcz41_1; try clear hcz56_0; try clear hcz56_1; try clear hcz61_0; try clear hcz61_1; try clear hcz62_0; try clear hcz62_1; try clear hcz69_0; try clear hcz69_1; try clear hcz73_0; try clear hcz73_1; try clear hcz75_0; try clear hcz75_1; try clear hfz19_0; try clear hfz19_1; try clear hfz25_0; try clear hfz25_1; try clear hfz30_0; try clear hfz30_1; try clear hfz33_0; try clear hfz33_1; try clear hfz36_0; try clear hfz36_1; try clear hfz40_0; try clear hfz40_1; try clear hfz41_0; try clear hfz41_1; try clear hfz56_0; try clear hfz56_1; try clear hfz61_0; try clear hfz61_1; try clear hfz62_0; try clear hfz62_1; try clear hfz69_0; try clear hfz69_1; try clear hfz73_0; try clear hfz73_1; try clear hfz75_0; try clear hfz75_1; try clear hx12_0; try clear hx15_0; try clear hx206_0; try clear hx207_0; try clear hx208_0; try clear hx210_0; try clear hx212_0; try clear hx47_0; try clear hx68_0; try clear p1; try clear p12; try clear p15; try clear p2; try clear p20; try clear p206; try clear p207; try clear p208; try clear p21; try clear p210; try clear p212; try clear p4; try clear p47; try clear p6; try clear p68; try clear q1; try clear q12; try clear q15; try clear q2; try clear q20; try clear q206; try clear q207; try clear q208; try clear q21; try clear q210; try clear q212; try clear q4; try clear q47; try clear q68
           obtain ⟨x3_3, x9_3, rfl, HA, HK3, HO_3, HO_5, HO_201000, HO_201001, BK200, HB⟩ := hrel
           cases gk with
           | zero => exact absurd HA.out (by simp [spec_SentenceCuts.l1])
           | succ k3 =>
            have H := HA.out; clear HA; simp only [spec_SentenceCuts.l1] at H
            by_cases c76 : x9_3 < (x5_2.length : Int)
            ·rw [if_pos c76] at H
             have c76b0 : decide (x9_3 < (x5_2.length : Int)) = true := decide_eq_true c76; clear c76
             by_cases c77 : 0 ≤ x9_3
             ·rw [if_pos c77] at H
              have c77b0 : decide (0 ≤ x9_3) = true := decide_eq_true c77; clear c77; obtain ⟨bq78, hbq78⟩ : ∃ b_ : Bool, b_ = (rdOf false x5_2 x9_3) := ⟨_, rfl⟩
              replace H : (if bq78 = true then (if x9_3 = 0 then (if x9_3 < (t197.length : Int) then (if x3_3.length < 17592186044416 then (spec_SentenceCuts.l1 k3 (x3_3 ++ [rd t197 x9_3]) x5_2 (wrap64 (x9_3 + 1)) t194 t197) else (none)) else (none)) else (if x9_3 = (t194.length : Int) then (if x9_3 < (t197.length : Int) then (if x3_3.length < 17592186044416 then (spec_SentenceCuts.l1 k3 (x3_3 ++ [rd t197 x9_3]) x5_2 (wrap64 (x9_3 + 1)) t194 t197) else (none)) else (none)) else ((W_spec_l07Char.f t194 x9_3).bind fun t226 => (if t226 = true then (if x9_3 < (t197.length : Int) then (if x3_3.length < 17592186044416 then (spec_SentenceCuts.l1 k3 (x3_3 ++ [rd t197 x9_3]) x5_2 (wrap64 (x9_3 + 1)) t194 t197) else (none)) else (none)) else (spec_SentenceCuts.l1 k3 x3_3 x5_2 (wrap64 (x9_3 + 1)) t194 t197))))) else (spec_SentenceCuts.l1 k3 x3_3 x5_2 (wrap64 (x9_3 + 1)) t194 t197)) = some r := by rw [← hbq78] at H; exact H
              have Nbq78 := Aside0.mk hbq78; clear hbq78
              by_cases c79 : bq78 = true
              ·subst c79
               have H1 : (if x9_3 = 0 then (if x9_3 < (t197.length : Int) then (if x3_3.length < 17592186044416 then (spec_SentenceCuts.l1 k3 (x3_3 ++ [rd t197 x9_3]) x5_2 (wrap64 (x9_3 + 1)) t194 t197) else (none)) else (none)) else (if x9_3 = (t194.length : Int) then (if x9_3 < (t197.length : Int) then (if x3_3.length < 17592186044416 then (spec_SentenceCuts.l1 k3 (x3_3 ++ [rd t197 x9_3]) x5_2 (wrap64 (x9_3 + 1)) t194 t197) else (none)) else (none)) else ((W_spec_l07Char.f t194 x9_3).bind fun t226 => (if t226 = true then (if x9_3 < (t197.length : Int) then (if x3_3.length < 17592186044416 then (spec_SentenceCuts.l1 k3 (x3_3 ++ [rd t197 x9_3]) x5_2 (wrap64 (x9_3 + 1)) t194 t197) else (none)) else (none)) else (spec_SentenceCuts.l1 k3 x3_3 x5_2 (wrap64 (x9_3 + 1)) t194 t197))))) = some r := by rw [if_pos rfl] at H; exact H
               clear H; have H := H1; clear H1
               by_cases c80 : x9_3 = 0
               ·rw [if_pos c80] at H
                have c80b0 : (x9_3 == 0) = true := beq_iff_eq.mpr c80; have c80b1 : (x9_3 != 0) = false := bne_eq_false_iff_eq.mpr c80; clear c80
                by_cases c81 : x9_3 < (t197.length : Int)
                ·rw [if_pos c81] at H
                 have c81b0 : decide (x9_3 < (t197.length : Int)) = true := decide_eq_true c81; clear c81
                 by_cases c82 : x3_3.length < 17592186044416
                 ·rw [if_pos c82] at H
                  have LMc82 := Aside0.mk c82; clear c82; obtain ⟨y219, hy219⟩ : ∃ y_ : List Int, y_ = (x3_3 ++ [rd t197 x9_3]) := ⟨_, rfl⟩
                  replace H : (spec_SentenceCuts.l1 k3 y219 x5_2 (wrap64 (x9_3 + 1)) t194 t197) = some r := by first | (rw [hy219]; with_reducible exact H) | (have H2_ := (Option.bind_some _ _).symm.trans H; rw [hy219]; with_reducible exact H2_) | (have H2_ := (Option.bind_some _ _).symm.trans H; with_reducible exact H2_) | with_reducible exact H | (rw [hy219]; exact H) | exact H
                  have Ny219 := Aside0.mk hy219; clear hy219; have H' := Aside0.mk H; clear H
                  have p217 : 0 ≤ (x9_3 : Int) := of_decide_eq_true (by first | (with_reducible assumption) | assumption)
                  have q217 : x9_3 < (x5_2.length : Int) := of_decide_eq_true (by first | (with_reducible assumption) | assumption)
                  obtain ⟨ad217, e217, hx217_0⟩ := Kd.at_bool (Kd.R_reads' HO_5.out).2.2 x9_3 p217 q217
                  (try rw [← Nbq78.out] at hx217_0)
                  obtain rfl : (⟨go12, 0, none⟩ : Addr) = ad217 := (by injection e217)
                  (first | simp only [add_plain] at hx217_0 | simp only [add_at] at hx217_0 | simp only [Addr.add, Nat.zero_add] at hx217_0 | skip)
                  replace p217 := eq_true p217; replace q217 := eq_true q217; have hcz83_0 : wr.cell? ⟨gb200, 0, none⟩ = some (.slice Ao18 t194.length co18) := (blk_cell BK200.out 0).trans rfl; have hcz83_1 : wr.cell? ⟨gb200, 1, none⟩ = some (.slice Ao20 t197.length co20) := (blk_cell BK200.out 1).trans rfl; have hfz83_0 := blk_frozen BK200.out 0; have hfz83_1 := blk_frozen BK200.out 1
                  have p218 : 0 ≤ (x9_3 : Int) := of_decide_eq_true (by first | (with_reducible assumption) | assumption)
                  have q218 : x9_3 < (t197.length : Int) := of_decide_eq_true (by first | (with_reducible assumption) | assumption)
                  obtain ⟨ad218, e218, hx218_0⟩ := Kd.at_int (Kd.R_reads' HO_201001.out).2.2 x9_3 p218 q218; cases e218; replace p218 := eq_true p218; replace q218 := eq_true q218
                  go_wp2_with (first | ((with_reducible refine gate_builtin (b := .append) (xs := #[.tmp 133, .tmp 139]) rfl ?_); (try (refine gate_guard (by rfl) ?_; dsimp only)); at_builtin; refine Kd.R_append (Kd.int .i64) (w0 := w) w.heap.size rfl (.tmp 133) (.tmp 139) 28 2 (.int .i64 0) 8 rfl Tryd.underlying28 info2 rfl (by decide) (by omega) u3 x3_3 (rd t197 x9_3) [.int .i64 (rd t197 x9_3)] (fun k_ => some k_ ≠ (.slice Ao18 t194.length co18 : Value).ownBlock ∧ some k_ ≠ (.slice (some ad218) t197.length co20 : Value).ownBlock) (fun _ => False) rfl rfl ?aP (fun _ hk => hk.elim) ?aF ?aO ?aB ?aS ?aL ?_; (case aP => exact rfl); (case aB => exact (by repeat (first | (with_reducible first | exact HB.out | apply below_alloc | apply pw_below_drewN | apply below_drew1 | refine below_set ?_ GE200.out) | exact HB.out))); (case aF => exact (fun k_ hk => ⟨Kd.fresh' (Kd.R_lt (by (with_reducible repeat (first | apply Kd.R_alloc | apply Kd.R_drewN | apply Kd.R_drew)); exact HO_201000.out)) k_ hk, Kd.fresh' (Kd.R_lt (by (with_reducible repeat (first | apply Kd.R_alloc | apply Kd.R_drewN | apply Kd.R_drew)); exact HO_201001.out)) k_ hk⟩)); (case aO => exact (by (with_reducible repeat (first | apply Kd.R_alloc | apply Kd.R_drewN | apply Kd.R_drew)); exact HO_3.out)); (case aS => exact (below_size (by repeat (first | (with_reducible first | exact HB.out | apply below_alloc | apply pw_below_drewN | apply below_drew1 | refine below_set ?_ GE200.out) | exact HB.out)))); (case aL => have := LMc82.out; omega); intro v220 w84 ho hb hg hat; rw [← Ny219.out] at ho; have n0_ := Aside0.mk (Kd.R_over' (by (with_reducible repeat (first | apply Kd.R_alloc | apply Kd.R_drewN | apply Kd.R_drew)); exact HO_5.out) (Kd.R_typed (by (with_reducible repeat (first | apply Kd.R_alloc | apply Kd.R_drewN | apply Kd.R_drew)); exact HO_3.out)) (by decide) hg); have n1_ := Aside0.mk (Kd.R_after (ok := (fun k_ => some k_ ≠ (.slice (some ad218) t197.length co20 : Value).ownBlock)) (by (with_reducible repeat (first | apply Kd.R_alloc | apply Kd.R_drewN | apply Kd.R_drew)); exact Kd.R_mono HO_201000.out (fun _ hk => ⟨hk.2, hk.1⟩)) hg hat); have n2_ := Aside0.mk (Kd.R_after (ok := (fun k_ => some k_ ≠ (.slice Ao18 t194.length co18 : Value).ownBlock)) (by (with_reducible repeat (first | apply Kd.R_alloc | apply Kd.R_drewN | apply Kd.R_drew)); exact Kd.R_mono HO_201001.out (fun _ hk => ⟨hk.2, hk.1⟩)) hg hat); have n3_ := Aside0.mk (blk_grown (g := gb200) (o := .cells #[.slice Ao18 t194.length co18, .slice (some ad218) t197.length co20] 88 (0, 0)) (by (with_reducible repeat (first | refine blk_drewN ?_ _ | refine blk_drew ?_ | refine blk_alloc ?_ _)); exact BK200.out) hg (Kd.R_ne HO_3.out BK200.out (by decide))); have n4_ := Aside0.mk (hb); have n5_ := Aside0.mk (ho); clear HO_5; clear HO_201000; clear HO_201001; clear BK200; clear HB; clear HO_3; have HO_5 := n0_; have HO_201000 := n1_; have HO_201001 := n2_; have BK200 := n3_; have HB := n4_; have HO221 := n5_; clear n0_ n1_ n2_ n3_ n4_ n5_; clear ho hb hg hat))
                  go_roundg k3
                  case measure => have := HJ1.out; have := HK2.out; have := HK3.out; omega
                  case rel => exact ⟨(y219), (wrap64 (x9_3 + 1)), (by first | rfl | (simp; done) | (simp [*]; done)), H', ⟨by have := HJ1.out; have := HK2.out; have := HK3.out; omega⟩, ⟨by (try simp only [hl5_2]); (with_reducible repeat (first | apply Kd.R_alloc | apply Kd.R_drewN | apply Kd.R_drew)); exact HO221.out⟩, ⟨by (try simp only [hl5_2]); (with_reducible repeat (first | apply Kd.R_alloc | apply Kd.R_drewN | apply Kd.R_drew)); exact HO_5.out⟩, ⟨by (try simp only [hl5_2]); (with_reducible repeat (first | apply Kd.R_alloc | apply Kd.R_drewN | apply Kd.R_drew)); exact Kd.R_mono HO_201000.out (fun _ hk => ⟨hk.2, hk.1⟩)⟩, ⟨by (try simp only [hl5_2]); (with_reducible repeat (first | apply Kd.R_alloc | apply Kd.R_drewN | apply Kd.R_drew)); exact Kd.R_mono HO_201001.out (fun _ hk => ⟨hk.2, hk.1⟩)⟩, ⟨by (try simp only [hl5_2]); (with_reducible repeat (first | refine blk_drewN ?_ _ | refine blk_drew ?_ | refine blk_alloc ?_ _)); exact BK200.out⟩, ⟨by repeat (first | (with_reducible first | exact HB.out | apply below_alloc | apply pw_below_drewN | apply below_drew1 | refine below_set ?_ GE200.out) | exact HB.out)⟩⟩
                 rw [if_neg c82] at H
                 exact absurd H (by simp)
                rw [if_neg c81] at H
                exact absurd H (by simp)
               rw [if_neg c80] at H; have c80b0 : (x9_3 == 0) = false := beq_eq_false_iff_ne.mpr c80; have c80b1 : (x9_3 != 0) = true := bne_iff_ne.mpr c80
               by_cases c85 : x9_3 = (t194.length : Int)
               ·rw [if_pos c85] at H
                have c85b0 : (x9_3 == (t194.length : Int)) = true := beq_iff_eq.mpr c85; have c85b1 : (x9_3 != (t194.length : Int)) = false := bne_eq_false_iff_eq.mpr c85; clear c85
                by_cases c86 : x9_3 < (t197.length : Int)
                ·rw [if_pos c86] at H
                 have c86b0 : decide (x9_3 < (t197.length : Int)) = true := decide_eq_true c86; clear c86
                 by_cases c87 : x3_3.length < 17592186044416
                 ·rw [if_pos c87] at H
                  have LMc87 := Aside0.mk c87; clear c87; obtain ⟨y223, hy223⟩ : ∃ y_ : List Int, y_ = (x3_3 ++ [rd t197 x9_3]) := ⟨_, rfl⟩
                  replace H : (spec_SentenceCuts.l1 k3 y223 x5_2 (wrap64 (x9_3 + 1)) t194 t197) = some r := by first | (rw [hy223]; with_reducible exact H) | (have H2_ := (Option.bind_some _ _).symm.trans H; rw [hy223]; with_reducible exact H2_) | (have H2_ := (Option.bind_some _ _).symm.trans H; with_reducible exact H2_) | with_reducible exact H | (rw [hy223]; exact H) | exact H
                  have Ny223 := Aside0.mk hy223; clear hy223; have H' := Aside0.mk H; clear H
                  have p217 : 0 ≤ (x9_3 : Int) := of_decide_eq_true (by first | (with_reducible assumption) | assumption)
                  have q217 : x9_3 < (x5_2.length : Int) := of_decide_eq_true (by first | (with_reducible assumption) | assumption)
                  obtain ⟨ad217, e217, hx217_0⟩ := Kd.at_bool (Kd.R_reads' HO_5.out).2.2 x9_3 p217 q217
                  (try rw [← Nbq78.out] at hx217_0)
                  obtain rfl : (⟨go12, 0, none⟩ : Addr) = ad217 := (by injection e217)
                  (first | simp only [add_plain] at hx217_0 | simp only [add_at] at hx217_0 | simp only [Addr.add, Nat.zero_add] at hx217_0 | skip)
                  replace p217 := eq_true p217; replace q217 := eq_true q217; have hcz88_0 : wr.cell? ⟨gb200, 0, none⟩ = some (.slice Ao18 t194.length co18) := (blk_cell BK200.out 0).trans rfl; have hcz88_1 : wr.cell? ⟨gb200, 1, none⟩ = some (.slice Ao20 t197.length co20) := (blk_cell BK200.out 1).trans rfl; have hfz88_0 := blk_frozen BK200.out 0; have hfz88_1 := blk_frozen BK200.out 1
                  have p222 : 0 ≤ (x9_3 : Int) := of_decide_eq_true (by first | (with_reducible assumption) | assumption)
                  have q222 : x9_3 < (t197.length : Int) := of_decide_eq_true (by first | (with_reducible assumption) | assumption)
                  obtain ⟨ad222, e222, hx222_0⟩ := Kd.at_int (Kd.R_reads' HO_201001.out).2.2 x9_3 p222 q222; cases e222; replace p222 := eq_true p222; replace q222 := eq_true q222
                  go_wp2_with (first | ((with_reducible refine gate_builtin (b := .append) (xs := #[.tmp 133, .tmp 139]) rfl ?_); (try (refine gate_guard (by rfl) ?_; dsimp only)); at_builtin; refine Kd.R_append (Kd.int .i64) (w0 := w) w.heap.size rfl (.tmp 133) (.tmp 139) 28 2 (.int .i64 0) 8 rfl Tryd.underlying28 info2 rfl (by decide) (by omega) u3 x3_3 (rd t197 x9_3) [.int .i64 (rd t197 x9_3)] (fun k_ => some k_ ≠ (.slice Ao18 t194.length co18 : Value).ownBlock ∧ some k_ ≠ (.slice (some ad222) t197.length co20 : Value).ownBlock) (fun _ => False) rfl rfl ?aP (fun _ hk => hk.elim) ?aF ?aO ?aB ?aS ?aL ?_; (case aP => exact rfl); (case aB => exact (by repeat (first | (with_reducible first | exact HB.out | apply below_alloc | apply pw_below_drewN | apply below_drew1 | refine below_set ?_ GE200.out) | exact HB.out))); (case aF => exact (fun k_ hk => ⟨Kd.fresh' (Kd.R_lt (by (with_reducible repeat (first | apply Kd.R_alloc | apply Kd.R_drewN | apply Kd.R_drew)); exact HO_201000.out)) k_ hk, Kd.fresh' (Kd.R_lt (by (with_reducible repeat (first | apply Kd.R_alloc | apply Kd.R_drewN | apply Kd.R_drew)); exact HO_201001.out)) k_ hk⟩)); (case aO => exact (by (with_reducible repeat (first | apply Kd.R_alloc | apply Kd.R_drewN | apply Kd.R_drew)); exact HO_3.out)); (case aS => exact (below_size (by repeat (first | (with_reducible first | exact HB.out | apply below_alloc | apply pw_below_drewN | apply below_drew1 | refine below_set ?_ GE200.out) | exact HB.out)))); (case aL => have := LMc87.out; omega); intro v224 w89 ho hb hg hat; rw [← Ny223.out] at ho; have n0_ := Aside0.mk (Kd.R_over' (by (with_reducible repeat (first | apply Kd.R_alloc | apply Kd.R_drewN | apply Kd.R_drew)); exact HO_5.out) (Kd.R_typed (by (with_reducible repeat (first | apply Kd.R_alloc | apply Kd.R_drewN | apply Kd.R_drew)); exact HO_3.out)) (by decide) hg); have n1_ := Aside0.mk (Kd.R_after (ok := (fun k_ => some k_ ≠ (.slice (some ad222) t197.length co20 : Value).ownBlock)) (by (with_reducible repeat (first | apply Kd.R_alloc | apply Kd.R_drewN | apply Kd.R_drew)); exact Kd.R_mono HO_201000.out (fun _ hk => ⟨hk.2, hk.1⟩)) hg hat); have n2_ := Aside0.mk (Kd.R_after (ok := (fun k_ => some k_ ≠ (.slice Ao18 t194.length co18 : Value).ownBlock)) (by (with_reducible repeat (first | apply Kd.R_alloc | apply Kd.R_drewN | apply Kd.R_drew)); exact Kd.R_mono HO_201001.out (fun _ hk => ⟨hk.2, hk.1⟩)) hg hat); have n3_ := Aside0.mk (blk_grown (g := gb200) (o := .cells #[.slice Ao18 t194.length co18, .slice (some ad222) t197.length co20] 88 (0, 0)) (by (with_reducible repeat (first | refine blk_drewN ?_ _ | refine blk_drew ?_ | refine blk_alloc ?_ _)); exact BK200.out) hg (Kd.R_ne HO_3.out BK200.out (by decide))); have n4_ := Aside0.mk (hb); have n5_ := Aside0.mk (ho); clear HO_5; clear HO_201000; clear HO_201001; clear BK200; clear HB; clear HO_3; have HO_5 := n0_; have HO_201000 := n1_; have HO_201001 := n2_; have BK200 := n3_; have HB := n4_; have HO225 := n5_; clear n0_ n1_ n2_ n3_ n4_ n5_; clear ho hb hg hat))
                  go_roundg k3
                  case measure => have := HJ1.out; have := HK2.out; have := HK3.out; omega
                  case rel => exact ⟨(y223), (wrap64 (x9_3 + 1)), (by first | rfl | (simp; done) | (simp [*]; done)), H', ⟨by have := HJ1.out; have := HK2.out; have := HK3.out; omega⟩, ⟨by (try simp only [hl5_2]); (with_reducible repeat (first | apply Kd.R_alloc | apply Kd.R_drewN | apply Kd.R_drew)); exact HO225.out⟩, ⟨by (try simp only [hl5_2]); (with_reducible repeat (first | apply Kd.R_alloc | apply Kd.R_drewN | apply Kd.R_drew)); exact HO_5.out⟩, ⟨by (try simp only [hl5_2]); (with_reducible repeat (first | apply Kd.R_alloc | apply Kd.R_drewN | apply Kd.R_drew)); exact Kd.R_mono HO_201000.out (fun _ hk => ⟨hk.2, hk.1⟩)⟩, ⟨by (try simp only [hl5_2]); (with_reducible repeat (first | apply Kd.R_alloc | apply Kd.R_drewN | apply Kd.R_drew)); exact Kd.R_mono HO_201001.out (fun _ hk => ⟨hk.2, hk.1⟩)⟩, ⟨by (try simp only [hl5_2]); (with_reducible repeat (first | refine blk_drewN ?_ _ | refine blk_drew ?_ | refine blk_alloc ?_ _)); exact BK200.out⟩, ⟨by repeat (first | (with_reducible first | exact HB.out | apply below_alloc | apply pw_below_drewN | apply below_drew1 | refine below_set ?_ GE200.out) | exact HB.out)⟩⟩
                 rw [if_neg c87] at H
                 exact absurd H (by simp)
                rw [if_neg c86] at H
                exact absurd H (by simp)
               rw [if_neg c85] at H; have c85b0 : (x9_3 == (t194.length : Int)) = false := beq_eq_false_iff_ne.mpr c85; have c85b1 : (x9_3 != (t194.length : Int)) = true := bne_iff_ne.mpr c85; replace H := Option.bind_eq_some_iff.mp H; obtain ⟨t226, A900, H⟩ := H
               try dsimp only at H
               have A90 := Aside0.mk A900; clear A900
               by_cases c91 : t226 = true
               ·subst c91
                have H1 : (if x9_3 < (t197.length : Int) then (if x3_3.length < 17592186044416 then (spec_SentenceCuts.l1 k3 (x3_3 ++ [rd t197 x9_3]) x5_2 (wrap64 (x9_3 + 1)) t194 t197) else (none)) else (none)) = some r := by rw [if_pos rfl] at H; exact H
                clear H; have H := H1; clear H1
                by_cases c92 : x9_3 < (t197.length : Int)
                ·rw [if_pos c92] at H
                 have c92b0 : decide (x9_3 < (t197.length : Int)) = true := decide_eq_true c92; clear c92
                 by_cases c93 : x3_3.length < 17592186044416
                 ·rw [if_pos c93] at H
                  have LMc93 := Aside0.mk c93; clear c93; obtain ⟨y228, hy228⟩ : ∃ y_ : List Int, y_ = (x3_3 ++ [rd t197 x9_3]) := ⟨_, rfl⟩
                  replace H : (spec_SentenceCuts.l1 k3 y228 x5_2 (wrap64 (x9_3 + 1)) t194 t197) = some r := by first | (rw [hy228]; with_reducible exact H) | (have H2_ := (Option.bind_some _ _).symm.trans H; rw [hy228]; with_reducible exact H2_) | (have H2_ := (Option.bind_some _ _).symm.trans H; with_reducible exact H2_) | with_reducible exact H | (rw [hy228]; exact H) | exact H
                  have Ny228 := Aside0.mk hy228; clear hy228; have H' := Aside0.mk H; clear H
                  have p217 : 0 ≤ (x9_3 : Int) := of_decide_eq_true (by first | (with_reducible assumption) | assumption)
                  have q217 : x9_3 < (x5_2.length : Int) := of_decide_eq_true (by first | (with_reducible assumption) | assumption)
                  obtain ⟨ad217, e217, hx217_0⟩ := Kd.at_bool (Kd.R_reads' HO_5.out).2.2 x9_3 p217 q217
                  (try rw [← Nbq78.out] at hx217_0)
                  obtain rfl : (⟨go12, 0, none⟩ : Addr) = ad217 := (by injection e217)
                  (first | simp only [add_plain] at hx217_0 | simp only [add_at] at hx217_0 | simp only [Addr.add, Nat.zero_add] at hx217_0 | skip)
                  replace p217 := eq_true p217; replace q217 := eq_true q217; have hcz94_0 : wr.cell? ⟨gb200, 0, none⟩ = some (.slice Ao18 t194.length co18) := (blk_cell BK200.out 0).trans rfl; have hcz94_1 : wr.cell? ⟨gb200, 1, none⟩ = some (.slice Ao20 t197.length co20) := (blk_cell BK200.out 1).trans rfl; have hfz94_0 := blk_frozen BK200.out 0; have hfz94_1 := blk_frozen BK200.out 1
                  go_wp2_with (first | (go_at_call 112; (with_reducible refine (W_spec_l07Char.calls _ _ t194 x9_3 true _ ?side1 ?side2 A90.out).mono ?_); (case side1 => repeat (first | exact (Kd.R_reads' HO_201000.out).2.2 | (with_reducible refine Kd.C_alloc ?_ _) | (with_reducible refine Kd.C_drewN ?_ _) | (with_reducible refine Kd.C_drew ?_))); (case side2 => exact (Kd.R_reads' HO_201000.out).2.1); rintro e w95 ⟨rfl, hb⟩; have n0_ := Aside0.mk (Kd.R_below (by (with_reducible repeat (first | apply Kd.R_alloc | apply Kd.R_drewN | apply Kd.R_drew)); exact HO_3.out) hb); have n1_ := Aside0.mk (Kd.R_below (by (with_reducible repeat (first | apply Kd.R_alloc | apply Kd.R_drewN | apply Kd.R_drew)); exact HO_5.out) hb); have n2_ := Aside0.mk (Kd.R_below (by (with_reducible repeat (first | apply Kd.R_alloc | apply Kd.R_drewN | apply Kd.R_drew)); exact HO_201000.out) hb); have n3_ := Aside0.mk (Kd.R_below (by (with_reducible repeat (first | apply Kd.R_alloc | apply Kd.R_drewN | apply Kd.R_drew)); exact HO_201001.out) hb); have n4_ := Aside0.mk (blk_below (g := gb200) (o := .cells #[.slice Ao18 t194.length co18, .slice Ao20 t197.length co20] 88 (0, 0)) (by (with_reducible repeat (first | refine blk_drewN ?_ _ | refine blk_drew ?_ | refine blk_alloc ?_ _)); exact BK200.out) hb); have n5_ := Aside0.mk (below_step (by repeat (first | (with_reducible first | exact HB.out | apply below_alloc | apply pw_below_drewN | apply below_drew1 | refine below_set ?_ GE200.out) | exact HB.out)) hb); clear HO_3; clear HO_5; clear HO_201000; clear HO_201001; clear BK200; clear HB; have HO_3 := n0_; have HO_5 := n1_; have HO_201000 := n2_; have HO_201001 := n3_; have BK200 := n4_; have HB := n5_; clear n0_ n1_ n2_ n3_ n4_ n5_; (try clear hb); (try clear hb2); (try clear hk); (try clear hi); have hcz96_0 : w95.cell? ⟨gb200, 0, none⟩ = some (.slice Ao18 t194.length co18) := (blk_cell BK200.out 0).trans rfl; have hcz96_1 : w95.cell? ⟨gb200, 1, none⟩ = some (.slice Ao20 t197.length co20) := (blk_cell BK200.out 1).trans rfl; have hfz96_0 := blk_frozen BK200.out 0; have hfz96_1 := blk_frozen BK200.out 1; have p227 : 0 ≤ (x9_3 : Int) := of_decide_eq_true (by first | (with_reducible assumption) | assumption); have q227 : x9_3 < (t197.length : Int) := of_decide_eq_true (by first | (with_reducible assumption) | assumption); obtain ⟨ad227, e227, hx227_0⟩ := Kd.at_int (Kd.R_reads' HO_201001.out).2.2 x9_3 p227 q227; cases e227; replace p227 := eq_true p227; replace q227 := eq_true q227) | ((with_reducible refine gate_builtin (b := .append) (xs := #[.tmp 133, .tmp 139]) rfl ?_); (try (refine gate_guard (by rfl) ?_; dsimp only)); at_builtin; refine Kd.R_append (Kd.int .i64) (w0 := w) w.heap.size rfl (.tmp 133) (.tmp 139) 28 2 (.int .i64 0) 8 rfl Tryd.underlying28 info2 rfl (by decide) (by omega) u3 x3_3 (rd t197 x9_3) [.int .i64 (rd t197 x9_3)] (fun k_ => some k_ ≠ (.slice Ao18 t194.length co18 : Value).ownBlock ∧ some k_ ≠ (.slice (some ad227) t197.length co20 : Value).ownBlock) (fun _ => False) rfl rfl ?aP (fun _ hk => hk.elim) ?aF ?aO ?aB ?aS ?aL ?_; (case aP => exact rfl); (case aB => exact (by repeat (first | (with_reducible first | exact HB.out | apply below_alloc | apply pw_below_drewN | apply below_drew1 | refine below_set ?_ GE200.out) | exact HB.out))); (case aF => exact (fun k_ hk => ⟨Kd.fresh' (Kd.R_lt (by (with_reducible repeat (first | apply Kd.R_alloc | apply Kd.R_drewN | apply Kd.R_drew)); exact HO_201000.out)) k_ hk, Kd.fresh' (Kd.R_lt (by (with_reducible repeat (first | apply Kd.R_alloc | apply Kd.R_drewN | apply Kd.R_drew)); exact HO_201001.out)) k_ hk⟩)); (case aO => exact (by (with_reducible repeat (first | apply Kd.R_alloc | apply Kd.R_drewN | apply Kd.R_drew)); exact HO_3.out)); (case aS => exact (below_size (by repeat (first | (with_reducible first | exact HB.out | apply below_alloc | apply pw_below_drewN | apply below_drew1 | refine below_set ?_ GE200.out) | exact HB.out)))); (case aL => have := LMc93.out; omega); intro v229 w97 ho hb hg hat; rw [← Ny228.out] at ho; have n0_ := Aside0.mk (Kd.R_over' (by (with_reducible repeat (first | apply Kd.R_alloc | apply Kd.R_drewN | apply Kd.R_drew)); exact HO_5.out) (Kd.R_typed (by (with_reducible repeat (first | apply Kd.R_alloc | apply Kd.R_drewN | apply Kd.R_drew)); exact HO_3.out)) (by decide) hg); have n1_ := Aside0.mk (Kd.R_after (ok := (fun k_ => some k_ ≠ (.slice (some ad227) t197.length co20 : Value).ownBlock)) (by (with_reducible repeat (first | apply Kd.R_alloc | apply Kd.R_drewN | apply Kd.R_drew)); exact Kd.R_mono HO_201000.out (fun _ hk => ⟨hk.2, hk.1⟩)) hg hat); have n2_ := Aside0.mk (Kd.R_after (ok := (fun k_ => some k_ ≠ (.slice Ao18 t194.length co18 : Value).ownBlock)) (by (with_reducible repeat (first | apply Kd.R_alloc | apply Kd.R_drewN | apply Kd.R_drew)); exact Kd.R_mono HO_201001.out (fun _ hk => ⟨hk.2, hk.1⟩)) hg hat); have n3_ := Aside0.mk (blk_grown (g := gb200) (o := .cells #[.slice Ao18 t194.length co18, .slice (some ad227) t197.length co20] 88 (0, 0)) (by (with_reducible repeat (first | refine blk_drewN ?_ _ | refine blk_drew ?_ | refine blk_alloc ?_ _)); exact BK200.out) hg (Kd.R_ne HO_3.out BK200.out (by decide))); have n4_ := Aside0.mk (hb); have n5_ := Aside0.mk (ho); clear HO_5; clear HO_201000; clear HO_201001; clear BK200; clear HB; clear HO_3; have HO_5 := n0_; have HO_201000 := n1_; have HO_201001 := n2_; have BK200 := n3_; have HB := n4_; have HO230 := n5_; clear n0_ n1_ n2_ n3_ n4_ n5_; clear ho hb hg hat))
                  go_roundg k3
                  case measure => have := HJ1.out; have := HK2.out; have := HK3.out; omega
                  case rel => exact ⟨(y228), (wrap64 (x9_3 + 1)), (by first | rfl | (simp; done) | (simp [*]; done)), H', ⟨by have := HJ1.out; have := HK2.out; have := HK3.out; omega⟩, ⟨by (try simp only [hl5_2]); (with_reducible repeat (first | apply Kd.R_alloc | apply Kd.R_drewN | apply Kd.R_drew)); exact HO230.out⟩, ⟨by (try simp only [hl5_2]); (with_reducible repeat (first | apply Kd.R_alloc | apply Kd.R_drewN | apply Kd.R_drew)); exact HO_5.out⟩, ⟨by (try simp only [hl5_2]); (with_reducible repeat (first | apply Kd.R_alloc | apply Kd.R_drewN | apply Kd.R_drew)); exact Kd.R_mono HO_201000.out (fun _ hk => ⟨hk.2, hk.1⟩)⟩, ⟨by (try simp only [hl5_2]); (with_reducible repeat (first | apply Kd.R_alloc | apply Kd.R_drewN | apply Kd.R_drew)); exact Kd.R_mono HO_201001.out (fun _ hk => ⟨hk.2, hk.1⟩)⟩, ⟨by (try simp only [hl5_2]); (with_reducible repeat (first | refine blk_drewN ?_ _ | refine blk_drew ?_ | refine blk_alloc ?_ _)); exact BK200.out⟩, ⟨by repeat (first | (with_reducible first | exact HB.out | apply below_alloc | apply pw_below_drewN | apply below_drew1 | refine below_set ?_ GE200.out) | exact HB.out)⟩⟩
                 rw [if_neg c93] at H
                 exact absurd H (by simp)
                rw [if_neg c92] at H
                exact absurd H (by simp)
               replace c91 := Bool.eq_false_iff.mpr c91; subst c91
               have H1 : (spec_SentenceCuts.l1 k3 x3_3 x5_2 (wrap64 (x9_3 + 1)) t194 t197) = some r := by rw [if_neg (show ¬ (false = true) by decide)] at H; exact H
               clear H; have H := H1; clear H1; have H' := Aside0.mk H; clear H
               have p217 : 0 ≤ (x9_3 : Int) := of_decide_eq_true (by first | (with_reducible assumption) | assumption)
               have q217 : x9_3 < (x5_2.length : Int) := of_decide_eq_true (by first | (with_reducible assumption) | assumption)
               obtain ⟨ad217, e217, hx217_0⟩ := Kd.at_bool (Kd.R_reads' HO_5.out).2.2 x9_3 p217 q217
               (try rw [← Nbq78.out] at hx217_0)
               obtain rfl : (⟨go12, 0, none⟩ : Addr) = ad217 := (by injection e217)
               (first | simp only [add_plain] at hx217_0 | simp only [add_at] at hx217_0 | simp only [Addr.add, Nat.zero_add] at hx217_0 | skip)
               replace p217 := eq_true p217; replace q217 := eq_true q217; have hcz98_0 : wr.cell? ⟨gb200, 0, none⟩ = some (.slice Ao18 t194.length co18) := (blk_cell BK200.out 0).trans rfl; have hcz98_1 : wr.cell? ⟨gb200, 1, none⟩ = some (.slice Ao20 t197.length co20) := (blk_cell BK200.out 1).trans rfl; have hfz98_0 := blk_frozen BK200.out 0; have hfz98_1 := blk_frozen BK200.out 1
               go_wp2_with (first | (go_at_call 112; (with_reducible refine (W_spec_l07Char.calls _ _ t194 x9_3 false _ ?side1 ?side2 A90.out).mono ?_); (case side1 => repeat (first | exact (Kd.R_reads' HO_201000.out).2.2 | (with_reducible refine Kd.C_alloc ?_ _) | (with_reducible refine Kd.C_drewN ?_ _) | (with_reducible refine Kd.C_drew ?_))); (case side2 => exact (Kd.R_reads' HO_201000.out).2.1); rintro e w99 ⟨rfl, hb⟩; have n0_ := Aside0.mk (Kd.R_below (by (with_reducible repeat (first | apply Kd.R_alloc | apply Kd.R_drewN | apply Kd.R_drew)); exact HO_3.out) hb); have n1_ := Aside0.mk (Kd.R_below (by (with_reducible repeat (first | apply Kd.R_alloc | apply Kd.R_drewN | apply Kd.R_drew)); exact HO_5.out) hb); have n2_ := Aside0.mk (Kd.R_below (by (with_reducible repeat (first | apply Kd.R_alloc | apply Kd.R_drewN | apply Kd.R_drew)); exact HO_201000.out) hb); have n3_ := Aside0.mk (Kd.R_below (by (with_reducible repeat (first | apply Kd.R_alloc | apply Kd.R_drewN | apply Kd.R_drew)); exact HO_201001.out) hb); have n4_ := Aside0.mk (blk_below (g := gb200) (o := .cells #[.slice Ao18 t194.length co18, .slice Ao20 t197.length co20] 88 (0, 0)) (by (with_reducible repeat (first | refine blk_drewN ?_ _ | refine blk_drew ?_ | refine blk_alloc ?_ _)); exact BK200.out) hb); have n5_ := Aside0.mk (below_step (by repeat (first | (with_reducible first | exact HB.out | apply below_alloc | apply pw_below_drewN | apply below_drew1 | refine below_set ?_ GE200.out) | exact HB.out)) hb); clear HO_3; clear HO_5; clear HO_201000; clear HO_201001; clear BK200; clear HB; have HO_3 := n0_; have HO_5 := n1_; have HO_201000 := n2_; have HO_201001 := n3_; have BK200 := n4_; have HB := n5_; clear n0_ n1_ n2_ n3_ n4_ n5_; (try clear hb); (try clear hb2); (try clear hk); (try clear hi)))
               go_roundg k3
               case measure => have := HJ1.out; have := HK2.out; have := HK3.out; omega
               case rel => exact ⟨(x3_3), (wrap64 (x9_3 + 1)), (by first | rfl | (simp; done) | (simp [*]; done)), H', ⟨by have := HJ1.out; have := HK2.out; have := HK3.out; omega⟩, ⟨by (try simp only [hl5_2]); (with_reducible repeat (first | apply Kd.R_alloc | apply Kd.R_drewN | apply Kd.R_drew)); exact HO_3.out⟩, ⟨by (try simp only [hl5_2]); (with_reducible repeat (first | apply Kd.R_alloc | apply Kd.R_drewN | apply Kd.R_drew)); exact HO_5.out⟩, ⟨by (try simp only [hl5_2]); (with_reducible repeat (first | apply Kd.R_alloc | apply Kd.R_drewN | apply Kd.R_drew)); exact HO_201000.out⟩, ⟨by (try simp only [hl5_2]); (with_reducible repeat (first | apply Kd.R_alloc | apply Kd.R_drewN | apply Kd.R_drew)); exact HO_201001.out⟩, ⟨by (try simp only [hl5_2]); (with_reducible repeat (first | refine blk_drewN ?_ _ | refine blk_drew ?_ | refine blk_alloc ?_ _)); exact BK200.out⟩, ⟨by repeat (first | (with_reducible first | exact HB.out | apply below_alloc | apply pw_below_drewN | apply below_drew1 | refine below_set ?_ GE200.out) | exact HB.out)⟩⟩
              replace c79 := Bool.eq_false_iff.mpr c79; subst c79
              have H1 : (spec_SentenceCuts.l1 k3 x3_3 x5_2 (wrap64 (x9_3 + 1)) t194 t197) = some r := by rw [if_neg (show ¬ (false = true) by decide)] at H; exact H
              clear H; have H := H1; clear H1; have H' := Aside0.mk H; clear H
              have p217 : 0 ≤ (x9_3 : Int) := of_decide_eq_true (by first | (with_reducible assumption) | assumption)
              have q217 : x9_3 < (x5_2.length : Int) := of_decide_eq_true (by first | (with_reducible assumption) | assumption)
              obtain ⟨ad217, e217, hx217_0⟩ := Kd.at_bool (Kd.R_reads' HO_5.out).2.2 x9_3 p217 q217
              (try rw [← Nbq78.out] at hx217_0)
              obtain rfl : (⟨go12, 0, none⟩ : Addr) = ad217 := (by injection e217)
              (first | simp only [add_plain] at hx217_0 | simp only [add_at] at hx217_0 | simp only [Addr.add, Nat.zero_add] at hx217_0 | skip)
              replace p217 := eq_true p217; replace q217 := eq_true q217
              go_wp2
              go_roundg k3
              case measure => have := HJ1.out; have := HK2.out; have := HK3.out; omega
              case rel => exact ⟨(x3_3), (wrap64 (x9_3 + 1)), (by first | rfl | (simp; done) | (simp [*]; done)), H', ⟨by have := HJ1.out; have := HK2.out; have := HK3.out; omega⟩, ⟨by (try simp only [hl5_2]); (with_reducible repeat (first | apply Kd.R_alloc | apply Kd.R_drewN | apply Kd.R_drew)); exact HO_3.out⟩, ⟨by (try simp only [hl5_2]); (with_reducible repeat (first | apply Kd.R_alloc | apply Kd.R_drewN | apply Kd.R_drew)); exact HO_5.out⟩, ⟨by (try simp only [hl5_2]); (with_reducible repeat (first | apply Kd.R_alloc | apply Kd.R_drewN | apply Kd.R_drew)); exact HO_201000.out⟩, ⟨by (try simp only [hl5_2]); (with_reducible repeat (first | apply Kd.R_alloc | apply Kd.R_drewN | apply Kd.R_drew)); exact HO_201001.out⟩, ⟨by (try simp only [hl5_2]); (with_reducible repeat (first | refine blk_drewN ?_ _ | refine blk_drew ?_ | refine blk_alloc ?_ _)); exact BK200.out⟩, ⟨by repeat (first | (with_reducible first | exact HB.out | apply below_alloc | apply pw_below_drewN | apply below_drew1 | refine below_set ?_ GE200.out) | exact HB.out)⟩⟩
             rw [if_neg c77] at H
             exact absurd H (by simp)
            rw [if_neg c76] at H; have c76b0 : decide (x9_3 < (x5_2.length : Int)) = false := decide_eq_false c76
            (try simp only [hl5_2] at c76b0)
            (try simp only [hl5_41] at c76b0)
            clear c76; obtain rfl := Option.some.inj H
            go_wp2
            go_ret
            exact ⟨_, by first | rfl | (simp [errW_none, errW_some] <;> rfl) | (simp only [← hji8]; first | rfl | (simp [errW_none, errW_some] <;> rfl)) | (simp [*, errW_none, errW_some] <;> rfl), by (with_reducible repeat (first | apply Kd.R_alloc | apply Kd.R_drewN | apply Kd.R_drew)); exact Kd.R_mono HO_3.out (fun _ hk => trivial), by repeat (first | (with_reducible first | exact HB.out | apply below_alloc | apply pw_below_drewN | apply below_drew1 | refine below_set ?_ GE200.out) | exact HB.out)⟩
       rw [if_neg c14] at H
       exact absurd H (by simp)
      rw [if_neg c13] at H
      exact absurd H (by simp)
     rw [if_neg c11] at H
     exact absurd H (by simp)
    rw [if_neg c10] at H
    exact absurd H (by simp)
   rw [if_neg c9] at H
   exact absurd H (by simp)

def W_spec_SentenceCuts.f (t : ByteArray) : Option (List Int) := if t.size ≤ 100000000 then some (if (t.size : Int) > 65536 then [] else YtiabgmddnddeiaaDoorSen.cuts (bytesOf t)) else none
theorem spec_SentenceCuts.char {l : List Int} (hp : ∀ p ∈ l, 0 ≤ p ∧ p ≤ 1114111) (hl : l.length ≤ 100000000) {i : Nat} (h1 : 1 ≤ i) (h2 : i < l.length) : W_spec_l07Char.f l (i : Int) = some ((YtiabgmddnddeiaaDoorChr.go none false false 0 l).getD i false) := by
  have hgl := YtiabgmddnddeiaaDoorChr.go_length l none false false 0
  have hi : i < (YtiabgmddnddeiaaDoorChr.go none false false 0 l).length := by omega
  have hb := congrArg (fun z => z[i]?) (YtiabgmddnddeiaaDoorChr.go_back l [])
  simp only [List.head?_nil, List.append_nil, List.getElem?_map, List.getElem?_range h2, Option.map_some] at hb
  have hb2 : (YtiabgmddnddeiaaDoorChr.go none false false 0 l).getD i false = YtiabgmddnddeiaaDoorChr.cutS ((l.take i).reverse) (l.getD i 0) := by
    have := (List.getElem?_eq_getElem hi).symm.trans hb
    rw [List.getD_eq_getElem?_getD, List.getElem?_eq_getElem hi]
    exact Option.some.inj this
  unfold W_spec_l07Char.f
  rw [if_pos ⟨by omega, by omega, by omega, hp⟩, Int.toNat_natCast, hb2]
def spec_SentenceCuts.Hs (l : List Int) (c : List Bool) : List Bool := (List.range l.length).map (fun j => c.getD j false && (j == 0 || (YtiabgmddnddeiaaDoorChr.go none false false 0 l).getD j false))
theorem spec_SentenceCuts.app {acc S N : List Int} {f : Int} : some (acc ++ [f] ++ S ++ N) = some (acc ++ ([f] ++ S) ++ N) := by rw [List.append_assoc acc]
theorem spec_SentenceCuts.last (l F : List Int) (n : Int) (hp : ∀ p ∈ l, 0 ≤ p ∧ p ≤ 1114111) (hl : l.length ≤ 100000000) (hF : F.length = l.length) (c : List Bool) (hc : c.length = l.length + 1) (hn : c.getD l.length false = true) (d : Nat) : ∀ (i : Nat) (acc : List Int), l.length - i = d → i ≤ l.length → acc.length + d ≤ 200000000 →
    ∃ k, spec_SentenceCuts.l1 k acc c (i : Int) l (F ++ [n]) = some (acc ++ YtiabgmddnddeiaaDoorChr.sel (F.drop i) ((spec_SentenceCuts.Hs l c).drop i) ++ [n]) := by
  induction d with
  | zero =>
    intro i acc h0 h1 h2
    obtain rfl : i = l.length := by omega
    have hr : rdOf false c (l.length : Int) = true := by simp only [rdOf, Int.toNat_natCast]; exact hn
    have hr2 : rd (F ++ [n]) (l.length : Int) = n := by simp [rd, List.getD, ← hF]
    have al : acc.length < 17592186044416 := by omega
    have nl2 : ¬ ((l.length + 1 : Nat) : Int) < (c.length : Int) := by omega
    have l0 : (0 : Int) ≤ (l.length : Int) := by omega
    have l1_ : (l.length : Int) < (c.length : Int) := by omega
    have hlF : ((l.length : Nat) : Int) < ((F ++ [n]).length : Int) := by rw [List.length_append]; simp only [List.length_cons, List.length_nil]; omega
    have hw : wrap64 ((l.length : Int) + 1) = ((l.length + 1 : Nat) : Int) := by unfold wrap64; omega
    have e : YtiabgmddnddeiaaDoorChr.sel (F.drop l.length) ((spec_SentenceCuts.Hs l c).drop l.length) = [] := by rw [List.drop_eq_nil_of_le (by omega)]; simp [YtiabgmddnddeiaaDoorChr.sel]
    refine ⟨2, ?_⟩
    simp only [spec_SentenceCuts.l1]
    rw [if_pos l1_, if_pos l0, hr, if_pos rfl, hr2, hw, e, List.append_nil]
    by_cases z : (l.length : Int) = 0
    · rw [if_pos z, if_pos hlF, if_pos al, if_neg nl2]
    · rw [if_neg z, if_pos trivial, if_pos hlF, if_pos al, if_neg nl2]
  | succ d ih =>
    intro i acc h0 h1 h2
    have hlt : i < l.length := by omega
    have hF2 : i < F.length := by omega
    have hHl : (spec_SentenceCuts.Hs l c).length = l.length := by simp [spec_SentenceCuts.Hs]
    have hi : i < (spec_SentenceCuts.Hs l c).length := by omega
    have hH : (spec_SentenceCuts.Hs l c)[i] = (c.getD i false && (i == 0 || (YtiabgmddnddeiaaDoorChr.go none false false 0 l).getD i false)) := by simp [spec_SentenceCuts.Hs]
    have hr : rdOf false c (i : Int) = c.getD i false := by simp only [rdOf, Int.toNat_natCast]
    have hr2 : rd (F ++ [n]) (i : Int) = F[i] := by simp [rd, List.getD, List.getElem?_append_left hF2, hF2]
    have hlF : ((i : Nat) : Int) < ((F ++ [n]).length : Int) := by rw [List.length_append]; omega
    rw [YtiabgmddnddeiaaDoorChr.sel_drop hF2 hi, hH]
    have yes : ∃ k, spec_SentenceCuts.l1 k (acc ++ [F[i]]) c ((i + 1 : Nat) : Int) l (F ++ [n]) = some (acc ++ [F[i]] ++ YtiabgmddnddeiaaDoorChr.sel (F.drop (i + 1)) ((spec_SentenceCuts.Hs l c).drop (i + 1)) ++ [n]) := ih (i + 1) (acc ++ [F[i]]) (by omega) (by omega) (by rw [List.length_append]; simp only [List.length_cons, List.length_nil]; omega)
    have no := ih (i + 1) acc (by omega) (by omega) (by omega)
    have il : (i : Int) < (c.length : Int) := by omega
    have i0 : (0 : Int) ≤ (i : Int) := by omega
    have al : acc.length < 17592186044416 := by omega
    have nl : ¬ (i : Int) = (l.length : Int) := by omega
    have hii : i ≠ 0 → ¬ (i : Int) = 0 := by omega
    have hi1 : i ≠ 0 → 1 ≤ i := by omega
    have hi2 : i = 0 → (i : Int) = 0 := by omega
    have hw : wrap64 ((i : Int) + 1) = ((i + 1 : Nat) : Int) := by unfold wrap64; omega
    clear ih h0 h1 h2 hF hc hHl
    by_cases g : c.getD i false = true
    · by_cases z : i = 0
      · obtain ⟨k, hk⟩ := yes
        refine ⟨k + 1, ?_⟩
        simp only [spec_SentenceCuts.l1]
        have z0 := hi2 z
        have hB : (c.getD i false && (i == 0 || (YtiabgmddnddeiaaDoorChr.go none false false 0 l).getD i false)) = true := by rw [g, z]; rfl
        rw [if_pos il, if_pos i0, hr, if_pos g, if_pos z0, if_pos hlF, if_pos al, hr2, hw, hk, hB, if_pos rfl]
        exact spec_SentenceCuts.app
      · cases e : (YtiabgmddnddeiaaDoorChr.go none false false 0 l).getD i false with
        | true =>
          obtain ⟨k, hk⟩ := yes
          refine ⟨k + 1, ?_⟩
          simp only [spec_SentenceCuts.l1]
          have z0 := hii z
          have hB : (c.getD i false && (i == 0 || true)) = true := by rw [g, Bool.or_true]; rfl
          rw [if_pos il, if_pos i0, hr, if_pos g, if_neg z0, if_neg nl, spec_SentenceCuts.char hp hl (hi1 z) hlt, e]
          simp only [Option.bind_some]
          rw [if_pos trivial, if_pos hlF, if_pos al, hr2, hw, hk, hB, if_pos rfl]
          exact spec_SentenceCuts.app
        | false =>
          obtain ⟨k, hk⟩ := no
          refine ⟨k + 1, ?_⟩
          simp only [spec_SentenceCuts.l1]
          have z0 := hii z
          have hB : (c.getD i false && (i == 0 || false)) = false := by rw [show (i == 0) = false by simpa using z, Bool.or_false, Bool.and_false]
          rw [if_pos il, if_pos i0, hr, if_pos g, if_neg z0, if_neg nl, spec_SentenceCuts.char hp hl (hi1 z) hlt, e]
          simp only [Option.bind_some]
          rw [if_neg (by decide), hw, hk, hB, if_neg (by decide), List.nil_append]
    · obtain ⟨k, hk⟩ := no
      refine ⟨k + 1, ?_⟩
      simp only [spec_SentenceCuts.l1]
      have hB : (c.getD i false && (i == 0 || (YtiabgmddnddeiaaDoorChr.go none false false 0 l).getD i false)) = false := by rw [Bool.eq_false_iff.2 g]; rfl
      rw [if_pos il, if_pos i0, hr, if_neg g, hw, hk, hB, if_neg (by decide), List.nil_append]
theorem spec_SentenceCuts.main (l F : List Int) (n : Int) (x3 : List Int) (R : List Int) (hp : ∀ p ∈ l, 0 ≤ p ∧ p ≤ 1114111) (hl : l.length ≤ 100000000)
    (hfin : ∀ c : List Bool, c.length = l.length + 1 → (∀ j, c.getD j false = (j == 0 || j == l.length || YtiabgmddnddeiaaDoorSen.LB l l.length j || YtiabgmddnddeiaaDoorSen.SB l l.length j)) → ∃ k, spec_SentenceCuts.l1 k x3 c 0 l (F ++ [n]) = some R) (d : Nat) : ∀ (i : Nat) (c : List Bool), l.length - i = d → i ≤ l.length → c.length = l.length + 1 →
    (∀ j, c.getD j false = (j == 0 || j == l.length || YtiabgmddnddeiaaDoorSen.LB l i j || YtiabgmddnddeiaaDoorSen.SB l i j)) → ∃ k, spec_SentenceCuts.l0 k x3 c (i : Int) l (F ++ [n]) = some R := by
  induction d with
  | zero =>
    intro i c h0 h1 hc hj
    obtain rfl : i = l.length := by omega
    obtain ⟨k, hk⟩ := hfin c hc hj
    refine ⟨k + 1, ?_⟩
    simp only [spec_SentenceCuts.l0]
    rw [if_neg (by omega)]
    exact hk
  | succ d ih =>
    intro i c h0 h1 hc hj
    have hlt : i < l.length := by omega
    have hw : wrap64 ((i : Int) + 1) = ((i + 1 : Nat) : Int) := by unfold wrap64; omega
    have hr : rd l (i : Int) = l.getD i 0 := by simp only [rd, Int.toNat_natCast]
    have hg : l.getD i 0 = l[i] := by simp [List.getD, hlt]
    -- the start of an end
    have s4 : ∀ (c : List Bool) (y : Bool), c.length = l.length + 1 → y = YtiabgmddnddeiaaDoorSen.start l i → (∀ j, c.getD j false = (j == 0 || j == l.length || YtiabgmddnddeiaaDoorSen.LB l (i + 1) j || YtiabgmddnddeiaaDoorSen.SB l i j)) → ∃ k, spec_SentenceCuts.j4 k x3 c (i : Int) y l (F ++ [n]) = some R := by
      intro c y hc hy hj
      cases hs : YtiabgmddnddeiaaDoorSen.start l i with
      | false =>
        obtain ⟨k, hk⟩ := ih (i + 1) c (by omega) (by omega) hc (fun j => by rw [hj, YtiabgmddnddeiaaDoorSen.SB_next, hs]; simp)
        refine ⟨k + 1, ?_⟩
        rw [hy, hs]
        simp only [spec_SentenceCuts.j4]
        rw [if_neg (by decide), hw]
        exact hk
      | true =>
        have he := YtiabgmddnddeiaaDoorSen.ends_le (l := l) (i := i) (by omega)
        have hcl : W_spec_l08Closes.f l (i : Int) = some (((YtiabgmddnddeiaaDoorSen.ec l i : Nat) : Int), (YtiabgmddnddeiaaDoorSen.closes l i).2) := by
          unfold W_spec_l08Closes.f
          rw [if_pos ⟨by omega, by omega, by omega⟩, Int.toNat_natCast]; rfl
        cases hz : (YtiabgmddnddeiaaDoorSen.closes l i).2 with
        | false =>
          obtain ⟨k, hk⟩ := ih (i + 1) c (by omega) (by omega) hc (fun j => by rw [hj, YtiabgmddnddeiaaDoorSen.SB_next, hs, hz]; simp)
          refine ⟨k + 1, ?_⟩
          rw [hy, hs]
          simp only [spec_SentenceCuts.j4]
          rw [if_pos trivial, hcl, hz]
          simp only [Option.bind_some]
          rw [if_neg (by decide), hw]
          exact hk
        | true =>
          obtain ⟨k, hk⟩ := ih (i + 1) (c.set (YtiabgmddnddeiaaDoorSen.ec l i) true) (by omega) (by omega) (by rw [List.length_set]; exact hc) (fun j => by
            rw [YtiabgmddnddeiaaDoorSen.getD_set c _ j (by omega), hj, YtiabgmddnddeiaaDoorSen.SB_next, hs, hz]
            have e : (YtiabgmddnddeiaaDoorSen.closes l i).1 = YtiabgmddnddeiaaDoorSen.ec l i := rfl
            rw [e]
            simp [Bool.or_assoc])
          refine ⟨k + 1, ?_⟩
          rw [hy, hs]
          simp only [spec_SentenceCuts.j4]
          rw [if_pos trivial, hcl, hz]
          simp only [Option.bind_some]
          rw [if_pos trivial, if_pos (by omega), if_pos (by omega), hw, Int.toNat_natCast]
          exact hk
    have s3 : ∀ (c : List Bool), c.length = l.length + 1 → (∀ j, c.getD j false = (j == 0 || j == l.length || YtiabgmddnddeiaaDoorSen.LB l (i + 1) j || YtiabgmddnddeiaaDoorSen.SB l i j)) → ∃ k, spec_SentenceCuts.j3 k x3 c (i : Int) l (F ++ [n]) = some R := by
      intro c hc hj
      obtain ⟨k, hk⟩ := s4 c _ hc rfl hj
      refine ⟨k + 1, ?_⟩
      simp only [spec_SentenceCuts.j3]
      rw [if_pos (by omega), if_pos (by omega), W_spec_l08In.st, hr]
      simp only [Option.bind_some]
      unfold YtiabgmddnddeiaaDoorSen.start at hk
      cases e : YtiabgmddnddeiaaDoorSen.st (l.getD i 0) with
      | false => rw [e] at hk; rw [if_neg (by decide)]; exact hk
      | true =>
        rw [e, Bool.true_and] at hk
        rw [if_pos rfl]
        by_cases z : i = 0
        · rw [if_pos (by omega)]
          rw [show (i == 0) = true by simpa using z, Bool.true_or] at hk
          exact hk
        · have hw1 : wrap64 ((i : Int) - 1) = ((i - 1 : Nat) : Int) := by unfold wrap64; omega
          have hr1 : rd l ((i - 1 : Nat) : Int) = l.getD (i - 1) 0 := by simp only [rd, Int.toNat_natCast]
          rw [show (i == 0) = false by simpa using z, Bool.false_or] at hk
          rw [if_neg (by omega), hw1, if_pos (by omega), if_pos (by omega), hr1, W_spec_l08In.st]
          exact hk
    have s2 : ∀ y : Bool, y = YtiabgmddnddeiaaDoorSen.lb l i → ∃ k, spec_SentenceCuts.j2 k x3 c (i : Int) y l (F ++ [n]) = some R := by
      intro y hy
      cases hb : YtiabgmddnddeiaaDoorSen.lb l i with
      | false =>
        obtain ⟨k, hk⟩ := s3 c hc (fun j => by rw [hj, YtiabgmddnddeiaaDoorSen.LB_next, hb]; simp)
        refine ⟨k + 1, ?_⟩
        rw [hy, hb]
        simp only [spec_SentenceCuts.j2]
        rw [if_neg (by decide)]
        exact hk
      | true =>
        obtain ⟨k, hk⟩ := s3 (c.set (i + 1) true) (by rw [List.length_set]; exact hc) (fun j => by
          rw [YtiabgmddnddeiaaDoorSen.getD_set c _ j (by omega), hj, YtiabgmddnddeiaaDoorSen.LB_next, hb]
          cases (j == 0) <;> cases (j == l.length) <;> cases YtiabgmddnddeiaaDoorSen.LB l i j <;> cases YtiabgmddnddeiaaDoorSen.SB l i j <;> simp)
        refine ⟨k + 1, ?_⟩
        rw [hy, hb]
        simp only [spec_SentenceCuts.j2]
        rw [if_pos trivial, hw, if_pos (by omega), if_pos (by omega), Int.toNat_natCast]
        exact hk
    have hlb : YtiabgmddnddeiaaDoorSen.lb l i = decide (l.getD i 0 = 10 ∨ (l.getD i 0 = 13 ∧ (i + 1 = l.length ∨ l.getD (i + 1) 0 ≠ 10))) := rfl
    by_cases c1 : l.getD i 0 = 10
    · obtain ⟨k, hk⟩ := s2 true (by rw [hlb, decide_eq_true (.inl c1)])
      refine ⟨k + 1, ?_⟩
      simp only [spec_SentenceCuts.l0]
      rw [if_pos (by omega), if_pos (by omega), hr, if_pos c1]
      exact hk
    by_cases c2 : l.getD i 0 = 13
    · by_cases c3 : i + 1 = l.length
      · obtain ⟨k, hk⟩ := s2 true (by rw [hlb, decide_eq_true (.inr ⟨c2, .inl c3⟩)])
        refine ⟨k + 1, ?_⟩
        simp only [spec_SentenceCuts.l0]
        rw [if_pos (by omega), if_pos (by omega), hr, if_neg c1, if_pos c2, hw, if_pos (by omega)]
        exact hk
      · have hr1 : rd l ((i + 1 : Nat) : Int) = l.getD (i + 1) 0 := by simp only [rd, Int.toNat_natCast]
        obtain ⟨k, hk⟩ := s2 (l.getD (i + 1) 0 != 10) (by
          rw [hlb]
          by_cases c4 : l.getD (i + 1) 0 = 10
          · rw [c4, decide_eq_false (by rintro (z | ⟨_, z | z⟩); exact c1 z; exact c3 z; exact z rfl)]; rfl
          · rw [decide_eq_true (.inr ⟨c2, .inr c4⟩)]; simpa using c4)
        refine ⟨k + 1, ?_⟩
        simp only [spec_SentenceCuts.l0]
        rw [if_pos (by omega), if_pos (by omega), hr, if_neg c1, if_pos c2, hw, if_neg (by omega), if_pos (by omega), if_pos (by omega), hr1]
        exact hk
    · obtain ⟨k, hk⟩ := s2 false (by rw [hlb, decide_eq_false (by rintro (z | ⟨z, _⟩); exact c1 z; exact c2 z)])
      refine ⟨k + 1, ?_⟩
      simp only [spec_SentenceCuts.l0]
      rw [if_pos (by omega), if_pos (by omega), hr, if_neg c1, if_neg c2]
      exact hk
theorem W_spec_SentenceCuts.to {t : ByteArray} {r : List Int} (h : W_spec_SentenceCuts.f t = some r) : ∃ k, spec_SentenceCuts.f k t = some r := by
  unfold W_spec_SentenceCuts.f at h
  split at h
  · rename_i hs
    rw [← Option.some.inj h]
    by_cases c : (t.size : Int) > 65536
    · refine ⟨1, ?_⟩
      unfold spec_SentenceCuts.f
      simp only [Option.bind_some]
      rw [if_pos c, if_pos c]
      simp only [spec_SentenceCuts.j0]
      rw [if_pos trivial]
    rw [if_neg c]
    by_cases hz : bytesOf t = []
    · have ht : t = ⟨#[]⟩ := YtiabgmddnddeiaaDoorChr.empty_of hz
      refine ⟨1, ?_⟩
      unfold spec_SentenceCuts.f YtiabgmddnddeiaaDoorSen.cuts
      simp only [Option.bind_some]
      have e1 : (t.toList == ([] : List UInt8)) = true := by rw [ht, ByteArray.toList_eq]; rfl
      rw [if_neg c, if_pos hz, e1]
      simp only [spec_SentenceCuts.j0]
      rw [if_pos trivial]
    · have hl := YtiabgmddnddeiaaDoorPts.pts_length _ (bytesOf t) (Nat.le_refl _)
      rw [bytesOf_length] at hl
      have hp : ∀ p ∈ YtiabgmddnddeiaaDoorPts.pts (bytesOf t), 0 ≤ p ∧ p ≤ 1114111 := fun p hp => by have := YtiabgmddnddeiaaDoorPts.pts_isP _ _ (Nat.le_refl _) p hp; unfold YtiabgmddnddeiaaDoorPts.isP at this; omega
      have hfl := YtiabgmddnddeiaaDoorChr.fromsAt_length (bytesOf t) 0
      have hpos : 0 < (YtiabgmddnddeiaaDoorPts.pts (bytesOf t)).length := by rw [YtiabgmddnddeiaaDoorPts.pts_cons hz]; simp
      have hF0 : YtiabgmddnddeiaaDoorChr.fromsAt (bytesOf t) 0 = 0 :: (YtiabgmddnddeiaaDoorChr.fromsAt (bytesOf t) 0).drop 1 := by rw [YtiabgmddnddeiaaDoorChr.fromsAt_cons hz]; rfl
      have hrow : W_spec_l07RowOf.f t = some (YtiabgmddnddeiaaDoorPts.pts (bytesOf t), YtiabgmddnddeiaaDoorChr.fromsAt (bytesOf t) 0 ++ [(t.size : Int)]) := if_pos hs
      have hcuts : YtiabgmddnddeiaaDoorSen.cuts (bytesOf t) = 0 :: (YtiabgmddnddeiaaDoorChr.sel (YtiabgmddnddeiaaDoorChr.fromsAt (bytesOf t) 0) (YtiabgmddnddeiaaDoorSen.G (YtiabgmddnddeiaaDoorPts.pts (bytesOf t))) ++ [(t.size : Int)]) := by
        unfold YtiabgmddnddeiaaDoorSen.cuts; rw [if_neg hz, bytesOf_length]
      have hhead := YtiabgmddnddeiaaDoorChr.go_head (YtiabgmddnddeiaaDoorPts.pts (bytesOf t)) (by rw [YtiabgmddnddeiaaDoorChr.go_length]; exact hpos)
      rw [hcuts]
      generalize YtiabgmddnddeiaaDoorPts.pts (bytesOf t) = l at *
      generalize YtiabgmddnddeiaaDoorChr.fromsAt (bytesOf t) 0 = F at *
      have hgo : (YtiabgmddnddeiaaDoorChr.go none false false 0 l).getD 0 false = false := by
        rw [List.getD_eq_getElem?_getD, List.getElem?_eq_getElem (by rw [YtiabgmddnddeiaaDoorChr.go_length]; exact hpos)]; exact hhead
      have hfin : ∀ c : List Bool, c.length = l.length + 1 → (∀ j, c.getD j false = (j == 0 || j == l.length || YtiabgmddnddeiaaDoorSen.LB l l.length j || YtiabgmddnddeiaaDoorSen.SB l l.length j)) → ∃ k, spec_SentenceCuts.l1 k [] c 0 l (F ++ [(t.size : Int)]) = some (0 :: (YtiabgmddnddeiaaDoorChr.sel F (YtiabgmddnddeiaaDoorSen.G l) ++ [(t.size : Int)])) := by
        intro c hc hj
        obtain ⟨k, hk⟩ := spec_SentenceCuts.last l F (t.size : Int) hp (by omega) hfl c hc (by rw [hj]; simp) _ 0 [] rfl (Nat.zero_le _) (by simp only [List.length_nil]; omega)
        refine ⟨k, ?_⟩
        rw [Int.natCast_zero, List.drop_zero, List.drop_zero, List.nil_append] at hk
        rw [hk]
        have hHl : (spec_SentenceCuts.Hs l c).length = l.length := by simp [spec_SentenceCuts.Hs]
        have hGl := YtiabgmddnddeiaaDoorSen.G_length l
        have e1 := YtiabgmddnddeiaaDoorChr.sel_drop (F := F) (C := spec_SentenceCuts.Hs l c) (i := 0) (by omega) (by omega)
        have e2 := YtiabgmddnddeiaaDoorChr.sel_drop (F := F) (C := YtiabgmddnddeiaaDoorSen.G l) (i := 0) (by omega) (by omega)
        have h0 : (spec_SentenceCuts.Hs l c)[0] = true := by
          have : (spec_SentenceCuts.Hs l c)[0] = (c.getD 0 false && ((0 : Nat) == 0 || (YtiabgmddnddeiaaDoorChr.go none false false 0 l).getD 0 false)) := by simp only [spec_SentenceCuts.Hs, List.getElem_map, List.getElem_range]
          rw [this, hj]; rfl
        have g0 : (YtiabgmddnddeiaaDoorSen.G l)[0] = false := by
          have : (YtiabgmddnddeiaaDoorSen.G l)[0] = (YtiabgmddnddeiaaDoorSen.D l 0 && (YtiabgmddnddeiaaDoorChr.go none false false 0 l).getD 0 false) := by simp only [YtiabgmddnddeiaaDoorSen.G, List.getElem_map, List.getElem_range]
          rw [this, hgo, Bool.and_false]
        have f0 : F[0] = 0 := by
          have : F[0]? = some 0 := by rw [hF0]; rfl
          exact Option.some.inj ((List.getElem?_eq_getElem _).symm.trans this)
        rw [h0, if_pos rfl, f0, List.drop_zero, List.drop_zero] at e1
        rw [g0, if_neg (by decide), List.drop_zero, List.drop_zero, List.nil_append] at e2
        have e3 : YtiabgmddnddeiaaDoorChr.sel (F.drop 1) ((spec_SentenceCuts.Hs l c).drop 1) = YtiabgmddnddeiaaDoorChr.sel (F.drop 1) ((YtiabgmddnddeiaaDoorSen.G l).drop 1) := by
          refine YtiabgmddnddeiaaDoorSen.sel_congr _ _ _ (by rw [List.length_drop, List.length_drop]; omega) (by rw [List.length_drop, List.length_drop]; omega) ?_
          intro j hjl
          rw [List.length_drop] at hjl
          have q1 : j + 1 < l.length := by omega
          have a1 : ((spec_SentenceCuts.Hs l c).drop 1).getD j false = (c.getD (j + 1) false && (YtiabgmddnddeiaaDoorChr.go none false false 0 l).getD (j + 1) false) := by
            rw [List.getD_eq_getElem?_getD, List.getElem?_drop, Nat.add_comm 1 j, List.getElem?_eq_getElem (by omega)]
            simp [spec_SentenceCuts.Hs]
          have a2 : ((YtiabgmddnddeiaaDoorSen.G l).drop 1).getD j false = (YtiabgmddnddeiaaDoorSen.D l (j + 1) && (YtiabgmddnddeiaaDoorChr.go none false false 0 l).getD (j + 1) false) := by
            rw [List.getD_eq_getElem?_getD, List.getElem?_drop, Nat.add_comm 1 j, List.getElem?_eq_getElem (by omega)]
            simp [YtiabgmddnddeiaaDoorSen.G]
          rw [a1, a2, hj]
          unfold YtiabgmddnddeiaaDoorSen.D
          rw [show (j + 1 == 0) = false from rfl, show (j + 1 == l.length) = false by simpa using (show j + 1 ≠ l.length by omega), Bool.false_or, Bool.false_or]
        rw [e1, e2, e3]
        rfl
      obtain ⟨k, hk⟩ := spec_SentenceCuts.main l F (t.size : Int) [] _ hp (by omega) hfin _ 0 (((List.replicate (l.length + 1) false).set 0 true).set l.length true) rfl (Nat.zero_le _) (by simp) (fun j => by
        rw [YtiabgmddnddeiaaDoorSen.getD_set _ _ j (by simp), YtiabgmddnddeiaaDoorSen.getD_set _ _ j (by simp)]
        have e : (List.replicate (l.length + 1) false).getD j false = false := by simp [List.getD, List.getElem?_replicate]; split <;> rfl
        have e2 : YtiabgmddnddeiaaDoorSen.LB l 0 j = false := rfl
        have e3 : YtiabgmddnddeiaaDoorSen.SB l 0 j = false := rfl
        rw [e, e2, e3, Bool.false_or, Bool.or_false, Bool.or_false]
        rfl)
      refine ⟨k + 1, ?_⟩
      unfold spec_SentenceCuts.f
      simp only [Option.bind_some]
      have e1 : (t.toList == ([] : List UInt8)) = false := by
        rw [ByteArray.toList_eq]
        cases hd : t.data.toList with
        | nil => exact absurd (by unfold bytesOf; rw [hd]; rfl) hz
        | cons a b => rfl
      rw [if_neg c, e1]
      simp only [spec_SentenceCuts.j0]
      have a1 : (0 : Int) ≤ ((l.length + 1 : Nat) : Int) := by omega
      have a2 : l.length + 1 ≤ 281474976710656 := by omega
      have a3 : (0 : Int) < ((l.length + 1 : Nat) : Int) := by omega
      have a4 : (0 : Int) ≤ (l.length : Int) := by omega
      have a5 : (l.length : Int) < ((l.length + 1 : Nat) : Int) := by omega
      have hw : wrap64 ((l.length : Int) + 1) = ((l.length + 1 : Nat) : Int) := by unfold wrap64; omega
      rw [if_neg (by decide), hrow, Option.bind_some]
      dsimp only
      rw [hw, if_pos a1, Int.toNat_natCast, if_pos a2, Option.bind_some, List.length_replicate, if_pos a3, if_pos a4, if_pos a5, Int.toNat_natCast]
      exact hk
  · cases h
theorem W_spec_SentenceCuts.calls (a0 : ByteArray) (r : List Int) (w : World) (h : W_spec_SentenceCuts.f a0 = some r) :
    Calls Tryd.prog 33 #[.string a0] w fun e w' => ∃ v0_ : Value, e = .returned (v0_) ∧ Kd.R (Kd.int .i64) 2 w' w.heap.size (fun _ => True) v0_ r ∧ Below w.heap.size w w' := by
  obtain ⟨k, hk⟩ := W_spec_SentenceCuts.to h
  exact spec_SentenceCuts.calls k a0 r w hk

end Go.Proofs.YtiabgmddnddeiaaDoor.QFnExactSentenceCuts
