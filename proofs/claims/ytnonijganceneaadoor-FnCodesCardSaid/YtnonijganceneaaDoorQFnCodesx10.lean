/- The law FnCodes: at every input the call answers true (this text: contracts on its way, by a program of this session's; no condition of ours). -/
import Derived.Test.YtnonijganceneaaDoorQFnCodesx0
import Derived.Test.YtnonijganceneaaDoorQFnCodesx6
import Derived.Test.YtnonijganceneaaDoorQFnCodesx7
import Derived.Test.YtnonijganceneaaDoorQFnCodesx8
import Derived.Test.YtnonijganceneaaDoorQFnCodesx9
namespace Go.Proofs.YtnonijganceneaaDoor.QFnCodes
open Go.RowKit Go.Proofs.YtnonijganceneaaDoorW.PrintWords Go.Proofs.YtnonijganceneaaDoorW.PrintLast Go.Proofs.YtnonijganceneaaDoorW.PrintMore
attribute [local go_sem] max2_int min2_int max_two min_two max_three min_three max_four min_four   -- for this text's walks alone
set_option linter.unusedVariables false
set_option linter.unusedSimpArgs false

/-! ### spec_l01Src_textOf: function 197 -/
def spec_l01Src_textOf.l0 : Nat → Int → List Int → List Int → Int → Int → Int → Option (ByteArray × Int × Int × Int)
  | 0, _, _, _, _, _, _ => none
  | k + 1, x1, x5, x1000, x1001, x1002, x1003 => if x1 > 0 then ((spec_l01Src_point.f k x1000 x1001 x1002 x1003).bind fun bt459 => (if x5.length < 17592186044416 then (spec_l01Src_textOf.l0 k (wrap64 (x1 - 1)) (x5 ++ [bt459.1]) x1000 bt459.2.1 bt459.2.2.1 bt459.2.2.2) else (none))) else ((W_spec_l01Text.f x5).bind fun t466 => (some (t466, x1001, x1002, x1003)))
def spec_l01Src_textOf.f (k : Nat) (s0_0 : List Int) (s0_1 : Int) (s0_2 : Int) (s0_3 : Int) (a1 : Int) : Option (ByteArray × Int × Int × Int) := spec_l01Src_textOf.l0 k a1 (([] : List Int)) s0_0 s0_1 s0_2 s0_3
theorem spec_l01Src_textOf.mono_l : ∀ k, (∀ y0 y1 y2 y3 y4 y5, LeO (spec_l01Src_textOf.l0 k y0 y1 y2 y3 y4 y5) (spec_l01Src_textOf.l0 (k + 1) y0 y1 y2 y3 y4 y5))
  | 0 => fun _ _ _ _ _ _ r h => by simp [spec_l01Src_textOf.l0] at h
  | k + 1 => by
    have ih0 := spec_l01Src_textOf.mono_l k
    · intro y0 y1 y2 y3 y4 y5
      unfold spec_l01Src_textOf.l0
      repeat' first
      | (with_reducible exact ih0 _ _ _ _ _ _)
      | (with_reducible exact spec_l01Src_point.mono _ _ _ _ _)
      | (with_reducible exact LeO.refl _)
      | (with_reducible exact LeO.none _)
      | (with_reducible refine LeO.ite ?_ ?_)
      | (with_reducible refine LeO.bind ?_ (fun _ => ?_))
      | exact ih0 _ _ _ _ _ _
      | exact spec_l01Src_point.mono _ _ _ _ _
      | exact LeO.none _
      | refine LeO.ite ?_ ?_
      | refine LeO.bind ?_ (fun _ => ?_)
theorem spec_l01Src_textOf.mono : ∀ a0 a1 a2 a3 a4 k, LeO (spec_l01Src_textOf.f k a0 a1 a2 a3 a4) (spec_l01Src_textOf.f (k + 1) a0 a1 a2 a3 a4) := by
  intro a0 a1 a2 a3 a4 k
  have ih0 := spec_l01Src_textOf.mono_l k
  unfold spec_l01Src_textOf.f
  repeat' first
      | (with_reducible exact ih0 _ _ _ _ _ _)
      | (with_reducible exact spec_l01Src_point.mono _ _ _ _ _)
      | (with_reducible exact LeO.refl _)
      | (with_reducible exact LeO.none _)
      | (with_reducible refine LeO.ite ?_ ?_)
      | (with_reducible refine LeO.bind ?_ (fun _ => ?_))
      | exact ih0 _ _ _ _ _ _
      | exact spec_l01Src_point.mono _ _ _ _ _
      | exact LeO.none _
      | refine LeO.ite ?_ ?_
      | refine LeO.bind ?_ (fun _ => ?_)
set_option maxHeartbeats 8000000 in
set_option maxRecDepth 100000 in
theorem spec_l01Src_textOf.calls (k : Nat) (g : Nat) (s0_0 : List Int) (s0_1 : Int) (s0_2 : Int) (s0_3 : Int) (a1 : Int) (r1 : ByteArray) (r2 : Int) (r3 : Int) (r4 : Int) (w0 w : World) (hI : IsS145 w0 w g s0_0 s0_1 s0_2 s0_3) (hB : Below w0.heap.size w0 w) (h : spec_l01Src_textOf.f k s0_0 s0_1 s0_2 s0_3 a1 = some (r1, r2, r3, r4)) :
    Calls Tryd.prog 197 #[.pointer (some ⟨g, 0, none⟩), .int .i64 a1] w fun e w' => e = .returned (.string r1) ∧ IsS145 w0 w' g s0_0 r2 r3 r4 ∧ Below w0.heap.size w0 w' ∧ KeepBut w w' g none := by
  have HI0 := Aside0.mk hI
  have HK := Aside0.mk (KeepBut.refl w g none)
  have HL := Aside0.mk hB.size
  clear hI
  have HW0 := Aside0.mk hB.size
  have HB := Aside0.mk hB
  clear hB
  have H : (spec_l01Src_textOf.l0 k a1 (([] : List Int)) s0_0 s0_1 s0_2 s0_3) = some (r1, r2, r3, r4) := h
  clear h
  obtain ⟨y456, hy456⟩ : ∃ y_ : List Int, y_ = (([] : List Int)) := ⟨_, rfl⟩
  replace H : (spec_l01Src_textOf.l0 k a1 y456 s0_0 s0_1 s0_2 s0_3) = some (r1, r2, r3, r4) := by first | (rw [hy456]; with_reducible exact H) | (have H2_ := (Option.bind_some _ _).symm.trans H; rw [hy456]; with_reducible exact H2_) | (have H2_ := (Option.bind_some _ _).symm.trans H; with_reducible exact H2_) | with_reducible exact H | (rw [hy456]; exact H) | exact H
  have Ny456 := Aside0.mk hy456
  clear hy456
  have H' := Aside0.mk H
  clear H
  go_enter Tryd.func197, Tryd.ntmps197
  go_wp2_with (first | ((with_reducible refine gate_dst (N := 6) rfl ?_); refine Kd.R_lit (Kd.int .i64) _ 2 ?hg (N := 6) ?hd (xs := ([] : List Int)) (inner := []) (ok := fun _ => True) (okp := fun _ => True) ?hr ?hp (fun _ hk => hk) trivial (Below.refl _ _) (Nat.le_refl _) (by simp) ?_; (case hd => rfl); (case hg => rfl); (case hr => first | (go_simp; done) | (go_simp; rfl)); (case hp => exact (Reps.none _ _)); intro v457 w3 ho4 hb hg_ hnew_; clear hg_ hnew_; (first | rw [← Ny456.out] at ho4 | (simp only [Int.reduceToNat] at ho4; rw [← Ny456.out] at ho4)); have n0_ := Aside0.mk (Kd.R_lower ho4 (keep_size (w := w) (g := g) (row := none) (by repeat (first | (with_reducible first | exact HK.out | apply KeepBut.set_ | apply keep_drewN | apply keep_drew | apply keep_alloc) | exact HK.out)))); have n1_ := Aside0.mk (IsS145.below (by repeat (first | (with_reducible first | exact HI0.out | apply IsS145.alloc | apply IsS145.drewN | apply IsS145.drew | apply IsS145.set_1 | apply IsS145.set_2 | apply IsS145.set_3) | exact HI0.out)) hb); have n2_ := Aside0.mk (KeepBut.trans (by repeat (first | (with_reducible first | exact HK.out | apply KeepBut.set_ | apply keep_drewN | apply keep_drew | apply keep_alloc) | exact HK.out)) (KeepBut.of_below hb g none) (.inl rfl)); have n3_ := Aside0.mk (below_step (by repeat (first | (with_reducible first | exact HB.out | apply below_alloc | apply pw_below_drewN | apply below_drew1 | refine below_set ?_ (IsS145.ge HI0.out)) | exact HB.out)) hb); clear HI0; clear HK; clear HB; have HO458 := n0_; have HI0 := n1_; have HK := n2_; have HB := n3_; clear n0_ n1_ n2_ n3_; clear hb ho4))
  go_loopg [1, 5] k (fun kq v1 v5 w' => ∃ (x1_1 : Int) (x5_1 : List Int) (x1001_1 : Int) (x1002_1 : Int) (x1003_1 : Int), v1 = .int .i64 x1_1 ∧ Aside0 (spec_l01Src_textOf.l0 kq x1_1 x5_1 s0_0 x1001_1 x1002_1 x1003_1 = some (r1, r2, r3, r4)) ∧ Aside0 (kq ≤ k) ∧ Aside0 (Kd.R (Kd.int .i64) 2 w' w.heap.size (fun _ => True) v5 x5_1) ∧ Aside0 (IsS145 w0 w' g s0_0 x1001_1 x1002_1 x1003_1) ∧ Aside0 (KeepBut w w' g none) ∧ Aside0 (Below w0.heap.size w0 w'))
  case atStart => exact ⟨(a1), (y456), (s0_1), (s0_2), (s0_3), (by first | rfl | (simp; done) | (simp [*]; done)), H', ⟨Nat.le_refl _⟩, ⟨by (with_reducible repeat (first | apply Kd.R_alloc | apply Kd.R_drewN | apply Kd.R_drew)); exact HO458.out⟩, ⟨by repeat (first | (with_reducible first | exact HI0.out | apply IsS145.alloc | apply IsS145.drewN | apply IsS145.drew | apply IsS145.set_1 | apply IsS145.set_2 | apply IsS145.set_3) | exact HI0.out)⟩, ⟨by repeat (first | (with_reducible first | exact HK.out | apply KeepBut.set_ | apply keep_drewN | apply keep_drew | apply keep_alloc) | exact HK.out)⟩, ⟨by repeat (first | (with_reducible first | exact HB.out | apply below_alloc | apply pw_below_drewN | apply below_drew1 | refine below_set ?_ (IsS145.ge HI0.out)) | exact HB.out)⟩⟩
  case round =>
    clear H'
    try clear c1
    try clear p2
    obtain ⟨x1_1, x5_1, x1001_1, x1002_1, x1003_1, rfl, HA, HK1, HO_5, HI0, HK, HB⟩ := hrel
    cases gk with
    | zero => exact absurd HA.out (by simp [spec_l01Src_textOf.l0])
    | succ k1 =>
      have H := HA.out
      clear HA
      simp only [spec_l01Src_textOf.l0] at H
      by_cases c5 : x1_1 > 0
      · rw [if_pos c5] at H
        have c5b0 : decide (0 < x1_1) = true := decide_eq_true c5
        clear c5
        replace H := Option.bind_eq_some_iff.mp H
        obtain ⟨⟨t459, t460, t461, t462⟩, A60, H⟩ := H
        replace H : (if x5_1.length < 17592186044416 then (spec_l01Src_textOf.l0 k1 (wrap64 (x1_1 - 1)) (x5_1 ++ [t459]) s0_0 t460 t461 t462) else (none)) = some (r1, r2, r3, r4) := H
        have A6 := Aside0.mk A60
        clear A60
        by_cases c7 : x5_1.length < 17592186044416
        · rw [if_pos c7] at H
          have LMc7 := Aside0.mk c7
          clear c7
          obtain ⟨y463, hy463⟩ : ∃ y_ : List Int, y_ = (x5_1 ++ [t459]) := ⟨_, rfl⟩
          replace H : (spec_l01Src_textOf.l0 k1 (wrap64 (x1_1 - 1)) y463 s0_0 t460 t461 t462) = some (r1, r2, r3, r4) := by first | (rw [hy463]; with_reducible exact H) | (have H2_ := (Option.bind_some _ _).symm.trans H; rw [hy463]; with_reducible exact H2_) | (have H2_ := (Option.bind_some _ _).symm.trans H; with_reducible exact H2_) | with_reducible exact H | (rw [hy463]; exact H) | exact H
          have Ny463 := Aside0.mk hy463
          clear hy463
          have H' := Aside0.mk H
          clear H
          go_wp2_with (first | ((with_reducible refine gate_callee (f := 154) rfl ?_); refine goesL_ (some 13) rfl rfl Tryd.func154 (by kernel_rfl) rfl #[.pointer (some ⟨g, 0, none⟩)] rfl (by (try simp only [List.map_toArray, List.map_cons, List.map_nil]); first | done | rfl | (simp only [List.length_drop, List.length_take]; rfl)) ?_; (with_reducible refine (spec_l01Src_point.calls k1 g s0_0 x1001_1 x1002_1 x1003_1 t459 t460 t461 t462 w0 _ ?side1 ?side2 A6.out).mono ?_); (case side1 => repeat (first | (with_reducible first | exact HI0.out | apply IsS145.alloc | apply IsS145.drewN | apply IsS145.drew | apply IsS145.set_1 | apply IsS145.set_2 | apply IsS145.set_3) | exact HI0.out)); (case side2 => repeat (first | (with_reducible first | exact HB.out | apply below_alloc | apply pw_below_drewN | apply below_drew1 | refine below_set ?_ (IsS145.ge HI0.out)) | exact HB.out)); rintro e w8 ⟨rfl, hi, hb, hk⟩; refine ⟨_, rfl, ?_⟩; have n0_ := Aside0.mk (Kd.R_mono (Kd.R_keep (IsS145.apart (show IsS145 w0 _ g s0_0 x1001_1 x1002_1 x1003_1 from by repeat (first | (with_reducible first | exact HI0.out | apply IsS145.alloc | apply IsS145.drewN | apply IsS145.drew | apply IsS145.set_1 | apply IsS145.set_2 | apply IsS145.set_3) | exact HI0.out)) (by (with_reducible repeat (first | apply Kd.R_alloc | apply Kd.R_drewN | apply Kd.R_drew)); exact HO_5.out) (by decide)) hk (fun _ h => h.2)) (fun _ h => h.1)); have n1_ := Aside0.mk (KeepBut.trans (by repeat (first | (with_reducible first | exact HK.out | apply KeepBut.set_ | apply keep_drewN | apply keep_drew | apply keep_alloc) | exact HK.out)) hk (.inl rfl)); have n2_ := Aside0.mk (hb); have n3_ := Aside0.mk (hi); clear HO_5; clear HK; clear HB; clear HI0; have HO_5 := n0_; have HK := n1_; have HB := n2_; have HI0 := n3_; clear n0_ n1_ n2_ n3_; (try clear hb); (try clear hb2); (try clear hk); (try clear hi)) | ((with_reducible refine gate_builtin (b := .append) (xs := #[.tmp 11, .tmp 14]) rfl ?_); at_builtin; refine Kd.R_append (Kd.int .i64) w.heap.size rfl (.tmp 11) (.tmp 14) 25 2 (.int .i64 0) 8 rfl Tryd.underlying25 info2 rfl (by decide) (by omega) u5 x5_1 t459 [.int .i64 t459] (fun _ => True) (fun _ => False) rfl rfl ?aP (fun _ hk => hk.elim) ?aF ?aO (Below.refl _ _) ?aS ?aL ?_; (case aP => exact rfl); (case aF => exact (fun _ _ => trivial)); (case aO => exact (by (with_reducible repeat (first | apply Kd.R_alloc | apply Kd.R_drewN | apply Kd.R_drew)); exact HO_5.out)); (case aS => exact (keep_size (w := w) (g := g) (row := none) (by repeat (first | (with_reducible first | exact HK.out | apply KeepBut.set_ | apply keep_drewN | apply keep_drew | apply keep_alloc) | exact HK.out)))); (case aL => have := LMc7.out; omega); intro v464 w9 ho hb hg hat; rw [← Ny463.out] at ho; have n0_ := Aside0.mk (IsS145.grown (by repeat (first | (with_reducible first | exact HI0.out | apply IsS145.alloc | apply IsS145.drewN | apply IsS145.drew | apply IsS145.set_1 | apply IsS145.set_2 | apply IsS145.set_3) | exact HI0.out)) hg (IsS145.own_ne HI0.out HO_5.out (by decide))); have n1_ := Aside0.mk (below_weaken (by repeat (first | (with_reducible first | exact HB.out | apply below_alloc | apply pw_below_drewN | apply below_drew1 | refine below_set ?_ (IsS145.ge HI0.out)) | exact HB.out)) HL.out hb); have n2_ := Aside0.mk (KeepBut.trans (by repeat (first | (with_reducible first | exact HK.out | apply KeepBut.set_ | apply keep_drewN | apply keep_drew | apply keep_alloc) | exact HK.out)) (KeepBut.of_grown hg g) (Kd.R_base2 HO_5.out)); have n3_ := Aside0.mk (ho); clear HI0; clear HB; clear HK; clear HO_5; have HI0 := n0_; have HB := n1_; have HK := n2_; have HO465 := n3_; clear n0_ n1_ n2_ n3_; clear ho hb hg hat))
          go_roundg k1
          case measure => have := HK1.out; omega
          case rel => exact ⟨(wrap64 (x1_1 - 1)), (y463), (t460), (t461), (t462), (by first | rfl | (simp; done) | (simp [*]; done)), H', ⟨by have := HK1.out; omega⟩, ⟨by (with_reducible repeat (first | apply Kd.R_alloc | apply Kd.R_drewN | apply Kd.R_drew)); exact HO465.out⟩, ⟨by repeat (first | (with_reducible first | exact HI0.out | apply IsS145.alloc | apply IsS145.drewN | apply IsS145.drew | apply IsS145.set_1 | apply IsS145.set_2 | apply IsS145.set_3) | exact HI0.out)⟩, ⟨by repeat (first | (with_reducible first | exact HK.out | apply KeepBut.set_ | apply keep_drewN | apply keep_drew | apply keep_alloc) | exact HK.out)⟩, ⟨by repeat (first | (with_reducible first | exact HB.out | apply below_alloc | apply pw_below_drewN | apply below_drew1 | refine below_set ?_ (IsS145.ge HI0.out)) | exact HB.out)⟩⟩
        · rw [if_neg c7] at H
          exact absurd H (by simp)
      · rw [if_neg c5] at H
        have c5b0 : decide (0 < x1_1) = false := decide_eq_false c5
        clear c5
        replace H := Option.bind_eq_some_iff.mp H
        obtain ⟨t466, A100, H⟩ := H
        replace H : (some (t466, x1001_1, x1002_1, x1003_1)) = some (r1, r2, r3, r4) := H
        have A10 := Aside0.mk A100
        clear A100
        simp only [Option.some.injEq, Prod.mk.injEq] at H
        obtain ⟨rfl, rfl, rfl, rfl⟩ := H
        obtain ⟨Ao11, co11, eo11⟩ := Kd.R_slice HO_5.out
        subst eo11
        go_wp2_with (first | ((with_reducible refine gate_callee (f := 107) rfl ?_); refine goesL_ (some 17) rfl rfl Tryd.func107 (by kernel_rfl) rfl #[.slice Ao11 x5_1.length co11] rfl (by (try simp only [List.map_toArray, List.map_cons, List.map_nil]); first | done | rfl | (simp only [List.length_drop, List.length_take]; rfl)) ?_; (with_reducible refine (W_spec_l01Text.calls _ _ x5_1 t466 _ ?side1 ?side2 A10.out).mono ?_); (case side1 => repeat (first | exact (Kd.R_reads' HO_5.out).2.2 | (with_reducible refine Kd.C_alloc ?_ _) | (with_reducible refine Kd.C_drewN ?_ _) | (with_reducible refine Kd.C_drew ?_))); (case side2 => exact (Kd.R_reads' HO_5.out).2.1); rintro e w12 ⟨rfl, hb⟩; refine ⟨_, rfl, ?_⟩; have n0_ := Aside0.mk (Kd.R_below (by (with_reducible repeat (first | apply Kd.R_alloc | apply Kd.R_drewN | apply Kd.R_drew)); exact HO_5.out) hb); have n1_ := Aside0.mk (IsS145.below (by repeat (first | (with_reducible first | exact HI0.out | apply IsS145.alloc | apply IsS145.drewN | apply IsS145.drew | apply IsS145.set_1 | apply IsS145.set_2 | apply IsS145.set_3) | exact HI0.out)) hb); have n2_ := Aside0.mk (KeepBut.trans (by repeat (first | (with_reducible first | exact HK.out | apply KeepBut.set_ | apply keep_drewN | apply keep_drew | apply keep_alloc) | exact HK.out)) (KeepBut.of_below hb g none) (.inl rfl)); have n3_ := Aside0.mk (below_step (by repeat (first | (with_reducible first | exact HB.out | apply below_alloc | apply pw_below_drewN | apply below_drew1 | refine below_set ?_ (IsS145.ge HI0.out)) | exact HB.out)) hb); clear HO_5; clear HI0; clear HK; clear HB; have HO_5 := n0_; have HI0 := n1_; have HK := n2_; have HB := n3_; clear n0_ n1_ n2_ n3_; (try clear hb); (try clear hb2); (try clear hk); (try clear hi)))
        go_ret
        exact ⟨by first | rfl | (simp [errW_none, errW_some] <;> rfl) | (simp [*, errW_none, errW_some] <;> rfl), by repeat (first | (with_reducible first | exact HI0.out | apply IsS145.alloc | apply IsS145.drewN | apply IsS145.drew | apply IsS145.set_1 | apply IsS145.set_2 | apply IsS145.set_3) | exact HI0.out), by repeat (first | (with_reducible first | exact HB.out | apply below_alloc | apply pw_below_drewN | apply below_drew1 | refine below_set ?_ (IsS145.ge HI0.out)) | exact HB.out), by repeat (first | (with_reducible first | exact HK.out | apply KeepBut.set_ | apply keep_drewN | apply keep_drew | apply keep_alloc) | exact HK.out)⟩

theorem spec_l01Src_textOf.run (l : List Int) (z : Int) (hl : l.length ≤ 140737488355328) (d : Nat) (hd : d ≤ 1000000) : ∀ (k : Nat) (n : Int) (acc : List Int) (a m : Int), n = d → acc.length + d ≤ 1000000 → d + 20 < k → 0 ≤ a → a ≤ (l.length : Int) →
    YtnonijganceneaaDoorPts.Tot (spec_l01Src_textOf.l0 k n acc l a m z) (fun r => r.1.size ≤ 4 * (acc.length + d) ∧ 0 ≤ r.2.1 ∧ r.2.1 ≤ (l.length : Int) ∧ r.2.2.2 = z) := by
  induction d with
  | zero =>
    intro k n acc a m hn ha hk h0 h1
    obtain ⟨k, rfl⟩ : ∃ j, k = j + 1 := ⟨k - 1, by omega⟩
    simp only [spec_l01Src_textOf.l0]
    rw [if_neg (by omega)]
    unfold W_spec_l01Text.f
    rw [if_pos (by omega)]
    simp only [Option.bind_some]
    have hs := YtnonijganceneaaDoorPts.encs_length acc
    exact YtnonijganceneaaDoorPts.Tot.mk ⟨by dsimp only; rw [strOfNums_size]; omega, h0, h1, rfl⟩
  | succ d ih =>
    intro k n acc a m hn ha hk h0 h1
    obtain ⟨k, rfl⟩ : ∃ j, k = j + 9 + 1 := ⟨k - 10, by omega⟩
    simp only [spec_l01Src_textOf.l0]
    rw [if_pos (by omega)]
    refine YtnonijganceneaaDoorPts.Tot.bind (spec_l01Src_point.tot k l a m z hl h0 h1) ?_
    rintro ⟨p, a1, m1, z1⟩ ⟨h2, h3, h4⟩
    dsimp only at h2 h3 h4 ⊢
    subst h4
    rw [if_pos (by omega)]
    have hw : wrap64 (n - 1) = ((d : Nat) : Int) := by unfold wrap64; omega
    rw [hw]
    refine (ih (by omega) (k + 9) (d : Int) (acc ++ [p]) a1 m1 rfl (by rw [List.length_append]; simp only [List.length_cons, List.length_nil]; omega) (by omega) h2 h3).mono ?_
    rintro ⟨s, a2, m2, z2⟩ ⟨q1, q2, q3, q4⟩
    dsimp only at q1 q2 q3 q4 ⊢
    rw [List.length_append] at q1
    simp only [List.length_cons, List.length_nil] at q1
    exact ⟨by omega, q2, q3, q4⟩
theorem spec_l01Src_textOf.tot (k : Nat) (l : List Int) (a m z n : Int) (hl : l.length ≤ 140737488355328) (h0 : 0 ≤ a) (h1 : a ≤ (l.length : Int)) (hn : 0 ≤ n) (hn2 : n ≤ 1000000) (hk : n.toNat + 20 < k) :
    YtnonijganceneaaDoorPts.Tot (spec_l01Src_textOf.f k l a m z n) (fun r => (r.1.size : Int) ≤ 4 * n ∧ 0 ≤ r.2.1 ∧ r.2.1 ≤ (l.length : Int) ∧ r.2.2.2 = z) := by
  unfold spec_l01Src_textOf.f
  refine (spec_l01Src_textOf.run l z hl n.toNat (by omega) k n [] a m (by omega) (by simp; omega) (by omega) h0 h1).mono ?_
  rintro ⟨s, a2, m2, z2⟩ ⟨q1, q2, q3, q4⟩
  dsimp only at q1 q2 q3 q4 ⊢
  simp only [List.length_nil] at q1
  exact ⟨by omega, q2, q3, q4⟩

/-! ### spec_l01Src_text: function 139 -/
def spec_l01Src_text.j0 : Nat → ByteArray → List Int → Int → Int → Int → Option (ByteArray × Int × Int × Int)
  | 0, _, _, _, _, _ => none
  | k + 1, x3, x1000, x1001, x1002, x1003 => (spec_l01Src_one.f x1000 x1001 x1002 x1003 200).bind fun bt483 => (if bt483.1 = true then ((spec_l01Src_n.f x1000 bt483.2.1 bt483.2.2.1 bt483.2.2.2 3).bind fun bt487 => ((spec_l01Src_long.f k x1000 bt487.2.1 bt487.2.2.1 bt487.2.2.2 (⟨#[97, 98]⟩ : ByteArray) (wrap64 (65535 + bt487.1))).bind fun bt491 => (some (bt491.1, bt491.2.1, bt491.2.2.1, bt491.2.2.2)))) else (some (x3, bt483.2.1, bt483.2.2.1, bt483.2.2.2)))
def spec_l01Src_text.f (k : Nat) (s0_0 : List Int) (s0_1 : Int) (s0_2 : Int) (s0_3 : Int) : Option (ByteArray × Int × Int × Int) := (spec_l01Src_n.f s0_0 s0_1 s0_2 s0_3 (wrap64 (8 + (wrap64 (2 * s0_3))))).bind fun bt467 => ((spec_l01Src_textOf.f k s0_0 bt467.2.1 bt467.2.2.1 bt467.2.2.2 bt467.1).bind fun bt471 => ((spec_l01Src_one.f s0_0 bt471.2.1 bt471.2.2.1 bt471.2.2.2 12).bind fun bt475 => (if bt475.1 = true then ((spec_l01Src_spoil.f k s0_0 bt475.2.1 bt475.2.2.1 bt475.2.2.2 bt471.1).bind fun bt479 => (spec_l01Src_text.j0 k bt479.1 s0_0 bt479.2.1 bt479.2.2.1 bt479.2.2.2)) else (spec_l01Src_text.j0 k bt471.1 s0_0 bt475.2.1 bt475.2.2.1 bt475.2.2.2))))
theorem spec_l01Src_text.mono_l : ∀ k, (∀ y0 y1 y2 y3 y4, LeO (spec_l01Src_text.j0 k y0 y1 y2 y3 y4) (spec_l01Src_text.j0 (k + 1) y0 y1 y2 y3 y4))
  | 0 => fun _ _ _ _ _ r h => by simp [spec_l01Src_text.j0] at h
  | k + 1 => by
    have ih0 := spec_l01Src_text.mono_l k
    · intro y0 y1 y2 y3 y4
      unfold spec_l01Src_text.j0
      repeat' first
      | (with_reducible exact ih0 _ _ _ _ _)
      | (with_reducible exact spec_l01Src_long.mono _ _ _ _ _ _ _)
      | (with_reducible exact spec_l01Src_spoil.mono _ _ _ _ _ _)
      | (with_reducible exact spec_l01Src_textOf.mono _ _ _ _ _ _)
      | (with_reducible exact LeO.refl _)
      | (with_reducible exact LeO.none _)
      | (with_reducible refine LeO.ite ?_ ?_)
      | (with_reducible refine LeO.bind ?_ (fun _ => ?_))
      | exact ih0 _ _ _ _ _
      | exact spec_l01Src_long.mono _ _ _ _ _ _ _
      | exact spec_l01Src_spoil.mono _ _ _ _ _ _
      | exact spec_l01Src_textOf.mono _ _ _ _ _ _
      | exact LeO.none _
      | refine LeO.ite ?_ ?_
      | refine LeO.bind ?_ (fun _ => ?_)
theorem spec_l01Src_text.mono : ∀ a0 a1 a2 a3 k, LeO (spec_l01Src_text.f k a0 a1 a2 a3) (spec_l01Src_text.f (k + 1) a0 a1 a2 a3) := by
  intro a0 a1 a2 a3 k
  have ih0 := spec_l01Src_text.mono_l k
  unfold spec_l01Src_text.f
  repeat' first
      | (with_reducible exact ih0 _ _ _ _ _)
      | (with_reducible exact spec_l01Src_long.mono _ _ _ _ _ _ _)
      | (with_reducible exact spec_l01Src_spoil.mono _ _ _ _ _ _)
      | (with_reducible exact spec_l01Src_textOf.mono _ _ _ _ _ _)
      | (with_reducible exact LeO.refl _)
      | (with_reducible exact LeO.none _)
      | (with_reducible refine LeO.ite ?_ ?_)
      | (with_reducible refine LeO.bind ?_ (fun _ => ?_))
      | exact ih0 _ _ _ _ _
      | exact spec_l01Src_long.mono _ _ _ _ _ _ _
      | exact spec_l01Src_spoil.mono _ _ _ _ _ _
      | exact spec_l01Src_textOf.mono _ _ _ _ _ _
      | exact LeO.none _
      | refine LeO.ite ?_ ?_
      | refine LeO.bind ?_ (fun _ => ?_)
set_option maxHeartbeats 8000000 in
set_option maxRecDepth 100000 in
theorem spec_l01Src_text.calls (k : Nat) (g : Nat) (s0_0 : List Int) (s0_1 : Int) (s0_2 : Int) (s0_3 : Int) (r1 : ByteArray) (r2 : Int) (r3 : Int) (r4 : Int) (w0 w : World) (hI : IsS145 w0 w g s0_0 s0_1 s0_2 s0_3) (hB : Below w0.heap.size w0 w) (h : spec_l01Src_text.f k s0_0 s0_1 s0_2 s0_3 = some (r1, r2, r3, r4)) :
    Calls Tryd.prog 139 #[.pointer (some ⟨g, 0, none⟩)] w fun e w' => e = .returned (.string r1) ∧ IsS145 w0 w' g s0_0 r2 r3 r4 ∧ Below w0.heap.size w0 w' ∧ KeepBut w w' g none := by
  have HI0 := Aside0.mk hI
  have HK := Aside0.mk (KeepBut.refl w g none)
  have HL := Aside0.mk hB.size
  clear hI
  have HW0 := Aside0.mk hB.size
  have HB := Aside0.mk hB
  clear hB
  have H : ((spec_l01Src_n.f s0_0 s0_1 s0_2 s0_3 (wrap64 (8 + (wrap64 (2 * s0_3))))).bind fun bt467 => ((spec_l01Src_textOf.f k s0_0 bt467.2.1 bt467.2.2.1 bt467.2.2.2 bt467.1).bind fun bt471 => ((spec_l01Src_one.f s0_0 bt471.2.1 bt471.2.2.1 bt471.2.2.2 12).bind fun bt475 => (if bt475.1 = true then ((spec_l01Src_spoil.f k s0_0 bt475.2.1 bt475.2.2.1 bt475.2.2.2 bt471.1).bind fun bt479 => (spec_l01Src_text.j0 k bt479.1 s0_0 bt479.2.1 bt479.2.2.1 bt479.2.2.2)) else (spec_l01Src_text.j0 k bt471.1 s0_0 bt475.2.1 bt475.2.2.1 bt475.2.2.2))))) = some (r1, r2, r3, r4) := h
  clear h
  replace H := Option.bind_eq_some_iff.mp H
  obtain ⟨⟨t467, t468, t469, t470⟩, A20, H⟩ := H
  replace H : ((spec_l01Src_textOf.f k s0_0 t468 t469 t470 t467).bind fun bt471 => ((spec_l01Src_one.f s0_0 bt471.2.1 bt471.2.2.1 bt471.2.2.2 12).bind fun bt475 => (if bt475.1 = true then ((spec_l01Src_spoil.f k s0_0 bt475.2.1 bt475.2.2.1 bt475.2.2.2 bt471.1).bind fun bt479 => (spec_l01Src_text.j0 k bt479.1 s0_0 bt479.2.1 bt479.2.2.1 bt479.2.2.2)) else (spec_l01Src_text.j0 k bt471.1 s0_0 bt475.2.1 bt475.2.2.1 bt475.2.2.2)))) = some (r1, r2, r3, r4) := H
  have A2 := Aside0.mk A20
  clear A20
  replace H := Option.bind_eq_some_iff.mp H
  obtain ⟨⟨t471, t472, t473, t474⟩, A30, H⟩ := H
  replace H : ((spec_l01Src_one.f s0_0 t472 t473 t474 12).bind fun bt475 => (if bt475.1 = true then ((spec_l01Src_spoil.f k s0_0 bt475.2.1 bt475.2.2.1 bt475.2.2.2 t471).bind fun bt479 => (spec_l01Src_text.j0 k bt479.1 s0_0 bt479.2.1 bt479.2.2.1 bt479.2.2.2)) else (spec_l01Src_text.j0 k t471 s0_0 bt475.2.1 bt475.2.2.1 bt475.2.2.2))) = some (r1, r2, r3, r4) := H
  have A3 := Aside0.mk A30
  clear A30
  replace H := Option.bind_eq_some_iff.mp H
  obtain ⟨⟨t475, t476, t477, t478⟩, A40, H⟩ := H
  replace H : (if t475 = true then ((spec_l01Src_spoil.f k s0_0 t476 t477 t478 t471).bind fun bt479 => (spec_l01Src_text.j0 k bt479.1 s0_0 bt479.2.1 bt479.2.2.1 bt479.2.2.2)) else (spec_l01Src_text.j0 k t471 s0_0 t476 t477 t478)) = some (r1, r2, r3, r4) := H
  have A4 := Aside0.mk A40
  clear A40
  have HC5 := Aside0.mk H
  clear H
  obtain ⟨ASz6_0, cSz6_0, HGz6, hgz6, HSz6_0⟩ := HI0.out
  have hcz6_0 := cellS145_0 HGz6
  have hcz6_1 := cellS145_1 HGz6
  have hcz6_2 := cellS145_2 HGz6
  have hcz6_3 := cellS145_3 HGz6
  have hfz6_1 := blk_frozen HGz6 1
  have hfz6_2 := blk_frozen HGz6 2
  have hfz6_3 := blk_frozen HGz6 3
  clear HGz6 hgz6
  go_enter Tryd.func139, Tryd.ntmps139
  go_upto_if 15 with (first | ((with_reducible refine gate_callee (f := 94) rfl ?_); refine goesL_ (some 12) rfl rfl Tryd.func94 (by kernel_rfl) rfl #[.pointer (some ⟨g, 0, none⟩), .int .i64 (wrap64 (8 + (wrap64 (2 * s0_3))))] rfl (by (try simp only [List.map_toArray, List.map_cons, List.map_nil]); first | done | rfl | (simp only [List.length_drop, List.length_take]; rfl)) ?_; (with_reducible refine (spec_l01Src_n.calls g s0_0 s0_1 s0_2 s0_3 (wrap64 (8 + (wrap64 (2 * s0_3)))) t467 t468 t469 t470 w0 _ ?side1 ?side2 A2.out).mono ?_); (case side1 => repeat (first | (with_reducible first | exact HI0.out | apply IsS145.alloc | apply IsS145.drewN | apply IsS145.drew | apply IsS145.set_1 | apply IsS145.set_2 | apply IsS145.set_3) | exact HI0.out)); (case side2 => repeat (first | (with_reducible first | exact HB.out | apply below_alloc | apply pw_below_drewN | apply below_drew1 | refine below_set ?_ (IsS145.ge HI0.out)) | exact HB.out)); rintro e w7 ⟨rfl, hi, hb, hk⟩; refine ⟨_, rfl, ?_⟩; have n0_ := Aside0.mk (KeepBut.trans (by repeat (first | (with_reducible first | exact HK.out | apply KeepBut.set_ | apply keep_drewN | apply keep_drew | apply keep_alloc) | exact HK.out)) hk (.inl rfl)); have n1_ := Aside0.mk (hb); have n2_ := Aside0.mk (hi); clear HK; clear HB; clear HI0; have HK := n0_; have HB := n1_; have HI0 := n2_; clear n0_ n1_ n2_; (try clear hb); (try clear hb2); (try clear hk); (try clear hi)) | ((with_reducible refine gate_callee (f := 197) rfl ?_); refine goesL_ (some 13) rfl rfl Tryd.func197 (by kernel_rfl) rfl #[.pointer (some ⟨g, 0, none⟩), .int .i64 t467] rfl (by (try simp only [List.map_toArray, List.map_cons, List.map_nil]); first | done | rfl | (simp only [List.length_drop, List.length_take]; rfl)) ?_; (with_reducible refine (spec_l01Src_textOf.calls k g s0_0 t468 t469 t470 t467 t471 t472 t473 t474 w0 _ ?side1 ?side2 A3.out).mono ?_); (case side1 => repeat (first | (with_reducible first | exact HI0.out | apply IsS145.alloc | apply IsS145.drewN | apply IsS145.drew | apply IsS145.set_1 | apply IsS145.set_2 | apply IsS145.set_3) | exact HI0.out)); (case side2 => repeat (first | (with_reducible first | exact HB.out | apply below_alloc | apply pw_below_drewN | apply below_drew1 | refine below_set ?_ (IsS145.ge HI0.out)) | exact HB.out)); rintro e w8 ⟨rfl, hi, hb, hk⟩; refine ⟨_, rfl, ?_⟩; have n0_ := Aside0.mk (KeepBut.trans (by repeat (first | (with_reducible first | exact HK.out | apply KeepBut.set_ | apply keep_drewN | apply keep_drew | apply keep_alloc) | exact HK.out)) hk (.inl rfl)); have n1_ := Aside0.mk (hb); have n2_ := Aside0.mk (hi); clear HK; clear HB; clear HI0; have HK := n0_; have HB := n1_; have HI0 := n2_; clear n0_ n1_ n2_; (try clear hb); (try clear hb2); (try clear hk); (try clear hi)) | ((with_reducible refine gate_callee (f := 91) rfl ?_); refine goesL_ (some 15) rfl rfl Tryd.func91 (by kernel_rfl) rfl #[.pointer (some ⟨g, 0, none⟩), .int .i64 12] rfl (by (try simp only [List.map_toArray, List.map_cons, List.map_nil]); first | done | rfl | (simp only [List.length_drop, List.length_take]; rfl)) ?_; (with_reducible refine (spec_l01Src_one.calls g s0_0 t472 t473 t474 12 t475 t476 t477 t478 w0 _ ?side1 ?side2 A4.out).mono ?_); (case side1 => repeat (first | (with_reducible first | exact HI0.out | apply IsS145.alloc | apply IsS145.drewN | apply IsS145.drew | apply IsS145.set_1 | apply IsS145.set_2 | apply IsS145.set_3) | exact HI0.out)); (case side2 => repeat (first | (with_reducible first | exact HB.out | apply below_alloc | apply pw_below_drewN | apply below_drew1 | refine below_set ?_ (IsS145.ge HI0.out)) | exact HB.out)); rintro e w9 ⟨rfl, hi, hb, hk⟩; refine ⟨_, rfl, ?_⟩; have n0_ := Aside0.mk (KeepBut.trans (by repeat (first | (with_reducible first | exact HK.out | apply KeepBut.set_ | apply keep_drewN | apply keep_drew | apply keep_alloc) | exact HK.out)) hk (.inl rfl)); have n1_ := Aside0.mk (hb); have n2_ := Aside0.mk (hi); clear HK; clear HB; clear HI0; have HK := n0_; have HB := n1_; have HI0 := n2_; clear n0_ n1_ n2_; (try clear hb); (try clear hb2); (try clear hk); (try clear hi)))
  (try simp only [Act.put, List.setIfInBounds_toArray, List.set_cons_zero, List.set_cons_succ])
  go_cut [3] (fun v3 wc => ∃ (kq : Nat) (x3_4 : ByteArray) (x1001_4 : Int) (x1002_4 : Int) (x1003_4 : Int), v3 = .string x3_4 ∧ Aside0 (spec_l01Src_text.j0 kq x3_4 s0_0 x1001_4 x1002_4 x1003_4 = some (r1, r2, r3, r4)) ∧ Aside0 (kq ≤ k) ∧ Aside0 (IsS145 w0 wc g s0_0 x1001_4 x1002_4 x1003_4) ∧ Aside0 (KeepBut w wc g none) ∧ Aside0 (Below w0.heap.size w0 wc))
  case first =>
    have H := HC5.out
    clear HC5
    by_cases c10 : t475 = true
    · subst c10
      have H1 : ((spec_l01Src_spoil.f k s0_0 t476 t477 t478 t471).bind fun bt479 => (spec_l01Src_text.j0 k bt479.1 s0_0 bt479.2.1 bt479.2.2.1 bt479.2.2.2)) = some (r1, r2, r3, r4) := by rw [if_pos rfl] at H; exact H
      clear H
      have H := H1
      clear H1
      replace H := Option.bind_eq_some_iff.mp H
      obtain ⟨⟨t479, t480, t481, t482⟩, A110, H⟩ := H
      replace H : (spec_l01Src_text.j0 k t479 s0_0 t480 t481 t482) = some (r1, r2, r3, r4) := H
      have A11 := Aside0.mk A110
      clear A110
      have H' := Aside0.mk H
      clear H
      go_wp2_with (first | ((with_reducible refine gate_callee (f := 162) rfl ?_); refine goesL_ (some 18) rfl rfl Tryd.func162 (by kernel_rfl) rfl #[.pointer (some ⟨g, 0, none⟩), .string t471] rfl (by (try simp only [List.map_toArray, List.map_cons, List.map_nil]); first | done | rfl | (simp only [List.length_drop, List.length_take]; rfl)) ?_; (with_reducible refine (spec_l01Src_spoil.calls k g s0_0 t476 t477 t478 t471 t479 t480 t481 t482 w0 _ ?side1 ?side2 A11.out).mono ?_); (case side1 => repeat (first | (with_reducible first | exact HI0.out | apply IsS145.alloc | apply IsS145.drewN | apply IsS145.drew | apply IsS145.set_1 | apply IsS145.set_2 | apply IsS145.set_3) | exact HI0.out)); (case side2 => repeat (first | (with_reducible first | exact HB.out | apply below_alloc | apply pw_below_drewN | apply below_drew1 | refine below_set ?_ (IsS145.ge HI0.out)) | exact HB.out)); rintro e w12 ⟨rfl, hi, hb, hk⟩; refine ⟨_, rfl, ?_⟩; have n0_ := Aside0.mk (KeepBut.trans (by repeat (first | (with_reducible first | exact HK.out | apply KeepBut.set_ | apply keep_drewN | apply keep_drew | apply keep_alloc) | exact HK.out)) hk (.inl rfl)); have n1_ := Aside0.mk (hb); have n2_ := Aside0.mk (hi); clear HK; clear HB; clear HI0; have HK := n0_; have HB := n1_; have HI0 := n2_; clear n0_ n1_ n2_; (try clear hb); (try clear hb2); (try clear hk); (try clear hi)))
      go_meet
      case rel => exact ⟨_, (t479), (t480), (t481), (t482), (by first | rfl | (simp; done) | (simp [*]; done)), H', ⟨by first | omega | exact Nat.le_refl _⟩, ⟨by repeat (first | (with_reducible first | exact HI0.out | apply IsS145.alloc | apply IsS145.drewN | apply IsS145.drew | apply IsS145.set_1 | apply IsS145.set_2 | apply IsS145.set_3) | exact HI0.out)⟩, ⟨by repeat (first | (with_reducible first | exact HK.out | apply KeepBut.set_ | apply keep_drewN | apply keep_drew | apply keep_alloc) | exact HK.out)⟩, ⟨by repeat (first | (with_reducible first | exact HB.out | apply below_alloc | apply pw_below_drewN | apply below_drew1 | refine below_set ?_ (IsS145.ge HI0.out)) | exact HB.out)⟩⟩
    · replace c10 := Bool.eq_false_iff.mpr c10
      subst c10
      have H1 : (spec_l01Src_text.j0 k t471 s0_0 t476 t477 t478) = some (r1, r2, r3, r4) := by rw [if_neg (show ¬ (false = true) by decide)] at H; exact H
      clear H
      have H := H1
      clear H1
      have H' := Aside0.mk H
      clear H
      go_wp2
      go_meet
      case rel => exact ⟨_, (t471), (t476), (t477), (t478), (by first | rfl | (simp; done) | (simp [*]; done)), H', ⟨by first | omega | exact Nat.le_refl _⟩, ⟨by repeat (first | (with_reducible first | exact HI0.out | apply IsS145.alloc | apply IsS145.drewN | apply IsS145.drew | apply IsS145.set_1 | apply IsS145.set_2 | apply IsS145.set_3) | exact HI0.out)⟩, ⟨by repeat (first | (with_reducible first | exact HK.out | apply KeepBut.set_ | apply keep_drewN | apply keep_drew | apply keep_alloc) | exact HK.out)⟩, ⟨by repeat (first | (with_reducible first | exact HB.out | apply below_alloc | apply pw_below_drewN | apply below_drew1 | refine below_set ?_ (IsS145.ge HI0.out)) | exact HB.out)⟩⟩
  case rest =>
    clear HC5
    try clear c1
    try clear p2
    try clear p6
    try clear c9
    try clear c10
    try clear hcz6_0
    try clear hcz6_1
    try clear hcz6_2
    try clear hcz6_3
    try clear hfz6_1
    try clear hfz6_2
    try clear hfz6_3
    obtain ⟨kq, x3_4, x1001_4, x1002_4, x1003_4, rfl, HA, HJ4, HI0, HK, HB⟩ := hcut
    cases kq with
    | zero => exact absurd HA.out (by simp [spec_l01Src_text.j0])
    | succ kj4 =>
      have H := HA.out
      clear HA
      simp only [spec_l01Src_text.j0] at H
      replace H := Option.bind_eq_some_iff.mp H
      obtain ⟨⟨t483, t484, t485, t486⟩, A130, H⟩ := H
      replace H : (if t483 = true then ((spec_l01Src_n.f s0_0 t484 t485 t486 3).bind fun bt487 => ((spec_l01Src_long.f kj4 s0_0 bt487.2.1 bt487.2.2.1 bt487.2.2.2 (⟨#[97, 98]⟩ : ByteArray) (wrap64 (65535 + bt487.1))).bind fun bt491 => (some (bt491.1, bt491.2.1, bt491.2.2.1, bt491.2.2.2)))) else (some (x3_4, t484, t485, t486))) = some (r1, r2, r3, r4) := H
      have A13 := Aside0.mk A130
      clear A130
      by_cases c14 : t483 = true
      · subst c14
        have H1 : ((spec_l01Src_n.f s0_0 t484 t485 t486 3).bind fun bt487 => ((spec_l01Src_long.f kj4 s0_0 bt487.2.1 bt487.2.2.1 bt487.2.2.2 (⟨#[97, 98]⟩ : ByteArray) (wrap64 (65535 + bt487.1))).bind fun bt491 => (some (bt491.1, bt491.2.1, bt491.2.2.1, bt491.2.2.2)))) = some (r1, r2, r3, r4) := by rw [if_pos rfl] at H; exact H
        clear H
        have H := H1
        clear H1
        replace H := Option.bind_eq_some_iff.mp H
        obtain ⟨⟨t487, t488, t489, t490⟩, A150, H⟩ := H
        replace H : ((spec_l01Src_long.f kj4 s0_0 t488 t489 t490 (⟨#[97, 98]⟩ : ByteArray) (wrap64 (65535 + t487))).bind fun bt491 => (some (bt491.1, bt491.2.1, bt491.2.2.1, bt491.2.2.2))) = some (r1, r2, r3, r4) := H
        have A15 := Aside0.mk A150
        clear A150
        replace H := Option.bind_eq_some_iff.mp H
        obtain ⟨⟨t491, t492, t493, t494⟩, A160, H⟩ := H
        replace H : (some (t491, t492, t493, t494)) = some (r1, r2, r3, r4) := H
        have A16 := Aside0.mk A160
        clear A160
        simp only [Option.some.injEq, Prod.mk.injEq] at H
        obtain ⟨rfl, rfl, rfl, rfl⟩ := H
        go_wp2_with (first | ((with_reducible refine gate_callee (f := 91) rfl ?_); refine goesL_ (some 20) rfl rfl Tryd.func91 (by kernel_rfl) rfl #[.pointer (some ⟨g, 0, none⟩), .int .i64 200] rfl (by (try simp only [List.map_toArray, List.map_cons, List.map_nil]); first | done | rfl | (simp only [List.length_drop, List.length_take]; rfl)) ?_; (with_reducible refine (spec_l01Src_one.calls g s0_0 x1001_4 x1002_4 x1003_4 200 true t484 t485 t486 w0 _ ?side1 ?side2 A13.out).mono ?_); (case side1 => repeat (first | (with_reducible first | exact HI0.out | apply IsS145.alloc | apply IsS145.drewN | apply IsS145.drew | apply IsS145.set_1 | apply IsS145.set_2 | apply IsS145.set_3) | exact HI0.out)); (case side2 => repeat (first | (with_reducible first | exact HB.out | apply below_alloc | apply pw_below_drewN | apply below_drew1 | refine below_set ?_ (IsS145.ge HI0.out)) | exact HB.out)); rintro e w17 ⟨rfl, hi, hb, hk⟩; refine ⟨_, rfl, ?_⟩; have n0_ := Aside0.mk (KeepBut.trans (by repeat (first | (with_reducible first | exact HK.out | apply KeepBut.set_ | apply keep_drewN | apply keep_drew | apply keep_alloc) | exact HK.out)) hk (.inl rfl)); have n1_ := Aside0.mk (hb); have n2_ := Aside0.mk (hi); clear HK; clear HB; clear HI0; have HK := n0_; have HB := n1_; have HI0 := n2_; clear n0_ n1_ n2_; (try clear hb); (try clear hb2); (try clear hk); (try clear hi)) | ((with_reducible refine gate_callee (f := 94) rfl ?_); refine goesL_ (some 23) rfl rfl Tryd.func94 (by kernel_rfl) rfl #[.pointer (some ⟨g, 0, none⟩), .int .i64 3] rfl (by (try simp only [List.map_toArray, List.map_cons, List.map_nil]); first | done | rfl | (simp only [List.length_drop, List.length_take]; rfl)) ?_; (with_reducible refine (spec_l01Src_n.calls g s0_0 t484 t485 t486 3 t487 t488 t489 t490 w0 _ ?side1 ?side2 A15.out).mono ?_); (case side1 => repeat (first | (with_reducible first | exact HI0.out | apply IsS145.alloc | apply IsS145.drewN | apply IsS145.drew | apply IsS145.set_1 | apply IsS145.set_2 | apply IsS145.set_3) | exact HI0.out)); (case side2 => repeat (first | (with_reducible first | exact HB.out | apply below_alloc | apply pw_below_drewN | apply below_drew1 | refine below_set ?_ (IsS145.ge HI0.out)) | exact HB.out)); rintro e w18 ⟨rfl, hi, hb, hk⟩; refine ⟨_, rfl, ?_⟩; have n0_ := Aside0.mk (KeepBut.trans (by repeat (first | (with_reducible first | exact HK.out | apply KeepBut.set_ | apply keep_drewN | apply keep_drew | apply keep_alloc) | exact HK.out)) hk (.inl rfl)); have n1_ := Aside0.mk (hb); have n2_ := Aside0.mk (hi); clear HK; clear HB; clear HI0; have HK := n0_; have HB := n1_; have HI0 := n2_; clear n0_ n1_ n2_; (try clear hb); (try clear hb2); (try clear hk); (try clear hi)) | ((with_reducible refine gate_callee (f := 92) rfl ?_); refine goesL_ (some 25) rfl rfl Tryd.func92 (by kernel_rfl) rfl #[.pointer (some ⟨g, 0, none⟩), .string (⟨#[97, 98]⟩ : ByteArray), .int .i64 (wrap64 (65535 + t487))] rfl (by (try simp only [List.map_toArray, List.map_cons, List.map_nil]); first | done | rfl | (simp only [List.length_drop, List.length_take]; rfl)) ?_; (with_reducible refine (spec_l01Src_long.calls kj4 g s0_0 t488 t489 t490 (⟨#[97, 98]⟩ : ByteArray) (wrap64 (65535 + t487)) t491 t492 t493 t494 w0 _ ?side1 ?side2 A16.out).mono ?_); (case side1 => repeat (first | (with_reducible first | exact HI0.out | apply IsS145.alloc | apply IsS145.drewN | apply IsS145.drew | apply IsS145.set_1 | apply IsS145.set_2 | apply IsS145.set_3) | exact HI0.out)); (case side2 => repeat (first | (with_reducible first | exact HB.out | apply below_alloc | apply pw_below_drewN | apply below_drew1 | refine below_set ?_ (IsS145.ge HI0.out)) | exact HB.out)); rintro e w19 ⟨rfl, hi, hb, hk⟩; refine ⟨_, rfl, ?_⟩; have n0_ := Aside0.mk (KeepBut.trans (by repeat (first | (with_reducible first | exact HK.out | apply KeepBut.set_ | apply keep_drewN | apply keep_drew | apply keep_alloc) | exact HK.out)) hk (.inl rfl)); have n1_ := Aside0.mk (hb); have n2_ := Aside0.mk (hi); clear HK; clear HB; clear HI0; have HK := n0_; have HB := n1_; have HI0 := n2_; clear n0_ n1_ n2_; (try clear hb); (try clear hb2); (try clear hk); (try clear hi)))
        go_ret
        exact ⟨by first | rfl | (simp [errW_none, errW_some] <;> rfl) | (simp [*, errW_none, errW_some] <;> rfl), by repeat (first | (with_reducible first | exact HI0.out | apply IsS145.alloc | apply IsS145.drewN | apply IsS145.drew | apply IsS145.set_1 | apply IsS145.set_2 | apply IsS145.set_3) | exact HI0.out), by repeat (first | (with_reducible first | exact HB.out | apply below_alloc | apply pw_below_drewN | apply below_drew1 | refine below_set ?_ (IsS145.ge HI0.out)) | exact HB.out), by repeat (first | (with_reducible first | exact HK.out | apply KeepBut.set_ | apply keep_drewN | apply keep_drew | apply keep_alloc) | exact HK.out)⟩
      · replace c14 := Bool.eq_false_iff.mpr c14
        subst c14
        have H1 : (some (x3_4, t484, t485, t486)) = some (r1, r2, r3, r4) := by rw [if_neg (show ¬ (false = true) by decide)] at H; exact H
        clear H
        have H := H1
        clear H1
        simp only [Option.some.injEq, Prod.mk.injEq] at H
        obtain ⟨rfl, rfl, rfl, rfl⟩ := H
        go_wp2_with (first | ((with_reducible refine gate_callee (f := 91) rfl ?_); refine goesL_ (some 20) rfl rfl Tryd.func91 (by kernel_rfl) rfl #[.pointer (some ⟨g, 0, none⟩), .int .i64 200] rfl (by (try simp only [List.map_toArray, List.map_cons, List.map_nil]); first | done | rfl | (simp only [List.length_drop, List.length_take]; rfl)) ?_; (with_reducible refine (spec_l01Src_one.calls g s0_0 x1001_4 x1002_4 x1003_4 200 false t484 t485 t486 w0 _ ?side1 ?side2 A13.out).mono ?_); (case side1 => repeat (first | (with_reducible first | exact HI0.out | apply IsS145.alloc | apply IsS145.drewN | apply IsS145.drew | apply IsS145.set_1 | apply IsS145.set_2 | apply IsS145.set_3) | exact HI0.out)); (case side2 => repeat (first | (with_reducible first | exact HB.out | apply below_alloc | apply pw_below_drewN | apply below_drew1 | refine below_set ?_ (IsS145.ge HI0.out)) | exact HB.out)); rintro e w20 ⟨rfl, hi, hb, hk⟩; refine ⟨_, rfl, ?_⟩; have n0_ := Aside0.mk (KeepBut.trans (by repeat (first | (with_reducible first | exact HK.out | apply KeepBut.set_ | apply keep_drewN | apply keep_drew | apply keep_alloc) | exact HK.out)) hk (.inl rfl)); have n1_ := Aside0.mk (hb); have n2_ := Aside0.mk (hi); clear HK; clear HB; clear HI0; have HK := n0_; have HB := n1_; have HI0 := n2_; clear n0_ n1_ n2_; (try clear hb); (try clear hb2); (try clear hk); (try clear hi)))
        go_ret
        exact ⟨by first | rfl | (simp [errW_none, errW_some] <;> rfl) | (simp [*, errW_none, errW_some] <;> rfl), by repeat (first | (with_reducible first | exact HI0.out | apply IsS145.alloc | apply IsS145.drewN | apply IsS145.drew | apply IsS145.set_1 | apply IsS145.set_2 | apply IsS145.set_3) | exact HI0.out), by repeat (first | (with_reducible first | exact HB.out | apply below_alloc | apply pw_below_drewN | apply below_drew1 | refine below_set ?_ (IsS145.ge HI0.out)) | exact HB.out), by repeat (first | (with_reducible first | exact HK.out | apply KeepBut.set_ | apply keep_drewN | apply keep_drew | apply keep_alloc) | exact HK.out)⟩

theorem spec_l01Src_text.join (k : Nat) (l : List Int) (t : ByteArray) (a m z : Int) (hl : l.length ≤ 140737488355328) (h0 : 0 ≤ a) (h1 : a ≤ (l.length : Int)) (ht : t.size ≤ 100000) (hk : 100000 ≤ k) :
    YtnonijganceneaaDoorPts.Tot (spec_l01Src_text.j0 (k + 1) t l a m z) (fun r => r.1.size ≤ 100000 ∧ 0 ≤ r.2.1 ∧ r.2.1 ≤ (l.length : Int) ∧ r.2.2.2 = z) := by
  simp only [spec_l01Src_text.j0]
  refine YtnonijganceneaaDoorPts.Tot.bind (spec_l01Src_one.tot l a m z 200 hl h0 h1 (by decide)) ?_
  rintro ⟨b, a1, m1, z1⟩ ⟨h2, h3, h4⟩
  dsimp only at h2 h3 h4 ⊢
  subst h4
  refine YtnonijganceneaaDoorPts.Tot.ite (fun _ => ?_) (fun _ => YtnonijganceneaaDoorPts.Tot.mk ⟨ht, h2, h3, rfl⟩)
  refine YtnonijganceneaaDoorPts.Tot.bind (spec_l01Src_n.tot l a1 m1 z1 3 hl h2 h3 (by decide)) ?_
  rintro ⟨v, a2, m2, z2⟩ ⟨v1, v2, h5, h6, h7⟩
  dsimp only at v1 v2 h5 h6 h7 ⊢
  subst h7
  have hw : wrap64 (65535 + v) = 65535 + v := by unfold wrap64; omega
  rw [hw]
  clear hw
  unfold spec_l01Src_long.f
  refine YtnonijganceneaaDoorPts.Tot.bind (spec_l01Src_long.run l _ (65535 + v) a2 m2 z2 rfl (by omega) (by omega) 65537 k [] (by simp; omega) (by simp) (by omega)) ?_
  rintro ⟨s, a3, m3, z3⟩ ⟨q1, q2, q3⟩
  dsimp only at q1 q2 q3 ⊢
  subst q2 q3
  exact YtnonijganceneaaDoorPts.Tot.mk ⟨by dsimp only; omega, h5, h6, rfl⟩
theorem spec_l01Src_text.tot (k : Nat) (l : List Int) (a m z : Int) (hl : l.length ≤ 140737488355328) (h0 : 0 ≤ a) (h1 : a ≤ (l.length : Int)) (hz : 0 ≤ z) (hz2 : z ≤ 12) (hk : 100001 ≤ k) :
    YtnonijganceneaaDoorPts.Tot (spec_l01Src_text.f k l a m z) (fun r => r.1.size ≤ 100000 ∧ 0 ≤ r.2.1 ∧ r.2.1 ≤ (l.length : Int) ∧ r.2.2.2 = z) := by
  obtain ⟨k, rfl⟩ : ∃ j, k = j + 1 := ⟨k - 1, by omega⟩
  unfold spec_l01Src_text.f
  have hw : wrap64 (8 + wrap64 (2 * z)) = 8 + 2 * z := by unfold wrap64; omega
  rw [hw]
  clear hw
  refine YtnonijganceneaaDoorPts.Tot.bind (spec_l01Src_n.tot l a m z _ hl h0 h1 (by omega)) ?_
  rintro ⟨v, a1, m1, z1⟩ ⟨v1, v2, h2, h3, h4⟩
  dsimp only at v1 v2 h2 h3 h4 ⊢
  subst h4
  refine YtnonijganceneaaDoorPts.Tot.bind (spec_l01Src_textOf.tot (k + 1) l a1 m1 z1 v hl h2 h3 v1 (by omega) (by omega)) ?_
  rintro ⟨t, a2, m2, z2⟩ ⟨h5, h6, h7, h8⟩
  dsimp only at h5 h6 h7 h8 ⊢
  subst h8
  refine YtnonijganceneaaDoorPts.Tot.bind (spec_l01Src_one.tot l a2 m2 z2 12 hl h6 h7 (by decide)) ?_
  rintro ⟨b, a3, m3, z3⟩ ⟨h9, h10, h11⟩
  dsimp only at h9 h10 h11 ⊢
  subst h11
  refine YtnonijganceneaaDoorPts.Tot.ite (fun _ => ?_) (fun _ => spec_l01Src_text.join k l t a3 m3 z3 hl h9 h10 (by omega) (by omega))
  refine YtnonijganceneaaDoorPts.Tot.bind (spec_l01Src_spoil.tot k l a3 m3 z3 t hl h9 h10 (by omega)) ?_
  rintro ⟨t2, a4, m4, z4⟩ ⟨h12, h13, h14, h15⟩
  dsimp only at h12 h13 h14 h15 ⊢
  subst h15
  exact spec_l01Src_text.join k l t2 a4 m4 z4 hl h13 h14 (by omega) (by omega)
theorem spec_l01Src_text.join2 (k : Nat) (l : List Int) (t : ByteArray) (a m z : Int) (hl : l.length ≤ 140737488355328) (h0 : 0 ≤ a) (h1 : a ≤ (l.length : Int)) (ht : t.size ≤ 1000) (hk : 100000 ≤ k) :
    YtnonijganceneaaDoorPts.Tot (spec_l01Src_text.j0 (k + 1) t l a m z) (fun r => r.1.size ≤ 1000 ∨ ∀ b ∈ bytesOf r.1, b < 128) := by
  simp only [spec_l01Src_text.j0]
  refine YtnonijganceneaaDoorPts.Tot.bind (spec_l01Src_one.tot l a m z 200 hl h0 h1 (by decide)) ?_
  rintro ⟨b, a1, m1, z1⟩ ⟨h2, h3, h4⟩
  dsimp only at h2 h3 h4 ⊢
  subst h4
  refine YtnonijganceneaaDoorPts.Tot.ite (fun _ => ?_) (fun _ => YtnonijganceneaaDoorPts.Tot.mk (.inl ht))
  refine YtnonijganceneaaDoorPts.Tot.bind (spec_l01Src_n.tot l a1 m1 z1 3 hl h2 h3 (by decide)) ?_
  rintro ⟨v, a2, m2, z2⟩ ⟨v1, v2, h5, h6, h7⟩
  dsimp only at v1 v2 h5 h6 h7 ⊢
  subst h7
  have hw : wrap64 (65535 + v) = 65535 + v := by unfold wrap64; omega
  rw [hw]
  clear hw
  unfold spec_l01Src_long.f
  refine YtnonijganceneaaDoorPts.Tot.bind (spec_l01Src_long.run2 l _ (65535 + v) a2 m2 z2 rfl (by decide) (by omega) (by omega) 65537 k [] (by simp; omega) (by simp) (by omega) (by simp)) ?_
  rintro ⟨s, a3, m3, z3⟩ q1
  exact YtnonijganceneaaDoorPts.Tot.mk (.inr q1)
theorem spec_l01Src_text.tot2 (k : Nat) (l : List Int) (a m z : Int) (hl : l.length ≤ 140737488355328) (h0 : 0 ≤ a) (h1 : a ≤ (l.length : Int)) (hz : 0 ≤ z) (hz2 : z ≤ 12) (hk : 100001 ≤ k) :
    YtnonijganceneaaDoorPts.Tot (spec_l01Src_text.f k l a m z) (fun r => r.1.size ≤ 1000 ∨ ∀ b ∈ bytesOf r.1, b < 128) := by
  obtain ⟨k, rfl⟩ : ∃ j, k = j + 1 := ⟨k - 1, by omega⟩
  unfold spec_l01Src_text.f
  have hw : wrap64 (8 + wrap64 (2 * z)) = 8 + 2 * z := by unfold wrap64; omega
  rw [hw]
  clear hw
  refine YtnonijganceneaaDoorPts.Tot.bind (spec_l01Src_n.tot l a m z _ hl h0 h1 (by omega)) ?_
  rintro ⟨v, a1, m1, z1⟩ ⟨v1, v2, h2, h3, h4⟩
  dsimp only at v1 v2 h2 h3 h4 ⊢
  subst h4
  refine YtnonijganceneaaDoorPts.Tot.bind (spec_l01Src_textOf.tot (k + 1) l a1 m1 z1 v hl h2 h3 v1 (by omega) (by omega)) ?_
  rintro ⟨t, a2, m2, z2⟩ ⟨h5, h6, h7, h8⟩
  dsimp only at h5 h6 h7 h8 ⊢
  subst h8
  refine YtnonijganceneaaDoorPts.Tot.bind (spec_l01Src_one.tot l a2 m2 z2 12 hl h6 h7 (by decide)) ?_
  rintro ⟨b, a3, m3, z3⟩ ⟨h9, h10, h11⟩
  dsimp only at h9 h10 h11 ⊢
  subst h11
  refine YtnonijganceneaaDoorPts.Tot.ite (fun _ => ?_) (fun _ => spec_l01Src_text.join2 k l t a3 m3 z3 hl h9 h10 (by omega) (by omega))
  refine YtnonijganceneaaDoorPts.Tot.bind (spec_l01Src_spoil.tot k l a3 m3 z3 t hl h9 h10 (by omega)) ?_
  rintro ⟨t2, a4, m4, z4⟩ ⟨h12, h13, h14, h15⟩
  dsimp only at h12 h13 h14 h15 ⊢
  subst h15
  exact spec_l01Src_text.join2 k l t2 a4 m4 z4 hl h13 h14 (by omega) (by omega)

/-! ### spec_DrawPointsOf: function 58 -/
def spec_DrawPointsOf.f (k : Nat) (l0 : List Int) : Option (ByteArray) := (spec_l01Source.f l0).bind fun bt495 => ((spec_l01Src_text.f k bt495.1 bt495.2.1 bt495.2.2.1 bt495.2.2.2).bind fun bt500 => (some bt500.1))
theorem spec_DrawPointsOf.mono : ∀ a0 k, LeO (spec_DrawPointsOf.f k a0) (spec_DrawPointsOf.f (k + 1) a0) := by
  intro a0 k
  unfold spec_DrawPointsOf.f
  repeat' first
      | (with_reducible exact spec_l01Src_text.mono _ _ _ _ _)
      | (with_reducible exact LeO.refl _)
      | (with_reducible exact LeO.none _)
      | (with_reducible refine LeO.ite ?_ ?_)
      | (with_reducible refine LeO.bind ?_ (fun _ => ?_))
      | exact spec_l01Src_text.mono _ _ _ _ _
      | exact LeO.none _
      | refine LeO.ite ?_ ?_
      | refine LeO.bind ?_ (fun _ => ?_)
set_option maxHeartbeats 8000000 in
set_option maxRecDepth 100000 in
theorem spec_DrawPointsOf.calls (k : Nat) (A0 : Option Addr) (c0 : Nat) (l0 : List Int) (r : ByteArray) (w : World) (hr0 : Kd.C (Kd.int .u8) w A0 l0.length l0) (hc0 : l0.length ≤ c0) (h : spec_DrawPointsOf.f k l0 = some r) :
    Calls Tryd.prog 58 #[.slice A0 l0.length c0] w fun e w' => e = .returned (.string r) ∧ Below w.heap.size w w' := by
  have HR0 := Aside0.mk hr0
  have HC0 := Aside0.mk hc0
  clear hr0 hc0
  have HB := Aside0.mk (Below.refl w.heap.size w)
  have H : ((spec_l01Source.f l0).bind fun bt495 => ((spec_l01Src_text.f k bt495.1 bt495.2.1 bt495.2.2.1 bt495.2.2.2).bind fun bt500 => (some bt500.1))) = some r := h
  clear h
  replace H := Option.bind_eq_some_iff.mp H
  obtain ⟨⟨t495, t496, t497, t498⟩, A20, H⟩ := H
  replace H : ((spec_l01Src_text.f k t495 t496 t497 t498).bind fun bt500 => (some bt500.1)) = some r := H
  have A2 := Aside0.mk A20
  clear A20
  replace H := Option.bind_eq_some_iff.mp H
  obtain ⟨⟨t500, t501, t502, t503⟩, A30, H⟩ := H
  replace H : (some t500) = some r := H
  have A3 := Aside0.mk A30
  clear A30
  obtain rfl := Option.some.inj H
  go_enter Tryd.func58, Tryd.ntmps58
  go_wp2_with (first | ((with_reducible refine gate_callee (f := 73) rfl ?_); refine goesL_ (some 4) rfl rfl Tryd.func73 (by kernel_rfl) rfl #[.slice A0 l0.length c0] rfl (by (try simp only [List.map_toArray, List.map_cons, List.map_nil]); first | done | rfl | (simp only [List.length_drop, List.length_take]; rfl)) ?_; (with_reducible refine (spec_l01Source.calls _ _ l0 t495 t496 t497 t498 w _ ?side1 ?side2 ?side3 A2.out).mono ?_); (case side1 => repeat (first | (with_reducible first | exact HB.out | apply below_alloc | apply pw_below_drewN | apply below_drew1) | exact HB.out)); (case side2 => exact HR0.out); (case side3 => exact HC0.out); rintro e w4 ⟨g499, rfl, hi, hb, hb2⟩; refine ⟨_, rfl, ?_⟩; have n0_ := Aside0.mk (hb); have n1_ := Aside0.mk (hi); clear HB; have HB := n0_; have HI499 := n1_; clear n0_ n1_; (try clear hb); (try clear hb2); (try clear hk); (try clear hi)) | ((with_reducible refine gate_callee (f := 139) rfl ?_); refine goesL_ (some 5) rfl rfl Tryd.func139 (by kernel_rfl) rfl #[.pointer (some ⟨g499, 0, none⟩)] rfl (by (try simp only [List.map_toArray, List.map_cons, List.map_nil]); first | done | rfl | (simp only [List.length_drop, List.length_take]; rfl)) ?_; (with_reducible refine (spec_l01Src_text.calls k g499 t495 t496 t497 t498 t500 t501 t502 t503 w _ ?side1 ?side2 A3.out).mono ?_); (case side1 => repeat (first | (with_reducible first | exact HI499.out | apply IsS145.alloc | apply IsS145.drewN | apply IsS145.drew | apply IsS145.set_1 | apply IsS145.set_2 | apply IsS145.set_3) | exact HI499.out)); (case side2 => repeat (first | (with_reducible first | exact HB.out | apply below_alloc | apply pw_below_drewN | apply below_drew1 | refine below_set ?_ (IsS145.ge HI499.out)) | exact HB.out)); rintro e w5 ⟨rfl, hi, hb, hk⟩; refine ⟨_, rfl, ?_⟩; have n0_ := Aside0.mk (hb); have n1_ := Aside0.mk (hi); clear HB; clear HI499; have HB := n0_; have HI499 := n1_; clear n0_ n1_; (try clear hb); (try clear hb2); (try clear hk); (try clear hi)))
  go_ret
  exact ⟨by first | rfl | (simp [errW_none, errW_some] <;> rfl) | (simp [*, errW_none, errW_some] <;> rfl), by repeat (first | (with_reducible first | exact HB.out | apply below_alloc | apply pw_below_drewN | apply below_drew1 | refine below_set ?_ (IsS145.ge HI499.out)) | exact HB.out)⟩

theorem spec_DrawPointsOf.tot (l : List Int) (hl : l.length ≤ 140737488355328) : ∃ t, spec_DrawPointsOf.f 100001 l = some t ∧ t.size ≤ 100000 := by
  have h : YtnonijganceneaaDoorPts.Tot (spec_DrawPointsOf.f 100001 l) (fun t => t.size ≤ 100000) := by
    unfold spec_DrawPointsOf.f spec_l01Source.f
    rw [if_pos hl]
    simp only [Option.bind_some]
    refine YtnonijganceneaaDoorPts.Tot.bind (spec_l01Src_text.tot 100001 l 0 _ _ hl (by omega) (by omega) (by split <;> omega) (by split <;> omega) (by omega)) ?_
    rintro ⟨t, a, m, z⟩ ⟨h, _⟩
    exact YtnonijganceneaaDoorPts.Tot.mk h
  exact h
def W_spec_DrawPointsOf.f (l0 : List Int) : Option (ByteArray) := spec_DrawPointsOf.f 100001 l0
theorem W_spec_DrawPointsOf.to {l0 : List Int} {r : ByteArray} (h : W_spec_DrawPointsOf.f l0 = some r) : ∃ k, spec_DrawPointsOf.f k l0 = some r := ⟨100001, h⟩
theorem W_spec_DrawPointsOf.has {l : List Int} (hl : l.length ≤ 140737488355328) : ∃ t, W_spec_DrawPointsOf.f l = some t ∧ t.size ≤ 100000 := spec_DrawPointsOf.tot l hl
theorem spec_DrawPointsOf.tot2 (l : List Int) (hl : l.length ≤ 140737488355328) : ∃ t, spec_DrawPointsOf.f 100001 l = some t ∧ (t.size ≤ 1000 ∨ ∀ b ∈ bytesOf t, b < 128) := by
  have h : YtnonijganceneaaDoorPts.Tot (spec_DrawPointsOf.f 100001 l) (fun t => t.size ≤ 1000 ∨ ∀ b ∈ bytesOf t, b < 128) := by
    unfold spec_DrawPointsOf.f spec_l01Source.f
    rw [if_pos hl]
    simp only [Option.bind_some]
    refine YtnonijganceneaaDoorPts.Tot.bind (spec_l01Src_text.tot2 100001 l 0 _ _ hl (by omega) (by omega) (by split <;> omega) (by split <;> omega) (by omega)) ?_
    rintro ⟨t, a, m, z⟩ h
    exact YtnonijganceneaaDoorPts.Tot.mk h
  exact h
theorem W_spec_DrawPointsOf.has2 {l : List Int} (hl : l.length ≤ 140737488355328) : ∃ t, W_spec_DrawPointsOf.f l = some t ∧ t.size ≤ 100000 ∧ (t.size ≤ 1000 ∨ ∀ b ∈ bytesOf t, b < 128) := by
  obtain ⟨t, h1, h2⟩ := spec_DrawPointsOf.tot l hl
  obtain ⟨t', h3, h4⟩ := spec_DrawPointsOf.tot2 l hl
  rw [h1] at h3
  obtain rfl := Option.some.inj h3
  exact ⟨t, h1, h2, h4⟩
theorem W_spec_DrawPointsOf.calls (A0 : Option Addr) (c0 : Nat) (l0 : List Int) (r : ByteArray) (w : World) (hr0 : Kd.C (Kd.int .u8) w A0 l0.length l0) (hc0 : l0.length ≤ c0) (h : W_spec_DrawPointsOf.f l0 = some r) :
    Calls Tryd.prog 58 #[.slice A0 l0.length c0] w fun e w' => e = .returned (.string r) ∧ Below w.heap.size w w' := by
  obtain ⟨k, hk⟩ := W_spec_DrawPointsOf.to h
  exact spec_DrawPointsOf.calls k A0 c0 l0 r w hr0 hc0 hk

end Go.Proofs.YtnonijganceneaaDoor.QFnCodes
