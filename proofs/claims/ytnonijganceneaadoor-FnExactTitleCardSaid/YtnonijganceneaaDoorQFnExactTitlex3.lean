/- The law FnExactTitle: at every input the call answers true (this text: contracts on its way, by a program of this session's; no condition of ours). -/
import Derived.Test.YtnonijganceneaaDoorQFnExactTitlex0
import Derived.Test.YtnonijganceneaaDoorQFnExactTitlex1
import Derived.Test.YtnonijganceneaaDoorQFnExactTitlex2
namespace Go.Proofs.YtnonijganceneaaDoor.QFnExactTitle
open Go.RowKit Go.Proofs.YtnonijganceneaaDoorW.PrintWords Go.Proofs.YtnonijganceneaaDoorW.PrintLast Go.Proofs.YtnonijganceneaaDoorW.PrintMore
attribute [local go_sem] max2_int min2_int max_two min_two max_three min_three max_four min_four   -- for this text's walks alone
set_option linter.unusedVariables false
set_option linter.unusedSimpArgs false

/-! ### spec_l01Points: function 102 -/
def spec_l01Points.l0 : Nat → ByteArray → List Int → Int → Option (List Int)
  | 0, _, _, _ => none
  | k + 1, x0, x3, x4 => if x4 < (x0.size : Int) then ((W_spec_l01Next.f x0 x4).bind fun bt119 => (if x3.length < 17592186044416 then (spec_l01Points.l0 k x0 (x3 ++ [bt119.1]) (wrap64 (x4 + bt119.2.1))) else (none))) else (some x3)
def spec_l01Points.f (k : Nat) (a0 : ByteArray) : Option (List Int) := spec_l01Points.l0 k a0 (([] : List Int)) 0
theorem spec_l01Points.mono_l : ∀ k, (∀ y0 y1 y2, LeO (spec_l01Points.l0 k y0 y1 y2) (spec_l01Points.l0 (k + 1) y0 y1 y2))
  | 0 => fun _ _ _ r h => by simp [spec_l01Points.l0] at h
  | k + 1 => by
    have ih0 := spec_l01Points.mono_l k
    · intro y0 y1 y2
      unfold spec_l01Points.l0
      repeat' first
      | (with_reducible exact ih0 _ _ _)
      | (with_reducible exact LeO.refl _)
      | (with_reducible exact LeO.none _)
      | (with_reducible refine LeO.ite ?_ ?_)
      | (with_reducible refine LeO.bind ?_ (fun _ => ?_))
      | exact ih0 _ _ _
      | exact LeO.none _
      | refine LeO.ite ?_ ?_
      | refine LeO.bind ?_ (fun _ => ?_)
theorem spec_l01Points.mono : ∀ a0 k, LeO (spec_l01Points.f k a0) (spec_l01Points.f (k + 1) a0) := by
  intro a0 k
  have ih0 := spec_l01Points.mono_l k
  unfold spec_l01Points.f
  repeat' first
      | (with_reducible exact ih0 _ _ _)
      | (with_reducible exact LeO.refl _)
      | (with_reducible exact LeO.none _)
      | (with_reducible refine LeO.ite ?_ ?_)
      | (with_reducible refine LeO.bind ?_ (fun _ => ?_))
      | exact ih0 _ _ _
      | exact LeO.none _
      | refine LeO.ite ?_ ?_
      | refine LeO.bind ?_ (fun _ => ?_)
set_option maxHeartbeats 8000000 in
set_option maxRecDepth 100000 in
theorem spec_l01Points.calls (k : Nat) (a0 : ByteArray) (r : List Int) (w : World) (h : spec_l01Points.f k a0 = some r) :
    Calls Tryd.prog 102 #[.string a0] w fun e w' => ∃ v0_ : Value, e = .returned (v0_) ∧ Kd.R (Kd.int .i64) 2 w' w.heap.size (fun _ => True) v0_ r ∧ Below w.heap.size w w' := by
  have HB := Aside0.mk (Below.refl w.heap.size w)
  have H : (spec_l01Points.l0 k a0 (([] : List Int)) 0) = some r := h
  clear h
  obtain ⟨y116, hy116⟩ : ∃ y_ : List Int, y_ = (([] : List Int)) := ⟨_, rfl⟩
  replace H : (spec_l01Points.l0 k a0 y116 0) = some r := by first | (rw [hy116]; with_reducible exact H) | (have H2_ := (Option.bind_some _ _).symm.trans H; rw [hy116]; with_reducible exact H2_) | (have H2_ := (Option.bind_some _ _).symm.trans H; with_reducible exact H2_) | with_reducible exact H | (rw [hy116]; exact H) | exact H
  have Ny116 := Aside0.mk hy116
  clear hy116
  have H' := Aside0.mk H
  clear H
  go_enter Tryd.func102, Tryd.ntmps102
  go_wp2_with (first | ((with_reducible refine gate_dst (N := 8) rfl ?_); refine Kd.R_lit (Kd.int .i64) _ 2 ?hg (N := 8) ?hd (xs := ([] : List Int)) (inner := []) (ok := fun _ => True) (okp := fun _ => True) ?hr ?hp (fun _ hk => hk) trivial (Below.refl _ _) (Nat.le_refl _) (by simp) ?_; (case hd => rfl); (case hg => rfl); (case hr => first | (go_simp; done) | (go_simp; rfl)); (case hp => exact (Reps.none _ _)); intro v117 w2 ho3 hb hg_ hnew_; clear hg_ hnew_; (first | rw [← Ny116.out] at ho3 | (simp only [Int.reduceToNat] at ho3; rw [← Ny116.out] at ho3)); have n0_ := Aside0.mk (Kd.R_lower ho3 (below_size (by repeat (first | (with_reducible first | exact HB.out | apply below_alloc | apply pw_below_drewN | apply below_drew1) | exact HB.out)))); have n1_ := Aside0.mk (below_step (by repeat (first | (with_reducible first | exact HB.out | apply below_alloc | apply pw_below_drewN | apply below_drew1) | exact HB.out)) hb); clear HB; have HO118 := n0_; have HB := n1_; clear n0_ n1_; clear hb ho3))
  go_loopg [3, 4] k (fun kq v3 v4 w' => ∃ (x3_1 : List Int) (x4_1 : Int), v4 = .int .i64 x4_1 ∧ Aside0 (spec_l01Points.l0 kq a0 x3_1 x4_1 = some r) ∧ Aside0 (kq ≤ k) ∧ Aside0 (Kd.R (Kd.int .i64) 2 w' w.heap.size (fun _ => True) v3 x3_1) ∧ Aside0 (Below w.heap.size w w'))
  case atStart => exact ⟨(y116), (0), (by first | rfl | (simp; done) | (simp [*]; done)), H', ⟨Nat.le_refl _⟩, ⟨by (with_reducible repeat (first | apply Kd.R_alloc | apply Kd.R_drewN | apply Kd.R_drew)); exact HO118.out⟩, ⟨by repeat (first | (with_reducible first | exact HB.out | apply below_alloc | apply pw_below_drewN | apply below_drew1) | exact HB.out)⟩⟩
  case round =>
    clear H'
    try clear c1
    try clear p2
    obtain ⟨x3_1, x4_1, rfl, HA, HK1, HO_3, HB⟩ := hrel
    cases gk with
    | zero => exact absurd HA.out (by simp [spec_l01Points.l0])
    | succ k1 =>
      have H := HA.out
      clear HA
      simp only [spec_l01Points.l0] at H
      by_cases c4 : x4_1 < (a0.size : Int)
      · rw [if_pos c4] at H
        have c4b0 : decide (x4_1 < (a0.size : Int)) = true := decide_eq_true c4
        clear c4
        replace H := Option.bind_eq_some_iff.mp H
        obtain ⟨⟨t119, t120, t121⟩, A50, H⟩ := H
        replace H : (if x3_1.length < 17592186044416 then (spec_l01Points.l0 k1 a0 (x3_1 ++ [t119]) (wrap64 (x4_1 + t120))) else (none)) = some r := H
        have A5 := Aside0.mk A50
        clear A50
        by_cases c6 : x3_1.length < 17592186044416
        · rw [if_pos c6] at H
          have LMc6 := Aside0.mk c6
          clear c6
          obtain ⟨y122, hy122⟩ : ∃ y_ : List Int, y_ = (x3_1 ++ [t119]) := ⟨_, rfl⟩
          replace H : (spec_l01Points.l0 k1 a0 y122 (wrap64 (x4_1 + t120))) = some r := by first | (rw [hy122]; with_reducible exact H) | (have H2_ := (Option.bind_some _ _).symm.trans H; rw [hy122]; with_reducible exact H2_) | (have H2_ := (Option.bind_some _ _).symm.trans H; with_reducible exact H2_) | with_reducible exact H | (rw [hy122]; exact H) | exact H
          have Ny122 := Aside0.mk hy122
          clear hy122
          have H' := Aside0.mk H
          clear H
          go_wp2_with (first | ((with_reducible refine gate_callee (f := 163) rfl ?_); refine goesL_ (some 16) rfl rfl Tryd.func163 (by kernel_rfl) rfl #[.string a0, .int .i64 x4_1] rfl (by (try simp only [List.map_toArray, List.map_cons, List.map_nil]); first | done | rfl | (simp only [List.length_drop, List.length_take]; rfl)) ?_; (with_reducible refine (W_spec_l01Next.calls a0 x4_1 t119 t120 t121 _ A5.out).mono ?_); rintro e w7 ⟨rfl, hb⟩; refine ⟨_, rfl, ?_⟩; have n0_ := Aside0.mk (Kd.R_below (by (with_reducible repeat (first | apply Kd.R_alloc | apply Kd.R_drewN | apply Kd.R_drew)); exact HO_3.out) hb); have n1_ := Aside0.mk (below_step (by repeat (first | (with_reducible first | exact HB.out | apply below_alloc | apply pw_below_drewN | apply below_drew1) | exact HB.out)) hb); clear HO_3; clear HB; have HO_3 := n0_; have HB := n1_; clear n0_ n1_; (try clear hb); (try clear hb2); (try clear hk); (try clear hi)) | ((with_reducible refine gate_builtin (b := .append) (xs := #[.tmp 20, .tmp 22]) rfl ?_); at_builtin; refine Kd.R_append (Kd.int .i64) (w0 := w) w.heap.size rfl (.tmp 20) (.tmp 22) 25 2 (.int .i64 0) 8 rfl Tryd.underlying25 info2 rfl (by decide) (by omega) u3 x3_1 t119 [.int .i64 t119] (fun _ => True) (fun _ => False) rfl rfl ?aP (fun _ hk => hk.elim) ?aF ?aO ?aB ?aS ?aL ?_; (case aP => exact rfl); (case aB => exact (by repeat (first | (with_reducible first | exact HB.out | apply below_alloc | apply pw_below_drewN | apply below_drew1) | exact HB.out))); (case aF => exact (fun _ _ => trivial)); (case aO => exact (by (with_reducible repeat (first | apply Kd.R_alloc | apply Kd.R_drewN | apply Kd.R_drew)); exact HO_3.out)); (case aS => exact (below_size (by repeat (first | (with_reducible first | exact HB.out | apply below_alloc | apply pw_below_drewN | apply below_drew1) | exact HB.out)))); (case aL => have := LMc6.out; omega); intro v123 w8 ho hb hg hat; rw [← Ny122.out] at ho; have n0_ := Aside0.mk (hb); have n1_ := Aside0.mk (ho); clear HB; clear HO_3; have HB := n0_; have HO124 := n1_; clear n0_ n1_; clear ho hb hg hat))
          go_roundg k1
          case measure => have := HK1.out; omega
          case rel => exact ⟨(y122), (wrap64 (x4_1 + t120)), (by first | rfl | (simp; done) | (simp [*]; done)), H', ⟨by have := HK1.out; omega⟩, ⟨by (with_reducible repeat (first | apply Kd.R_alloc | apply Kd.R_drewN | apply Kd.R_drew)); exact HO124.out⟩, ⟨by repeat (first | (with_reducible first | exact HB.out | apply below_alloc | apply pw_below_drewN | apply below_drew1) | exact HB.out)⟩⟩
        · rw [if_neg c6] at H
          exact absurd H (by simp)
      · rw [if_neg c4] at H
        have c4b0 : decide (x4_1 < (a0.size : Int)) = false := decide_eq_false c4
        clear c4
        obtain rfl := Option.some.inj H
        go_wp2
        go_ret
        exact ⟨_, by first | rfl | (simp [errW_none, errW_some] <;> rfl) | (simp [*, errW_none, errW_some] <;> rfl), by (with_reducible repeat (first | apply Kd.R_alloc | apply Kd.R_drewN | apply Kd.R_drew)); exact HO_3.out, by repeat (first | (with_reducible first | exact HB.out | apply below_alloc | apply pw_below_drewN | apply below_drew1) | exact HB.out)⟩

def W_spec_l01Points.f (a0 : ByteArray) : Option (List Int) := if a0.size ≤ 1099511627776 then some (YtnonijganceneaaDoorPts.pts (bytesOf a0)) else none
theorem spec_l01Points.run (s : ByteArray) (hs : s.size ≤ 1099511627776) (d : Nat) : ∀ (k i : Nat) (acc : List Int), i ≤ s.size → s.size - i ≤ d → d < k → acc.length + (s.size - i) ≤ 1099511627776 →
    spec_l01Points.l0 k s acc (i : Int) = some (acc ++ YtnonijganceneaaDoorPts.pts ((bytesOf s).drop i)) := by
  induction d with
  | zero =>
    intro k i acc h1 h2 h3 h4
    obtain ⟨k, rfl⟩ : ∃ m, k = m + 1 := ⟨k - 1, by omega⟩
    simp only [spec_l01Points.l0]
    rw [if_neg (by omega), List.drop_eq_nil_of_le (by rw [bytesOf_length]; omega)]
    simp [YtnonijganceneaaDoorPts.pts_nil]
  | succ d ih =>
    intro k i acc h1 h2 h3 h4
    obtain ⟨k, rfl⟩ : ∃ m, k = m + 1 := ⟨k - 1, by omega⟩
    simp only [spec_l01Points.l0]
    by_cases hlt : i < s.size
    · rw [if_pos (by omega)]
      unfold W_spec_l01Next.f
      rw [if_pos ⟨by omega, by omega, hs⟩]
      simp only [Option.bind_some]
      have hne : (bytesOf s).drop i ≠ [] := by intro h; have := congrArg List.length h; rw [List.length_drop, bytesOf_length] at this; simp at this; omega
      have hb := YtnonijganceneaaDoorPts.dec_bound hne
      rw [List.length_drop, bytesOf_length] at hb
      have hd : spec_l01Next.d s (i : Int) = YtnonijganceneaaDoorPts.dec ((bytesOf s).drop i) := rfl
      rw [hd, if_pos (by omega), spec_l01Next.w (i : Int) _ (by omega) (by omega) (by omega)]
      have hi : (i : Int) + ((YtnonijganceneaaDoorPts.dec ((bytesOf s).drop i)).2 : Int) = ((i + (YtnonijganceneaaDoorPts.dec ((bytesOf s).drop i)).2 : Nat) : Int) := by omega
      rw [hi, ih k (i + (YtnonijganceneaaDoorPts.dec ((bytesOf s).drop i)).2) _ (by omega) (by omega) (by omega) (by rw [List.length_append]; simp only [List.length_cons, List.length_nil]; omega)]
      rw [YtnonijganceneaaDoorPts.pts_cons hne, List.drop_drop]
      simp
    · rw [if_neg (by omega), List.drop_eq_nil_of_le (by rw [bytesOf_length]; omega)]
      simp [YtnonijganceneaaDoorPts.pts_nil]
theorem W_spec_l01Points.to {a0 : ByteArray} {r : List Int} (h : W_spec_l01Points.f a0 = some r) : ∃ k, spec_l01Points.f k a0 = some r := by
  unfold W_spec_l01Points.f at h
  split at h
  · rename_i hs
    refine ⟨a0.size + 1, ?_⟩
    rw [← h]
    have := spec_l01Points.run a0 hs a0.size (a0.size + 1) 0 [] (by omega) (by omega) (by omega) (by simp; omega)
    unfold spec_l01Points.f
    simpa using this
  · cases h
theorem W_spec_l01Points.calls (a0 : ByteArray) (r : List Int) (w : World) (h : W_spec_l01Points.f a0 = some r) :
    Calls Tryd.prog 102 #[.string a0] w fun e w' => ∃ v0_ : Value, e = .returned (v0_) ∧ Kd.R (Kd.int .i64) 2 w' w.heap.size (fun _ => True) v0_ r ∧ Below w.heap.size w w' := by
  obtain ⟨k, hk⟩ := W_spec_l01Points.to h
  exact spec_l01Points.calls k a0 r w hk

/-! ### spec_l01Text: function 107 -/
def spec_l01Text.l0 : Nat → List Int → List Int → Int → Option (ByteArray)
  | 0, _, _, _ => none
  | k + 1, x0, x3, x4 => if x4 < (x0.length : Int) then (if 0 ≤ x4 then ((W_spec_l01Write.f (rd x0 x4)).bind fun t129 => (if x3.length + t129.size < 140737488355328 then (spec_l01Text.l0 k x0 (x3 ++ bytesOf t129) (wrap64 (x4 + 1))) else (none))) else (none)) else (some (strOfNums x3))
def spec_l01Text.f (k : Nat) (l0 : List Int) : Option (ByteArray) := spec_l01Text.l0 k l0 (([] : List Int)) 0
theorem spec_l01Text.mono_l : ∀ k, (∀ y0 y1 y2, LeO (spec_l01Text.l0 k y0 y1 y2) (spec_l01Text.l0 (k + 1) y0 y1 y2))
  | 0 => fun _ _ _ r h => by simp [spec_l01Text.l0] at h
  | k + 1 => by
    have ih0 := spec_l01Text.mono_l k
    · intro y0 y1 y2
      unfold spec_l01Text.l0
      repeat' first
      | (with_reducible exact ih0 _ _ _)
      | (with_reducible exact LeO.refl _)
      | (with_reducible exact LeO.none _)
      | (with_reducible refine LeO.ite ?_ ?_)
      | (with_reducible refine LeO.bind ?_ (fun _ => ?_))
      | exact ih0 _ _ _
      | exact LeO.none _
      | refine LeO.ite ?_ ?_
      | refine LeO.bind ?_ (fun _ => ?_)
theorem spec_l01Text.mono : ∀ a0 k, LeO (spec_l01Text.f k a0) (spec_l01Text.f (k + 1) a0) := by
  intro a0 k
  have ih0 := spec_l01Text.mono_l k
  unfold spec_l01Text.f
  repeat' first
      | (with_reducible exact ih0 _ _ _)
      | (with_reducible exact LeO.refl _)
      | (with_reducible exact LeO.none _)
      | (with_reducible refine LeO.ite ?_ ?_)
      | (with_reducible refine LeO.bind ?_ (fun _ => ?_))
      | exact ih0 _ _ _
      | exact LeO.none _
      | refine LeO.ite ?_ ?_
      | refine LeO.bind ?_ (fun _ => ?_)
set_option maxHeartbeats 8000000 in
set_option maxRecDepth 100000 in
theorem spec_l01Text.calls (k : Nat) (A0 : Option Addr) (c0 : Nat) (l0 : List Int) (r : ByteArray) (w : World) (hr0 : Kd.C (Kd.int .i64) w A0 l0.length l0) (hc0 : l0.length ≤ c0) (h : spec_l01Text.f k l0 = some r) :
    Calls Tryd.prog 107 #[.slice A0 l0.length c0] w fun e w' => e = .returned (.string r) ∧ Below w.heap.size w w' := by
  have HR0 := Aside0.mk hr0
  have HC0 := Aside0.mk hc0
  clear hr0 hc0
  have HB := Aside0.mk (Below.refl w.heap.size w)
  have H : (spec_l01Text.l0 k l0 (([] : List Int)) 0) = some r := h
  clear h
  obtain ⟨y125, hy125⟩ : ∃ y_ : List Int, y_ = (([] : List Int)) := ⟨_, rfl⟩
  replace H : (spec_l01Text.l0 k l0 y125 0) = some r := by first | (rw [hy125]; with_reducible exact H) | (have H2_ := (Option.bind_some _ _).symm.trans H; rw [hy125]; with_reducible exact H2_) | (have H2_ := (Option.bind_some _ _).symm.trans H; with_reducible exact H2_) | with_reducible exact H | (rw [hy125]; exact H) | exact H
  have Ny125 := Aside0.mk hy125
  clear hy125
  have H' := Aside0.mk H
  clear H
  go_enter Tryd.func107, Tryd.ntmps107
  go_wp2_with (first | ((with_reducible refine gate_dst (N := 5) rfl ?_); refine Kd.R_lit (Kd.int .u8) _ 5 ?hg (N := 5) ?hd (xs := ([] : List Int)) (inner := []) (ok := fun _ => True) (okp := fun _ => True) ?hr ?hp (fun _ hk => hk) trivial (Below.refl _ _) (Nat.le_refl _) (by simp) ?_; (case hd => rfl); (case hg => rfl); (case hr => first | (go_simp; done) | (go_simp; rfl)); (case hp => exact (Reps.none _ _)); intro v126 w2 ho3 hb hg_ hnew_; clear hg_ hnew_; (first | rw [← Ny125.out] at ho3 | (simp only [Int.reduceToNat] at ho3; rw [← Ny125.out] at ho3)); have n0_ := Aside0.mk (Kd.R_lower ho3 (below_size (by repeat (first | (with_reducible first | exact HB.out | apply below_alloc | apply pw_below_drewN | apply below_drew1) | exact HB.out)))); have n1_ := Aside0.mk (below_step (by repeat (first | (with_reducible first | exact HB.out | apply below_alloc | apply pw_below_drewN | apply below_drew1) | exact HB.out)) hb); clear HB; have HO127 := n0_; have HB := n1_; clear n0_ n1_; clear hb ho3))
  go_loopg [3, 4] k (fun kq v3 v4 w' => ∃ (x3_1 : List Int) (x4_1 : Int), v4 = .int .i64 x4_1 ∧ Aside0 (spec_l01Text.l0 kq l0 x3_1 x4_1 = some r) ∧ Aside0 (kq ≤ k) ∧ Aside0 (Kd.R (Kd.int .u8) 5 w' w.heap.size (fun _ => True) v3 x3_1) ∧ Aside0 (Below w.heap.size w w'))
  case atStart => exact ⟨(y125), (0), (by first | rfl | (simp; done) | (simp [*]; done)), H', ⟨Nat.le_refl _⟩, ⟨by (with_reducible repeat (first | apply Kd.R_alloc | apply Kd.R_drewN | apply Kd.R_drew)); exact HO127.out⟩, ⟨by repeat (first | (with_reducible first | exact HB.out | apply below_alloc | apply pw_below_drewN | apply below_drew1) | exact HB.out)⟩⟩
  case round =>
    clear H'
    try clear c1
    try clear p2
    obtain ⟨x3_1, x4_1, rfl, HA, HK1, HO_3, HB⟩ := hrel
    cases gk with
    | zero => exact absurd HA.out (by simp [spec_l01Text.l0])
    | succ k1 =>
      have H := HA.out
      clear HA
      simp only [spec_l01Text.l0] at H
      by_cases c4 : x4_1 < (l0.length : Int)
      · rw [if_pos c4] at H
        have c4b0 : decide (x4_1 < (l0.length : Int)) = true := decide_eq_true c4
        clear c4
        by_cases c5 : 0 ≤ x4_1
        · rw [if_pos c5] at H
          have c5b0 : decide (0 ≤ x4_1) = true := decide_eq_true c5
          clear c5
          replace H := Option.bind_eq_some_iff.mp H
          obtain ⟨t129, A60, H⟩ := H
          replace H : (if x3_1.length + t129.size < 140737488355328 then (spec_l01Text.l0 k1 l0 (x3_1 ++ bytesOf t129) (wrap64 (x4_1 + 1))) else (none)) = some r := H
          have A6 := Aside0.mk A60
          clear A60
          by_cases c7 : x3_1.length + t129.size < 140737488355328
          · rw [if_pos c7] at H
            have LMc7 := Aside0.mk c7
            clear c7
            obtain ⟨y130, hy130⟩ : ∃ y_ : List Int, y_ = (x3_1 ++ bytesOf t129) := ⟨_, rfl⟩
            replace H : (spec_l01Text.l0 k1 l0 y130 (wrap64 (x4_1 + 1))) = some r := by first | (rw [hy130]; with_reducible exact H) | (have H2_ := (Option.bind_some _ _).symm.trans H; rw [hy130]; with_reducible exact H2_) | (have H2_ := (Option.bind_some _ _).symm.trans H; with_reducible exact H2_) | with_reducible exact H | (rw [hy130]; exact H) | exact H
            have Ny130 := Aside0.mk hy130
            clear hy130
            have H' := Aside0.mk H
            clear H
            have p128 : 0 ≤ (x4_1 : Int) := of_decide_eq_true (by first | (with_reducible assumption) | assumption)
            have q128 : x4_1 < (l0.length : Int) := of_decide_eq_true (by first | (with_reducible assumption) | assumption)
            obtain ⟨ad128, e128, hx128_0⟩ := Kd.at_int HR0.out x4_1 p128 q128
            cases e128
            replace hx128_0 := (HB.out.cell (World.block_lt_of_cell? w _ hx128_0)).trans hx128_0
            replace p128 := eq_true p128
            replace q128 := eq_true q128
            go_wp2_with (first | ((with_reducible refine gate_callee (f := 93) rfl ?_); refine goesL_ (some 17) rfl rfl Tryd.func93 (by kernel_rfl) rfl #[.int .i64 (rd l0 x4_1)] rfl (by (try simp only [List.map_toArray, List.map_cons, List.map_nil]); first | done | rfl | (simp only [List.length_drop, List.length_take]; rfl)) ?_; (with_reducible refine (W_spec_l01Write.calls (rd l0 x4_1) t129 _ A6.out).mono ?_); rintro e w8 ⟨rfl, hb⟩; refine ⟨_, rfl, ?_⟩; have n0_ := Aside0.mk (Kd.R_below (by (with_reducible repeat (first | apply Kd.R_alloc | apply Kd.R_drewN | apply Kd.R_drew)); exact HO_3.out) hb); have n1_ := Aside0.mk (below_step (by repeat (first | (with_reducible first | exact HB.out | apply below_alloc | apply pw_below_drewN | apply below_drew1) | exact HB.out)) hb); clear HO_3; clear HB; have HO_3 := n0_; have HB := n1_; clear n0_ n1_; (try clear hb); (try clear hb2); (try clear hk); (try clear hi)) | (at_builtin; refine print_append_str (w0 := w) w.heap.size rfl (.tmp 12) _ 22 9 5 rfl Tryd.underlying22 Tryd.underlying9 info5 u3 x3_1 t129 rfl rfl ?aO ?aB ?aS ?aL ?_; (case aB => exact (by repeat (first | (with_reducible first | exact HB.out | apply below_alloc | apply pw_below_drewN | apply below_drew1) | exact HB.out))); (case aO => exact (Kd.own_of_R (by (with_reducible repeat (first | apply Kd.R_alloc | apply Kd.R_drewN | apply Kd.R_drew)); exact HO_3.out))); (case aS => exact (below_size (by repeat (first | (with_reducible first | exact HB.out | apply below_alloc | apply pw_below_drewN | apply below_drew1) | exact HB.out)))); (case aL => have := LMc7.out; omega); intro v131 w9 ho0 hb hg; have ho := Kd.R_of_own (h1 := fun _ => rfl) (ok := fun _ => True) ho0 (fun _ _ => trivial); clear ho0; have hat := True.intro; rw [← Ny130.out] at ho; change Kd.R (Kd.int .u8) 5 w9 w.heap.size (fun _ => True) v131 y130 at ho; have n0_ := Aside0.mk (hb); have n1_ := Aside0.mk (ho); clear HB; clear HO_3; have HB := n0_; have HO132 := n1_; clear n0_ n1_; clear ho hb hg hat))
            go_roundg k1
            case measure => have := HK1.out; omega
            case rel => exact ⟨(y130), (wrap64 (x4_1 + 1)), (by first | rfl | (simp; done) | (simp [*]; done)), H', ⟨by have := HK1.out; omega⟩, ⟨by (with_reducible repeat (first | apply Kd.R_alloc | apply Kd.R_drewN | apply Kd.R_drew)); exact HO132.out⟩, ⟨by repeat (first | (with_reducible first | exact HB.out | apply below_alloc | apply pw_below_drewN | apply below_drew1) | exact HB.out)⟩⟩
          · rw [if_neg c7] at H
            exact absurd H (by simp)
        · rw [if_neg c5] at H
          exact absurd H (by simp)
      · rw [if_neg c4] at H
        have c4b0 : decide (x4_1 < (l0.length : Int)) = false := decide_eq_false c4
        clear c4
        obtain rfl := Option.some.inj H
        have hcv10 := own_string (P := Tryd.prog) Tryd.underlying22 Tryd.underlying5 Tryd.underlying9 (Kd.own_of_R HO_3.out)
        go_wp2
        go_ret
        exact ⟨by first | rfl | (simp [errW_none, errW_some] <;> rfl) | (simp [*, errW_none, errW_some] <;> rfl), by repeat (first | (with_reducible first | exact HB.out | apply below_alloc | apply pw_below_drewN | apply below_drew1) | exact HB.out)⟩

def W_spec_l01Text.f (l0 : List Int) : Option (ByteArray) := if l0.length ≤ 1099511627776 then some (strOfNums (YtnonijganceneaaDoorPts.encs l0)) else none
theorem spec_l01Text.run (l : List Int) (hl : l.length ≤ 1099511627776) (d : Nat) : ∀ (k i : Nat), i ≤ l.length → l.length - i = d → d < k →
    spec_l01Text.l0 k l (YtnonijganceneaaDoorPts.encs (l.take i)) (i : Int) = some (strOfNums (YtnonijganceneaaDoorPts.encs l)) := by
  induction d with
  | zero =>
    intro k i h1 h2 h3
    obtain ⟨k, rfl⟩ : ∃ m, k = m + 1 := ⟨k - 1, by omega⟩
    simp only [spec_l01Text.l0]
    rw [if_neg (by omega), List.take_of_length_le (by omega)]
  | succ d ih =>
    intro k i h1 h2 h3
    obtain ⟨k, rfl⟩ : ∃ m, k = m + 1 := ⟨k - 1, by omega⟩
    have hlt : i < l.length := by omega
    simp only [spec_l01Text.l0]
    rw [if_pos (by omega), if_pos (by omega)]
    have hw : wrap64 ((i : Int) + 1) = ((i + 1 : Nat) : Int) := by unfold wrap64; omega
    have hr : rd l (i : Int) = l[i] := by simp [rd, List.getD, hlt]
    have hb : bytesOf (strOfNums (YtnonijganceneaaDoorPts.enc l[i])) = YtnonijganceneaaDoorPts.enc l[i] := YtnonijganceneaaDoorPts.bytesOf_strOfNums (YtnonijganceneaaDoorPts.enc_bytes _)
    have ht : YtnonijganceneaaDoorPts.encs (l.take (i + 1)) = YtnonijganceneaaDoorPts.encs (l.take i) ++ YtnonijganceneaaDoorPts.enc l[i] := by
      rw [List.take_succ_eq_append_getElem hlt, YtnonijganceneaaDoorPts.encs_append]
      simp [YtnonijganceneaaDoorPts.encs]
    have hlen := YtnonijganceneaaDoorPts.encs_length (l.take i)
    rw [List.length_take] at hlen
    have hone := YtnonijganceneaaDoorPts.enc_length l[i]
    rw [hr]
    unfold W_spec_l01Write.f
    simp only [Option.bind_some]
    rw [hb, strOfNums_size, if_pos (by omega), hw, ← ht]
    exact ih k (i + 1) (by omega) (by omega) (by omega)
theorem W_spec_l01Text.to {l0 : List Int} {r : ByteArray} (h : W_spec_l01Text.f l0 = some r) : ∃ k, spec_l01Text.f k l0 = some r := by
  unfold W_spec_l01Text.f at h
  split at h
  · rename_i hl
    refine ⟨l0.length + 1, ?_⟩
    rw [← h]
    exact spec_l01Text.run l0 hl l0.length (l0.length + 1) 0 (by omega) (by omega) (by omega)
  · cases h
theorem W_spec_l01Text.calls (A0 : Option Addr) (c0 : Nat) (l0 : List Int) (r : ByteArray) (w : World) (hr0 : Kd.C (Kd.int .i64) w A0 l0.length l0) (hc0 : l0.length ≤ c0) (h : W_spec_l01Text.f l0 = some r) :
    Calls Tryd.prog 107 #[.slice A0 l0.length c0] w fun e w' => e = .returned (.string r) ∧ Below w.heap.size w w' := by
  obtain ⟨k, hk⟩ := W_spec_l01Text.to h
  exact spec_l01Text.calls k A0 c0 l0 r w hr0 hc0 hk

/-! ### spec_l06Block: function 199 -/
def spec_l06Block.f (a0 : Int) : Option (Int) := if a0 < 512 then (some 0) else (if a0 ≥ 1280 then (some 0) else (some (wrap64 ((wrap64 (Int.tdiv a0 256)) * 256))))
set_option maxHeartbeats 8000000 in
set_option maxRecDepth 100000 in
theorem spec_l06Block.calls (a0 : Int) (r : Int) (w : World) (h : spec_l06Block.f a0 = some r) :
    Calls Tryd.prog 199 #[.int .i64 a0] w fun e w' => e = .returned (.int .i64 r) ∧ Drawn0 w w' := by
  have H : (if a0 < 512 then (some 0) else (if a0 ≥ 1280 then (some 0) else (some (wrap64 ((wrap64 (Int.tdiv a0 256)) * 256))))) = some r := h
  clear h
  by_cases c2 : a0 < 512
  · rw [if_pos c2] at H
    have c2b0 : decide (a0 < 512) = true := decide_eq_true c2
    clear c2
    obtain rfl := Option.some.inj H
    go_enter Tryd.func199, Tryd.ntmps199
    go_wp2
    go_ret
    exact ⟨by first | rfl | (simp; done) | (simp [*]; done), by repeat (first | exact Drawn0.refl _ | apply Drawn0.step)⟩
  · rw [if_neg c2] at H
    have c2b0 : decide (a0 < 512) = false := decide_eq_false c2
    clear c2
    by_cases c3 : a0 ≥ 1280
    · rw [if_pos c3] at H
      have c3b0 : decide (1280 ≤ a0) = true := decide_eq_true c3
      clear c3
      obtain rfl := Option.some.inj H
      go_enter Tryd.func199, Tryd.ntmps199
      go_wp2
      go_ret
      exact ⟨by first | rfl | (simp; done) | (simp [*]; done), by repeat (first | exact Drawn0.refl _ | apply Drawn0.step)⟩
    · rw [if_neg c3] at H
      have c3b0 : decide (1280 ≤ a0) = false := decide_eq_false c3
      clear c3
      obtain rfl := Option.some.inj H
      go_enter Tryd.func199, Tryd.ntmps199
      go_wp2
      go_ret
      exact ⟨by first | rfl | (simp; done) | (simp [*]; done), by repeat (first | exact Drawn0.refl _ | apply Drawn0.step)⟩

/-! ### spec_l06Sharp: function 142 -/
def spec_l06Sharp.f (a0 : Int) : Option (Int × Bool) := (spec_l06Block.f a0).bind fun t133 => (if t133 > 0 then (some (t133, (a0 == (wrap64 (t133 + 96))))) else (some (t133, false)))
set_option maxHeartbeats 8000000 in
set_option maxRecDepth 100000 in
theorem spec_l06Sharp.calls (a0 : Int) (r1 : Int) (r2 : Bool) (w : World) (h : spec_l06Sharp.f a0 = some (r1, r2)) :
    Calls Tryd.prog 142 #[.int .i64 a0] w fun e w' => e = .returned (.tuple #[.int .i64 r1, .bool r2]) ∧ Drawn0 w w' := by
  have H : ((spec_l06Block.f a0).bind fun t133 => (if t133 > 0 then (some (t133, (a0 == (wrap64 (t133 + 96))))) else (some (t133, false)))) = some (r1, r2) := h
  clear h
  replace H := Option.bind_eq_some_iff.mp H
  obtain ⟨t133, A20, H⟩ := H
  replace H : (if t133 > 0 then (some (t133, (a0 == (wrap64 (t133 + 96))))) else (some (t133, false))) = some (r1, r2) := H
  have A2 := Aside0.mk A20
  clear A20
  by_cases c3 : t133 > 0
  · rw [if_pos c3] at H
    have c3b0 : decide (0 < t133) = true := decide_eq_true c3
    clear c3
    simp only [Option.some.injEq, Prod.mk.injEq] at H
    obtain ⟨rfl, rfl⟩ := H
    go_enter Tryd.func142, Tryd.ntmps142
    go_wp2_with (first | ((with_reducible refine gate_callee (f := 199) rfl ?_); refine goesL_ (some 6) rfl rfl Tryd.func199 (by kernel_rfl) rfl #[.int .i64 a0] rfl (by (try simp only [List.map_toArray, List.map_cons, List.map_nil]); first | done | rfl | (simp only [List.length_drop, List.length_take]; rfl)) ?_; (with_reducible refine (spec_l06Block.calls a0 t133 _ A2.out).mono ?_); rintro e w' ⟨rfl, ⟨nd, rfl⟩⟩; refine ⟨_, rfl, ?_⟩))
    go_ret2
    exact ⟨by first | rfl | (simp; done) | (simp [*]; done), by repeat (first | exact Drawn0.refl _ | apply Drawn0.step)⟩
  · rw [if_neg c3] at H
    have c3b0 : decide (0 < t133) = false := decide_eq_false c3
    clear c3
    simp only [Option.some.injEq, Prod.mk.injEq] at H
    obtain ⟨rfl, rfl⟩ := H
    go_enter Tryd.func142, Tryd.ntmps142
    go_wp2_with (first | ((with_reducible refine gate_callee (f := 199) rfl ?_); refine goesL_ (some 6) rfl rfl Tryd.func199 (by kernel_rfl) rfl #[.int .i64 a0] rfl (by (try simp only [List.map_toArray, List.map_cons, List.map_nil]); first | done | rfl | (simp only [List.length_drop, List.length_take]; rfl)) ?_; (with_reducible refine (spec_l06Block.calls a0 t133 _ A2.out).mono ?_); rintro e w' ⟨rfl, ⟨nd, rfl⟩⟩; refine ⟨_, rfl, ?_⟩))
    go_ret2
    exact ⟨by first | rfl | (simp; done) | (simp [*]; done), by repeat (first | exact Drawn0.refl _ | apply Drawn0.step)⟩

/-! ### spec_l01Rows: function 157 -/
def spec_l01Rows.f  : Option ((List (S150))) := some (([(⟨0, 31, 1, 0⟩ : S150), (⟨32, 32, 2, 0⟩ : S150), (⟨48, 57, 8, 0⟩ : S150), (⟨65, 90, 4, 1⟩ : S150), (⟨97, 122, 5, 1⟩ : S150), (⟨33, 126, 9, 0⟩ : S150), (⟨127, 159, 1, 0⟩ : S150), (⟨160, 160, 2, 0⟩ : S150), (⟨173, 173, 11, 0⟩ : S150), (⟨161, 191, 10, 0⟩ : S150), (⟨1280, 1311, 7, 5⟩ : S150), (⟨1360, 1369, 8, 5⟩ : S150), (⟨1536, 1567, 7, 6⟩ : S150), (⟨1568, 1579, 3, 6⟩ : S150), (⟨1584, 1585, 3, 6⟩ : S150), (⟨1616, 1625, 8, 6⟩ : S150), (⟨1792, 1810, 7, 7⟩ : S150), (⟨1824, 1844, 7, 7⟩ : S150), (⟨1857, 1883, 7, 7⟩ : S150), (⟨2048, 2095, 7, 8⟩ : S150), (⟨4096, 4159, 3, 0⟩ : S150), (⟨7680, 7748, 10, 0⟩ : S150), (⟨7760, 7785, 10, 0⟩ : S150), (⟨7936, 7947, 11, 0⟩ : S150), (⟨7953, 7954, 11, 0⟩ : S150), (⟨8064, 8064, 2, 0⟩ : S150), (⟨9728, 9753, 4, 1⟩ : S150), (⟨9984, 10009, 10, 0⟩ : S150), (⟨10016, 10025, 8, 0⟩ : S150), (⟨10032, 10035, 10, 0⟩ : S150), (⟨12288, 23459, 7, 7⟩ : S150), (⟨24576, 26623, 7, 9⟩ : S150)] : List (S150)))
set_option maxHeartbeats 8000000 in
set_option maxRecDepth 100000 in
theorem spec_l01Rows.calls  (r : List (S150)) (w : World) (h : spec_l01Rows.f  = some r) :
    Calls Tryd.prog 157 #[] w fun e w' => ∃ v0_ : Value, e = .returned (v0_) ∧ Kd.R k150 150 w' w.heap.size (fun _ => True) v0_ r ∧ Below w.heap.size w w' := by
  have hu150 := Tryd.underlying150
  have HB := Aside0.mk (Below.refl w.heap.size w)
  have H : (some (([(⟨0, 31, 1, 0⟩ : S150), (⟨32, 32, 2, 0⟩ : S150), (⟨48, 57, 8, 0⟩ : S150), (⟨65, 90, 4, 1⟩ : S150), (⟨97, 122, 5, 1⟩ : S150), (⟨33, 126, 9, 0⟩ : S150), (⟨127, 159, 1, 0⟩ : S150), (⟨160, 160, 2, 0⟩ : S150), (⟨173, 173, 11, 0⟩ : S150), (⟨161, 191, 10, 0⟩ : S150), (⟨1280, 1311, 7, 5⟩ : S150), (⟨1360, 1369, 8, 5⟩ : S150), (⟨1536, 1567, 7, 6⟩ : S150), (⟨1568, 1579, 3, 6⟩ : S150), (⟨1584, 1585, 3, 6⟩ : S150), (⟨1616, 1625, 8, 6⟩ : S150), (⟨1792, 1810, 7, 7⟩ : S150), (⟨1824, 1844, 7, 7⟩ : S150), (⟨1857, 1883, 7, 7⟩ : S150), (⟨2048, 2095, 7, 8⟩ : S150), (⟨4096, 4159, 3, 0⟩ : S150), (⟨7680, 7748, 10, 0⟩ : S150), (⟨7760, 7785, 10, 0⟩ : S150), (⟨7936, 7947, 11, 0⟩ : S150), (⟨7953, 7954, 11, 0⟩ : S150), (⟨8064, 8064, 2, 0⟩ : S150), (⟨9728, 9753, 4, 1⟩ : S150), (⟨9984, 10009, 10, 0⟩ : S150), (⟨10016, 10025, 8, 0⟩ : S150), (⟨10032, 10035, 10, 0⟩ : S150), (⟨12288, 23459, 7, 7⟩ : S150), (⟨24576, 26623, 7, 9⟩ : S150)] : List (S150)))) = some r := h
  clear h
  obtain ⟨y134, hy134⟩ : ∃ y_ : List (S150), y_ = (([(⟨0, 31, 1, 0⟩ : S150), (⟨32, 32, 2, 0⟩ : S150), (⟨48, 57, 8, 0⟩ : S150), (⟨65, 90, 4, 1⟩ : S150), (⟨97, 122, 5, 1⟩ : S150), (⟨33, 126, 9, 0⟩ : S150), (⟨127, 159, 1, 0⟩ : S150), (⟨160, 160, 2, 0⟩ : S150), (⟨173, 173, 11, 0⟩ : S150), (⟨161, 191, 10, 0⟩ : S150), (⟨1280, 1311, 7, 5⟩ : S150), (⟨1360, 1369, 8, 5⟩ : S150), (⟨1536, 1567, 7, 6⟩ : S150), (⟨1568, 1579, 3, 6⟩ : S150), (⟨1584, 1585, 3, 6⟩ : S150), (⟨1616, 1625, 8, 6⟩ : S150), (⟨1792, 1810, 7, 7⟩ : S150), (⟨1824, 1844, 7, 7⟩ : S150), (⟨1857, 1883, 7, 7⟩ : S150), (⟨2048, 2095, 7, 8⟩ : S150), (⟨4096, 4159, 3, 0⟩ : S150), (⟨7680, 7748, 10, 0⟩ : S150), (⟨7760, 7785, 10, 0⟩ : S150), (⟨7936, 7947, 11, 0⟩ : S150), (⟨7953, 7954, 11, 0⟩ : S150), (⟨8064, 8064, 2, 0⟩ : S150), (⟨9728, 9753, 4, 1⟩ : S150), (⟨9984, 10009, 10, 0⟩ : S150), (⟨10016, 10025, 8, 0⟩ : S150), (⟨10032, 10035, 10, 0⟩ : S150), (⟨12288, 23459, 7, 7⟩ : S150), (⟨24576, 26623, 7, 9⟩ : S150)] : List (S150))) := ⟨_, rfl⟩
  replace H : (some y134) = some r := by first | (rw [hy134]; with_reducible exact H) | (have H2_ := (Option.bind_some _ _).symm.trans H; rw [hy134]; with_reducible exact H2_) | (have H2_ := (Option.bind_some _ _).symm.trans H; with_reducible exact H2_) | with_reducible exact H | (rw [hy134]; exact H) | exact H
  have Ny134 := Aside0.mk hy134
  clear hy134
  obtain rfl := Option.some.inj H
  go_enter Tryd.func157, Tryd.ntmps157
  go_wp2_with (first | ((with_reducible refine gate_dst (N := 33) rfl ?_); refine Kd.R_lit k150 _ 150 ?hg (N := 33) ?hd (xs := ([(⟨0, 31, 1, 0⟩ : S150), (⟨32, 32, 2, 0⟩ : S150), (⟨48, 57, 8, 0⟩ : S150), (⟨65, 90, 4, 1⟩ : S150), (⟨97, 122, 5, 1⟩ : S150), (⟨33, 126, 9, 0⟩ : S150), (⟨127, 159, 1, 0⟩ : S150), (⟨160, 160, 2, 0⟩ : S150), (⟨173, 173, 11, 0⟩ : S150), (⟨161, 191, 10, 0⟩ : S150), (⟨1280, 1311, 7, 5⟩ : S150), (⟨1360, 1369, 8, 5⟩ : S150), (⟨1536, 1567, 7, 6⟩ : S150), (⟨1568, 1579, 3, 6⟩ : S150), (⟨1584, 1585, 3, 6⟩ : S150), (⟨1616, 1625, 8, 6⟩ : S150), (⟨1792, 1810, 7, 7⟩ : S150), (⟨1824, 1844, 7, 7⟩ : S150), (⟨1857, 1883, 7, 7⟩ : S150), (⟨2048, 2095, 7, 8⟩ : S150), (⟨4096, 4159, 3, 0⟩ : S150), (⟨7680, 7748, 10, 0⟩ : S150), (⟨7760, 7785, 10, 0⟩ : S150), (⟨7936, 7947, 11, 0⟩ : S150), (⟨7953, 7954, 11, 0⟩ : S150), (⟨8064, 8064, 2, 0⟩ : S150), (⟨9728, 9753, 4, 1⟩ : S150), (⟨9984, 10009, 10, 0⟩ : S150), (⟨10016, 10025, 8, 0⟩ : S150), (⟨10032, 10035, 10, 0⟩ : S150), (⟨12288, 23459, 7, 7⟩ : S150), (⟨24576, 26623, 7, 9⟩ : S150)] : List (S150))) (inner := [.int .i64 0, .int .i64 31, .int .i64 1, .int .i64 0, .int .i64 32, .int .i64 32, .int .i64 2, .int .i64 0, .int .i64 48, .int .i64 57, .int .i64 8, .int .i64 0, .int .i64 65, .int .i64 90, .int .i64 4, .int .i64 1, .int .i64 97, .int .i64 122, .int .i64 5, .int .i64 1, .int .i64 33, .int .i64 126, .int .i64 9, .int .i64 0, .int .i64 127, .int .i64 159, .int .i64 1, .int .i64 0, .int .i64 160, .int .i64 160, .int .i64 2, .int .i64 0, .int .i64 173, .int .i64 173, .int .i64 11, .int .i64 0, .int .i64 161, .int .i64 191, .int .i64 10, .int .i64 0, .int .i64 1280, .int .i64 1311, .int .i64 7, .int .i64 5, .int .i64 1360, .int .i64 1369, .int .i64 8, .int .i64 5, .int .i64 1536, .int .i64 1567, .int .i64 7, .int .i64 6, .int .i64 1568, .int .i64 1579, .int .i64 3, .int .i64 6, .int .i64 1584, .int .i64 1585, .int .i64 3, .int .i64 6, .int .i64 1616, .int .i64 1625, .int .i64 8, .int .i64 6, .int .i64 1792, .int .i64 1810, .int .i64 7, .int .i64 7, .int .i64 1824, .int .i64 1844, .int .i64 7, .int .i64 7, .int .i64 1857, .int .i64 1883, .int .i64 7, .int .i64 7, .int .i64 2048, .int .i64 2095, .int .i64 7, .int .i64 8, .int .i64 4096, .int .i64 4159, .int .i64 3, .int .i64 0, .int .i64 7680, .int .i64 7748, .int .i64 10, .int .i64 0, .int .i64 7760, .int .i64 7785, .int .i64 10, .int .i64 0, .int .i64 7936, .int .i64 7947, .int .i64 11, .int .i64 0, .int .i64 7953, .int .i64 7954, .int .i64 11, .int .i64 0, .int .i64 8064, .int .i64 8064, .int .i64 2, .int .i64 0, .int .i64 9728, .int .i64 9753, .int .i64 4, .int .i64 1, .int .i64 9984, .int .i64 10009, .int .i64 10, .int .i64 0, .int .i64 10016, .int .i64 10025, .int .i64 8, .int .i64 0, .int .i64 10032, .int .i64 10035, .int .i64 10, .int .i64 0, .int .i64 12288, .int .i64 23459, .int .i64 7, .int .i64 7, .int .i64 24576, .int .i64 26623, .int .i64 7, .int .i64 9]) (ok := fun _ => True) (okp := fun _ => True) ?hr ?hp (fun _ hk => hk) trivial (Below.refl _ _) (Nat.le_refl _) (by simp) ?_; (case hd => rfl); (case hg => rfl); (case hr => first | (go_simp; done) | (go_simp; rfl)); (case hp => exact (Reps.c4 (show Kd.M k150 _ _ _ (⟨0, 31, 1, 0⟩ : S150) [.int .i64 0, .int .i64 31, .int .i64 1, .int .i64 0] from (k150_mkM _ _ _ (⟨0, 31, 1, 0⟩ : S150) )) (Reps.c4 (show Kd.M k150 _ _ _ (⟨32, 32, 2, 0⟩ : S150) [.int .i64 32, .int .i64 32, .int .i64 2, .int .i64 0] from (k150_mkM _ _ _ (⟨32, 32, 2, 0⟩ : S150) )) (Reps.c4 (show Kd.M k150 _ _ _ (⟨48, 57, 8, 0⟩ : S150) [.int .i64 48, .int .i64 57, .int .i64 8, .int .i64 0] from (k150_mkM _ _ _ (⟨48, 57, 8, 0⟩ : S150) )) (Reps.c4 (show Kd.M k150 _ _ _ (⟨65, 90, 4, 1⟩ : S150) [.int .i64 65, .int .i64 90, .int .i64 4, .int .i64 1] from (k150_mkM _ _ _ (⟨65, 90, 4, 1⟩ : S150) )) (Reps.c4 (show Kd.M k150 _ _ _ (⟨97, 122, 5, 1⟩ : S150) [.int .i64 97, .int .i64 122, .int .i64 5, .int .i64 1] from (k150_mkM _ _ _ (⟨97, 122, 5, 1⟩ : S150) )) (Reps.c4 (show Kd.M k150 _ _ _ (⟨33, 126, 9, 0⟩ : S150) [.int .i64 33, .int .i64 126, .int .i64 9, .int .i64 0] from (k150_mkM _ _ _ (⟨33, 126, 9, 0⟩ : S150) )) (Reps.c4 (show Kd.M k150 _ _ _ (⟨127, 159, 1, 0⟩ : S150) [.int .i64 127, .int .i64 159, .int .i64 1, .int .i64 0] from (k150_mkM _ _ _ (⟨127, 159, 1, 0⟩ : S150) )) (Reps.c4 (show Kd.M k150 _ _ _ (⟨160, 160, 2, 0⟩ : S150) [.int .i64 160, .int .i64 160, .int .i64 2, .int .i64 0] from (k150_mkM _ _ _ (⟨160, 160, 2, 0⟩ : S150) )) (Reps.c4 (show Kd.M k150 _ _ _ (⟨173, 173, 11, 0⟩ : S150) [.int .i64 173, .int .i64 173, .int .i64 11, .int .i64 0] from (k150_mkM _ _ _ (⟨173, 173, 11, 0⟩ : S150) )) (Reps.c4 (show Kd.M k150 _ _ _ (⟨161, 191, 10, 0⟩ : S150) [.int .i64 161, .int .i64 191, .int .i64 10, .int .i64 0] from (k150_mkM _ _ _ (⟨161, 191, 10, 0⟩ : S150) )) (Reps.c4 (show Kd.M k150 _ _ _ (⟨1280, 1311, 7, 5⟩ : S150) [.int .i64 1280, .int .i64 1311, .int .i64 7, .int .i64 5] from (k150_mkM _ _ _ (⟨1280, 1311, 7, 5⟩ : S150) )) (Reps.c4 (show Kd.M k150 _ _ _ (⟨1360, 1369, 8, 5⟩ : S150) [.int .i64 1360, .int .i64 1369, .int .i64 8, .int .i64 5] from (k150_mkM _ _ _ (⟨1360, 1369, 8, 5⟩ : S150) )) (Reps.c4 (show Kd.M k150 _ _ _ (⟨1536, 1567, 7, 6⟩ : S150) [.int .i64 1536, .int .i64 1567, .int .i64 7, .int .i64 6] from (k150_mkM _ _ _ (⟨1536, 1567, 7, 6⟩ : S150) )) (Reps.c4 (show Kd.M k150 _ _ _ (⟨1568, 1579, 3, 6⟩ : S150) [.int .i64 1568, .int .i64 1579, .int .i64 3, .int .i64 6] from (k150_mkM _ _ _ (⟨1568, 1579, 3, 6⟩ : S150) )) (Reps.c4 (show Kd.M k150 _ _ _ (⟨1584, 1585, 3, 6⟩ : S150) [.int .i64 1584, .int .i64 1585, .int .i64 3, .int .i64 6] from (k150_mkM _ _ _ (⟨1584, 1585, 3, 6⟩ : S150) )) (Reps.c4 (show Kd.M k150 _ _ _ (⟨1616, 1625, 8, 6⟩ : S150) [.int .i64 1616, .int .i64 1625, .int .i64 8, .int .i64 6] from (k150_mkM _ _ _ (⟨1616, 1625, 8, 6⟩ : S150) )) (Reps.c4 (show Kd.M k150 _ _ _ (⟨1792, 1810, 7, 7⟩ : S150) [.int .i64 1792, .int .i64 1810, .int .i64 7, .int .i64 7] from (k150_mkM _ _ _ (⟨1792, 1810, 7, 7⟩ : S150) )) (Reps.c4 (show Kd.M k150 _ _ _ (⟨1824, 1844, 7, 7⟩ : S150) [.int .i64 1824, .int .i64 1844, .int .i64 7, .int .i64 7] from (k150_mkM _ _ _ (⟨1824, 1844, 7, 7⟩ : S150) )) (Reps.c4 (show Kd.M k150 _ _ _ (⟨1857, 1883, 7, 7⟩ : S150) [.int .i64 1857, .int .i64 1883, .int .i64 7, .int .i64 7] from (k150_mkM _ _ _ (⟨1857, 1883, 7, 7⟩ : S150) )) (Reps.c4 (show Kd.M k150 _ _ _ (⟨2048, 2095, 7, 8⟩ : S150) [.int .i64 2048, .int .i64 2095, .int .i64 7, .int .i64 8] from (k150_mkM _ _ _ (⟨2048, 2095, 7, 8⟩ : S150) )) (Reps.c4 (show Kd.M k150 _ _ _ (⟨4096, 4159, 3, 0⟩ : S150) [.int .i64 4096, .int .i64 4159, .int .i64 3, .int .i64 0] from (k150_mkM _ _ _ (⟨4096, 4159, 3, 0⟩ : S150) )) (Reps.c4 (show Kd.M k150 _ _ _ (⟨7680, 7748, 10, 0⟩ : S150) [.int .i64 7680, .int .i64 7748, .int .i64 10, .int .i64 0] from (k150_mkM _ _ _ (⟨7680, 7748, 10, 0⟩ : S150) )) (Reps.c4 (show Kd.M k150 _ _ _ (⟨7760, 7785, 10, 0⟩ : S150) [.int .i64 7760, .int .i64 7785, .int .i64 10, .int .i64 0] from (k150_mkM _ _ _ (⟨7760, 7785, 10, 0⟩ : S150) )) (Reps.c4 (show Kd.M k150 _ _ _ (⟨7936, 7947, 11, 0⟩ : S150) [.int .i64 7936, .int .i64 7947, .int .i64 11, .int .i64 0] from (k150_mkM _ _ _ (⟨7936, 7947, 11, 0⟩ : S150) )) (Reps.c4 (show Kd.M k150 _ _ _ (⟨7953, 7954, 11, 0⟩ : S150) [.int .i64 7953, .int .i64 7954, .int .i64 11, .int .i64 0] from (k150_mkM _ _ _ (⟨7953, 7954, 11, 0⟩ : S150) )) (Reps.c4 (show Kd.M k150 _ _ _ (⟨8064, 8064, 2, 0⟩ : S150) [.int .i64 8064, .int .i64 8064, .int .i64 2, .int .i64 0] from (k150_mkM _ _ _ (⟨8064, 8064, 2, 0⟩ : S150) )) (Reps.c4 (show Kd.M k150 _ _ _ (⟨9728, 9753, 4, 1⟩ : S150) [.int .i64 9728, .int .i64 9753, .int .i64 4, .int .i64 1] from (k150_mkM _ _ _ (⟨9728, 9753, 4, 1⟩ : S150) )) (Reps.c4 (show Kd.M k150 _ _ _ (⟨9984, 10009, 10, 0⟩ : S150) [.int .i64 9984, .int .i64 10009, .int .i64 10, .int .i64 0] from (k150_mkM _ _ _ (⟨9984, 10009, 10, 0⟩ : S150) )) (Reps.c4 (show Kd.M k150 _ _ _ (⟨10016, 10025, 8, 0⟩ : S150) [.int .i64 10016, .int .i64 10025, .int .i64 8, .int .i64 0] from (k150_mkM _ _ _ (⟨10016, 10025, 8, 0⟩ : S150) )) (Reps.c4 (show Kd.M k150 _ _ _ (⟨10032, 10035, 10, 0⟩ : S150) [.int .i64 10032, .int .i64 10035, .int .i64 10, .int .i64 0] from (k150_mkM _ _ _ (⟨10032, 10035, 10, 0⟩ : S150) )) (Reps.c4 (show Kd.M k150 _ _ _ (⟨12288, 23459, 7, 7⟩ : S150) [.int .i64 12288, .int .i64 23459, .int .i64 7, .int .i64 7] from (k150_mkM _ _ _ (⟨12288, 23459, 7, 7⟩ : S150) )) (Reps.c4 (show Kd.M k150 _ _ _ (⟨24576, 26623, 7, 9⟩ : S150) [.int .i64 24576, .int .i64 26623, .int .i64 7, .int .i64 9] from (k150_mkM _ _ _ (⟨24576, 26623, 7, 9⟩ : S150) )) (Reps.none _ _)))))))))))))))))))))))))))))))))); intro v135 w1 ho2 hb hg_ hnew_; clear hg_ hnew_; (first | rw [← Ny134.out] at ho2 | (simp only [Int.reduceToNat] at ho2; rw [← Ny134.out] at ho2)); have n0_ := Aside0.mk (Kd.R_lower ho2 (below_size (by repeat (first | (with_reducible first | exact HB.out | apply below_alloc | apply pw_below_drewN | apply below_drew1) | exact HB.out)))); have n1_ := Aside0.mk (below_step (by repeat (first | (with_reducible first | exact HB.out | apply below_alloc | apply pw_below_drewN | apply below_drew1) | exact HB.out)) hb); clear HB; have HO136 := n0_; have HB := n1_; clear n0_ n1_; clear hb ho2))
  go_ret
  exact ⟨_, by first | rfl | (simp [errW_none, errW_some] <;> rfl) | (simp [*, errW_none, errW_some] <;> rfl), by (with_reducible repeat (first | apply Kd.R_alloc | apply Kd.R_drewN | apply Kd.R_drew)); exact HO136.out, by repeat (first | (with_reducible first | exact HB.out | apply below_alloc | apply pw_below_drewN | apply below_drew1) | exact HB.out)⟩

/-! ### spec_l01Cased: function 158 -/
def spec_l01Cased.f  : Option ((List (S150))) := some (([(⟨0, 31, 4, 0⟩ : S150), (⟨32, 63, 5, 0⟩ : S150), (⟨64, 67, 4, 0⟩ : S150), (⟨68, 71, 6, 0⟩ : S150), (⟨72, 75, 5, 0⟩ : S150), (⟨80, 89, 8, 0⟩ : S150), (⟨96, 97, 5, 0⟩ : S150)] : List (S150)))
set_option maxHeartbeats 8000000 in
set_option maxRecDepth 100000 in
theorem spec_l01Cased.calls  (r : List (S150)) (w : World) (h : spec_l01Cased.f  = some r) :
    Calls Tryd.prog 158 #[] w fun e w' => ∃ v0_ : Value, e = .returned (v0_) ∧ Kd.R k150 150 w' w.heap.size (fun _ => True) v0_ r ∧ Below w.heap.size w w' := by
  have hu150 := Tryd.underlying150
  have HB := Aside0.mk (Below.refl w.heap.size w)
  have H : (some (([(⟨0, 31, 4, 0⟩ : S150), (⟨32, 63, 5, 0⟩ : S150), (⟨64, 67, 4, 0⟩ : S150), (⟨68, 71, 6, 0⟩ : S150), (⟨72, 75, 5, 0⟩ : S150), (⟨80, 89, 8, 0⟩ : S150), (⟨96, 97, 5, 0⟩ : S150)] : List (S150)))) = some r := h
  clear h
  obtain ⟨y137, hy137⟩ : ∃ y_ : List (S150), y_ = (([(⟨0, 31, 4, 0⟩ : S150), (⟨32, 63, 5, 0⟩ : S150), (⟨64, 67, 4, 0⟩ : S150), (⟨68, 71, 6, 0⟩ : S150), (⟨72, 75, 5, 0⟩ : S150), (⟨80, 89, 8, 0⟩ : S150), (⟨96, 97, 5, 0⟩ : S150)] : List (S150))) := ⟨_, rfl⟩
  replace H : (some y137) = some r := by first | (rw [hy137]; with_reducible exact H) | (have H2_ := (Option.bind_some _ _).symm.trans H; rw [hy137]; with_reducible exact H2_) | (have H2_ := (Option.bind_some _ _).symm.trans H; with_reducible exact H2_) | with_reducible exact H | (rw [hy137]; exact H) | exact H
  have Ny137 := Aside0.mk hy137
  clear hy137
  obtain rfl := Option.some.inj H
  go_enter Tryd.func158, Tryd.ntmps158
  go_wp2_with (first | ((with_reducible refine gate_dst (N := 8) rfl ?_); refine Kd.R_lit k150 _ 150 ?hg (N := 8) ?hd (xs := ([(⟨0, 31, 4, 0⟩ : S150), (⟨32, 63, 5, 0⟩ : S150), (⟨64, 67, 4, 0⟩ : S150), (⟨68, 71, 6, 0⟩ : S150), (⟨72, 75, 5, 0⟩ : S150), (⟨80, 89, 8, 0⟩ : S150), (⟨96, 97, 5, 0⟩ : S150)] : List (S150))) (inner := [.int .i64 0, .int .i64 31, .int .i64 4, .int .i64 0, .int .i64 32, .int .i64 63, .int .i64 5, .int .i64 0, .int .i64 64, .int .i64 67, .int .i64 4, .int .i64 0, .int .i64 68, .int .i64 71, .int .i64 6, .int .i64 0, .int .i64 72, .int .i64 75, .int .i64 5, .int .i64 0, .int .i64 80, .int .i64 89, .int .i64 8, .int .i64 0, .int .i64 96, .int .i64 97, .int .i64 5, .int .i64 0]) (ok := fun _ => True) (okp := fun _ => True) ?hr ?hp (fun _ hk => hk) trivial (Below.refl _ _) (Nat.le_refl _) (by simp) ?_; (case hd => rfl); (case hg => rfl); (case hr => first | (go_simp; done) | (go_simp; rfl)); (case hp => exact (Reps.c4 (show Kd.M k150 _ _ _ (⟨0, 31, 4, 0⟩ : S150) [.int .i64 0, .int .i64 31, .int .i64 4, .int .i64 0] from (k150_mkM _ _ _ (⟨0, 31, 4, 0⟩ : S150) )) (Reps.c4 (show Kd.M k150 _ _ _ (⟨32, 63, 5, 0⟩ : S150) [.int .i64 32, .int .i64 63, .int .i64 5, .int .i64 0] from (k150_mkM _ _ _ (⟨32, 63, 5, 0⟩ : S150) )) (Reps.c4 (show Kd.M k150 _ _ _ (⟨64, 67, 4, 0⟩ : S150) [.int .i64 64, .int .i64 67, .int .i64 4, .int .i64 0] from (k150_mkM _ _ _ (⟨64, 67, 4, 0⟩ : S150) )) (Reps.c4 (show Kd.M k150 _ _ _ (⟨68, 71, 6, 0⟩ : S150) [.int .i64 68, .int .i64 71, .int .i64 6, .int .i64 0] from (k150_mkM _ _ _ (⟨68, 71, 6, 0⟩ : S150) )) (Reps.c4 (show Kd.M k150 _ _ _ (⟨72, 75, 5, 0⟩ : S150) [.int .i64 72, .int .i64 75, .int .i64 5, .int .i64 0] from (k150_mkM _ _ _ (⟨72, 75, 5, 0⟩ : S150) )) (Reps.c4 (show Kd.M k150 _ _ _ (⟨80, 89, 8, 0⟩ : S150) [.int .i64 80, .int .i64 89, .int .i64 8, .int .i64 0] from (k150_mkM _ _ _ (⟨80, 89, 8, 0⟩ : S150) )) (Reps.c4 (show Kd.M k150 _ _ _ (⟨96, 97, 5, 0⟩ : S150) [.int .i64 96, .int .i64 97, .int .i64 5, .int .i64 0] from (k150_mkM _ _ _ (⟨96, 97, 5, 0⟩ : S150) )) (Reps.none _ _))))))))); intro v138 w1 ho2 hb hg_ hnew_; clear hg_ hnew_; (first | rw [← Ny137.out] at ho2 | (simp only [Int.reduceToNat] at ho2; rw [← Ny137.out] at ho2)); have n0_ := Aside0.mk (Kd.R_lower ho2 (below_size (by repeat (first | (with_reducible first | exact HB.out | apply below_alloc | apply pw_below_drewN | apply below_drew1) | exact HB.out)))); have n1_ := Aside0.mk (below_step (by repeat (first | (with_reducible first | exact HB.out | apply below_alloc | apply pw_below_drewN | apply below_drew1) | exact HB.out)) hb); clear HB; have HO139 := n0_; have HB := n1_; clear n0_ n1_; clear hb ho2))
  go_ret
  exact ⟨_, by first | rfl | (simp [errW_none, errW_some] <;> rfl) | (simp [*, errW_none, errW_some] <;> rfl), by (with_reducible repeat (first | apply Kd.R_alloc | apply Kd.R_drewN | apply Kd.R_drew)); exact HO139.out, by repeat (first | (with_reducible first | exact HB.out | apply below_alloc | apply pw_below_drewN | apply below_drew1) | exact HB.out)⟩

end Go.Proofs.YtnonijganceneaaDoor.QFnExactTitle
