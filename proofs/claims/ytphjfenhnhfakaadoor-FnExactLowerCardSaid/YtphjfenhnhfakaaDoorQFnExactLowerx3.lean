/- The law FnExactLower: at every input the call answers true (this text: contracts on its way, by a program of this session's; no condition of ours). -/
import Derived.Test.YtphjfenhnhfakaaDoorQFnExactLowerx0
import Derived.Test.YtphjfenhnhfakaaDoorQFnExactLowerx1
import Derived.Test.YtphjfenhnhfakaaDoorQFnExactLowerx2
namespace Go.Proofs.YtphjfenhnhfakaaDoor.QFnExactLower
open Go.RowKit Go.Proofs.YtphjfenhnhfakaaDoorW.PrintWords Go.Proofs.YtphjfenhnhfakaaDoorW.PrintLast Go.Proofs.YtphjfenhnhfakaaDoorW.PrintMore
attribute [local go_sem] max2_int min2_int max_two min_two max_three min_three max_four min_four   -- for this text's walks alone
set_option linter.unusedVariables false
set_option linter.unusedSimpArgs false

/-! ### spec_l01Points: function 44 -/
def spec_l01Points.l0 : Nat → ByteArray → List Int → Int → Option (List Int)
  | 0, _, _, _ => none
  | k + 1, x0, x3, x4 => if x4 < (x0.size : Int) then ((W_spec_l01Next.f x0 x4).bind fun bt119 => (if x3.length < 17592186044416 then (spec_l01Points.l0 k x0 (x3 ++ [bt119.1]) (wrap64 (x4 + bt119.2.1))) else (none))) else (some x3)
def spec_l01Points.f (k : Nat) (a0 : ByteArray) : Option (List Int) := spec_l01Points.l0 k a0 (([] : List Int)) 0
theorem spec_l01Points.mono_l : ∀ k, (∀ y0 y1 y2, LeO (spec_l01Points.l0 k y0 y1 y2) (spec_l01Points.l0 (k + 1) y0 y1 y2))
  | 0 => fun _ _ _ r h => by simp [spec_l01Points.l0] at h
  | k + 1 => by
    have ih0 := spec_l01Points.mono_l k
    · intro y0 y1 y2
      unfold spec_l01Points.l0
      repeat' first
      | (with_reducible exact ih0 _ _ _)
      | (with_reducible exact LeO.refl _)
      | (with_reducible exact LeO.none _)
      | (with_reducible refine LeO.ite ?_ ?_)
      | (with_reducible refine LeO.bind ?_ (fun _ => ?_))
      | exact ih0 _ _ _
      | exact LeO.none _
      | refine LeO.ite ?_ ?_
      | refine LeO.bind ?_ (fun _ => ?_)
theorem spec_l01Points.mono : ∀ a0 k, LeO (spec_l01Points.f k a0) (spec_l01Points.f (k + 1) a0) := by
  intro a0 k
  have ih0 := spec_l01Points.mono_l k
  unfold spec_l01Points.f
  repeat' first
      | (with_reducible exact ih0 _ _ _)
      | (with_reducible exact LeO.refl _)
      | (with_reducible exact LeO.none _)
      | (with_reducible refine LeO.ite ?_ ?_)
      | (with_reducible refine LeO.bind ?_ (fun _ => ?_))
      | exact ih0 _ _ _
      | exact LeO.none _
      | refine LeO.ite ?_ ?_
      | refine LeO.bind ?_ (fun _ => ?_)
set_option maxHeartbeats 8000000 in
set_option maxRecDepth 100000 in
theorem spec_l01Points.calls (k : Nat) (a0 : ByteArray) (r : List Int) (w : World) (h : spec_l01Points.f k a0 = some r) :
    Calls Tryd.prog 44 #[.string a0] w fun e w' => ∃ v0_ : Value, e = .returned (v0_) ∧ Kd.R (Kd.int .i64) 2 w' w.heap.size (fun _ => True) v0_ r ∧ Below w.heap.size w w' := by
  have HB := Aside0.mk (Below.refl w.heap.size w)
  have H : (spec_l01Points.l0 k a0 (([] : List Int)) 0) = some r := h
  clear h
  obtain ⟨y116, hy116⟩ : ∃ y_ : List Int, y_ = (([] : List Int)) := ⟨_, rfl⟩
  replace H : (spec_l01Points.l0 k a0 y116 0) = some r := by first | (rw [hy116]; with_reducible exact H) | (have H2_ := (Option.bind_some _ _).symm.trans H; rw [hy116]; with_reducible exact H2_) | (have H2_ := (Option.bind_some _ _).symm.trans H; with_reducible exact H2_) | with_reducible exact H | (rw [hy116]; exact H) | exact H
  have Ny116 := Aside0.mk hy116
  clear hy116
  have H' := Aside0.mk H
  clear H
  go_enter Tryd.func44, Tryd.ntmps44
  go_wp2_with (first | ((with_reducible refine gate_dst (N := 8) rfl ?_); refine Kd.R_lit (Kd.int .i64) _ 2 ?hg (N := 8) ?hd (xs := ([] : List Int)) (inner := []) (ok := fun _ => True) (okp := fun _ => True) ?hr ?hp (fun _ hk => hk) trivial (Below.refl _ _) (Nat.le_refl _) (by simp) ?_; (case hd => rfl); (case hg => rfl); (case hr => first | (go_simp; done) | (go_simp; rfl)); (case hp => exact (Reps.none _ _)); intro v117 w2 ho3 hb hg_ hnew_; clear hg_ hnew_; (first | rw [← Ny116.out] at ho3 | (simp only [Int.reduceToNat] at ho3; rw [← Ny116.out] at ho3)); have n0_ := Aside0.mk (Kd.R_lower ho3 (below_size (by repeat (first | (with_reducible first | exact HB.out | apply below_alloc | apply pw_below_drewN | apply below_drew1) | exact HB.out)))); have n1_ := Aside0.mk (below_step (by repeat (first | (with_reducible first | exact HB.out | apply below_alloc | apply pw_below_drewN | apply below_drew1) | exact HB.out)) hb); clear HB; have HO118 := n0_; have HB := n1_; clear n0_ n1_; clear hb ho3))
  go_loopg [3, 4] k (fun kq v3 v4 w' => ∃ (x3_1 : List Int) (x4_1 : Int), v4 = .int .i64 x4_1 ∧ Aside0 (spec_l01Points.l0 kq a0 x3_1 x4_1 = some r) ∧ Aside0 (kq ≤ k) ∧ Aside0 (Kd.R (Kd.int .i64) 2 w' w.heap.size (fun _ => True) v3 x3_1) ∧ Aside0 (Below w.heap.size w w'))
  case atStart => exact ⟨(y116), (0), (by first | rfl | (simp; done) | (simp [*]; done)), H', ⟨Nat.le_refl _⟩, ⟨by (with_reducible repeat (first | apply Kd.R_alloc | apply Kd.R_drewN | apply Kd.R_drew)); exact HO118.out⟩, ⟨by repeat (first | (with_reducible first | exact HB.out | apply below_alloc | apply pw_below_drewN | apply below_drew1) | exact HB.out)⟩⟩
  case round =>
    clear H'
    try clear p2
    obtain ⟨x3_1, x4_1, rfl, HA, HK1, HO_3, HB⟩ := hrel
    cases gk with
    | zero => exact absurd HA.out (by simp [spec_l01Points.l0])
    | succ k1 =>
      have H := HA.out
      clear HA
      simp only [spec_l01Points.l0] at H
      by_cases c4 : x4_1 < (a0.size : Int)
      · rw [if_pos c4] at H
        have c4b0 : decide (x4_1 < (a0.size : Int)) = true := decide_eq_true c4
        clear c4
        replace H := Option.bind_eq_some_iff.mp H
        obtain ⟨⟨t119, t120, t121⟩, A50, H⟩ := H
        replace H : (if x3_1.length < 17592186044416 then (spec_l01Points.l0 k1 a0 (x3_1 ++ [t119]) (wrap64 (x4_1 + t120))) else (none)) = some r := H
        have A5 := Aside0.mk A50
        clear A50
        by_cases c6 : x3_1.length < 17592186044416
        · rw [if_pos c6] at H
          have LMc6 := Aside0.mk c6
          clear c6
          obtain ⟨y122, hy122⟩ : ∃ y_ : List Int, y_ = (x3_1 ++ [t119]) := ⟨_, rfl⟩
          replace H : (spec_l01Points.l0 k1 a0 y122 (wrap64 (x4_1 + t120))) = some r := by first | (rw [hy122]; with_reducible exact H) | (have H2_ := (Option.bind_some _ _).symm.trans H; rw [hy122]; with_reducible exact H2_) | (have H2_ := (Option.bind_some _ _).symm.trans H; with_reducible exact H2_) | with_reducible exact H | (rw [hy122]; exact H) | exact H
          have Ny122 := Aside0.mk hy122
          clear hy122
          have H' := Aside0.mk H
          clear H
          go_wp2_with (first | ((with_reducible refine gate_callee (f := 76) rfl ?_); refine goesL_ (some 16) rfl rfl Tryd.func76 (by kernel_rfl) rfl #[.string a0, .int .i64 x4_1] rfl (by (try simp only [List.map_toArray, List.map_cons, List.map_nil]); first | done | rfl | (simp only [List.length_drop, List.length_take]; rfl)) ?_; (with_reducible refine (W_spec_l01Next.calls a0 x4_1 t119 t120 t121 _ A5.out).mono ?_); rintro e w7 ⟨rfl, hb⟩; refine ⟨_, rfl, ?_⟩; have n0_ := Aside0.mk (Kd.R_below (by (with_reducible repeat (first | apply Kd.R_alloc | apply Kd.R_drewN | apply Kd.R_drew)); exact HO_3.out) hb); have n1_ := Aside0.mk (below_step (by repeat (first | (with_reducible first | exact HB.out | apply below_alloc | apply pw_below_drewN | apply below_drew1) | exact HB.out)) hb); clear HO_3; clear HB; have HO_3 := n0_; have HB := n1_; clear n0_ n1_; (try clear hb); (try clear hb2); (try clear hk); (try clear hi)) | ((with_reducible refine gate_builtin (b := .append) (xs := #[.tmp 20, .tmp 22]) rfl ?_); at_builtin; refine Kd.R_append (Kd.int .i64) (w0 := w) w.heap.size rfl (.tmp 20) (.tmp 22) 28 2 (.int .i64 0) 8 rfl Tryd.underlying28 info2 rfl (by decide) (by omega) u3 x3_1 t119 [.int .i64 t119] (fun _ => True) (fun _ => False) rfl rfl ?aP (fun _ hk => hk.elim) ?aF ?aO ?aB ?aS ?aL ?_; (case aP => exact rfl); (case aB => exact (by repeat (first | (with_reducible first | exact HB.out | apply below_alloc | apply pw_below_drewN | apply below_drew1) | exact HB.out))); (case aF => exact (fun _ _ => trivial)); (case aO => exact (by (with_reducible repeat (first | apply Kd.R_alloc | apply Kd.R_drewN | apply Kd.R_drew)); exact HO_3.out)); (case aS => exact (below_size (by repeat (first | (with_reducible first | exact HB.out | apply below_alloc | apply pw_below_drewN | apply below_drew1) | exact HB.out)))); (case aL => have := LMc6.out; omega); intro v123 w8 ho hb hg hat; rw [← Ny122.out] at ho; have n0_ := Aside0.mk (hb); have n1_ := Aside0.mk (ho); clear HB; clear HO_3; have HB := n0_; have HO124 := n1_; clear n0_ n1_; clear ho hb hg hat))
          go_roundg k1
          case measure => have := HK1.out; omega
          case rel => exact ⟨(y122), (wrap64 (x4_1 + t120)), (by first | rfl | (simp; done) | (simp [*]; done)), H', ⟨by have := HK1.out; omega⟩, ⟨by (with_reducible repeat (first | apply Kd.R_alloc | apply Kd.R_drewN | apply Kd.R_drew)); exact HO124.out⟩, ⟨by repeat (first | (with_reducible first | exact HB.out | apply below_alloc | apply pw_below_drewN | apply below_drew1) | exact HB.out)⟩⟩
        · rw [if_neg c6] at H
          exact absurd H (by simp)
      · rw [if_neg c4] at H
        have c4b0 : decide (x4_1 < (a0.size : Int)) = false := decide_eq_false c4
        clear c4
        obtain rfl := Option.some.inj H
        go_wp2
        go_ret
        exact ⟨_, by first | rfl | (simp [errW_none, errW_some] <;> rfl) | (simp [*, errW_none, errW_some] <;> rfl), by (with_reducible repeat (first | apply Kd.R_alloc | apply Kd.R_drewN | apply Kd.R_drew)); exact HO_3.out, by repeat (first | (with_reducible first | exact HB.out | apply below_alloc | apply pw_below_drewN | apply below_drew1) | exact HB.out)⟩

def W_spec_l01Points.f (a0 : ByteArray) : Option (List Int) := if a0.size ≤ 1099511627776 then some (YtphjfenhnhfakaaDoorPts.pts (bytesOf a0)) else none
theorem spec_l01Points.run (s : ByteArray) (hs : s.size ≤ 1099511627776) (d : Nat) : ∀ (k i : Nat) (acc : List Int), i ≤ s.size → s.size - i ≤ d → d < k → acc.length + (s.size - i) ≤ 1099511627776 →
    spec_l01Points.l0 k s acc (i : Int) = some (acc ++ YtphjfenhnhfakaaDoorPts.pts ((bytesOf s).drop i)) := by
  induction d with
  | zero =>
    intro k i acc h1 h2 h3 h4
    obtain ⟨k, rfl⟩ : ∃ m, k = m + 1 := ⟨k - 1, by omega⟩
    simp only [spec_l01Points.l0]
    rw [if_neg (by omega), List.drop_eq_nil_of_le (by rw [bytesOf_length]; omega)]
    simp [YtphjfenhnhfakaaDoorPts.pts_nil]
  | succ d ih =>
    intro k i acc h1 h2 h3 h4
    obtain ⟨k, rfl⟩ : ∃ m, k = m + 1 := ⟨k - 1, by omega⟩
    simp only [spec_l01Points.l0]
    by_cases hlt : i < s.size
    · rw [if_pos (by omega)]
      unfold W_spec_l01Next.f
      rw [if_pos ⟨by omega, by omega, hs⟩]
      simp only [Option.bind_some]
      have hne : (bytesOf s).drop i ≠ [] := by intro h; have := congrArg List.length h; rw [List.length_drop, bytesOf_length] at this; simp at this; omega
      have hb := YtphjfenhnhfakaaDoorPts.dec_bound hne
      rw [List.length_drop, bytesOf_length] at hb
      have hd : spec_l01Next.d s (i : Int) = YtphjfenhnhfakaaDoorPts.dec ((bytesOf s).drop i) := rfl
      rw [hd, if_pos (by omega), spec_l01Next.w (i : Int) _ (by omega) (by omega) (by omega)]
      have hi : (i : Int) + ((YtphjfenhnhfakaaDoorPts.dec ((bytesOf s).drop i)).2 : Int) = ((i + (YtphjfenhnhfakaaDoorPts.dec ((bytesOf s).drop i)).2 : Nat) : Int) := by omega
      rw [hi, ih k (i + (YtphjfenhnhfakaaDoorPts.dec ((bytesOf s).drop i)).2) _ (by omega) (by omega) (by omega) (by rw [List.length_append]; simp only [List.length_cons, List.length_nil]; omega)]
      rw [YtphjfenhnhfakaaDoorPts.pts_cons hne, List.drop_drop]
      simp
    · rw [if_neg (by omega), List.drop_eq_nil_of_le (by rw [bytesOf_length]; omega)]
      simp [YtphjfenhnhfakaaDoorPts.pts_nil]
theorem W_spec_l01Points.to {a0 : ByteArray} {r : List Int} (h : W_spec_l01Points.f a0 = some r) : ∃ k, spec_l01Points.f k a0 = some r := by
  unfold W_spec_l01Points.f at h
  split at h
  · rename_i hs
    refine ⟨a0.size + 1, ?_⟩
    rw [← h]
    have := spec_l01Points.run a0 hs a0.size (a0.size + 1) 0 [] (by omega) (by omega) (by omega) (by simp; omega)
    unfold spec_l01Points.f
    simpa using this
  · cases h
theorem W_spec_l01Points.calls (a0 : ByteArray) (r : List Int) (w : World) (h : W_spec_l01Points.f a0 = some r) :
    Calls Tryd.prog 44 #[.string a0] w fun e w' => ∃ v0_ : Value, e = .returned (v0_) ∧ Kd.R (Kd.int .i64) 2 w' w.heap.size (fun _ => True) v0_ r ∧ Below w.heap.size w w' := by
  obtain ⟨k, hk⟩ := W_spec_l01Points.to h
  exact spec_l01Points.calls k a0 r w hk

/-! ### spec_l01Text: function 50 -/
def spec_l01Text.l0 : Nat → List Int → List Int → Int → Option (ByteArray)
  | 0, _, _, _ => none
  | k + 1, x0, x3, x4 => if x4 < (x0.length : Int) then (if 0 ≤ x4 then ((W_spec_l01Write.f (rd x0 x4)).bind fun t129 => (if x3.length + t129.size < 140737488355328 then (spec_l01Text.l0 k x0 (x3 ++ bytesOf t129) (wrap64 (x4 + 1))) else (none))) else (none)) else (some (strOfNums x3))
def spec_l01Text.f (k : Nat) (l0 : List Int) : Option (ByteArray) := spec_l01Text.l0 k l0 (([] : List Int)) 0
theorem spec_l01Text.mono_l : ∀ k, (∀ y0 y1 y2, LeO (spec_l01Text.l0 k y0 y1 y2) (spec_l01Text.l0 (k + 1) y0 y1 y2))
  | 0 => fun _ _ _ r h => by simp [spec_l01Text.l0] at h
  | k + 1 => by
    have ih0 := spec_l01Text.mono_l k
    · intro y0 y1 y2
      unfold spec_l01Text.l0
      repeat' first
      | (with_reducible exact ih0 _ _ _)
      | (with_reducible exact LeO.refl _)
      | (with_reducible exact LeO.none _)
      | (with_reducible refine LeO.ite ?_ ?_)
      | (with_reducible refine LeO.bind ?_ (fun _ => ?_))
      | exact ih0 _ _ _
      | exact LeO.none _
      | refine LeO.ite ?_ ?_
      | refine LeO.bind ?_ (fun _ => ?_)
theorem spec_l01Text.mono : ∀ a0 k, LeO (spec_l01Text.f k a0) (spec_l01Text.f (k + 1) a0) := by
  intro a0 k
  have ih0 := spec_l01Text.mono_l k
  unfold spec_l01Text.f
  repeat' first
      | (with_reducible exact ih0 _ _ _)
      | (with_reducible exact LeO.refl _)
      | (with_reducible exact LeO.none _)
      | (with_reducible refine LeO.ite ?_ ?_)
      | (with_reducible refine LeO.bind ?_ (fun _ => ?_))
      | exact ih0 _ _ _
      | exact LeO.none _
      | refine LeO.ite ?_ ?_
      | refine LeO.bind ?_ (fun _ => ?_)
set_option maxHeartbeats 8000000 in
set_option maxRecDepth 100000 in
theorem spec_l01Text.calls (k : Nat) (A0 : Option Addr) (c0 : Nat) (l0 : List Int) (r : ByteArray) (w : World) (hr0 : Kd.C (Kd.int .i64) w A0 l0.length l0) (hc0 : l0.length ≤ c0) (h : spec_l01Text.f k l0 = some r) :
    Calls Tryd.prog 50 #[.slice A0 l0.length c0] w fun e w' => e = .returned (.string r) ∧ Below w.heap.size w w' := by
  have HR0 := Aside0.mk hr0
  have HC0 := Aside0.mk hc0
  clear hr0 hc0
  have HB := Aside0.mk (Below.refl w.heap.size w)
  have H : (spec_l01Text.l0 k l0 (([] : List Int)) 0) = some r := h
  clear h
  obtain ⟨y125, hy125⟩ : ∃ y_ : List Int, y_ = (([] : List Int)) := ⟨_, rfl⟩
  replace H : (spec_l01Text.l0 k l0 y125 0) = some r := by first | (rw [hy125]; with_reducible exact H) | (have H2_ := (Option.bind_some _ _).symm.trans H; rw [hy125]; with_reducible exact H2_) | (have H2_ := (Option.bind_some _ _).symm.trans H; with_reducible exact H2_) | with_reducible exact H | (rw [hy125]; exact H) | exact H
  have Ny125 := Aside0.mk hy125
  clear hy125
  have H' := Aside0.mk H
  clear H
  go_enter Tryd.func50, Tryd.ntmps50
  go_wp2_with (first | ((with_reducible refine gate_dst (N := 5) rfl ?_); refine Kd.R_lit (Kd.int .u8) _ 5 ?hg (N := 5) ?hd (xs := ([] : List Int)) (inner := []) (ok := fun _ => True) (okp := fun _ => True) ?hr ?hp (fun _ hk => hk) trivial (Below.refl _ _) (Nat.le_refl _) (by simp) ?_; (case hd => rfl); (case hg => rfl); (case hr => first | (go_simp; done) | (go_simp; rfl)); (case hp => exact (Reps.none _ _)); intro v126 w2 ho3 hb hg_ hnew_; clear hg_ hnew_; (first | rw [← Ny125.out] at ho3 | (simp only [Int.reduceToNat] at ho3; rw [← Ny125.out] at ho3)); have n0_ := Aside0.mk (Kd.R_lower ho3 (below_size (by repeat (first | (with_reducible first | exact HB.out | apply below_alloc | apply pw_below_drewN | apply below_drew1) | exact HB.out)))); have n1_ := Aside0.mk (below_step (by repeat (first | (with_reducible first | exact HB.out | apply below_alloc | apply pw_below_drewN | apply below_drew1) | exact HB.out)) hb); clear HB; have HO127 := n0_; have HB := n1_; clear n0_ n1_; clear hb ho3))
  go_loopg [3, 4] k (fun kq v3 v4 w' => ∃ (x3_1 : List Int) (x4_1 : Int), v4 = .int .i64 x4_1 ∧ Aside0 (spec_l01Text.l0 kq l0 x3_1 x4_1 = some r) ∧ Aside0 (kq ≤ k) ∧ Aside0 (Kd.R (Kd.int .u8) 5 w' w.heap.size (fun _ => True) v3 x3_1) ∧ Aside0 (Below w.heap.size w w'))
  case atStart => exact ⟨(y125), (0), (by first | rfl | (simp; done) | (simp [*]; done)), H', ⟨Nat.le_refl _⟩, ⟨by (with_reducible repeat (first | apply Kd.R_alloc | apply Kd.R_drewN | apply Kd.R_drew)); exact HO127.out⟩, ⟨by repeat (first | (with_reducible first | exact HB.out | apply below_alloc | apply pw_below_drewN | apply below_drew1) | exact HB.out)⟩⟩
  case round =>
    clear H'
    try clear p2
    obtain ⟨x3_1, x4_1, rfl, HA, HK1, HO_3, HB⟩ := hrel
    cases gk with
    | zero => exact absurd HA.out (by simp [spec_l01Text.l0])
    | succ k1 =>
      have H := HA.out
      clear HA
      simp only [spec_l01Text.l0] at H
      by_cases c4 : x4_1 < (l0.length : Int)
      · rw [if_pos c4] at H
        have c4b0 : decide (x4_1 < (l0.length : Int)) = true := decide_eq_true c4
        clear c4
        by_cases c5 : 0 ≤ x4_1
        · rw [if_pos c5] at H
          have c5b0 : decide (0 ≤ x4_1) = true := decide_eq_true c5
          clear c5
          replace H := Option.bind_eq_some_iff.mp H
          obtain ⟨t129, A60, H⟩ := H
          replace H : (if x3_1.length + t129.size < 140737488355328 then (spec_l01Text.l0 k1 l0 (x3_1 ++ bytesOf t129) (wrap64 (x4_1 + 1))) else (none)) = some r := H
          have A6 := Aside0.mk A60
          clear A60
          by_cases c7 : x3_1.length + t129.size < 140737488355328
          · rw [if_pos c7] at H
            have LMc7 := Aside0.mk c7
            clear c7
            obtain ⟨y130, hy130⟩ : ∃ y_ : List Int, y_ = (x3_1 ++ bytesOf t129) := ⟨_, rfl⟩
            replace H : (spec_l01Text.l0 k1 l0 y130 (wrap64 (x4_1 + 1))) = some r := by first | (rw [hy130]; with_reducible exact H) | (have H2_ := (Option.bind_some _ _).symm.trans H; rw [hy130]; with_reducible exact H2_) | (have H2_ := (Option.bind_some _ _).symm.trans H; with_reducible exact H2_) | with_reducible exact H | (rw [hy130]; exact H) | exact H
            have Ny130 := Aside0.mk hy130
            clear hy130
            have H' := Aside0.mk H
            clear H
            have p128 : 0 ≤ (x4_1 : Int) := of_decide_eq_true (by first | (with_reducible assumption) | assumption)
            have q128 : x4_1 < (l0.length : Int) := of_decide_eq_true (by first | (with_reducible assumption) | assumption)
            obtain ⟨ad128, e128, hx128_0⟩ := Kd.at_int HR0.out x4_1 p128 q128
            cases e128
            replace hx128_0 := (HB.out.cell (World.block_lt_of_cell? w _ hx128_0)).trans hx128_0
            replace p128 := eq_true p128
            replace q128 := eq_true q128
            go_wp2_with (first | ((with_reducible refine gate_callee (f := 74) rfl ?_); refine goesL_ (some 17) rfl rfl Tryd.func74 (by kernel_rfl) rfl #[.int .i64 (rd l0 x4_1)] rfl (by (try simp only [List.map_toArray, List.map_cons, List.map_nil]); first | done | rfl | (simp only [List.length_drop, List.length_take]; rfl)) ?_; (with_reducible refine (W_spec_l01Write.calls (rd l0 x4_1) t129 _ A6.out).mono ?_); rintro e w8 ⟨rfl, hb⟩; refine ⟨_, rfl, ?_⟩; have n0_ := Aside0.mk (Kd.R_below (by (with_reducible repeat (first | apply Kd.R_alloc | apply Kd.R_drewN | apply Kd.R_drew)); exact HO_3.out) hb); have n1_ := Aside0.mk (below_step (by repeat (first | (with_reducible first | exact HB.out | apply below_alloc | apply pw_below_drewN | apply below_drew1) | exact HB.out)) hb); clear HO_3; clear HB; have HO_3 := n0_; have HB := n1_; clear n0_ n1_; (try clear hb); (try clear hb2); (try clear hk); (try clear hi)) | (at_builtin; refine print_append_str (w0 := w) w.heap.size rfl (.tmp 12) _ 22 9 5 rfl Tryd.underlying22 Tryd.underlying9 info5 u3 x3_1 t129 rfl rfl ?aO ?aB ?aS ?aL ?_; (case aB => exact (by repeat (first | (with_reducible first | exact HB.out | apply below_alloc | apply pw_below_drewN | apply below_drew1) | exact HB.out))); (case aO => exact (Kd.own_of_R (by (with_reducible repeat (first | apply Kd.R_alloc | apply Kd.R_drewN | apply Kd.R_drew)); exact HO_3.out))); (case aS => exact (below_size (by repeat (first | (with_reducible first | exact HB.out | apply below_alloc | apply pw_below_drewN | apply below_drew1) | exact HB.out)))); (case aL => have := LMc7.out; omega); intro v131 w9 ho0 hb hg; have ho := Kd.R_of_own (h1 := fun _ => rfl) (ok := fun _ => True) ho0 (fun _ _ => trivial); clear ho0; have hat := True.intro; rw [← Ny130.out] at ho; change Kd.R (Kd.int .u8) 5 w9 w.heap.size (fun _ => True) v131 y130 at ho; have n0_ := Aside0.mk (hb); have n1_ := Aside0.mk (ho); clear HB; clear HO_3; have HB := n0_; have HO132 := n1_; clear n0_ n1_; clear ho hb hg hat))
            go_roundg k1
            case measure => have := HK1.out; omega
            case rel => exact ⟨(y130), (wrap64 (x4_1 + 1)), (by first | rfl | (simp; done) | (simp [*]; done)), H', ⟨by have := HK1.out; omega⟩, ⟨by (with_reducible repeat (first | apply Kd.R_alloc | apply Kd.R_drewN | apply Kd.R_drew)); exact HO132.out⟩, ⟨by repeat (first | (with_reducible first | exact HB.out | apply below_alloc | apply pw_below_drewN | apply below_drew1) | exact HB.out)⟩⟩
          · rw [if_neg c7] at H
            exact absurd H (by simp)
        · rw [if_neg c5] at H
          exact absurd H (by simp)
      · rw [if_neg c4] at H
        have c4b0 : decide (x4_1 < (l0.length : Int)) = false := decide_eq_false c4
        clear c4
        obtain rfl := Option.some.inj H
        have hcv10 := own_string (P := Tryd.prog) Tryd.underlying22 Tryd.underlying5 Tryd.underlying9 (Kd.own_of_R HO_3.out)
        go_wp2
        go_ret
        exact ⟨by first | rfl | (simp [errW_none, errW_some] <;> rfl) | (simp [*, errW_none, errW_some] <;> rfl), by repeat (first | (with_reducible first | exact HB.out | apply below_alloc | apply pw_below_drewN | apply below_drew1) | exact HB.out)⟩

def W_spec_l01Text.f (l0 : List Int) : Option (ByteArray) := if l0.length ≤ 1099511627776 then some (strOfNums (YtphjfenhnhfakaaDoorPts.encs l0)) else none
theorem spec_l01Text.run (l : List Int) (hl : l.length ≤ 1099511627776) (d : Nat) : ∀ (k i : Nat), i ≤ l.length → l.length - i = d → d < k →
    spec_l01Text.l0 k l (YtphjfenhnhfakaaDoorPts.encs (l.take i)) (i : Int) = some (strOfNums (YtphjfenhnhfakaaDoorPts.encs l)) := by
  induction d with
  | zero =>
    intro k i h1 h2 h3
    obtain ⟨k, rfl⟩ : ∃ m, k = m + 1 := ⟨k - 1, by omega⟩
    simp only [spec_l01Text.l0]
    rw [if_neg (by omega), List.take_of_length_le (by omega)]
  | succ d ih =>
    intro k i h1 h2 h3
    obtain ⟨k, rfl⟩ : ∃ m, k = m + 1 := ⟨k - 1, by omega⟩
    have hlt : i < l.length := by omega
    simp only [spec_l01Text.l0]
    rw [if_pos (by omega), if_pos (by omega)]
    have hw : wrap64 ((i : Int) + 1) = ((i + 1 : Nat) : Int) := by unfold wrap64; omega
    have hr : rd l (i : Int) = l[i] := by simp [rd, List.getD, hlt]
    have hb : bytesOf (strOfNums (YtphjfenhnhfakaaDoorPts.enc l[i])) = YtphjfenhnhfakaaDoorPts.enc l[i] := YtphjfenhnhfakaaDoorPts.bytesOf_strOfNums (YtphjfenhnhfakaaDoorPts.enc_bytes _)
    have ht : YtphjfenhnhfakaaDoorPts.encs (l.take (i + 1)) = YtphjfenhnhfakaaDoorPts.encs (l.take i) ++ YtphjfenhnhfakaaDoorPts.enc l[i] := by
      rw [List.take_succ_eq_append_getElem hlt, YtphjfenhnhfakaaDoorPts.encs_append]
      simp [YtphjfenhnhfakaaDoorPts.encs]
    have hlen := YtphjfenhnhfakaaDoorPts.encs_length (l.take i)
    rw [List.length_take] at hlen
    have hone := YtphjfenhnhfakaaDoorPts.enc_length l[i]
    rw [hr]
    unfold W_spec_l01Write.f
    simp only [Option.bind_some]
    rw [hb, strOfNums_size, if_pos (by omega), hw, ← ht]
    exact ih k (i + 1) (by omega) (by omega) (by omega)
theorem W_spec_l01Text.to {l0 : List Int} {r : ByteArray} (h : W_spec_l01Text.f l0 = some r) : ∃ k, spec_l01Text.f k l0 = some r := by
  unfold W_spec_l01Text.f at h
  split at h
  · rename_i hl
    refine ⟨l0.length + 1, ?_⟩
    rw [← h]
    exact spec_l01Text.run l0 hl l0.length (l0.length + 1) 0 (by omega) (by omega) (by omega)
  · cases h
theorem W_spec_l01Text.calls (A0 : Option Addr) (c0 : Nat) (l0 : List Int) (r : ByteArray) (w : World) (hr0 : Kd.C (Kd.int .i64) w A0 l0.length l0) (hc0 : l0.length ≤ c0) (h : W_spec_l01Text.f l0 = some r) :
    Calls Tryd.prog 50 #[.slice A0 l0.length c0] w fun e w' => e = .returned (.string r) ∧ Below w.heap.size w w' := by
  obtain ⟨k, hk⟩ := W_spec_l01Text.to h
  exact spec_l01Text.calls k A0 c0 l0 r w hr0 hc0 hk

/-! ### spec_l06Block: function 86 -/
def spec_l06Block.f (a0 : Int) : Option (Int) := if a0 < 512 then (some 0) else (if a0 ≥ 1280 then (some 0) else (some (wrap64 ((wrap64 (Int.tdiv a0 256)) * 256))))
set_option maxHeartbeats 8000000 in
set_option maxRecDepth 100000 in
theorem spec_l06Block.calls (a0 : Int) (r : Int) (w : World) (h : spec_l06Block.f a0 = some r) :
    Calls Tryd.prog 86 #[.int .i64 a0] w fun e w' => e = .returned (.int .i64 r) ∧ Drawn0 w w' := by
  have H : (if a0 < 512 then (some 0) else (if a0 ≥ 1280 then (some 0) else (some (wrap64 ((wrap64 (Int.tdiv a0 256)) * 256))))) = some r := h
  clear h
  by_cases c2 : a0 < 512
  · rw [if_pos c2] at H
    have c2b0 : decide (a0 < 512) = true := decide_eq_true c2
    clear c2
    obtain rfl := Option.some.inj H
    go_enter Tryd.func86, Tryd.ntmps86
    go_wp2
    go_ret
    exact ⟨by first | rfl | (simp; done) | (simp [*]; done), by repeat (first | exact Drawn0.refl _ | apply Drawn0.step)⟩
  · rw [if_neg c2] at H
    have c2b0 : decide (a0 < 512) = false := decide_eq_false c2
    clear c2
    by_cases c3 : a0 ≥ 1280
    · rw [if_pos c3] at H
      have c3b0 : decide (1280 ≤ a0) = true := decide_eq_true c3
      clear c3
      obtain rfl := Option.some.inj H
      go_enter Tryd.func86, Tryd.ntmps86
      go_wp2
      go_ret
      exact ⟨by first | rfl | (simp; done) | (simp [*]; done), by repeat (first | exact Drawn0.refl _ | apply Drawn0.step)⟩
    · rw [if_neg c3] at H
      have c3b0 : decide (1280 ≤ a0) = false := decide_eq_false c3
      clear c3
      obtain rfl := Option.some.inj H
      go_enter Tryd.func86, Tryd.ntmps86
      go_wp2
      go_ret
      exact ⟨by first | rfl | (simp; done) | (simp [*]; done), by repeat (first | exact Drawn0.refl _ | apply Drawn0.step)⟩

/-! ### spec_l06Three: function 87 (by hand) -/
def spec_l06Three.g (p : Int) : Int × Int × Int × Bool :=
  if 65 ≤ p ∧ p ≤ 90 then (p, p, p + 32, true)
  else if 97 ≤ p ∧ p ≤ 122 then (p - 32, p - 32, p, true)
  else if 8192 ≤ p ∧ p < 9728 ∧ p % 512 < 416 then (if 208 ≤ p % 512 then (p - 208, p - 208, p, true) else (p, p, p + 208, true))
  else if p < 512 ∨ 1280 ≤ p then (0, 0, 0, false)
  else if p % 256 < 64 then (p - p % 256 + p % 32, p - p % 256 + p % 32, p - p % 256 + p % 32 + 32, true)
  else if p % 256 < 76 then (p - p % 256 + 64 + p % 4, p - p % 256 + 64 + p % 4 + 4, p - p % 256 + 64 + p % 4 + 8, true)
  else (0, 0, 0, false)
def spec_l06Three.Post (p : Int) (w : World) (e : Ending) (w' : World) : Prop :=
  e = .returned (.tuple #[.agg #[.int .i64 (spec_l06Three.g p).1, .int .i64 (spec_l06Three.g p).2.1, .int .i64 (spec_l06Three.g p).2.2.1], .bool (spec_l06Three.g p).2.2.2]) ∧ Below w.heap.size w w'
theorem spec_l06Three.post {p a b c : Int} {d : Bool} {w w' : World} (h : spec_l06Three.g p = (a, b, c, d)) (hb : Below w.heap.size w w') :
    spec_l06Three.Post p w (.returned (.tuple #[.agg #[.int .i64 a, .int .i64 b, .int .i64 c], .bool d])) w' := by
  unfold spec_l06Three.Post; rw [h]; exact ⟨rfl, hb⟩
set_option maxHeartbeats 1000000 in
set_option maxRecDepth 100000 in
theorem spec_l06Three.calls (p : Int) (w : World) (h0 : 0 ≤ p) (h1 : p ≤ 1114111) :
    Calls Tryd.prog 87 #[.int .i64 p] w (spec_l06Three.Post p w) := by
  go_enter Tryd.func87, Tryd.ntmps87
  go_wp2
  all_goals
    refine bodyPost_ret (by simp [results, Tryd.results87, go_sem]; exact ⟨⟨rfl, rfl, rfl⟩, rfl⟩) rfl (spec_l06Three.post ?_ (by repeat (first | exact Below.refl _ _ | refine Below.setCell ?_ (by simp) _ | refine Below.alloc ?_ (by simp) _)))
    unfold spec_l06Three.g
    repeat (first | rw [if_pos (by omega)] | rw [if_neg (by omega)])
    try (simp only [Prod.mk.injEq, and_true, true_and]; omega)
theorem spec_l06Three.at_ {p a b c : Int} {d : Bool} {w w' : World} {e : Ending} (h : spec_l06Three.g p = (a, b, c, d)) (hp : spec_l06Three.Post p w e w') :
    e = .returned (.tuple #[.agg #[.int .i64 a, .int .i64 b, .int .i64 c], .bool d]) ∧ Below w.heap.size w w' := by
  unfold spec_l06Three.Post at hp; rw [h] at hp; exact hp

/-! ### spec_l06Lower: function 94 (by hand) -/
def spec_l06Lower.g (p : Int) : Int := if 9728 ≤ p ∧ p ≤ 9753 then p - 9728 + 97 else if (spec_l06Three.g p).2.2.2 = true then (spec_l06Three.g p).2.2.1 else p
def spec_l06Lower.f (a0 : Int) : Option Int := if 0 ≤ a0 ∧ a0 ≤ 1114111 then some (spec_l06Lower.g a0) else none
set_option maxHeartbeats 1000000 in
set_option maxRecDepth 100000 in
theorem spec_l06Lower.calls (a0 : Int) (r : Int) (w : World) (h : spec_l06Lower.f a0 = some r) :
    Calls Tryd.prog 94 #[.int .i64 a0] w fun e w' => e = .returned (.int .i64 r) ∧ Below w.heap.size w w' := by
  unfold spec_l06Lower.f at h
  split at h
  · rename_i hp
    obtain ⟨h0, h1⟩ := hp
    obtain rfl := Option.some.inj h
    clear h
    by_cases hc : 9728 ≤ a0 ∧ a0 ≤ 9753
    · have hr : spec_l06Lower.g a0 = a0 - 9728 + 97 := if_pos hc
      rw [hr]; clear hr
      obtain ⟨hc1, hc2⟩ := hc
      go_enter Tryd.func94, Tryd.ntmps94
      go_wp2
      go_ret
      exact ⟨rfl, Below.refl _ _⟩
    · obtain ⟨a, b, c, d, hq⟩ : ∃ a b c d, spec_l06Three.g a0 = (a, b, c, d) := ⟨_, _, _, _, rfl⟩
      have hr : spec_l06Lower.g a0 = if d = true then c else a0 := by unfold spec_l06Lower.g; rw [if_neg hc, hq]
      have HC := fun W => (spec_l06Three.calls a0 W h0 h1).mono (fun e w' h => spec_l06Three.at_ hq h)
      rw [hr]; clear hr hq
      have hc' : a0 < 9728 ∨ 9753 < a0 := by omega
      clear hc
      cases d with
      | true =>
        rw [if_pos rfl]
        rcases hc' with hc' | hc'
        · go_enter Tryd.func94, Tryd.ntmps94
          go_wp2_with (go_at_call 87; refine (HC _).mono ?_; rintro e w1 ⟨rfl, hb⟩)
          go_ret
          exact ⟨rfl, Below.alloc hb (by have := hb.size; omega) _⟩
        · go_enter Tryd.func94, Tryd.ntmps94
          go_wp2_with (go_at_call 87; refine (HC _).mono ?_; rintro e w1 ⟨rfl, hb⟩)
          go_ret
          exact ⟨rfl, Below.alloc hb (by have := hb.size; omega) _⟩
      | false =>
        rw [if_neg (by decide)]
        rcases hc' with hc' | hc'
        · go_enter Tryd.func94, Tryd.ntmps94
          go_wp2_with (go_at_call 87; refine (HC _).mono ?_; rintro e w1 ⟨rfl, hb⟩)
          go_ret
          exact ⟨rfl, Below.alloc hb (by have := hb.size; omega) _⟩
        · go_enter Tryd.func94, Tryd.ntmps94
          go_wp2_with (go_at_call 87; refine (HC _).mono ?_; rintro e w1 ⟨rfl, hb⟩)
          go_ret
          exact ⟨rfl, Below.alloc hb (by have := hb.size; omega) _⟩
  · cases h

/-! ### spec_l01Cased: function 123 -/
def spec_l01Cased.f  : Option ((List (S142))) := some (([(⟨0, 31, 4, 0⟩ : S142), (⟨32, 63, 5, 0⟩ : S142), (⟨64, 67, 4, 0⟩ : S142), (⟨68, 71, 6, 0⟩ : S142), (⟨72, 75, 5, 0⟩ : S142), (⟨80, 89, 8, 0⟩ : S142), (⟨96, 97, 5, 0⟩ : S142)] : List (S142)))
set_option maxHeartbeats 8000000 in
set_option maxRecDepth 100000 in
theorem spec_l01Cased.calls  (r : List (S142)) (w : World) (h : spec_l01Cased.f  = some r) :
    Calls Tryd.prog 123 #[] w fun e w' => ∃ v0_ : Value, e = .returned (v0_) ∧ Kd.R k142 142 w' w.heap.size (fun _ => True) v0_ r ∧ Below w.heap.size w w' := by
  have hu142 := Tryd.underlying142
  have HB := Aside0.mk (Below.refl w.heap.size w)
  have H : (some (([(⟨0, 31, 4, 0⟩ : S142), (⟨32, 63, 5, 0⟩ : S142), (⟨64, 67, 4, 0⟩ : S142), (⟨68, 71, 6, 0⟩ : S142), (⟨72, 75, 5, 0⟩ : S142), (⟨80, 89, 8, 0⟩ : S142), (⟨96, 97, 5, 0⟩ : S142)] : List (S142)))) = some r := h
  clear h
  obtain ⟨y133, hy133⟩ : ∃ y_ : List (S142), y_ = (([(⟨0, 31, 4, 0⟩ : S142), (⟨32, 63, 5, 0⟩ : S142), (⟨64, 67, 4, 0⟩ : S142), (⟨68, 71, 6, 0⟩ : S142), (⟨72, 75, 5, 0⟩ : S142), (⟨80, 89, 8, 0⟩ : S142), (⟨96, 97, 5, 0⟩ : S142)] : List (S142))) := ⟨_, rfl⟩
  replace H : (some y133) = some r := by first | (rw [hy133]; with_reducible exact H) | (have H2_ := (Option.bind_some _ _).symm.trans H; rw [hy133]; with_reducible exact H2_) | (have H2_ := (Option.bind_some _ _).symm.trans H; with_reducible exact H2_) | with_reducible exact H | (rw [hy133]; exact H) | exact H
  have Ny133 := Aside0.mk hy133
  clear hy133
  obtain rfl := Option.some.inj H
  go_enter Tryd.func123, Tryd.ntmps123
  go_wp2_with (first | ((with_reducible refine gate_dst (N := 8) rfl ?_); refine Kd.R_lit k142 _ 142 ?hg (N := 8) ?hd (xs := ([(⟨0, 31, 4, 0⟩ : S142), (⟨32, 63, 5, 0⟩ : S142), (⟨64, 67, 4, 0⟩ : S142), (⟨68, 71, 6, 0⟩ : S142), (⟨72, 75, 5, 0⟩ : S142), (⟨80, 89, 8, 0⟩ : S142), (⟨96, 97, 5, 0⟩ : S142)] : List (S142))) (inner := [.int .i64 0, .int .i64 31, .int .i64 4, .int .i64 0, .int .i64 32, .int .i64 63, .int .i64 5, .int .i64 0, .int .i64 64, .int .i64 67, .int .i64 4, .int .i64 0, .int .i64 68, .int .i64 71, .int .i64 6, .int .i64 0, .int .i64 72, .int .i64 75, .int .i64 5, .int .i64 0, .int .i64 80, .int .i64 89, .int .i64 8, .int .i64 0, .int .i64 96, .int .i64 97, .int .i64 5, .int .i64 0]) (ok := fun _ => True) (okp := fun _ => True) ?hr ?hp (fun _ hk => hk) trivial (Below.refl _ _) (Nat.le_refl _) (by simp) ?_; (case hd => rfl); (case hg => rfl); (case hr => first | (go_simp; done) | (go_simp; rfl)); (case hp => exact (Reps.c4 (show Kd.M k142 _ _ _ (⟨0, 31, 4, 0⟩ : S142) [.int .i64 0, .int .i64 31, .int .i64 4, .int .i64 0] from (k142_mkM _ _ _ (⟨0, 31, 4, 0⟩ : S142) )) (Reps.c4 (show Kd.M k142 _ _ _ (⟨32, 63, 5, 0⟩ : S142) [.int .i64 32, .int .i64 63, .int .i64 5, .int .i64 0] from (k142_mkM _ _ _ (⟨32, 63, 5, 0⟩ : S142) )) (Reps.c4 (show Kd.M k142 _ _ _ (⟨64, 67, 4, 0⟩ : S142) [.int .i64 64, .int .i64 67, .int .i64 4, .int .i64 0] from (k142_mkM _ _ _ (⟨64, 67, 4, 0⟩ : S142) )) (Reps.c4 (show Kd.M k142 _ _ _ (⟨68, 71, 6, 0⟩ : S142) [.int .i64 68, .int .i64 71, .int .i64 6, .int .i64 0] from (k142_mkM _ _ _ (⟨68, 71, 6, 0⟩ : S142) )) (Reps.c4 (show Kd.M k142 _ _ _ (⟨72, 75, 5, 0⟩ : S142) [.int .i64 72, .int .i64 75, .int .i64 5, .int .i64 0] from (k142_mkM _ _ _ (⟨72, 75, 5, 0⟩ : S142) )) (Reps.c4 (show Kd.M k142 _ _ _ (⟨80, 89, 8, 0⟩ : S142) [.int .i64 80, .int .i64 89, .int .i64 8, .int .i64 0] from (k142_mkM _ _ _ (⟨80, 89, 8, 0⟩ : S142) )) (Reps.c4 (show Kd.M k142 _ _ _ (⟨96, 97, 5, 0⟩ : S142) [.int .i64 96, .int .i64 97, .int .i64 5, .int .i64 0] from (k142_mkM _ _ _ (⟨96, 97, 5, 0⟩ : S142) )) (Reps.none _ _))))))))); intro v134 w1 ho2 hb hg_ hnew_; clear hg_ hnew_; (first | rw [← Ny133.out] at ho2 | (simp only [Int.reduceToNat] at ho2; rw [← Ny133.out] at ho2)); have n0_ := Aside0.mk (Kd.R_lower ho2 (below_size (by repeat (first | (with_reducible first | exact HB.out | apply below_alloc | apply pw_below_drewN | apply below_drew1) | exact HB.out)))); have n1_ := Aside0.mk (below_step (by repeat (first | (with_reducible first | exact HB.out | apply below_alloc | apply pw_below_drewN | apply below_drew1) | exact HB.out)) hb); clear HB; have HO135 := n0_; have HB := n1_; clear n0_ n1_; clear hb ho2))
  go_ret
  exact ⟨_, by first | rfl | (simp [errW_none, errW_some] <;> rfl) | (simp [*, errW_none, errW_some] <;> rfl), by (with_reducible repeat (first | apply Kd.R_alloc | apply Kd.R_drewN | apply Kd.R_drew)); exact HO135.out, by repeat (first | (with_reducible first | exact HB.out | apply below_alloc | apply pw_below_drewN | apply below_drew1) | exact HB.out)⟩

/-! ### spec_l01Rows: function 124 -/
def spec_l01Rows.f  : Option ((List (S142))) := some (([(⟨0, 31, 1, 0⟩ : S142), (⟨32, 32, 2, 0⟩ : S142), (⟨48, 57, 8, 0⟩ : S142), (⟨65, 90, 4, 1⟩ : S142), (⟨97, 122, 5, 1⟩ : S142), (⟨33, 126, 9, 0⟩ : S142), (⟨127, 159, 1, 0⟩ : S142), (⟨160, 160, 2, 0⟩ : S142), (⟨173, 173, 11, 0⟩ : S142), (⟨161, 191, 10, 0⟩ : S142), (⟨1280, 1311, 7, 5⟩ : S142), (⟨1360, 1369, 8, 5⟩ : S142), (⟨1536, 1567, 7, 6⟩ : S142), (⟨1568, 1579, 3, 6⟩ : S142), (⟨1584, 1585, 3, 6⟩ : S142), (⟨1616, 1625, 8, 6⟩ : S142), (⟨1792, 1810, 7, 7⟩ : S142), (⟨1824, 1844, 7, 7⟩ : S142), (⟨1857, 1883, 7, 7⟩ : S142), (⟨2048, 2095, 7, 8⟩ : S142), (⟨4096, 4159, 3, 0⟩ : S142), (⟨7680, 7748, 10, 0⟩ : S142), (⟨7760, 7785, 10, 0⟩ : S142), (⟨7936, 7947, 11, 0⟩ : S142), (⟨7953, 7954, 11, 0⟩ : S142), (⟨8064, 8064, 2, 0⟩ : S142), (⟨9728, 9753, 4, 1⟩ : S142), (⟨9984, 10009, 10, 0⟩ : S142), (⟨10016, 10025, 8, 0⟩ : S142), (⟨10032, 10035, 10, 0⟩ : S142), (⟨12288, 23459, 7, 7⟩ : S142), (⟨24576, 26623, 7, 9⟩ : S142)] : List (S142)))
set_option maxHeartbeats 8000000 in
set_option maxRecDepth 100000 in
theorem spec_l01Rows.calls  (r : List (S142)) (w : World) (h : spec_l01Rows.f  = some r) :
    Calls Tryd.prog 124 #[] w fun e w' => ∃ v0_ : Value, e = .returned (v0_) ∧ Kd.R k142 142 w' w.heap.size (fun _ => True) v0_ r ∧ Below w.heap.size w w' := by
  have hu142 := Tryd.underlying142
  have HB := Aside0.mk (Below.refl w.heap.size w)
  have H : (some (([(⟨0, 31, 1, 0⟩ : S142), (⟨32, 32, 2, 0⟩ : S142), (⟨48, 57, 8, 0⟩ : S142), (⟨65, 90, 4, 1⟩ : S142), (⟨97, 122, 5, 1⟩ : S142), (⟨33, 126, 9, 0⟩ : S142), (⟨127, 159, 1, 0⟩ : S142), (⟨160, 160, 2, 0⟩ : S142), (⟨173, 173, 11, 0⟩ : S142), (⟨161, 191, 10, 0⟩ : S142), (⟨1280, 1311, 7, 5⟩ : S142), (⟨1360, 1369, 8, 5⟩ : S142), (⟨1536, 1567, 7, 6⟩ : S142), (⟨1568, 1579, 3, 6⟩ : S142), (⟨1584, 1585, 3, 6⟩ : S142), (⟨1616, 1625, 8, 6⟩ : S142), (⟨1792, 1810, 7, 7⟩ : S142), (⟨1824, 1844, 7, 7⟩ : S142), (⟨1857, 1883, 7, 7⟩ : S142), (⟨2048, 2095, 7, 8⟩ : S142), (⟨4096, 4159, 3, 0⟩ : S142), (⟨7680, 7748, 10, 0⟩ : S142), (⟨7760, 7785, 10, 0⟩ : S142), (⟨7936, 7947, 11, 0⟩ : S142), (⟨7953, 7954, 11, 0⟩ : S142), (⟨8064, 8064, 2, 0⟩ : S142), (⟨9728, 9753, 4, 1⟩ : S142), (⟨9984, 10009, 10, 0⟩ : S142), (⟨10016, 10025, 8, 0⟩ : S142), (⟨10032, 10035, 10, 0⟩ : S142), (⟨12288, 23459, 7, 7⟩ : S142), (⟨24576, 26623, 7, 9⟩ : S142)] : List (S142)))) = some r := h
  clear h
  obtain ⟨y136, hy136⟩ : ∃ y_ : List (S142), y_ = (([(⟨0, 31, 1, 0⟩ : S142), (⟨32, 32, 2, 0⟩ : S142), (⟨48, 57, 8, 0⟩ : S142), (⟨65, 90, 4, 1⟩ : S142), (⟨97, 122, 5, 1⟩ : S142), (⟨33, 126, 9, 0⟩ : S142), (⟨127, 159, 1, 0⟩ : S142), (⟨160, 160, 2, 0⟩ : S142), (⟨173, 173, 11, 0⟩ : S142), (⟨161, 191, 10, 0⟩ : S142), (⟨1280, 1311, 7, 5⟩ : S142), (⟨1360, 1369, 8, 5⟩ : S142), (⟨1536, 1567, 7, 6⟩ : S142), (⟨1568, 1579, 3, 6⟩ : S142), (⟨1584, 1585, 3, 6⟩ : S142), (⟨1616, 1625, 8, 6⟩ : S142), (⟨1792, 1810, 7, 7⟩ : S142), (⟨1824, 1844, 7, 7⟩ : S142), (⟨1857, 1883, 7, 7⟩ : S142), (⟨2048, 2095, 7, 8⟩ : S142), (⟨4096, 4159, 3, 0⟩ : S142), (⟨7680, 7748, 10, 0⟩ : S142), (⟨7760, 7785, 10, 0⟩ : S142), (⟨7936, 7947, 11, 0⟩ : S142), (⟨7953, 7954, 11, 0⟩ : S142), (⟨8064, 8064, 2, 0⟩ : S142), (⟨9728, 9753, 4, 1⟩ : S142), (⟨9984, 10009, 10, 0⟩ : S142), (⟨10016, 10025, 8, 0⟩ : S142), (⟨10032, 10035, 10, 0⟩ : S142), (⟨12288, 23459, 7, 7⟩ : S142), (⟨24576, 26623, 7, 9⟩ : S142)] : List (S142))) := ⟨_, rfl⟩
  replace H : (some y136) = some r := by first | (rw [hy136]; with_reducible exact H) | (have H2_ := (Option.bind_some _ _).symm.trans H; rw [hy136]; with_reducible exact H2_) | (have H2_ := (Option.bind_some _ _).symm.trans H; with_reducible exact H2_) | with_reducible exact H | (rw [hy136]; exact H) | exact H
  have Ny136 := Aside0.mk hy136
  clear hy136
  obtain rfl := Option.some.inj H
  go_enter Tryd.func124, Tryd.ntmps124
  go_wp2_with (first | ((with_reducible refine gate_dst (N := 33) rfl ?_); refine Kd.R_lit k142 _ 142 ?hg (N := 33) ?hd (xs := ([(⟨0, 31, 1, 0⟩ : S142), (⟨32, 32, 2, 0⟩ : S142), (⟨48, 57, 8, 0⟩ : S142), (⟨65, 90, 4, 1⟩ : S142), (⟨97, 122, 5, 1⟩ : S142), (⟨33, 126, 9, 0⟩ : S142), (⟨127, 159, 1, 0⟩ : S142), (⟨160, 160, 2, 0⟩ : S142), (⟨173, 173, 11, 0⟩ : S142), (⟨161, 191, 10, 0⟩ : S142), (⟨1280, 1311, 7, 5⟩ : S142), (⟨1360, 1369, 8, 5⟩ : S142), (⟨1536, 1567, 7, 6⟩ : S142), (⟨1568, 1579, 3, 6⟩ : S142), (⟨1584, 1585, 3, 6⟩ : S142), (⟨1616, 1625, 8, 6⟩ : S142), (⟨1792, 1810, 7, 7⟩ : S142), (⟨1824, 1844, 7, 7⟩ : S142), (⟨1857, 1883, 7, 7⟩ : S142), (⟨2048, 2095, 7, 8⟩ : S142), (⟨4096, 4159, 3, 0⟩ : S142), (⟨7680, 7748, 10, 0⟩ : S142), (⟨7760, 7785, 10, 0⟩ : S142), (⟨7936, 7947, 11, 0⟩ : S142), (⟨7953, 7954, 11, 0⟩ : S142), (⟨8064, 8064, 2, 0⟩ : S142), (⟨9728, 9753, 4, 1⟩ : S142), (⟨9984, 10009, 10, 0⟩ : S142), (⟨10016, 10025, 8, 0⟩ : S142), (⟨10032, 10035, 10, 0⟩ : S142), (⟨12288, 23459, 7, 7⟩ : S142), (⟨24576, 26623, 7, 9⟩ : S142)] : List (S142))) (inner := [.int .i64 0, .int .i64 31, .int .i64 1, .int .i64 0, .int .i64 32, .int .i64 32, .int .i64 2, .int .i64 0, .int .i64 48, .int .i64 57, .int .i64 8, .int .i64 0, .int .i64 65, .int .i64 90, .int .i64 4, .int .i64 1, .int .i64 97, .int .i64 122, .int .i64 5, .int .i64 1, .int .i64 33, .int .i64 126, .int .i64 9, .int .i64 0, .int .i64 127, .int .i64 159, .int .i64 1, .int .i64 0, .int .i64 160, .int .i64 160, .int .i64 2, .int .i64 0, .int .i64 173, .int .i64 173, .int .i64 11, .int .i64 0, .int .i64 161, .int .i64 191, .int .i64 10, .int .i64 0, .int .i64 1280, .int .i64 1311, .int .i64 7, .int .i64 5, .int .i64 1360, .int .i64 1369, .int .i64 8, .int .i64 5, .int .i64 1536, .int .i64 1567, .int .i64 7, .int .i64 6, .int .i64 1568, .int .i64 1579, .int .i64 3, .int .i64 6, .int .i64 1584, .int .i64 1585, .int .i64 3, .int .i64 6, .int .i64 1616, .int .i64 1625, .int .i64 8, .int .i64 6, .int .i64 1792, .int .i64 1810, .int .i64 7, .int .i64 7, .int .i64 1824, .int .i64 1844, .int .i64 7, .int .i64 7, .int .i64 1857, .int .i64 1883, .int .i64 7, .int .i64 7, .int .i64 2048, .int .i64 2095, .int .i64 7, .int .i64 8, .int .i64 4096, .int .i64 4159, .int .i64 3, .int .i64 0, .int .i64 7680, .int .i64 7748, .int .i64 10, .int .i64 0, .int .i64 7760, .int .i64 7785, .int .i64 10, .int .i64 0, .int .i64 7936, .int .i64 7947, .int .i64 11, .int .i64 0, .int .i64 7953, .int .i64 7954, .int .i64 11, .int .i64 0, .int .i64 8064, .int .i64 8064, .int .i64 2, .int .i64 0, .int .i64 9728, .int .i64 9753, .int .i64 4, .int .i64 1, .int .i64 9984, .int .i64 10009, .int .i64 10, .int .i64 0, .int .i64 10016, .int .i64 10025, .int .i64 8, .int .i64 0, .int .i64 10032, .int .i64 10035, .int .i64 10, .int .i64 0, .int .i64 12288, .int .i64 23459, .int .i64 7, .int .i64 7, .int .i64 24576, .int .i64 26623, .int .i64 7, .int .i64 9]) (ok := fun _ => True) (okp := fun _ => True) ?hr ?hp (fun _ hk => hk) trivial (Below.refl _ _) (Nat.le_refl _) (by simp) ?_; (case hd => rfl); (case hg => rfl); (case hr => first | (go_simp; done) | (go_simp; rfl)); (case hp => exact (Reps.c4 (show Kd.M k142 _ _ _ (⟨0, 31, 1, 0⟩ : S142) [.int .i64 0, .int .i64 31, .int .i64 1, .int .i64 0] from (k142_mkM _ _ _ (⟨0, 31, 1, 0⟩ : S142) )) (Reps.c4 (show Kd.M k142 _ _ _ (⟨32, 32, 2, 0⟩ : S142) [.int .i64 32, .int .i64 32, .int .i64 2, .int .i64 0] from (k142_mkM _ _ _ (⟨32, 32, 2, 0⟩ : S142) )) (Reps.c4 (show Kd.M k142 _ _ _ (⟨48, 57, 8, 0⟩ : S142) [.int .i64 48, .int .i64 57, .int .i64 8, .int .i64 0] from (k142_mkM _ _ _ (⟨48, 57, 8, 0⟩ : S142) )) (Reps.c4 (show Kd.M k142 _ _ _ (⟨65, 90, 4, 1⟩ : S142) [.int .i64 65, .int .i64 90, .int .i64 4, .int .i64 1] from (k142_mkM _ _ _ (⟨65, 90, 4, 1⟩ : S142) )) (Reps.c4 (show Kd.M k142 _ _ _ (⟨97, 122, 5, 1⟩ : S142) [.int .i64 97, .int .i64 122, .int .i64 5, .int .i64 1] from (k142_mkM _ _ _ (⟨97, 122, 5, 1⟩ : S142) )) (Reps.c4 (show Kd.M k142 _ _ _ (⟨33, 126, 9, 0⟩ : S142) [.int .i64 33, .int .i64 126, .int .i64 9, .int .i64 0] from (k142_mkM _ _ _ (⟨33, 126, 9, 0⟩ : S142) )) (Reps.c4 (show Kd.M k142 _ _ _ (⟨127, 159, 1, 0⟩ : S142) [.int .i64 127, .int .i64 159, .int .i64 1, .int .i64 0] from (k142_mkM _ _ _ (⟨127, 159, 1, 0⟩ : S142) )) (Reps.c4 (show Kd.M k142 _ _ _ (⟨160, 160, 2, 0⟩ : S142) [.int .i64 160, .int .i64 160, .int .i64 2, .int .i64 0] from (k142_mkM _ _ _ (⟨160, 160, 2, 0⟩ : S142) )) (Reps.c4 (show Kd.M k142 _ _ _ (⟨173, 173, 11, 0⟩ : S142) [.int .i64 173, .int .i64 173, .int .i64 11, .int .i64 0] from (k142_mkM _ _ _ (⟨173, 173, 11, 0⟩ : S142) )) (Reps.c4 (show Kd.M k142 _ _ _ (⟨161, 191, 10, 0⟩ : S142) [.int .i64 161, .int .i64 191, .int .i64 10, .int .i64 0] from (k142_mkM _ _ _ (⟨161, 191, 10, 0⟩ : S142) )) (Reps.c4 (show Kd.M k142 _ _ _ (⟨1280, 1311, 7, 5⟩ : S142) [.int .i64 1280, .int .i64 1311, .int .i64 7, .int .i64 5] from (k142_mkM _ _ _ (⟨1280, 1311, 7, 5⟩ : S142) )) (Reps.c4 (show Kd.M k142 _ _ _ (⟨1360, 1369, 8, 5⟩ : S142) [.int .i64 1360, .int .i64 1369, .int .i64 8, .int .i64 5] from (k142_mkM _ _ _ (⟨1360, 1369, 8, 5⟩ : S142) )) (Reps.c4 (show Kd.M k142 _ _ _ (⟨1536, 1567, 7, 6⟩ : S142) [.int .i64 1536, .int .i64 1567, .int .i64 7, .int .i64 6] from (k142_mkM _ _ _ (⟨1536, 1567, 7, 6⟩ : S142) )) (Reps.c4 (show Kd.M k142 _ _ _ (⟨1568, 1579, 3, 6⟩ : S142) [.int .i64 1568, .int .i64 1579, .int .i64 3, .int .i64 6] from (k142_mkM _ _ _ (⟨1568, 1579, 3, 6⟩ : S142) )) (Reps.c4 (show Kd.M k142 _ _ _ (⟨1584, 1585, 3, 6⟩ : S142) [.int .i64 1584, .int .i64 1585, .int .i64 3, .int .i64 6] from (k142_mkM _ _ _ (⟨1584, 1585, 3, 6⟩ : S142) )) (Reps.c4 (show Kd.M k142 _ _ _ (⟨1616, 1625, 8, 6⟩ : S142) [.int .i64 1616, .int .i64 1625, .int .i64 8, .int .i64 6] from (k142_mkM _ _ _ (⟨1616, 1625, 8, 6⟩ : S142) )) (Reps.c4 (show Kd.M k142 _ _ _ (⟨1792, 1810, 7, 7⟩ : S142) [.int .i64 1792, .int .i64 1810, .int .i64 7, .int .i64 7] from (k142_mkM _ _ _ (⟨1792, 1810, 7, 7⟩ : S142) )) (Reps.c4 (show Kd.M k142 _ _ _ (⟨1824, 1844, 7, 7⟩ : S142) [.int .i64 1824, .int .i64 1844, .int .i64 7, .int .i64 7] from (k142_mkM _ _ _ (⟨1824, 1844, 7, 7⟩ : S142) )) (Reps.c4 (show Kd.M k142 _ _ _ (⟨1857, 1883, 7, 7⟩ : S142) [.int .i64 1857, .int .i64 1883, .int .i64 7, .int .i64 7] from (k142_mkM _ _ _ (⟨1857, 1883, 7, 7⟩ : S142) )) (Reps.c4 (show Kd.M k142 _ _ _ (⟨2048, 2095, 7, 8⟩ : S142) [.int .i64 2048, .int .i64 2095, .int .i64 7, .int .i64 8] from (k142_mkM _ _ _ (⟨2048, 2095, 7, 8⟩ : S142) )) (Reps.c4 (show Kd.M k142 _ _ _ (⟨4096, 4159, 3, 0⟩ : S142) [.int .i64 4096, .int .i64 4159, .int .i64 3, .int .i64 0] from (k142_mkM _ _ _ (⟨4096, 4159, 3, 0⟩ : S142) )) (Reps.c4 (show Kd.M k142 _ _ _ (⟨7680, 7748, 10, 0⟩ : S142) [.int .i64 7680, .int .i64 7748, .int .i64 10, .int .i64 0] from (k142_mkM _ _ _ (⟨7680, 7748, 10, 0⟩ : S142) )) (Reps.c4 (show Kd.M k142 _ _ _ (⟨7760, 7785, 10, 0⟩ : S142) [.int .i64 7760, .int .i64 7785, .int .i64 10, .int .i64 0] from (k142_mkM _ _ _ (⟨7760, 7785, 10, 0⟩ : S142) )) (Reps.c4 (show Kd.M k142 _ _ _ (⟨7936, 7947, 11, 0⟩ : S142) [.int .i64 7936, .int .i64 7947, .int .i64 11, .int .i64 0] from (k142_mkM _ _ _ (⟨7936, 7947, 11, 0⟩ : S142) )) (Reps.c4 (show Kd.M k142 _ _ _ (⟨7953, 7954, 11, 0⟩ : S142) [.int .i64 7953, .int .i64 7954, .int .i64 11, .int .i64 0] from (k142_mkM _ _ _ (⟨7953, 7954, 11, 0⟩ : S142) )) (Reps.c4 (show Kd.M k142 _ _ _ (⟨8064, 8064, 2, 0⟩ : S142) [.int .i64 8064, .int .i64 8064, .int .i64 2, .int .i64 0] from (k142_mkM _ _ _ (⟨8064, 8064, 2, 0⟩ : S142) )) (Reps.c4 (show Kd.M k142 _ _ _ (⟨9728, 9753, 4, 1⟩ : S142) [.int .i64 9728, .int .i64 9753, .int .i64 4, .int .i64 1] from (k142_mkM _ _ _ (⟨9728, 9753, 4, 1⟩ : S142) )) (Reps.c4 (show Kd.M k142 _ _ _ (⟨9984, 10009, 10, 0⟩ : S142) [.int .i64 9984, .int .i64 10009, .int .i64 10, .int .i64 0] from (k142_mkM _ _ _ (⟨9984, 10009, 10, 0⟩ : S142) )) (Reps.c4 (show Kd.M k142 _ _ _ (⟨10016, 10025, 8, 0⟩ : S142) [.int .i64 10016, .int .i64 10025, .int .i64 8, .int .i64 0] from (k142_mkM _ _ _ (⟨10016, 10025, 8, 0⟩ : S142) )) (Reps.c4 (show Kd.M k142 _ _ _ (⟨10032, 10035, 10, 0⟩ : S142) [.int .i64 10032, .int .i64 10035, .int .i64 10, .int .i64 0] from (k142_mkM _ _ _ (⟨10032, 10035, 10, 0⟩ : S142) )) (Reps.c4 (show Kd.M k142 _ _ _ (⟨12288, 23459, 7, 7⟩ : S142) [.int .i64 12288, .int .i64 23459, .int .i64 7, .int .i64 7] from (k142_mkM _ _ _ (⟨12288, 23459, 7, 7⟩ : S142) )) (Reps.c4 (show Kd.M k142 _ _ _ (⟨24576, 26623, 7, 9⟩ : S142) [.int .i64 24576, .int .i64 26623, .int .i64 7, .int .i64 9] from (k142_mkM _ _ _ (⟨24576, 26623, 7, 9⟩ : S142) )) (Reps.none _ _)))))))))))))))))))))))))))))))))); intro v137 w1 ho2 hb hg_ hnew_; clear hg_ hnew_; (first | rw [← Ny136.out] at ho2 | (simp only [Int.reduceToNat] at ho2; rw [← Ny136.out] at ho2)); have n0_ := Aside0.mk (Kd.R_lower ho2 (below_size (by repeat (first | (with_reducible first | exact HB.out | apply below_alloc | apply pw_below_drewN | apply below_drew1) | exact HB.out)))); have n1_ := Aside0.mk (below_step (by repeat (first | (with_reducible first | exact HB.out | apply below_alloc | apply pw_below_drewN | apply below_drew1) | exact HB.out)) hb); clear HB; have HO138 := n0_; have HB := n1_; clear n0_ n1_; clear hb ho2))
  go_ret
  exact ⟨_, by first | rfl | (simp [errW_none, errW_some] <;> rfl) | (simp [*, errW_none, errW_some] <;> rfl), by (with_reducible repeat (first | apply Kd.R_alloc | apply Kd.R_drewN | apply Kd.R_drew)); exact HO138.out, by repeat (first | (with_reducible first | exact HB.out | apply below_alloc | apply pw_below_drewN | apply below_drew1) | exact HB.out)⟩

end Go.Proofs.YtphjfenhnhfakaaDoor.QFnExactLower
