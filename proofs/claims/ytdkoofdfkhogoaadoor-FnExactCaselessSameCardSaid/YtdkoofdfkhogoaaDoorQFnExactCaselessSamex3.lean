/- The law FnExactCaselessSame: at every input the call answers true (this text: contracts on its way, by a program of this session's; no condition of ours). -/
import Derived.Test.YtdkoofdfkhogoaaDoorQFnExactCaselessSamex0
import Derived.Test.YtdkoofdfkhogoaaDoorQFnExactCaselessSamex2
namespace Go.Proofs.YtdkoofdfkhogoaaDoor.QFnExactCaselessSame
open Go.RowKit Go.Proofs.YtdkoofdfkhogoaaDoorW.PrintWords Go.Proofs.YtdkoofdfkhogoaaDoorW.PrintLast Go.Proofs.YtdkoofdfkhogoaaDoorW.PrintMore
attribute [local go_sem] max2_int min2_int max_two min_two max_three min_three max_four min_four   -- for this text's walks alone
set_option linter.unusedVariables false
set_option linter.unusedSimpArgs false

/-! ### spec_l01Points: function 70 -/
def spec_l01Points.l0 : Nat → ByteArray → List Int → Int → Option (List Int)
  | 0, _, _, _ => none
  | k + 1, x0, x3, x4 => if x4 < (x0.size : Int) then ((W_spec_l01Next.f x0 x4).bind fun bt121 => (if x3.length < 17592186044416 then (spec_l01Points.l0 k x0 (x3 ++ [bt121.1]) (wrap64 (x4 + bt121.2.1))) else (none))) else (some x3)
def spec_l01Points.f (k : Nat) (a0 : ByteArray) : Option (List Int) := spec_l01Points.l0 k a0 (([] : List Int)) 0
theorem spec_l01Points.mono_l : ∀ k, (∀ y0 y1 y2, LeO (spec_l01Points.l0 k y0 y1 y2) (spec_l01Points.l0 (k + 1) y0 y1 y2))
  | 0 => fun _ _ _ r h => by simp [spec_l01Points.l0] at h
  | k + 1 => by
    have ih0 := spec_l01Points.mono_l k
    · intro y0 y1 y2
      unfold spec_l01Points.l0
      repeat' first
      | (with_reducible exact ih0 _ _ _)
      | (with_reducible exact LeO.refl _)
      | (with_reducible exact LeO.none _)
      | (with_reducible refine LeO.ite ?_ ?_)
      | (with_reducible refine LeO.bind ?_ (fun _ => ?_))
      | exact ih0 _ _ _
      | exact LeO.none _
      | refine LeO.ite ?_ ?_
      | refine LeO.bind ?_ (fun _ => ?_)
theorem spec_l01Points.mono : ∀ a0 k, LeO (spec_l01Points.f k a0) (spec_l01Points.f (k + 1) a0) := by
  intro a0 k
  have ih0 := spec_l01Points.mono_l k
  unfold spec_l01Points.f
  repeat' first
      | (with_reducible exact ih0 _ _ _)
      | (with_reducible exact LeO.refl _)
      | (with_reducible exact LeO.none _)
      | (with_reducible refine LeO.ite ?_ ?_)
      | (with_reducible refine LeO.bind ?_ (fun _ => ?_))
      | exact ih0 _ _ _
      | exact LeO.none _
      | refine LeO.ite ?_ ?_
      | refine LeO.bind ?_ (fun _ => ?_)
set_option maxHeartbeats 8000000 in
set_option maxRecDepth 100000 in
theorem spec_l01Points.calls (k : Nat) (a0 : ByteArray) (r : List Int) (w : World) (h : spec_l01Points.f k a0 = some r) :
    Calls Tryd.prog 70 #[.string a0] w fun e w' => ∃ v0_ : Value, e = .returned (v0_) ∧ Kd.R (Kd.int .i64) 2 w' w.heap.size (fun _ => True) v0_ r ∧ Below w.heap.size w w' := by
  have HB := Aside0.mk (Below.refl w.heap.size w)
  have H : (spec_l01Points.l0 k a0 (([] : List Int)) 0) = some r := h
  clear h
  obtain ⟨y118, hy118⟩ : ∃ y_ : List Int, y_ = (([] : List Int)) := ⟨_, rfl⟩
  replace H : (spec_l01Points.l0 k a0 y118 0) = some r := by first | (rw [hy118]; with_reducible exact H) | (have H2_ := (Option.bind_some _ _).symm.trans H; rw [hy118]; with_reducible exact H2_) | (have H2_ := (Option.bind_some _ _).symm.trans H; with_reducible exact H2_) | with_reducible exact H | (rw [hy118]; exact H) | exact H
  have Ny118 := Aside0.mk hy118
  clear hy118
  have H' := Aside0.mk H
  clear H
  go_enter Tryd.func70, Tryd.ntmps70
  go_wp2_with (first | ((with_reducible refine gate_dst (N := 8) rfl ?_); refine Kd.R_lit (Kd.int .i64) _ 2 ?hg (N := 8) ?hd (xs := ([] : List Int)) (inner := []) (ok := fun _ => True) (okp := fun _ => True) ?hr ?hp (fun _ hk => hk) trivial (Below.refl _ _) (Nat.le_refl _) (by simp) ?_; (case hd => rfl); (case hg => rfl); (case hr => first | (go_simp; done) | (go_simp; rfl)); (case hp => exact (Reps.none _ _)); intro v119 w2 ho3 hb hg_ hnew_; clear hg_ hnew_; (first | rw [← Ny118.out] at ho3 | (simp only [Int.reduceToNat] at ho3; rw [← Ny118.out] at ho3)); have n0_ := Aside0.mk (Kd.R_lower ho3 (below_size (by repeat (first | (with_reducible first | exact HB.out | apply below_alloc | apply pw_below_drewN | apply below_drew1) | exact HB.out)))); have n1_ := Aside0.mk (below_step (by repeat (first | (with_reducible first | exact HB.out | apply below_alloc | apply pw_below_drewN | apply below_drew1) | exact HB.out)) hb); clear HB; have HO120 := n0_; have HB := n1_; clear n0_ n1_; clear hb ho3))
  go_loopg [3, 4] k (fun kq v3 v4 w' => ∃ (x3_1 : List Int) (x4_1 : Int), v4 = .int .i64 x4_1 ∧ Aside0 (spec_l01Points.l0 kq a0 x3_1 x4_1 = some r) ∧ Aside0 (kq ≤ k) ∧ Aside0 (Kd.R (Kd.int .i64) 2 w' w.heap.size (fun _ => True) v3 x3_1) ∧ Aside0 (Below w.heap.size w w'))
  case atStart => exact ⟨(y118), (0), (by first | rfl | (simp; done) | (simp [*]; done)), H', ⟨Nat.le_refl _⟩, ⟨by (with_reducible repeat (first | apply Kd.R_alloc | apply Kd.R_drewN | apply Kd.R_drew)); exact HO120.out⟩, ⟨by repeat (first | (with_reducible first | exact HB.out | apply below_alloc | apply pw_below_drewN | apply below_drew1) | exact HB.out)⟩⟩
  case round =>
    clear H'
    try clear p2
    obtain ⟨x3_1, x4_1, rfl, HA, HK1, HO_3, HB⟩ := hrel
    cases gk with
    | zero => exact absurd HA.out (by simp [spec_l01Points.l0])
    | succ k1 =>
      have H := HA.out
      clear HA
      simp only [spec_l01Points.l0] at H
      by_cases c4 : x4_1 < (a0.size : Int)
      · rw [if_pos c4] at H
        have c4b0 : decide (x4_1 < (a0.size : Int)) = true := decide_eq_true c4
        clear c4
        replace H := Option.bind_eq_some_iff.mp H
        obtain ⟨⟨t121, t122, t123⟩, A50, H⟩ := H
        replace H : (if x3_1.length < 17592186044416 then (spec_l01Points.l0 k1 a0 (x3_1 ++ [t121]) (wrap64 (x4_1 + t122))) else (none)) = some r := H
        have A5 := Aside0.mk A50
        clear A50
        by_cases c6 : x3_1.length < 17592186044416
        · rw [if_pos c6] at H
          have LMc6 := Aside0.mk c6
          clear c6
          obtain ⟨y124, hy124⟩ : ∃ y_ : List Int, y_ = (x3_1 ++ [t121]) := ⟨_, rfl⟩
          replace H : (spec_l01Points.l0 k1 a0 y124 (wrap64 (x4_1 + t122))) = some r := by first | (rw [hy124]; with_reducible exact H) | (have H2_ := (Option.bind_some _ _).symm.trans H; rw [hy124]; with_reducible exact H2_) | (have H2_ := (Option.bind_some _ _).symm.trans H; with_reducible exact H2_) | with_reducible exact H | (rw [hy124]; exact H) | exact H
          have Ny124 := Aside0.mk hy124
          clear hy124
          have H' := Aside0.mk H
          clear H
          go_wp2_with (first | ((with_reducible refine gate_callee (f := 145) rfl ?_); refine goesL_ (some 16) rfl rfl Tryd.func145 (by kernel_rfl) rfl #[.string a0, .int .i64 x4_1] rfl (by (try simp only [List.map_toArray, List.map_cons, List.map_nil]); first | done | rfl | (simp only [List.length_drop, List.length_take]; rfl)) ?_; (with_reducible refine (W_spec_l01Next.calls a0 x4_1 t121 t122 t123 _ A5.out).mono ?_); rintro e w7 ⟨rfl, hb⟩; refine ⟨_, rfl, ?_⟩; have n0_ := Aside0.mk (Kd.R_below (by (with_reducible repeat (first | apply Kd.R_alloc | apply Kd.R_drewN | apply Kd.R_drew)); exact HO_3.out) hb); have n1_ := Aside0.mk (below_step (by repeat (first | (with_reducible first | exact HB.out | apply below_alloc | apply pw_below_drewN | apply below_drew1) | exact HB.out)) hb); clear HO_3; clear HB; have HO_3 := n0_; have HB := n1_; clear n0_ n1_; (try clear hb); (try clear hb2); (try clear hk); (try clear hi)) | ((with_reducible refine gate_builtin (b := .append) (xs := #[.tmp 20, .tmp 22]) rfl ?_); at_builtin; refine Kd.R_append (Kd.int .i64) (w0 := w) w.heap.size rfl (.tmp 20) (.tmp 22) 29 2 (.int .i64 0) 8 rfl Tryd.underlying29 info2 rfl (by decide) (by omega) u3 x3_1 t121 [.int .i64 t121] (fun _ => True) (fun _ => False) rfl rfl ?aP (fun _ hk => hk.elim) ?aF ?aO ?aB ?aS ?aL ?_; (case aP => exact rfl); (case aB => exact (by repeat (first | (with_reducible first | exact HB.out | apply below_alloc | apply pw_below_drewN | apply below_drew1) | exact HB.out))); (case aF => exact (fun _ _ => trivial)); (case aO => exact (by (with_reducible repeat (first | apply Kd.R_alloc | apply Kd.R_drewN | apply Kd.R_drew)); exact HO_3.out)); (case aS => exact (below_size (by repeat (first | (with_reducible first | exact HB.out | apply below_alloc | apply pw_below_drewN | apply below_drew1) | exact HB.out)))); (case aL => have := LMc6.out; omega); intro v125 w8 ho hb hg hat; rw [← Ny124.out] at ho; have n0_ := Aside0.mk (hb); have n1_ := Aside0.mk (ho); clear HB; clear HO_3; have HB := n0_; have HO126 := n1_; clear n0_ n1_; clear ho hb hg hat))
          go_roundg k1
          case measure => have := HK1.out; omega
          case rel => exact ⟨(y124), (wrap64 (x4_1 + t122)), (by first | rfl | (simp; done) | (simp [*]; done)), H', ⟨by have := HK1.out; omega⟩, ⟨by (with_reducible repeat (first | apply Kd.R_alloc | apply Kd.R_drewN | apply Kd.R_drew)); exact HO126.out⟩, ⟨by repeat (first | (with_reducible first | exact HB.out | apply below_alloc | apply pw_below_drewN | apply below_drew1) | exact HB.out)⟩⟩
        · rw [if_neg c6] at H
          exact absurd H (by simp)
      · rw [if_neg c4] at H
        have c4b0 : decide (x4_1 < (a0.size : Int)) = false := decide_eq_false c4
        clear c4
        obtain rfl := Option.some.inj H
        go_wp2
        go_ret
        exact ⟨_, by first | rfl | (simp [errW_none, errW_some] <;> rfl) | (simp [*, errW_none, errW_some] <;> rfl), by (with_reducible repeat (first | apply Kd.R_alloc | apply Kd.R_drewN | apply Kd.R_drew)); exact HO_3.out, by repeat (first | (with_reducible first | exact HB.out | apply below_alloc | apply pw_below_drewN | apply below_drew1) | exact HB.out)⟩

def W_spec_l01Points.f (a0 : ByteArray) : Option (List Int) := if a0.size ≤ 1099511627776 then some (YtdkoofdfkhogoaaDoorPts.pts (bytesOf a0)) else none
theorem spec_l01Points.run (s : ByteArray) (hs : s.size ≤ 1099511627776) (d : Nat) : ∀ (k i : Nat) (acc : List Int), i ≤ s.size → s.size - i ≤ d → d < k → acc.length + (s.size - i) ≤ 1099511627776 →
    spec_l01Points.l0 k s acc (i : Int) = some (acc ++ YtdkoofdfkhogoaaDoorPts.pts ((bytesOf s).drop i)) := by
  induction d with
  | zero =>
    intro k i acc h1 h2 h3 h4
    obtain ⟨k, rfl⟩ : ∃ m, k = m + 1 := ⟨k - 1, by omega⟩
    simp only [spec_l01Points.l0]
    rw [if_neg (by omega), List.drop_eq_nil_of_le (by rw [bytesOf_length]; omega)]
    simp [YtdkoofdfkhogoaaDoorPts.pts_nil]
  | succ d ih =>
    intro k i acc h1 h2 h3 h4
    obtain ⟨k, rfl⟩ : ∃ m, k = m + 1 := ⟨k - 1, by omega⟩
    simp only [spec_l01Points.l0]
    by_cases hlt : i < s.size
    · rw [if_pos (by omega)]
      unfold W_spec_l01Next.f
      rw [if_pos ⟨by omega, by omega, hs⟩]
      simp only [Option.bind_some]
      have hne : (bytesOf s).drop i ≠ [] := by intro h; have := congrArg List.length h; rw [List.length_drop, bytesOf_length] at this; simp at this; omega
      have hb := YtdkoofdfkhogoaaDoorPts.dec_bound hne
      rw [List.length_drop, bytesOf_length] at hb
      have hd : spec_l01Next.d s (i : Int) = YtdkoofdfkhogoaaDoorPts.dec ((bytesOf s).drop i) := rfl
      rw [hd, if_pos (by omega), spec_l01Next.w (i : Int) _ (by omega) (by omega) (by omega)]
      have hi : (i : Int) + ((YtdkoofdfkhogoaaDoorPts.dec ((bytesOf s).drop i)).2 : Int) = ((i + (YtdkoofdfkhogoaaDoorPts.dec ((bytesOf s).drop i)).2 : Nat) : Int) := by omega
      rw [hi, ih k (i + (YtdkoofdfkhogoaaDoorPts.dec ((bytesOf s).drop i)).2) _ (by omega) (by omega) (by omega) (by rw [List.length_append]; simp only [List.length_cons, List.length_nil]; omega)]
      rw [YtdkoofdfkhogoaaDoorPts.pts_cons hne, List.drop_drop]
      simp
    · rw [if_neg (by omega), List.drop_eq_nil_of_le (by rw [bytesOf_length]; omega)]
      simp [YtdkoofdfkhogoaaDoorPts.pts_nil]
theorem W_spec_l01Points.to {a0 : ByteArray} {r : List Int} (h : W_spec_l01Points.f a0 = some r) : ∃ k, spec_l01Points.f k a0 = some r := by
  unfold W_spec_l01Points.f at h
  split at h
  · rename_i hs
    refine ⟨a0.size + 1, ?_⟩
    rw [← h]
    have := spec_l01Points.run a0 hs a0.size (a0.size + 1) 0 [] (by omega) (by omega) (by omega) (by simp; omega)
    unfold spec_l01Points.f
    simpa using this
  · cases h
theorem W_spec_l01Points.calls (a0 : ByteArray) (r : List Int) (w : World) (h : W_spec_l01Points.f a0 = some r) :
    Calls Tryd.prog 70 #[.string a0] w fun e w' => ∃ v0_ : Value, e = .returned (v0_) ∧ Kd.R (Kd.int .i64) 2 w' w.heap.size (fun _ => True) v0_ r ∧ Below w.heap.size w w' := by
  obtain ⟨k, hk⟩ := W_spec_l01Points.to h
  exact spec_l01Points.calls k a0 r w hk

/-! ### spec_l05Letter: function 240 -/
def spec_l05Letter.f (a0 : Int) : Option (Int) := if a0 < 26 then (some (wrap64 (65 + a0))) else (some (wrap64 ((wrap64 (97 + a0)) - 26)))
set_option maxHeartbeats 8000000 in
set_option maxRecDepth 100000 in
theorem spec_l05Letter.calls (a0 : Int) (r : Int) (w : World) (h : spec_l05Letter.f a0 = some r) :
    Calls Tryd.prog 240 #[.int .i64 a0] w fun e w' => e = .returned (.int .i64 r) ∧ Drawn0 w w' := by
  have H : (if a0 < 26 then (some (wrap64 (65 + a0))) else (some (wrap64 ((wrap64 (97 + a0)) - 26)))) = some r := h
  clear h
  by_cases c2 : a0 < 26
  · rw [if_pos c2] at H
    have c2b0 : decide (a0 < 26) = true := decide_eq_true c2
    clear c2
    obtain rfl := Option.some.inj H
    go_enter Tryd.func240, Tryd.ntmps240
    go_wp2
    go_ret
    exact ⟨by first | rfl | (simp; done) | (simp [*]; done), by repeat (first | exact Drawn0.refl _ | apply Drawn0.step)⟩
  · rw [if_neg c2] at H
    have c2b0 : decide (a0 < 26) = false := decide_eq_false c2
    clear c2
    obtain rfl := Option.some.inj H
    go_enter Tryd.func240, Tryd.ntmps240
    go_wp2
    go_ret
    exact ⟨by first | rfl | (simp; done) | (simp [*]; done), by repeat (first | exact Drawn0.refl _ | apply Drawn0.step)⟩

/-! ### spec_l05Wide: function 241 (by hand) -/
theorem spec_l05Wide.litR (W : World) (base : Nat) (hb : base ≤ W.heap.size) (l : List Int) (hl : l.length ≤ 100) :
    Kd.R (Kd.int .i64) 2 (W.alloc (.cells (l.map (Value.int .i64)).toArray 2)) base (fun _ => True) (.slice (some ⟨W.heap.size, 0, none⟩) l.length l.length) l := by
  have hrep : Reps (Kd.M (Kd.int .i64) W base (fun _ => True)) (Kd.int .i64).sz l (l.map (Value.int .i64)) := by
    clear hl
    induction l with
    | nil => exact Reps.none _ _
    | cons x t ih => exact Reps.one (show Kd.M (Kd.int .i64) _ _ _ x [.int .i64 x] from rfl) ih
  refine ⟨fun _ _ => trivial, l.map (Value.int .i64), ?_, ?_⟩
  · have h2 := World.ownsRow_lit (base := base) (e := 2) (size := (Kd.int .i64).sz) W (l.map (Value.int .i64)).toArray l.length hb (by simp [maxLen]; omega) (by simpa using hrep.1)
    simpa using h2
  · refine hrep.imp_ (fun p c hp => hp)
def spec_l05Wide.Post (l : List Int) (w : World) (e : Ending) (w' : World) : Prop := ∃ v0_ : Value, e = .returned (v0_) ∧ Kd.R (Kd.int .i64) 2 w' w.heap.size (fun _ => True) v0_ l ∧ Below w.heap.size w w'
theorem spec_l05Wide.post0 {w : World} : spec_l05Wide.Post [] w (.returned (.slice (some ⟨w.heap.size, 0, none⟩) 0 0)) (w.alloc (.cells #[] 2)) :=
  ⟨_, rfl, spec_l05Wide.litR w _ (Nat.le_refl _) [] (by simp), below_alloc (Below.refl _ _) _⟩
theorem spec_l05Wide.post1 {w : World} {x : Int} (m : List Int) (hm : m = [x]) : spec_l05Wide.Post m w (.returned (.slice (some ⟨w.heap.size, 0, none⟩) 1 1)) (w.alloc (.cells #[.int .i64 x] 2)) := by
  subst hm
  exact ⟨_, rfl, spec_l05Wide.litR w _ (Nat.le_refl _) [x] (by simp), below_alloc (Below.refl _ _) _⟩
theorem spec_l05Wide.post2 {w : World} {x y : Int} (m : List Int) (hm : m = [x, y]) : spec_l05Wide.Post m w (.returned (.slice (some ⟨w.heap.size, 0, none⟩) 2 2)) (w.alloc (.cells #[.int .i64 x, .int .i64 y] 2)) := by
  subst hm
  exact ⟨_, rfl, spec_l05Wide.litR w _ (Nat.le_refl _) [x, y] (by simp), below_alloc (Below.refl _ _) _⟩
theorem spec_l05Wide.post3 {w : World} {x y : Int} (m : List Int) (hm : m = [x, y]) : spec_l05Wide.Post m w (.returned (.slice (some ⟨w.heap.size, 0, none⟩) 2 2)) (w.alloc (.cells #[.int .i64 x, .int .i64 y] 2)).drew := by
  subst hm
  exact ⟨_, rfl, Kd.R_drew (spec_l05Wide.litR w _ (Nat.le_refl _) [x, y] (by simp)), below_drew1 (below_alloc (Below.refl _ _) _)⟩
def spec_l05Wide.g (p : Int) : List Int := if 9984 ≤ p ∧ p ≤ 10009 then [p - 9919] else if 10016 ≤ p ∧ p ≤ 10025 then [p - 9968] else if p = 8064 ∨ p = 160 then [32]
  else if p = 10032 then [102, 102] else if p = 10033 then [102, 105] else if p = 10034 then [102, 108] else if p = 10035 then [115, 116] else []
def spec_l05Wide.f (p : Int) : Option (List Int) := if 0 ≤ p ∧ p ≤ 1114111 then some (spec_l05Wide.g p) else none
set_option maxHeartbeats 4000000 in
set_option maxRecDepth 100000 in
theorem spec_l05Wide.c1 (p : Int) (w : World) (h0 : 9984 ≤ p) (h1 : p ≤ 10009) : Calls Tryd.prog 241 #[.int .i64 p] w (spec_l05Wide.Post [p - 9919] w) := by
  go_enter Tryd.func241, Tryd.ntmps241
  go_wp2
  go_ret
  exact spec_l05Wide.post1 _ (by congr 1; omega)
set_option maxHeartbeats 4000000 in
set_option maxRecDepth 100000 in
theorem spec_l05Wide.c2 (p : Int) (w : World) (h0 : 10016 ≤ p) (h1 : p ≤ 10025) : Calls Tryd.prog 241 #[.int .i64 p] w (spec_l05Wide.Post [p - 9968] w) := by
  go_enter Tryd.func241, Tryd.ntmps241
  go_wp2
  go_ret
  exact spec_l05Wide.post1 _ (by congr 1; omega)
set_option maxHeartbeats 4000000 in
set_option maxRecDepth 100000 in
theorem spec_l05Wide.c3 (w : World) : Calls Tryd.prog 241 #[.int .i64 8064] w (spec_l05Wide.Post [32] w) := by
  go_enter Tryd.func241, Tryd.ntmps241
  go_wp2
  go_ret
  exact spec_l05Wide.post1 _ rfl
set_option maxHeartbeats 4000000 in
set_option maxRecDepth 100000 in
theorem spec_l05Wide.c4 (w : World) : Calls Tryd.prog 241 #[.int .i64 160] w (spec_l05Wide.Post [32] w) := by
  go_enter Tryd.func241, Tryd.ntmps241
  go_wp2
  go_ret
  exact spec_l05Wide.post1 _ rfl
set_option maxHeartbeats 4000000 in
set_option maxRecDepth 100000 in
theorem spec_l05Wide.c5 (w : World) : Calls Tryd.prog 241 #[.int .i64 10032] w (spec_l05Wide.Post [102, 102] w) := by
  have hs : (ByteArray.extract ⟨#[102, 102, 102, 105, 102, 108, 115, 116]⟩ 0 2) = ⟨#[102, 102]⟩ := by kernel_rfl
  go_enter Tryd.func241, Tryd.ntmps241
  go_wp2
  go_region
  go_wp2
  go_ret
  exact spec_l05Wide.post3 _ (by kernel_rfl)
set_option maxHeartbeats 4000000 in
set_option maxRecDepth 100000 in
theorem spec_l05Wide.c6 (w : World) : Calls Tryd.prog 241 #[.int .i64 10033] w (spec_l05Wide.Post [102, 105] w) := by
  have hs : (ByteArray.extract ⟨#[102, 102, 102, 105, 102, 108, 115, 116]⟩ 2 4) = ⟨#[102, 105]⟩ := by kernel_rfl
  go_enter Tryd.func241, Tryd.ntmps241
  go_wp2
  go_region
  go_wp2
  go_ret
  exact spec_l05Wide.post3 _ (by kernel_rfl)
set_option maxHeartbeats 4000000 in
set_option maxRecDepth 100000 in
theorem spec_l05Wide.c7 (w : World) : Calls Tryd.prog 241 #[.int .i64 10034] w (spec_l05Wide.Post [102, 108] w) := by
  have hs : (ByteArray.extract ⟨#[102, 102, 102, 105, 102, 108, 115, 116]⟩ 4 6) = ⟨#[102, 108]⟩ := by kernel_rfl
  go_enter Tryd.func241, Tryd.ntmps241
  go_wp2
  go_region
  go_wp2
  go_ret
  exact spec_l05Wide.post3 _ (by kernel_rfl)
set_option maxHeartbeats 4000000 in
set_option maxRecDepth 100000 in
theorem spec_l05Wide.c8 (w : World) : Calls Tryd.prog 241 #[.int .i64 10035] w (spec_l05Wide.Post [115, 116] w) := by
  have hs : (ByteArray.extract ⟨#[102, 102, 102, 105, 102, 108, 115, 116]⟩ 6 8) = ⟨#[115, 116]⟩ := by kernel_rfl
  go_enter Tryd.func241, Tryd.ntmps241
  go_wp2
  go_region
  go_wp2
  go_ret
  exact spec_l05Wide.post3 _ (by kernel_rfl)
set_option maxHeartbeats 4000000 in
set_option maxRecDepth 100000 in
theorem spec_l05Wide.c9 (p : Int) (w : World) (h1 : p < 9984 ∨ 10009 < p) (h2 : p < 10016 ∨ 10025 < p) (h3 : p ≠ 8064) (h4 : p ≠ 160) (h5 : p < 10032 ∨ 10035 < p) : Calls Tryd.prog 241 #[.int .i64 p] w (spec_l05Wide.Post [] w) := by
  have e3 : (p == 8064) = false := beq_eq_false_iff_ne.mpr h3
  have e4 : (p == 160) = false := beq_eq_false_iff_ne.mpr h4
  clear h3 h4
  have h : p < 9984 ∨ (10009 < p ∧ p < 10016) ∨ (10025 < p ∧ p < 10032) ∨ 10035 < p := by omega
  clear h1 h2 h5
  rcases h with h | ⟨h, h'⟩ | ⟨h, h'⟩ | h
  all_goals
    go_enter Tryd.func241, Tryd.ntmps241
    go_wp2
    go_ret
    exact spec_l05Wide.post0
theorem spec_l05Wide.calls (p : Int) (r : List Int) (w : World) (h : spec_l05Wide.f p = some r) : Calls Tryd.prog 241 #[.int .i64 p] w fun e w' => ∃ v0_ : Value, e = .returned (v0_) ∧ Kd.R (Kd.int .i64) 2 w' w.heap.size (fun _ => True) v0_ r ∧ Below w.heap.size w w' := by
  unfold spec_l05Wide.f at h
  split at h
  · have := Option.some.inj h
    subst this
    show Calls _ _ _ _ (spec_l05Wide.Post _ w)
    unfold spec_l05Wide.g
    by_cases d1 : 9984 ≤ p ∧ p ≤ 10009
    · rw [if_pos d1]; exact spec_l05Wide.c1 p w d1.1 d1.2
    rw [if_neg d1]
    by_cases d2 : 10016 ≤ p ∧ p ≤ 10025
    · rw [if_pos d2]; exact spec_l05Wide.c2 p w d2.1 d2.2
    rw [if_neg d2]
    by_cases d3 : p = 8064 ∨ p = 160
    · rw [if_pos d3]
      rcases d3 with rfl | rfl
      · exact spec_l05Wide.c3 w
      · exact spec_l05Wide.c4 w
    rw [if_neg d3]
    by_cases d4 : p = 10032
    · rw [if_pos d4, d4]; exact spec_l05Wide.c5 w
    rw [if_neg d4]
    by_cases d5 : p = 10033
    · rw [if_pos d5, d5]; exact spec_l05Wide.c6 w
    rw [if_neg d5]
    by_cases d6 : p = 10034
    · rw [if_pos d6, d6]; exact spec_l05Wide.c7 w
    rw [if_neg d6]
    by_cases d7 : p = 10035
    · rw [if_pos d7, d7]; exact spec_l05Wide.c8 w
    rw [if_neg d7]
    exact spec_l05Wide.c9 p w (by omega) (by omega) (by omega) (by omega) (by omega)
  · cases h

end Go.Proofs.YtdkoofdfkhogoaaDoor.QFnExactCaselessSame
