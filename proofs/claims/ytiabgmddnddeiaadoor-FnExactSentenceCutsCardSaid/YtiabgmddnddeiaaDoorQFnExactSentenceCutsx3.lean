/- The law FnExactSentenceCuts: at every input the call answers true (this text: contracts on its way, by a program of this session's; no condition of ours). -/
import Derived.Test.YtiabgmddnddeiaaDoorQFnExactSentenceCutsx0
import Derived.Test.YtiabgmddnddeiaaDoorQFnExactSentenceCutsx1
namespace Go.Proofs.YtiabgmddnddeiaaDoor.QFnExactSentenceCuts
open Go.RowKit Go.Proofs.YtiabgmddnddeiaaDoorW.PrintWords Go.Proofs.YtiabgmddnddeiaaDoorW.PrintLast Go.Proofs.YtiabgmddnddeiaaDoorW.PrintMore
attribute [local go_sem] max2_int min2_int max_two min_two max_three min_three max_four min_four   -- for this text's walks alone
set_option linter.unusedVariables false
set_option linter.unusedSimpArgs false

/-! ### spec_l08In: function 110 -/
def spec_l08In.l0 : Nat → Int → ByteArray → Int → Option (Bool)
  | 0, _, _, _ => none
  | k + 1, x0, x1, x5 => if x5 < (x1.size : Int) then (if 0 ≤ x5 then (if x0 = (wrap64 (bt x1 x5)) then (some true) else (spec_l08In.l0 k x0 x1 (wrap64 (x5 + 1)))) else (none)) else (some false)
def spec_l08In.f (k : Nat) (a0 : Int) (a1 : ByteArray) : Option (Bool) := spec_l08In.l0 k a0 a1 0
theorem spec_l08In.mono_l : ∀ k, (∀ y0 y1 y2, LeO (spec_l08In.l0 k y0 y1 y2) (spec_l08In.l0 (k + 1) y0 y1 y2))
  | 0 => fun _ _ _ r h => by simp [spec_l08In.l0] at h
  | k + 1 => by
    have ih0 := spec_l08In.mono_l k
    · intro y0 y1 y2
      unfold spec_l08In.l0
      repeat' first
      | (with_reducible exact ih0 _ _ _)
      | (with_reducible exact LeO.refl _)
      | (with_reducible exact LeO.none _)
      | (with_reducible refine LeO.ite ?_ ?_)
      | (with_reducible refine LeO.bind ?_ (fun _ => ?_))
      | exact ih0 _ _ _
      | exact LeO.none _
      | refine LeO.ite ?_ ?_
      | refine LeO.bind ?_ (fun _ => ?_)
theorem spec_l08In.mono : ∀ a0 a1 k, LeO (spec_l08In.f k a0 a1) (spec_l08In.f (k + 1) a0 a1) := by
  intro a0 a1 k
  have ih0 := spec_l08In.mono_l k
  unfold spec_l08In.f
  repeat' first
      | (with_reducible exact ih0 _ _ _)
      | (with_reducible exact LeO.refl _)
      | (with_reducible exact LeO.none _)
      | (with_reducible refine LeO.ite ?_ ?_)
      | (with_reducible refine LeO.bind ?_ (fun _ => ?_))
      | exact ih0 _ _ _
      | exact LeO.none _
      | refine LeO.ite ?_ ?_
      | refine LeO.bind ?_ (fun _ => ?_)
set_option maxHeartbeats 8000000 in
set_option maxRecDepth 100000 in
theorem spec_l08In.calls (k : Nat) (a0 : Int) (a1 : ByteArray) (r : Bool) (w : World) (h : spec_l08In.f k a0 a1 = some r) :
    Calls Tryd.prog 110 #[.int .i64 a0, .string a1] w fun e w' => e = .returned (.bool r) ∧ Drawn0 w w' := by
  have H : (spec_l08In.l0 k a0 a1 0) = some r := h
  clear h
  have H' := Aside0.mk H
  clear H
  go_enter Tryd.func110, Tryd.ntmps110
  go_wp2
  go_loopg [5] k (fun kq v5 w' => ∃ (x5_1 : Int), v5 = .int .i64 x5_1 ∧ Aside0 (spec_l08In.l0 kq a0 a1 x5_1 = some r) ∧ Aside0 (kq ≤ k) ∧ Drawn0 w w')
  case atStart => exact ⟨(0), (by first | rfl | (simp; done) | (simp [*]; done)), H', ⟨Nat.le_refl _⟩, by repeat (first | exact Drawn0.refl _ | apply Drawn0.step)⟩
  case round =>
    clear H'
    try clear c1
    try clear p2
    obtain ⟨x5_1, rfl, HA, HK1, ⟨m1, rfl⟩⟩ := hrel
    cases gk with
    | zero => exact absurd HA.out (by simp [spec_l08In.l0])
    | succ k1 =>
      have H := HA.out
      clear HA
      simp only [spec_l08In.l0] at H
      by_cases c3 : x5_1 < (a1.size : Int)
      · rw [if_pos c3] at H
        have c3b0 : decide (x5_1 < (a1.size : Int)) = true := decide_eq_true c3
        clear c3
        by_cases c4 : 0 ≤ x5_1
        · rw [if_pos c4] at H
          have c4b0 : decide (0 ≤ x5_1) = true := decide_eq_true c4
          clear c4
          by_cases c6 : a0 = (wrap64 (bt a1 x5_1))
          · rw [if_pos c6] at H
            have c6b0 : (a0 == (wrap64 (bt a1 x5_1))) = true := beq_iff_eq.mpr c6
            have c6b1 : (a0 != (wrap64 (bt a1 x5_1))) = false := bne_eq_false_iff_eq.mpr c6
            clear c6
            obtain rfl := Option.some.inj H
            have p5 : 0 ≤ (x5_1 : Int) := of_decide_eq_true (by first | (with_reducible assumption) | assumption)
            have q5 : x5_1 < (a1.size : Int) := of_decide_eq_true (by first | (with_reducible assumption) | assumption)
            have hx5 := bt_at a1 x5_1
            replace p5 := eq_true p5
            replace q5 := eq_true q5
            go_wp2
            go_ret
            exact ⟨by first | rfl | (simp; done) | (simp [*]; done), by repeat (first | exact Drawn0.refl _ | apply Drawn0.step)⟩
          · rw [if_neg c6] at H
            have c6b0 : (a0 == (wrap64 (bt a1 x5_1))) = false := beq_eq_false_iff_ne.mpr c6
            have c6b1 : (a0 != (wrap64 (bt a1 x5_1))) = true := bne_iff_ne.mpr c6
            have H' := Aside0.mk H
            clear H
            have p5 : 0 ≤ (x5_1 : Int) := of_decide_eq_true (by first | (with_reducible assumption) | assumption)
            have q5 : x5_1 < (a1.size : Int) := of_decide_eq_true (by first | (with_reducible assumption) | assumption)
            have hx5 := bt_at a1 x5_1
            replace p5 := eq_true p5
            replace q5 := eq_true q5
            go_wp2
            go_roundg k1
            case measure => have := HK1.out; omega
            case rel => exact ⟨(wrap64 (x5_1 + 1)), (by first | rfl | (simp; done) | (simp [*]; done)), H', ⟨by have := HK1.out; omega⟩, by repeat (first | exact Drawn0.refl _ | apply Drawn0.step)⟩
        · rw [if_neg c4] at H
          exact absurd H (by simp)
      · rw [if_neg c3] at H
        have c3b0 : decide (x5_1 < (a1.size : Int)) = false := decide_eq_false c3
        clear c3
        obtain rfl := Option.some.inj H
        go_wp2
        go_ret
        exact ⟨by first | rfl | (simp; done) | (simp [*]; done), by repeat (first | exact Drawn0.refl _ | apply Drawn0.step)⟩

def W_spec_l08In.f (p : Int) (s : ByteArray) : Option Bool := if s.size ≤ 1000000 then some (decide (p ∈ bytesOf s)) else none
theorem spec_l08In.run (p : Int) (s : ByteArray) (hs : s.size ≤ 1000000) (d : Nat) : ∀ (k i : Nat), i ≤ s.size → s.size - i = d → d < k → spec_l08In.l0 k p s (i : Int) = some (decide (p ∈ (bytesOf s).drop i)) := by
  induction d with
  | zero =>
    intro k i h1 h2 h3
    obtain ⟨k, rfl⟩ : ∃ m, k = m + 1 := ⟨k - 1, by omega⟩
    simp only [spec_l08In.l0]
    rw [if_neg (by omega), List.drop_eq_nil_of_le (by rw [bytesOf_length]; omega)]
    simp
  | succ d ih =>
    intro k i h1 h2 h3
    obtain ⟨k, rfl⟩ : ∃ m, k = m + 1 := ⟨k - 1, by omega⟩
    have hl : i < (bytesOf s).length := by rw [bytesOf_length]; omega
    have hw : wrap64 ((i : Int) + 1) = ((i + 1 : Nat) : Int) := by unfold wrap64; omega
    have hr := bt_range s (i : Int)
    have hw2 : wrap64 (bt s (i : Int)) = bt s (i : Int) := by unfold wrap64; omega
    have hb : bt s (i : Int) = (bytesOf s)[i] := by
      have := YtiabgmddnddeiaaDoorPts.get_bytes s i
      have e : bt s (i : Int) = (((s.get! i).toNat : Nat) : Int) := by
        have hi' : i < s.size := by omega
        have := bt_at s (i : Int) (by omega)
        rw [← this]
        simp only [Int.toNat_natCast]
        simp [ByteArray.get!, hi', ByteArray.getElem_eq_getElem_data]
      rw [e, this, List.getD_eq_getElem?_getD, List.getElem?_eq_getElem hl]; rfl
    simp only [spec_l08In.l0]
    rw [if_pos (by omega), if_pos (by omega), hw2, hb, hw, List.drop_eq_getElem_cons hl]
    by_cases c : p = (bytesOf s)[i]
    · rw [if_pos c, decide_eq_true (by rw [c]; exact List.mem_cons_self)]
    · rw [if_neg c, ih k (i + 1) (by omega) (by omega) (by omega)]
      congr 1
      exact decide_eq_decide.2 ⟨fun z => List.mem_cons_of_mem _ z, fun z => (List.mem_cons.1 z).resolve_left c⟩
theorem W_spec_l08In.to {p : Int} {s : ByteArray} {r : Bool} (h : W_spec_l08In.f p s = some r) : ∃ k, spec_l08In.f k p s = some r := by
  unfold W_spec_l08In.f at h
  split at h
  · rename_i hs
    refine ⟨s.size + 1, ?_⟩
    rw [← h]
    have := spec_l08In.run p s hs _ (s.size + 1) 0 (Nat.zero_le _) rfl (by omega)
    rw [List.drop_zero] at this
    exact this
  · cases h
theorem W_spec_l08In.st (p : Int) : W_spec_l08In.f p (⟨#[46, 33, 63]⟩ : ByteArray) = some (YtiabgmddnddeiaaDoorSen.st p) := by
  have e : bytesOf (⟨#[46, 33, 63]⟩ : ByteArray) = [46, 33, 63] := rfl
  unfold W_spec_l08In.f YtiabgmddnddeiaaDoorSen.st
  rw [e, if_pos (by decide)]
theorem W_spec_l08In.cl (p : Int) : W_spec_l08In.f p (⟨#[41, 93, 125, 34, 39]⟩ : ByteArray) = some (YtiabgmddnddeiaaDoorSen.cl p) := by
  have e : bytesOf (⟨#[41, 93, 125, 34, 39]⟩ : ByteArray) = [41, 93, 125, 34, 39] := rfl
  unfold W_spec_l08In.f YtiabgmddnddeiaaDoorSen.cl
  rw [e, if_pos (by decide)]
theorem W_spec_l08In.calls (a0 : Int) (a1 : ByteArray) (r : Bool) (w : World) (h : W_spec_l08In.f a0 a1 = some r) :
    Calls Tryd.prog 110 #[.int .i64 a0, .string a1] w fun e w' => e = .returned (.bool r) ∧ Drawn0 w w' := by
  obtain ⟨k, hk⟩ := W_spec_l08In.to h
  exact spec_l08In.calls k a0 a1 r w hk

/-! ### spec_l01Cased: function 250 -/
def spec_l01Cased.f  : Option ((List (S200))) := some (([(⟨0, 31, 4, 0⟩ : S200), (⟨32, 63, 5, 0⟩ : S200), (⟨64, 67, 4, 0⟩ : S200), (⟨68, 71, 6, 0⟩ : S200), (⟨72, 75, 5, 0⟩ : S200), (⟨80, 89, 8, 0⟩ : S200), (⟨96, 97, 5, 0⟩ : S200)] : List (S200)))
set_option maxHeartbeats 8000000 in
set_option maxRecDepth 100000 in
theorem spec_l01Cased.calls  (r : List (S200)) (w : World) (h : spec_l01Cased.f  = some r) :
    Calls Tryd.prog 250 #[] w fun e w' => ∃ v0_ : Value, e = .returned (v0_) ∧ Kd.R k200 200 w' w.heap.size (fun _ => True) v0_ r ∧ Below w.heap.size w w' := by
  have hu200 := Tryd.underlying200
  have HB := Aside0.mk (Below.refl w.heap.size w)
  have H : (some (([(⟨0, 31, 4, 0⟩ : S200), (⟨32, 63, 5, 0⟩ : S200), (⟨64, 67, 4, 0⟩ : S200), (⟨68, 71, 6, 0⟩ : S200), (⟨72, 75, 5, 0⟩ : S200), (⟨80, 89, 8, 0⟩ : S200), (⟨96, 97, 5, 0⟩ : S200)] : List (S200)))) = some r := h
  clear h
  obtain ⟨y130, hy130⟩ : ∃ y_ : List (S200), y_ = (([(⟨0, 31, 4, 0⟩ : S200), (⟨32, 63, 5, 0⟩ : S200), (⟨64, 67, 4, 0⟩ : S200), (⟨68, 71, 6, 0⟩ : S200), (⟨72, 75, 5, 0⟩ : S200), (⟨80, 89, 8, 0⟩ : S200), (⟨96, 97, 5, 0⟩ : S200)] : List (S200))) := ⟨_, rfl⟩
  replace H : (some y130) = some r := by first | (rw [hy130]; with_reducible exact H) | (have H2_ := (Option.bind_some _ _).symm.trans H; rw [hy130]; with_reducible exact H2_) | (have H2_ := (Option.bind_some _ _).symm.trans H; with_reducible exact H2_) | with_reducible exact H | (rw [hy130]; exact H) | exact H
  have Ny130 := Aside0.mk hy130
  clear hy130
  obtain rfl := Option.some.inj H
  go_enter Tryd.func250, Tryd.ntmps250
  go_wp2_with (first | ((with_reducible refine gate_dst (N := 8) rfl ?_); refine Kd.R_lit k200 _ 200 ?hg (N := 8) ?hd (xs := ([(⟨0, 31, 4, 0⟩ : S200), (⟨32, 63, 5, 0⟩ : S200), (⟨64, 67, 4, 0⟩ : S200), (⟨68, 71, 6, 0⟩ : S200), (⟨72, 75, 5, 0⟩ : S200), (⟨80, 89, 8, 0⟩ : S200), (⟨96, 97, 5, 0⟩ : S200)] : List (S200))) (inner := [.int .i64 0, .int .i64 31, .int .i64 4, .int .i64 0, .int .i64 32, .int .i64 63, .int .i64 5, .int .i64 0, .int .i64 64, .int .i64 67, .int .i64 4, .int .i64 0, .int .i64 68, .int .i64 71, .int .i64 6, .int .i64 0, .int .i64 72, .int .i64 75, .int .i64 5, .int .i64 0, .int .i64 80, .int .i64 89, .int .i64 8, .int .i64 0, .int .i64 96, .int .i64 97, .int .i64 5, .int .i64 0]) (ok := fun _ => True) (okp := fun _ => True) ?hr ?hp (fun _ hk => hk) trivial (Below.refl _ _) (Nat.le_refl _) (by simp) ?_; (case hd => rfl); (case hg => rfl); (case hr => first | (go_simp; done) | (go_simp; rfl)); (case hp => exact (Reps.c4 (show Kd.M k200 _ _ _ (⟨0, 31, 4, 0⟩ : S200) [.int .i64 0, .int .i64 31, .int .i64 4, .int .i64 0] from (k200_mkM _ _ _ (⟨0, 31, 4, 0⟩ : S200) )) (Reps.c4 (show Kd.M k200 _ _ _ (⟨32, 63, 5, 0⟩ : S200) [.int .i64 32, .int .i64 63, .int .i64 5, .int .i64 0] from (k200_mkM _ _ _ (⟨32, 63, 5, 0⟩ : S200) )) (Reps.c4 (show Kd.M k200 _ _ _ (⟨64, 67, 4, 0⟩ : S200) [.int .i64 64, .int .i64 67, .int .i64 4, .int .i64 0] from (k200_mkM _ _ _ (⟨64, 67, 4, 0⟩ : S200) )) (Reps.c4 (show Kd.M k200 _ _ _ (⟨68, 71, 6, 0⟩ : S200) [.int .i64 68, .int .i64 71, .int .i64 6, .int .i64 0] from (k200_mkM _ _ _ (⟨68, 71, 6, 0⟩ : S200) )) (Reps.c4 (show Kd.M k200 _ _ _ (⟨72, 75, 5, 0⟩ : S200) [.int .i64 72, .int .i64 75, .int .i64 5, .int .i64 0] from (k200_mkM _ _ _ (⟨72, 75, 5, 0⟩ : S200) )) (Reps.c4 (show Kd.M k200 _ _ _ (⟨80, 89, 8, 0⟩ : S200) [.int .i64 80, .int .i64 89, .int .i64 8, .int .i64 0] from (k200_mkM _ _ _ (⟨80, 89, 8, 0⟩ : S200) )) (Reps.c4 (show Kd.M k200 _ _ _ (⟨96, 97, 5, 0⟩ : S200) [.int .i64 96, .int .i64 97, .int .i64 5, .int .i64 0] from (k200_mkM _ _ _ (⟨96, 97, 5, 0⟩ : S200) )) (Reps.none _ _))))))))); intro v131 w1 ho2 hb hg_ hnew_; clear hg_ hnew_; (first | rw [← Ny130.out] at ho2 | (simp only [Int.reduceToNat] at ho2; rw [← Ny130.out] at ho2)); have n0_ := Aside0.mk (Kd.R_lower ho2 (below_size (by repeat (first | (with_reducible first | exact HB.out | apply below_alloc | apply pw_below_drewN | apply below_drew1) | exact HB.out)))); have n1_ := Aside0.mk (below_step (by repeat (first | (with_reducible first | exact HB.out | apply below_alloc | apply pw_below_drewN | apply below_drew1) | exact HB.out)) hb); clear HB; have HO132 := n0_; have HB := n1_; clear n0_ n1_; clear hb ho2))
  go_ret
  exact ⟨_, by first | rfl | (simp [errW_none, errW_some] <;> rfl) | (simp [*, errW_none, errW_some] <;> rfl), by (with_reducible repeat (first | apply Kd.R_alloc | apply Kd.R_drewN | apply Kd.R_drew)); exact HO132.out, by repeat (first | (with_reducible first | exact HB.out | apply below_alloc | apply pw_below_drewN | apply below_drew1) | exact HB.out)⟩

/-! ### spec_l01Rows: function 251 -/
def spec_l01Rows.f  : Option ((List (S200))) := some (([(⟨0, 31, 1, 0⟩ : S200), (⟨32, 32, 2, 0⟩ : S200), (⟨48, 57, 8, 0⟩ : S200), (⟨65, 90, 4, 1⟩ : S200), (⟨97, 122, 5, 1⟩ : S200), (⟨33, 126, 9, 0⟩ : S200), (⟨127, 159, 1, 0⟩ : S200), (⟨160, 160, 2, 0⟩ : S200), (⟨173, 173, 11, 0⟩ : S200), (⟨161, 191, 10, 0⟩ : S200), (⟨1280, 1311, 7, 5⟩ : S200), (⟨1360, 1369, 8, 5⟩ : S200), (⟨1536, 1567, 7, 6⟩ : S200), (⟨1568, 1579, 3, 6⟩ : S200), (⟨1584, 1585, 3, 6⟩ : S200), (⟨1616, 1625, 8, 6⟩ : S200), (⟨1792, 1810, 7, 7⟩ : S200), (⟨1824, 1844, 7, 7⟩ : S200), (⟨1857, 1883, 7, 7⟩ : S200), (⟨2048, 2095, 7, 8⟩ : S200), (⟨4096, 4159, 3, 0⟩ : S200), (⟨7680, 7748, 10, 0⟩ : S200), (⟨7760, 7785, 10, 0⟩ : S200), (⟨7936, 7947, 11, 0⟩ : S200), (⟨7953, 7954, 11, 0⟩ : S200), (⟨8064, 8064, 2, 0⟩ : S200), (⟨9728, 9753, 4, 1⟩ : S200), (⟨9984, 10009, 10, 0⟩ : S200), (⟨10016, 10025, 8, 0⟩ : S200), (⟨10032, 10035, 10, 0⟩ : S200), (⟨12288, 23459, 7, 7⟩ : S200), (⟨24576, 26623, 7, 9⟩ : S200)] : List (S200)))
set_option maxHeartbeats 8000000 in
set_option maxRecDepth 100000 in
theorem spec_l01Rows.calls  (r : List (S200)) (w : World) (h : spec_l01Rows.f  = some r) :
  Calls Tryd.prog 251 #[] w fun e w' => ∃ v0_ : Value, e = .returned (v0_) ∧ Kd.R k200 200 w' w.heap.size (fun _ => True) v0_ r ∧ Below w.heap.size w w' := by
 have hu200 := Tryd.underlying200
 have HB := Aside0.mk (Below.refl w.heap.size w)
 have H : (some (([(⟨0, 31, 1, 0⟩ : S200), (⟨32, 32, 2, 0⟩ : S200), (⟨48, 57, 8, 0⟩ : S200), (⟨65, 90, 4, 1⟩ : S200), (⟨97, 122, 5, 1⟩ : S200), (⟨33, 126, 9, 0⟩ : S200), (⟨127, 159, 1, 0⟩ : S200), (⟨160, 160, 2, 0⟩ : S200), (⟨173, 173, 11, 0⟩ : S200), (⟨161, 191, 10, 0⟩ : S200), (⟨1280, 1311, 7, 5⟩ : S200), (⟨1360, 1369, 8, 5⟩ : S200), (⟨1536, 1567, 7, 6⟩ : S200), (⟨1568, 1579, 3, 6⟩ : S200), (⟨1584, 1585, 3, 6⟩ : S200), (⟨1616, 1625, 8, 6⟩ : S200), (⟨1792, 1810, 7, 7⟩ : S200), (⟨1824, 1844, 7, 7⟩ : S200), (⟨1857, 1883, 7, 7⟩ : S200), (⟨2048, 2095, 7, 8⟩ : S200), (⟨4096, 4159, 3, 0⟩ : S200), (⟨7680, 7748, 10, 0⟩ : S200), (⟨7760, 7785, 10, 0⟩ : S200), (⟨7936, 7947, 11, 0⟩ : S200), (⟨7953, 7954, 11, 0⟩ : S200), (⟨8064, 8064, 2, 0⟩ : S200), (⟨9728, 9753, 4, 1⟩ : S200), (⟨9984, 10009, 10, 0⟩ : S200), (⟨10016, 10025, 8, 0⟩ : S200), (⟨10032, 10035, 10, 0⟩ : S200), (⟨12288, 23459, 7, 7⟩ : S200), (⟨24576, 26623, 7, 9⟩ : S200)] : List (S200)))) = some r := h
 clear h
 obtain ⟨y133, hy133⟩ : ∃ y_ : List (S200), y_ = (([(⟨0, 31, 1, 0⟩ : S200), (⟨32, 32, 2, 0⟩ : S200), (⟨48, 57, 8, 0⟩ : S200), (⟨65, 90, 4, 1⟩ : S200), (⟨97, 122, 5, 1⟩ : S200), (⟨33, 126, 9, 0⟩ : S200), (⟨127, 159, 1, 0⟩ : S200), (⟨160, 160, 2, 0⟩ : S200), (⟨173, 173, 11, 0⟩ : S200), (⟨161, 191, 10, 0⟩ : S200), (⟨1280, 1311, 7, 5⟩ : S200), (⟨1360, 1369, 8, 5⟩ : S200), (⟨1536, 1567, 7, 6⟩ : S200), (⟨1568, 1579, 3, 6⟩ : S200), (⟨1584, 1585, 3, 6⟩ : S200), (⟨1616, 1625, 8, 6⟩ : S200), (⟨1792, 1810, 7, 7⟩ : S200), (⟨1824, 1844, 7, 7⟩ : S200), (⟨1857, 1883, 7, 7⟩ : S200), (⟨2048, 2095, 7, 8⟩ : S200), (⟨4096, 4159, 3, 0⟩ : S200), (⟨7680, 7748, 10, 0⟩ : S200), (⟨7760, 7785, 10, 0⟩ : S200), (⟨7936, 7947, 11, 0⟩ : S200), (⟨7953, 7954, 11, 0⟩ : S200), (⟨8064, 8064, 2, 0⟩ : S200), (⟨9728, 9753, 4, 1⟩ : S200), (⟨9984, 10009, 10, 0⟩ : S200), (⟨10016, 10025, 8, 0⟩ : S200), (⟨10032, 10035, 10, 0⟩ : S200), (⟨12288, 23459, 7, 7⟩ : S200), (⟨24576, 26623, 7, 9⟩ : S200)] : List (S200))) := ⟨_, rfl⟩
 replace H : (some y133) = some r := by first | (rw [hy133]; with_reducible exact H) | (have H2_ := (Option.bind_some _ _).symm.trans H; rw [hy133]; with_reducible exact H2_) | (have H2_ := (Option.bind_some _ _).symm.trans H; with_reducible exact H2_) | with_reducible exact H | (rw [hy133]; exact H) | exact H
 have Ny133 := Aside0.mk hy133
 clear hy133
 obtain rfl := Option.some.inj H
 go_enter Tryd.func251, Tryd.ntmps251
 go_wp2_with (first | ((with_reducible refine gate_dst (N := 33) rfl ?_); refine Kd.R_lit k200 _ 200 ?hg (N := 33) ?hd (xs := ([(⟨0, 31, 1, 0⟩ : S200), (⟨32, 32, 2, 0⟩ : S200), (⟨48, 57, 8, 0⟩ : S200), (⟨65, 90, 4, 1⟩ : S200), (⟨97, 122, 5, 1⟩ : S200), (⟨33, 126, 9, 0⟩ : S200), (⟨127, 159, 1, 0⟩ : S200), (⟨160, 160, 2, 0⟩ : S200), (⟨173, 173, 11, 0⟩ : S200), (⟨161, 191, 10, 0⟩ : S200), (⟨1280, 1311, 7, 5⟩ : S200), (⟨1360, 1369, 8, 5⟩ : S200), (⟨1536, 1567, 7, 6⟩ : S200), (⟨1568, 1579, 3, 6⟩ : S200), (⟨1584, 1585, 3, 6⟩ : S200), (⟨1616, 1625, 8, 6⟩ : S200), (⟨1792, 1810, 7, 7⟩ : S200), (⟨1824, 1844, 7, 7⟩ : S200), (⟨1857, 1883, 7, 7⟩ : S200), (⟨2048, 2095, 7, 8⟩ : S200), (⟨4096, 4159, 3, 0⟩ : S200), (⟨7680, 7748, 10, 0⟩ : S200), (⟨7760, 7785, 10, 0⟩ : S200), (⟨7936, 7947, 11, 0⟩ : S200), (⟨7953, 7954, 11, 0⟩ : S200), (⟨8064, 8064, 2, 0⟩ : S200), (⟨9728, 9753, 4, 1⟩ : S200), (⟨9984, 10009, 10, 0⟩ : S200), (⟨10016, 10025, 8, 0⟩ : S200), (⟨10032, 10035, 10, 0⟩ : S200), (⟨12288, 23459, 7, 7⟩ : S200), (⟨24576, 26623, 7, 9⟩ : S200)] : List (S200))) (inner := [.int .i64 0, .int .i64 31, .int .i64 1, .int .i64 0, .int .i64 32, .int .i64 32, .int .i64 2, .int .i64 0, .int .i64 48, .int .i64 57, .int .i64 8, .int .i64 0, .int .i64 65, .int .i64 90, .int .i64 4, .int .i64 1, .int .i64 97, .int .i64 122, .int .i64 5, .int .i64 1, .int .i64 33, .int .i64 126, .int .i64 9, .int .i64 0, .int .i64 127, .int .i64 159, .int .i64 1, .int .i64 0, .int .i64 160, .int .i64 160, .int .i64 2, .int .i64 0, .int .i64 173, .int .i64 173, .int .i64 11, .int .i64 0, .int .i64 161, .int .i64 191, .int .i64 10, .int .i64 0, .int .i64 1280, .int .i64 1311, .int .i64 7, .int .i64 5, .int .i64 1360, .int .i64 1369, .int .i64 8, .int .i64 5, .int .i64 1536, .int .i64 1567, .int .i64 7, .int .i64 6, .int .i64 1568, .int .i64 1579, .int .i64 3, .int .i64 6, .int .i64 1584, .int .i64 1585, .int .i64 3, .int .i64 6, .int .i64 1616, .int .i64 1625, .int .i64 8, .int .i64 6, .int .i64 1792, .int .i64 1810, .int .i64 7, .int .i64 7, .int .i64 1824, .int .i64 1844, .int .i64 7, .int .i64 7, .int .i64 1857, .int .i64 1883, .int .i64 7, .int .i64 7, .int .i64 2048, .int .i64 2095, .int .i64 7, .int .i64 8, .int .i64 4096, .int .i64 4159, .int .i64 3, .int .i64 0, .int .i64 7680, .int .i64 7748, .int .i64 10, .int .i64 0, .int .i64 7760, .int .i64 7785, .int .i64 10, .int .i64 0, .int .i64 7936, .int .i64 7947, .int .i64 11, .int .i64 0, .int .i64 7953, .int .i64 7954, .int .i64 11, .int .i64 0, .int .i64 8064, .int .i64 8064, .int .i64 2, .int .i64 0, .int .i64 9728, .int .i64 9753, .int .i64 4, .int .i64 1, .int .i64 9984, .int .i64 10009, .int .i64 10, .int .i64 0, .int .i64 10016, .int .i64 10025, .int .i64 8, .int .i64 0, .int .i64 10032, .int .i64 10035, .int .i64 10, .int .i64 0, .int .i64 12288, .int .i64 23459, .int .i64 7, .int .i64 7, .int .i64 24576, .int .i64 26623, .int .i64 7, .int .i64 9]) (ok := fun _ => True) (okp := fun _ => True) ?hr ?hp (fun _ hk => hk) trivial (Below.refl _ _) (Nat.le_refl _) (by simp) ?_; (case hd => rfl); (case hg => rfl); (case hr => first | (go_simp; done) | (go_simp; rfl)); (case hp => exact (Reps.c4 (show Kd.M k200 _ _ _ (⟨0, 31, 1, 0⟩ : S200) [.int .i64 0, .int .i64 31, .int .i64 1, .int .i64 0] from (k200_mkM _ _ _ (⟨0, 31, 1, 0⟩ : S200) )) (Reps.c4 (show Kd.M k200 _ _ _ (⟨32, 32, 2, 0⟩ : S200) [.int .i64 32, .int .i64 32, .int .i64 2, .int .i64 0] from (k200_mkM _ _ _ (⟨32, 32, 2, 0⟩ : S200) )) (Reps.c4 (show Kd.M k200 _ _ _ (⟨48, 57, 8, 0⟩ : S200) [.int .i64 48, .int .i64 57, .int .i64 8, .int .i64 0] from (k200_mkM _ _ _ (⟨48, 57, 8, 0⟩ : S200) )) (Reps.c4 (show Kd.M k200 _ _ _ (⟨65, 90, 4, 1⟩ : S200) [.int .i64 65, .int .i64 90, .int .i64 4, .int .i64 1] from (k200_mkM _ _ _ (⟨65, 90, 4, 1⟩ : S200) )) (Reps.c4 (show Kd.M k200 _ _ _ (⟨97, 122, 5, 1⟩ : S200) [.int .i64 97, .int .i64 122, .int .i64 5, .int .i64 1] from (k200_mkM _ _ _ (⟨97, 122, 5, 1⟩ : S200) )) (Reps.c4 (show Kd.M k200 _ _ _ (⟨33, 126, 9, 0⟩ : S200) [.int .i64 33, .int .i64 126, .int .i64 9, .int .i64 0] from (k200_mkM _ _ _ (⟨33, 126, 9, 0⟩ : S200) )) (Reps.c4 (show Kd.M k200 _ _ _ (⟨127, 159, 1, 0⟩ : S200) [.int .i64 127, .int .i64 159, .int .i64 1, .int .i64 0] from (k200_mkM _ _ _ (⟨127, 159, 1, 0⟩ : S200) )) (Reps.c4 (show Kd.M k200 _ _ _ (⟨160, 160, 2, 0⟩ : S200) [.int .i64 160, .int .i64 160, .int .i64 2, .int .i64 0] from (k200_mkM _ _ _ (⟨160, 160, 2, 0⟩ : S200) )) (Reps.c4 (show Kd.M k200 _ _ _ (⟨173, 173, 11, 0⟩ : S200) [.int .i64 173, .int .i64 173, .int .i64 11, .int .i64 0] from (k200_mkM _ _ _ (⟨173, 173, 11, 0⟩ : S200) )) (Reps.c4 (show Kd.M k200 _ _ _ (⟨161, 191, 10, 0⟩ : S200) [.int .i64 161, .int .i64 191, .int .i64 10, .int .i64 0] from (k200_mkM _ _ _ (⟨161, 191, 10, 0⟩ : S200) )) (Reps.c4 (show Kd.M k200 _ _ _ (⟨1280, 1311, 7, 5⟩ : S200) [.int .i64 1280, .int .i64 1311, .int .i64 7, .int .i64 5] from (k200_mkM _ _ _ (⟨1280, 1311, 7, 5⟩ : S200) )) (Reps.c4 (show Kd.M k200 _ _ _ (⟨1360, 1369, 8, 5⟩ : S200) [.int .i64 1360, .int .i64 1369, .int .i64 8, .int .i64 5] from (k200_mkM _ _ _ (⟨1360, 1369, 8, 5⟩ : S200) )) (Reps.c4 (show Kd.M k200 _ _ _ (⟨1536, 1567, 7, 6⟩ : S200) [.int .i64 1536, .int .i64 1567, .int .i64 7, .int .i64 6] from (k200_mkM _ _ _ (⟨1536, 1567, 7, 6⟩ : S200) )) (Reps.c4 (show Kd.M k200 _ _ _ (⟨1568, 1579, 3, 6⟩ : S200) [.int .i64 1568, .int .i64 1579, .int .i64 3, .int .i64 6] from (k200_mkM _ _ _ (⟨1568, 1579, 3, 6⟩ : S200) )) (Reps.c4 (show Kd.M k200 _ _ _ (⟨1584, 1585, 3, 6⟩ : S200) [.int .i64 1584, .int .i64 1585, .int .i64 3, .int .i64 6] from (k200_mkM _ _ _ (⟨1584, 1585, 3, 6⟩ : S200) )) (Reps.c4 (show Kd.M k200 _ _ _ (⟨1616, 1625, 8, 6⟩ : S200) [.int .i64 1616, .int .i64 1625, .int .i64 8, .int .i64 6] from (k200_mkM _ _ _ (⟨1616, 1625, 8, 6⟩ : S200) )) (Reps.c4 (show Kd.M k200 _ _ _ (⟨1792, 1810, 7, 7⟩ : S200) [.int .i64 1792, .int .i64 1810, .int .i64 7, .int .i64 7] from (k200_mkM _ _ _ (⟨1792, 1810, 7, 7⟩ : S200) )) (Reps.c4 (show Kd.M k200 _ _ _ (⟨1824, 1844, 7, 7⟩ : S200) [.int .i64 1824, .int .i64 1844, .int .i64 7, .int .i64 7] from (k200_mkM _ _ _ (⟨1824, 1844, 7, 7⟩ : S200) )) (Reps.c4 (show Kd.M k200 _ _ _ (⟨1857, 1883, 7, 7⟩ : S200) [.int .i64 1857, .int .i64 1883, .int .i64 7, .int .i64 7] from (k200_mkM _ _ _ (⟨1857, 1883, 7, 7⟩ : S200) )) (Reps.c4 (show Kd.M k200 _ _ _ (⟨2048, 2095, 7, 8⟩ : S200) [.int .i64 2048, .int .i64 2095, .int .i64 7, .int .i64 8] from (k200_mkM _ _ _ (⟨2048, 2095, 7, 8⟩ : S200) )) (Reps.c4 (show Kd.M k200 _ _ _ (⟨4096, 4159, 3, 0⟩ : S200) [.int .i64 4096, .int .i64 4159, .int .i64 3, .int .i64 0] from (k200_mkM _ _ _ (⟨4096, 4159, 3, 0⟩ : S200) )) (Reps.c4 (show Kd.M k200 _ _ _ (⟨7680, 7748, 10, 0⟩ : S200) [.int .i64 7680, .int .i64 7748, .int .i64 10, .int .i64 0] from (k200_mkM _ _ _ (⟨7680, 7748, 10, 0⟩ : S200) )) (Reps.c4 (show Kd.M k200 _ _ _ (⟨7760, 7785, 10, 0⟩ : S200) [.int .i64 7760, .int .i64 7785, .int .i64 10, .int .i64 0] from (k200_mkM _ _ _ (⟨7760, 7785, 10, 0⟩ : S200) )) (Reps.c4 (show Kd.M k200 _ _ _ (⟨7936, 7947, 11, 0⟩ : S200) [.int .i64 7936, .int .i64 7947, .int .i64 11, .int .i64 0] from (k200_mkM _ _ _ (⟨7936, 7947, 11, 0⟩ : S200) )) (Reps.c4 (show Kd.M k200 _ _ _ (⟨7953, 7954, 11, 0⟩ : S200) [.int .i64 7953, .int .i64 7954, .int .i64 11, .int .i64 0] from (k200_mkM _ _ _ (⟨7953, 7954, 11, 0⟩ : S200) )) (Reps.c4 (show Kd.M k200 _ _ _ (⟨8064, 8064, 2, 0⟩ : S200) [.int .i64 8064, .int .i64 8064, .int .i64 2, .int .i64 0] from (k200_mkM _ _ _ (⟨8064, 8064, 2, 0⟩ : S200) )) (Reps.c4 (show Kd.M k200 _ _ _ (⟨9728, 9753, 4, 1⟩ : S200) [.int .i64 9728, .int .i64 9753, .int .i64 4, .int .i64 1] from (k200_mkM _ _ _ (⟨9728, 9753, 4, 1⟩ : S200) )) (Reps.c4 (show Kd.M k200 _ _ _ (⟨9984, 10009, 10, 0⟩ : S200) [.int .i64 9984, .int .i64 10009, .int .i64 10, .int .i64 0] from (k200_mkM _ _ _ (⟨9984, 10009, 10, 0⟩ : S200) )) (Reps.c4 (show Kd.M k200 _ _ _ (⟨10016, 10025, 8, 0⟩ : S200) [.int .i64 10016, .int .i64 10025, .int .i64 8, .int .i64 0] from (k200_mkM _ _ _ (⟨10016, 10025, 8, 0⟩ : S200) )) (Reps.c4 (show Kd.M k200 _ _ _ (⟨10032, 10035, 10, 0⟩ : S200) [.int .i64 10032, .int .i64 10035, .int .i64 10, .int .i64 0] from (k200_mkM _ _ _ (⟨10032, 10035, 10, 0⟩ : S200) )) (Reps.c4 (show Kd.M k200 _ _ _ (⟨12288, 23459, 7, 7⟩ : S200) [.int .i64 12288, .int .i64 23459, .int .i64 7, .int .i64 7] from (k200_mkM _ _ _ (⟨12288, 23459, 7, 7⟩ : S200) )) (Reps.c4 (show Kd.M k200 _ _ _ (⟨24576, 26623, 7, 9⟩ : S200) [.int .i64 24576, .int .i64 26623, .int .i64 7, .int .i64 9] from (k200_mkM _ _ _ (⟨24576, 26623, 7, 9⟩ : S200) )) (Reps.none _ _)))))))))))))))))))))))))))))))))); intro v134 w1 ho2 hb hg_ hnew_; clear hg_ hnew_; (first | rw [← Ny133.out] at ho2 | (simp only [Int.reduceToNat] at ho2; rw [← Ny133.out] at ho2)); have n0_ := Aside0.mk (Kd.R_lower ho2 (below_size (belowA))); have n1_ := Aside0.mk (below_step (belowA) hb); clear HB; have HO135 := n0_; have HB := n1_; clear n0_ n1_; clear hb ho2))
 go_ret
 exact ⟨_, by first | rfl | (simp [errW_none, errW_some] <;> rfl) | (simp [*, errW_none, errW_some] <;> rfl), by (with_reducible repeat (first | apply Kd.R_alloc | apply Kd.R_drewN | apply Kd.R_drew)); exact HO135.out, belowA⟩

/-! ### spec_l01Known: function 226 -/
mutual
def spec_l01Known.j0 : Nat → Int → Bool → Option (Int × Int)
 | 0, _, _ => none
 | k + 1, x0, x14 => if x14 = true then ((spec_l01Cased.f).bind fun t136 => (spec_l01Known.l0 k x0 t136 0)) else (if x0 ≥ 8192 then (spec_l01Known.j2 k x0 (decide (x0 < 9728))) else (spec_l01Known.j2 k x0 false))
def spec_l01Known.l0 : Nat → Int → List (S200) → Int → Option (Int × Int)
 | 0, _, _, _ => none
 | k + 1, x0, x4, x5 => if x5 < (x4.length : Int) then (if 0 ≤ x5 then (if (Int.tmod x0 256) ≥ ((rd_T200 x4 x5).f0) then (if (Int.tmod x0 256) ≤ ((rd_T200 x4 x5).f1) then (some ((rd_T200 x4 x5).f2, wrap64 (Int.tdiv x0 256))) else (spec_l01Known.l0 k x0 x4 (wrap64 (x5 + 1)))) else (spec_l01Known.l0 k x0 x4 (wrap64 (x5 + 1)))) else (none)) else (some (0, 0))
def spec_l01Known.j2 : Nat → Int → Bool → Option (Int × Int)
 | 0, _, _ => none
 | k + 1, x0, x52 => if x52 = true then (if (Int.tmod x0 512) ≥ 416 then (some (0, 0)) else (if (Int.tmod x0 512) < 208 then (some (4, 1)) else (some (5, 1)))) else ((spec_l01Rows.f).bind fun t142 => (spec_l01Known.l1 k x0 t142 0))
def spec_l01Known.l1 : Nat → Int → List (S200) → Int → Option (Int × Int)
 | 0, _, _, _ => none
 | k + 1, x0, x7, x8 => if x8 < (x7.length : Int) then (if 0 ≤ x8 then (if x0 ≥ ((rd_T200 x7 x8).f0) then (if x0 ≤ ((rd_T200 x7 x8).f1) then (some ((rd_T200 x7 x8).f2, (rd_T200 x7 x8).f3)) else (spec_l01Known.l1 k x0 x7 (wrap64 (x8 + 1)))) else (spec_l01Known.l1 k x0 x7 (wrap64 (x8 + 1)))) else (none)) else (some (0, 0))
end
def spec_l01Known.f (k : Nat) (a0 : Int) : Option (Int × Int) := if a0 ≥ 512 then (spec_l01Known.j0 k a0 (decide (a0 < 1280))) else (spec_l01Known.j0 k a0 false)
theorem spec_l01Known.mono_l : ∀ k, (∀ y0 y1, LeO (spec_l01Known.j0 k y0 y1) (spec_l01Known.j0 (k + 1) y0 y1)) ∧ (∀ y0 y1 y2, LeO (spec_l01Known.l0 k y0 y1 y2) (spec_l01Known.l0 (k + 1) y0 y1 y2)) ∧ (∀ y0 y1, LeO (spec_l01Known.j2 k y0 y1) (spec_l01Known.j2 (k + 1) y0 y1)) ∧ (∀ y0 y1 y2, LeO (spec_l01Known.l1 k y0 y1 y2) (spec_l01Known.l1 (k + 1) y0 y1 y2))
 | 0 => ⟨fun _ _ r h => by simp [spec_l01Known.j0] at h, fun _ _ _ r h => by simp [spec_l01Known.l0] at h, fun _ _ r h => by simp [spec_l01Known.j2] at h, fun _ _ _ r h => by simp [spec_l01Known.l1] at h⟩
 | k + 1 => by
  obtain ⟨ih0, ih1, ih2, ih3⟩ := spec_l01Known.mono_l k; refine ⟨?_, ?_, ?_, ?_⟩
  ·intro y0 y1
   unfold spec_l01Known.j0
   repeat' first
   | (with_reducible exact ih0 _ _)
   | (with_reducible exact ih1 _ _ _)
   | (with_reducible exact ih2 _ _)
   | (with_reducible exact ih3 _ _ _)
   | (with_reducible exact LeO.refl _)
   | (with_reducible exact LeO.none _)
   | (with_reducible refine LeO.ite ?_ ?_)
   | (with_reducible refine LeO.bind ?_ (fun _ => ?_))
   | exact ih0 _ _
   | exact ih1 _ _ _
   | exact ih2 _ _
   | exact ih3 _ _ _
   | exact LeO.none _
   | refine LeO.ite ?_ ?_
   | refine LeO.bind ?_ (fun _ => ?_)
  ·intro y0 y1 y2
   unfold spec_l01Known.l0
   repeat' first
   | (with_reducible exact ih0 _ _)
   | (with_reducible exact ih1 _ _ _)
   | (with_reducible exact ih2 _ _)
   | (with_reducible exact ih3 _ _ _)
   | (with_reducible exact LeO.refl _)
   | (with_reducible exact LeO.none _)
   | (with_reducible refine LeO.ite ?_ ?_)
   | (with_reducible refine LeO.bind ?_ (fun _ => ?_))
   | exact ih0 _ _
   | exact ih1 _ _ _
   | exact ih2 _ _
   | exact ih3 _ _ _
   | exact LeO.none _
   | refine LeO.ite ?_ ?_
   | refine LeO.bind ?_ (fun _ => ?_)
  ·intro y0 y1
   unfold spec_l01Known.j2
   repeat' first
   | (with_reducible exact ih0 _ _)
   | (with_reducible exact ih1 _ _ _)
   | (with_reducible exact ih2 _ _)
   | (with_reducible exact ih3 _ _ _)
   | (with_reducible exact LeO.refl _)
   | (with_reducible exact LeO.none _)
   | (with_reducible refine LeO.ite ?_ ?_)
   | (with_reducible refine LeO.bind ?_ (fun _ => ?_))
   | exact ih0 _ _
   | exact ih1 _ _ _
   | exact ih2 _ _
   | exact ih3 _ _ _
   | exact LeO.none _
   | refine LeO.ite ?_ ?_
   | refine LeO.bind ?_ (fun _ => ?_)
  intro y0 y1 y2
  unfold spec_l01Known.l1
  repeat' first
  | (with_reducible exact ih0 _ _)
  | (with_reducible exact ih1 _ _ _)
  | (with_reducible exact ih2 _ _)
  | (with_reducible exact ih3 _ _ _)
  | (with_reducible exact LeO.refl _)
  | (with_reducible exact LeO.none _)
  | (with_reducible refine LeO.ite ?_ ?_)
  | (with_reducible refine LeO.bind ?_ (fun _ => ?_))
  | exact ih0 _ _
  | exact ih1 _ _ _
  | exact ih2 _ _
  | exact ih3 _ _ _
  | exact LeO.none _
  | refine LeO.ite ?_ ?_
  | refine LeO.bind ?_ (fun _ => ?_)
theorem spec_l01Known.mono : ∀ a0 k, LeO (spec_l01Known.f k a0) (spec_l01Known.f (k + 1) a0) := by
 intro a0 k
 obtain ⟨ih0, ih1, ih2, ih3⟩ := spec_l01Known.mono_l k
 unfold spec_l01Known.f
 repeat' first
   | (with_reducible exact ih0 _ _)
   | (with_reducible exact ih1 _ _ _)
   | (with_reducible exact ih2 _ _)
   | (with_reducible exact ih3 _ _ _)
   | (with_reducible exact LeO.refl _)
   | (with_reducible exact LeO.none _)
   | (with_reducible refine LeO.ite ?_ ?_)
   | (with_reducible refine LeO.bind ?_ (fun _ => ?_))
   | exact ih0 _ _
   | exact ih1 _ _ _
   | exact ih2 _ _
   | exact ih3 _ _ _
   | exact LeO.none _
   | refine LeO.ite ?_ ?_
   | refine LeO.bind ?_ (fun _ => ?_)
set_option maxHeartbeats 8000000 in
set_option maxRecDepth 100000 in
theorem spec_l01Known.calls (k : Nat) (a0 : Int) (r1 : Int) (r2 : Int) (w : World) (h : spec_l01Known.f k a0 = some (r1, r2)) :
  Calls Tryd.prog 226 #[.int .i64 a0] w fun e w' => e = .returned (.tuple #[.int .i64 r1, .int .i64 r2]) ∧ Below w.heap.size w w' := by
 have HB := Aside0.mk (Below.refl w.heap.size w)
 have H : (if a0 ≥ 512 then (spec_l01Known.j0 k a0 (decide (a0 < 1280))) else (spec_l01Known.j0 k a0 false)) = some (r1, r2) := h
 clear h
 have HC2 := Aside0.mk H
 clear H
 go_enter Tryd.func226, Tryd.ntmps226
 go_upto_region 1 with (fail)
 repeat (go_quiet (fail); go_upto_region 1 with (fail))
 go_cut [14] (fun v14 wc => ∃ (kq : Nat) (x14_1 : Bool), v14 = .bool x14_1 ∧ Aside0 (spec_l01Known.j0 kq a0 x14_1 = some (r1, r2)) ∧ Aside0 (kq ≤ k) ∧ Aside0 (Below w.heap.size w wc))
 case first =>
  have H := HC2.out; clear HC2
  by_cases c3 : a0 ≥ 512
  ·rw [if_pos c3] at H
   have c3b0 : decide (512 ≤ a0) = true := decide_eq_true c3; clear c3
   (first | rw [c3b0] | (simp only [i64_w, i32_w]; rw [c3b0]) | skip)
   have H' := Aside0.mk H; clear H
   go_wp2
   repeat (go_quiet (fail); try go_wp2)
   go_meet
   case rel => exact ⟨_, (decide (a0 < 1280)), (by first | rfl | (simp; done) | (simp [*]; done)), H', ⟨by first | omega | exact Nat.le_refl _⟩, ⟨belowA⟩⟩
  rw [if_neg c3] at H; have c3b0 : decide (512 ≤ a0) = false := decide_eq_false c3; clear c3
  (first | rw [c3b0] | (simp only [i64_w, i32_w]; rw [c3b0]) | skip)
  have H' := Aside0.mk H; clear H
  go_wp2
  repeat (go_quiet (fail); try go_wp2)
  go_meet
  case rel => exact ⟨_, (false), (by first | rfl | (simp; done) | (simp [*]; done)), H', ⟨by first | omega | exact Nat.le_refl _⟩, ⟨belowA⟩⟩
 case rest =>
  clear HC2
  try clear c2; try clear p2; try clear c3; try clear c3b0
  obtain ⟨kq, x14_1, rfl, HA, HJ1, HB⟩ := hcut
  cases kq with
  | zero => exact absurd HA.out (by simp [spec_l01Known.j0])
  | succ kj1 =>
   have H := HA.out; clear HA; simp only [spec_l01Known.j0] at H
   by_cases c4 : x14_1 = true
   ·subst c4
    have H1 : ((spec_l01Cased.f).bind fun t136 => (spec_l01Known.l0 kj1 a0 t136 0)) = some (r1, r2) := by rw [if_pos rfl] at H; exact H
    clear H; have H := H1; clear H1; replace H := Option.bind_eq_some_iff.mp H; obtain ⟨t136, A50, H⟩ := H
    try dsimp only at H
    have A5 := Aside0.mk A50; clear A50; have H' := Aside0.mk H; clear H
    go_wp2_with (first | (go_at_call 250; (with_reducible refine (spec_l01Cased.calls  t136 _ A5.out).mono ?_); rintro e w6 ⟨v137, rfl, ho0, hb⟩; have n0_ := Aside0.mk (Kd.R_lower ho0 (below_size (belowA))); have n1_ := Aside0.mk (below_step (belowA) hb); clear HB; have HO138 := n0_; have HB := n1_; clear n0_ n1_; (try clear hb); (try clear hb2); (try clear hk); (try clear hi); (try clear ho0)))
    repeat (go_quiet (first | (go_at_call 250; (with_reducible refine (spec_l01Cased.calls  t136 _ A5.out).mono ?_); rintro e w6 ⟨v137, rfl, ho0, hb⟩; have n0_ := Aside0.mk (Kd.R_lower ho0 (below_size (belowA))); have n1_ := Aside0.mk (below_step (belowA) hb); clear HB; have HO138 := n0_; have HB := n1_; clear n0_ n1_; (try clear hb); (try clear hb2); (try clear hk); (try clear hi); (try clear ho0))); try go_wp2_with (first | (go_at_call 250; (with_reducible refine (spec_l01Cased.calls  t136 _ A5.out).mono ?_); rintro e w6 ⟨v137, rfl, ho0, hb⟩; have n0_ := Aside0.mk (Kd.R_lower ho0 (below_size (belowA))); have n1_ := Aside0.mk (below_step (belowA) hb); clear HB; have HO138 := n0_; have HB := n1_; clear n0_ n1_; (try clear hb); (try clear hb2); (try clear hk); (try clear hi); (try clear ho0))))
    go_loopg [5] kj1 (fun kq v5 w' => ∃ (x5_2 : Int), v5 = .int .i64 x5_2 ∧ Aside0 (spec_l01Known.l0 kq a0 t136 x5_2 = some (r1, r2)) ∧ Aside0 (kq ≤ kj1) ∧ Aside0 (Kd.R k200 200 w' w.heap.size (fun _ => True) v137 t136) ∧ Aside0 (Below w.heap.size w w'))
    case atStart => exact ⟨(0), (by first | rfl | (simp; done) | (simp [*]; done)), H', ⟨Nat.le_refl _⟩, ⟨by (with_reducible repeat (first | apply Kd.R_alloc | apply Kd.R_drewN | apply Kd.R_drew)); exact HO138.out⟩, ⟨belowA⟩⟩
    case round =>
     clear H'
     try clear c2; try clear p2; try clear c3; try clear c3b0; try clear c4; try clear p2
     obtain ⟨x5_2, rfl, HA, HK2, HO_4, HB⟩ := hrel
     cases gk with
     | zero => exact absurd HA.out (by simp [spec_l01Known.l0])
     | succ k2 =>
      have H := HA.out; clear HA; simp only [spec_l01Known.l0] at H
      by_cases c7 : x5_2 < (t136.length : Int)
      ·rw [if_pos c7] at H
       have c7b0 : decide (x5_2 < (t136.length : Int)) = true := decide_eq_true c7; clear c7
       by_cases c8 : 0 ≤ x5_2
       ·rw [if_pos c8] at H
        have c8b0 : decide (0 ≤ x5_2) = true := decide_eq_true c8; clear c8
        by_cases c9 : (Int.tmod a0 256) ≥ ((rd_T200 t136 x5_2).f0)
        ·rw [if_pos c9] at H
         have c9b0 : decide (((rd_T200 t136 x5_2).f0) ≤ (Int.tmod a0 256)) = true := decide_eq_true c9; clear c9
         by_cases c10 : (Int.tmod a0 256) ≤ ((rd_T200 t136 x5_2).f1)
         ·rw [if_pos c10] at H
          have c10b0 : decide ((Int.tmod a0 256) ≤ ((rd_T200 t136 x5_2).f1)) = true := decide_eq_true c10; clear c10; simp only [Option.some.injEq, Prod.mk.injEq] at H; obtain ⟨rfl, rfl⟩ := H; obtain ⟨Ao11, co11, eo11⟩ := Kd.R_slice HO_4.out; subst eo11
          have p139 : 0 ≤ (x5_2 : Int) := of_decide_eq_true (by first | (with_reducible assumption) | assumption)
          have q139 : x5_2 < (t136.length : Int) := of_decide_eq_true (by first | (with_reducible assumption) | assumption)
          obtain ⟨ad139, e139, hx139_0, hx139_1, hx139_2, hx139_3⟩ := at_T200 (Kd.R_reads' HO_4.out).2.2 x5_2 p139 q139; cases e139; replace p139 := eq_true p139; replace q139 := eq_true q139
          have p140 : 0 ≤ (x5_2 : Int) := of_decide_eq_true (by first | (with_reducible assumption) | assumption)
          have q140 : x5_2 < (t136.length : Int) := of_decide_eq_true (by first | (with_reducible assumption) | assumption)
          obtain ⟨ad140, e140, hx140_0, hx140_1, hx140_2, hx140_3⟩ := at_T200 (Kd.R_reads' HO_4.out).2.2 x5_2 p140 q140
          obtain rfl : ad139 = ad140 := (by injection e140)
          replace p140 := eq_true p140; replace q140 := eq_true q140
          have p141 : 0 ≤ (x5_2 : Int) := of_decide_eq_true (by first | (with_reducible assumption) | assumption)
          have q141 : x5_2 < (t136.length : Int) := of_decide_eq_true (by first | (with_reducible assumption) | assumption)
          obtain ⟨ad141, e141, hx141_0, hx141_1, hx141_2, hx141_3⟩ := at_T200 (Kd.R_reads' HO_4.out).2.2 x5_2 p141 q141
          obtain rfl : ad139 = ad141 := (by injection e141)
          replace p141 := eq_true p141; replace q141 := eq_true q141
          go_wp2
          repeat (go_quiet (fail); try go_wp2)
          go_ret2
          exact ⟨by first | rfl | (simp [errW_none, errW_some] <;> rfl) | (simp [*, errW_none, errW_some] <;> rfl), belowA⟩
         rw [if_neg c10] at H; have c10b0 : decide ((Int.tmod a0 256) ≤ ((rd_T200 t136 x5_2).f1)) = false := decide_eq_false c10; clear c10; have H' := Aside0.mk H; clear H; obtain ⟨Ao12, co12, eo12⟩ := Kd.R_slice HO_4.out; subst eo12
         have p139 : 0 ≤ (x5_2 : Int) := of_decide_eq_true (by first | (with_reducible assumption) | assumption)
         have q139 : x5_2 < (t136.length : Int) := of_decide_eq_true (by first | (with_reducible assumption) | assumption)
         obtain ⟨ad139, e139, hx139_0, hx139_1, hx139_2, hx139_3⟩ := at_T200 (Kd.R_reads' HO_4.out).2.2 x5_2 p139 q139; cases e139; replace p139 := eq_true p139; replace q139 := eq_true q139
         have p140 : 0 ≤ (x5_2 : Int) := of_decide_eq_true (by first | (with_reducible assumption) | assumption)
         have q140 : x5_2 < (t136.length : Int) := of_decide_eq_true (by first | (with_reducible assumption) | assumption)
         obtain ⟨ad140, e140, hx140_0, hx140_1, hx140_2, hx140_3⟩ := at_T200 (Kd.R_reads' HO_4.out).2.2 x5_2 p140 q140
         obtain rfl : ad139 = ad140 := (by injection e140)
         replace p140 := eq_true p140; replace q140 := eq_true q140
         go_wp2
         repeat (go_quiet (fail); try go_wp2)
         go_roundg k2
         case measure => have := HJ1.out; have := HK2.out; omega
         case rel => exact ⟨(wrap64 (x5_2 + 1)), (by first | rfl | (simp; done) | (simp [*]; done)), H', ⟨by have := HJ1.out; have := HK2.out; omega⟩, ⟨by (with_reducible repeat (first | apply Kd.R_alloc | apply Kd.R_drewN | apply Kd.R_drew)); exact HO_4.out⟩, ⟨belowA⟩⟩
        rw [if_neg c9] at H; have c9b0 : decide (((rd_T200 t136 x5_2).f0) ≤ (Int.tmod a0 256)) = false := decide_eq_false c9; clear c9; have H' := Aside0.mk H; clear H; obtain ⟨Ao13, co13, eo13⟩ := Kd.R_slice HO_4.out; subst eo13
        have p139 : 0 ≤ (x5_2 : Int) := of_decide_eq_true (by first | (with_reducible assumption) | assumption)
        have q139 : x5_2 < (t136.length : Int) := of_decide_eq_true (by first | (with_reducible assumption) | assumption)
        obtain ⟨ad139, e139, hx139_0, hx139_1, hx139_2, hx139_3⟩ := at_T200 (Kd.R_reads' HO_4.out).2.2 x5_2 p139 q139; cases e139; replace p139 := eq_true p139; replace q139 := eq_true q139
        go_wp2
        repeat (go_quiet (fail); try go_wp2)
        go_roundg k2
        case measure => have := HJ1.out; have := HK2.out; omega
        case rel => exact ⟨(wrap64 (x5_2 + 1)), (by first | rfl | (simp; done) | (simp [*]; done)), H', ⟨by have := HJ1.out; have := HK2.out; omega⟩, ⟨by (with_reducible repeat (first | apply Kd.R_alloc | apply Kd.R_drewN | apply Kd.R_drew)); exact HO_4.out⟩, ⟨belowA⟩⟩
       rw [if_neg c8] at H
       exact absurd H (by simp)
      rw [if_neg c7] at H; have c7b0 : decide (x5_2 < (t136.length : Int)) = false := decide_eq_false c7; clear c7; simp only [Option.some.injEq, Prod.mk.injEq] at H; obtain ⟨rfl, rfl⟩ := H; obtain ⟨Ao14, co14, eo14⟩ := Kd.R_slice HO_4.out; subst eo14
      go_wp2
      repeat (go_quiet (fail); try go_wp2)
      go_ret2
      exact ⟨by first | rfl | (simp [errW_none, errW_some] <;> rfl) | (simp [*, errW_none, errW_some] <;> rfl), belowA⟩
   replace c4 := Bool.eq_false_iff.mpr c4; subst c4
   have H1 : (if a0 ≥ 8192 then (spec_l01Known.j2 kj1 a0 (decide (a0 < 9728))) else (spec_l01Known.j2 kj1 a0 false)) = some (r1, r2) := by rw [if_neg (show ¬ (false = true) by decide)] at H; exact H
   clear H; have H := H1; clear H1; have HC15 := Aside0.mk H; clear H
   go_upto_region 9 with (fail)
   repeat (go_quiet (fail); go_upto_region 9 with (fail))
   go_cut [52] (fun v52 wc => ∃ (kq : Nat) (x52_14 : Bool), v52 = .bool x52_14 ∧ Aside0 (spec_l01Known.j2 kq a0 x52_14 = some (r1, r2)) ∧ Aside0 (kq ≤ kj1) ∧ Aside0 (Below w.heap.size w wc))
   case first =>
    have H := HC15.out; clear HC15
    by_cases c16 : a0 ≥ 8192
    ·rw [if_pos c16] at H
     have c16b0 : decide (8192 ≤ a0) = true := decide_eq_true c16; clear c16
     (first | rw [c16b0] | (simp only [i64_w, i32_w]; rw [c16b0]) | skip)
     have H' := Aside0.mk H; clear H
     go_wp2
     repeat (go_quiet (fail); try go_wp2)
     go_meet
     case rel => exact ⟨_, (decide (a0 < 9728)), (by first | rfl | (simp; done) | (simp [*]; done)), H', ⟨by have := HJ1.out; first | omega | exact Nat.le_refl _⟩, ⟨belowA⟩⟩
    rw [if_neg c16] at H; have c16b0 : decide (8192 ≤ a0) = false := decide_eq_false c16; clear c16
    (first | rw [c16b0] | (simp only [i64_w, i32_w]; rw [c16b0]) | skip)
    have H' := Aside0.mk H; clear H
    go_wp2
    repeat (go_quiet (fail); try go_wp2)
    go_meet
    case rel => exact ⟨_, (false), (by first | rfl | (simp; done) | (simp [*]; done)), H', ⟨by have := HJ1.out; first | omega | exact Nat.le_refl _⟩, ⟨belowA⟩⟩
   case rest =>
    clear HC15
    try clear c1; try clear p1; try clear q1; try clear hx1; try clear c2; try clear p2; try clear c3; try clear c3b0; try clear c4; try clear p6; try clear c7; try clear c7b0; try clear c8; try clear c8b0; try clear c9; try clear c9b0; try clear c10; try clear c10b0; try clear p13; try clear q13; try clear hx13; try clear p14; try clear q14; try clear hx14; try clear c16; try clear c16b0; try clear hx139_0; try clear hx139_1; try clear hx139_2; try clear hx139_3; try clear hx140_0; try clear hx140_1; try clear hx140_2; try clear hx140_3; try clear hx141_0; try clear hx141_1; try clear hx141_2; try clear hx141_3; try clear p139; try clear p140; try clear p141; try clear p2; try clear q139; try clear q140; try clear q141
    obtain ⟨kq, x52_14, rfl, HA, HJ14, HB⟩ := hcut
    cases kq with
    | zero => exact absurd HA.out (by simp [spec_l01Known.j2])
    | succ kj14 =>
     have H := HA.out; clear HA; simp only [spec_l01Known.j2] at H
     by_cases c17 : x52_14 = true
     ·subst c17
      have H1 : (if (Int.tmod a0 512) ≥ 416 then (some (0, 0)) else (if (Int.tmod a0 512) < 208 then (some (4, 1)) else (some (5, 1)))) = some (r1, r2) := by rw [if_pos rfl] at H; exact H
      clear H; have H := H1; clear H1
      by_cases c18 : (Int.tmod a0 512) ≥ 416
      ·rw [if_pos c18] at H
       have c18b0 : decide (416 ≤ (Int.tmod a0 512)) = true := decide_eq_true c18; clear c18; simp only [Option.some.injEq, Prod.mk.injEq] at H; obtain ⟨rfl, rfl⟩ := H
       go_wp2
       repeat (go_quiet (fail); try go_wp2)
       go_ret2
       exact ⟨by first | rfl | (simp [errW_none, errW_some] <;> rfl) | (simp [*, errW_none, errW_some] <;> rfl), belowA⟩
      rw [if_neg c18] at H; have c18b0 : decide (416 ≤ (Int.tmod a0 512)) = false := decide_eq_false c18; clear c18
      by_cases c19 : (Int.tmod a0 512) < 208
      ·rw [if_pos c19] at H
       have c19b0 : decide ((Int.tmod a0 512) < 208) = true := decide_eq_true c19; clear c19; simp only [Option.some.injEq, Prod.mk.injEq] at H; obtain ⟨rfl, rfl⟩ := H
       go_wp2
       repeat (go_quiet (fail); try go_wp2)
       go_ret2
       exact ⟨by first | rfl | (simp [errW_none, errW_some] <;> rfl) | (simp [*, errW_none, errW_some] <;> rfl), belowA⟩
      rw [if_neg c19] at H; have c19b0 : decide ((Int.tmod a0 512) < 208) = false := decide_eq_false c19; clear c19; simp only [Option.some.injEq, Prod.mk.injEq] at H; obtain ⟨rfl, rfl⟩ := H
      go_wp2
      repeat (go_quiet (fail); try go_wp2)
      go_ret2
      exact ⟨by first | rfl | (simp [errW_none, errW_some] <;> rfl) | (simp [*, errW_none, errW_some] <;> rfl), belowA⟩
     replace c17 := Bool.eq_false_iff.mpr c17; subst c17
     have H1 : ((spec_l01Rows.f).bind fun t142 => (spec_l01Known.l1 kj14 a0 t142 0)) = some (r1, r2) := by rw [if_neg (show ¬ (false = true) by decide)] at H; exact H
     clear H; have H := H1; clear H1; replace H := Option.bind_eq_some_iff.mp H; obtain ⟨t142, A200, H⟩ := H
     try dsimp only at H
     have A20 := Aside0.mk A200; clear A200; have H' := Aside0.mk H; clear H
     go_wp2_with (first | (go_at_call 251; (with_reducible refine (spec_l01Rows.calls  t142 _ A20.out).mono ?_); rintro e w21 ⟨v143, rfl, ho0, hb⟩; have n0_ := Aside0.mk (Kd.R_lower ho0 (below_size (belowA))); have n1_ := Aside0.mk (below_step (belowA) hb); clear HB; have HO144 := n0_; have HB := n1_; clear n0_ n1_; (try clear hb); (try clear hb2); (try clear hk); (try clear hi); (try clear ho0)))
     repeat (go_quiet (first | (go_at_call 251; (with_reducible refine (spec_l01Rows.calls  t142 _ A20.out).mono ?_); rintro e w21 ⟨v143, rfl, ho0, hb⟩; have n0_ := Aside0.mk (Kd.R_lower ho0 (below_size (belowA))); have n1_ := Aside0.mk (below_step (belowA) hb); clear HB; have HO144 := n0_; have HB := n1_; clear n0_ n1_; (try clear hb); (try clear hb2); (try clear hk); (try clear hi); (try clear ho0))); try go_wp2_with (first | (go_at_call 251; (with_reducible refine (spec_l01Rows.calls  t142 _ A20.out).mono ?_); rintro e w21 ⟨v143, rfl, ho0, hb⟩; have n0_ := Aside0.mk (Kd.R_lower ho0 (below_size (belowA))); have n1_ := Aside0.mk (below_step (belowA) hb); clear HB; have HO144 := n0_; have HB := n1_; clear n0_ n1_; (try clear hb); (try clear hb2); (try clear hk); (try clear hi); (try clear ho0))))
     go_loopg [8] kj14 (fun kq v8 w' => ∃ (x8_3 : Int), v8 = .int .i64 x8_3 ∧ Aside0 (spec_l01Known.l1 kq a0 t142 x8_3 = some (r1, r2)) ∧ Aside0 (kq ≤ kj14) ∧ Aside0 (Kd.R k200 200 w' w.heap.size (fun _ => True) v143 t142) ∧ Aside0 (Below w.heap.size w w'))
     case atStart => exact ⟨(0), (by first | rfl | (simp; done) | (simp [*]; done)), H', ⟨Nat.le_refl _⟩, ⟨by (with_reducible repeat (first | apply Kd.R_alloc | apply Kd.R_drewN | apply Kd.R_drew)); exact HO144.out⟩, ⟨belowA⟩⟩
     case round =>
      clear H'
      try clear c1; try clear p1; try clear q1; try clear hx1; try clear c2; try clear p2; try clear c3; try clear c3b0; try clear c4; try clear p6; try clear c7; try clear c7b0; try clear c8; try clear c8b0; try clear c9; try clear c9b0; try clear c10; try clear c10b0; try clear p13; try clear q13; try clear hx13; try clear p14; try clear q14; try clear hx14; try clear c16; try clear c16b0; try clear c17; try clear c18; try clear c18b0; try clear c19; try clear c19b0; try clear hx139_0; try clear hx139_1; try clear hx139_2; try clear hx139_3; try clear hx140_0; try clear hx140_1; try clear hx140_2; try clear hx140_3; try clear hx141_0; try clear hx141_1; try clear hx141_2; try clear hx141_3; try clear p1; try clear p13; try clear p139; try clear p14; try clear p140; try clear p141; try clear p2; try clear p6; try clear q1; try clear q13; try clear q139; try clear q14; try clear q140; try clear q141
      obtain ⟨x8_3, rfl, HA, HK3, HO_7, HB⟩ := hrel
      cases gk with
      | zero => exact absurd HA.out (by simp [spec_l01Known.l1])
      | succ k3 =>
       have H := HA.out; clear HA; simp only [spec_l01Known.l1] at H
       by_cases c22 : x8_3 < (t142.length : Int)
       ·rw [if_pos c22] at H
        have c22b0 : decide (x8_3 < (t142.length : Int)) = true := decide_eq_true c22; clear c22
        by_cases c23 : 0 ≤ x8_3
        ·rw [if_pos c23] at H
         have c23b0 : decide (0 ≤ x8_3) = true := decide_eq_true c23; clear c23
         by_cases c24 : a0 ≥ ((rd_T200 t142 x8_3).f0)
         ·rw [if_pos c24] at H
          have c24b0 : decide (((rd_T200 t142 x8_3).f0) ≤ a0) = true := decide_eq_true c24; clear c24
          by_cases c25 : a0 ≤ ((rd_T200 t142 x8_3).f1)
          ·rw [if_pos c25] at H
           have c25b0 : decide (a0 ≤ ((rd_T200 t142 x8_3).f1)) = true := decide_eq_true c25; clear c25; simp only [Option.some.injEq, Prod.mk.injEq] at H; obtain ⟨rfl, rfl⟩ := H; obtain ⟨Ao26, co26, eo26⟩ := Kd.R_slice HO_7.out; subst eo26
           have p145 : 0 ≤ (x8_3 : Int) := of_decide_eq_true (by first | (with_reducible assumption) | assumption)
           have q145 : x8_3 < (t142.length : Int) := of_decide_eq_true (by first | (with_reducible assumption) | assumption)
           obtain ⟨ad145, e145, hx145_0, hx145_1, hx145_2, hx145_3⟩ := at_T200 (Kd.R_reads' HO_7.out).2.2 x8_3 p145 q145; cases e145; replace p145 := eq_true p145; replace q145 := eq_true q145
           have p146 : 0 ≤ (x8_3 : Int) := of_decide_eq_true (by first | (with_reducible assumption) | assumption)
           have q146 : x8_3 < (t142.length : Int) := of_decide_eq_true (by first | (with_reducible assumption) | assumption)
           obtain ⟨ad146, e146, hx146_0, hx146_1, hx146_2, hx146_3⟩ := at_T200 (Kd.R_reads' HO_7.out).2.2 x8_3 p146 q146
           obtain rfl : ad145 = ad146 := (by injection e146)
           replace p146 := eq_true p146; replace q146 := eq_true q146
           have p147 : 0 ≤ (x8_3 : Int) := of_decide_eq_true (by first | (with_reducible assumption) | assumption)
           have q147 : x8_3 < (t142.length : Int) := of_decide_eq_true (by first | (with_reducible assumption) | assumption)
           obtain ⟨ad147, e147, hx147_0, hx147_1, hx147_2, hx147_3⟩ := at_T200 (Kd.R_reads' HO_7.out).2.2 x8_3 p147 q147
           obtain rfl : ad145 = ad147 := (by injection e147)
           replace p147 := eq_true p147; replace q147 := eq_true q147
           have p148 : 0 ≤ (x8_3 : Int) := of_decide_eq_true (by first | (with_reducible assumption) | assumption)
           have q148 : x8_3 < (t142.length : Int) := of_decide_eq_true (by first | (with_reducible assumption) | assumption)
           obtain ⟨ad148, e148, hx148_0, hx148_1, hx148_2, hx148_3⟩ := at_T200 (Kd.R_reads' HO_7.out).2.2 x8_3 p148 q148
           obtain rfl : ad145 = ad148 := (by injection e148)
           replace p148 := eq_true p148; replace q148 := eq_true q148
           go_wp2
           repeat (go_quiet (fail); try go_wp2)
           go_ret2
           exact ⟨by first | rfl | (simp [errW_none, errW_some] <;> rfl) | (simp [*, errW_none, errW_some] <;> rfl), belowA⟩
          rw [if_neg c25] at H; have c25b0 : decide (a0 ≤ ((rd_T200 t142 x8_3).f1)) = false := decide_eq_false c25; clear c25; have H' := Aside0.mk H; clear H; obtain ⟨Ao27, co27, eo27⟩ := Kd.R_slice HO_7.out; subst eo27
          have p145 : 0 ≤ (x8_3 : Int) := of_decide_eq_true (by first | (with_reducible assumption) | assumption)
          have q145 : x8_3 < (t142.length : Int) := of_decide_eq_true (by first | (with_reducible assumption) | assumption)
          obtain ⟨ad145, e145, hx145_0, hx145_1, hx145_2, hx145_3⟩ := at_T200 (Kd.R_reads' HO_7.out).2.2 x8_3 p145 q145; cases e145; replace p145 := eq_true p145; replace q145 := eq_true q145
          have p146 : 0 ≤ (x8_3 : Int) := of_decide_eq_true (by first | (with_reducible assumption) | assumption)
          have q146 : x8_3 < (t142.length : Int) := of_decide_eq_true (by first | (with_reducible assumption) | assumption)
          obtain ⟨ad146, e146, hx146_0, hx146_1, hx146_2, hx146_3⟩ := at_T200 (Kd.R_reads' HO_7.out).2.2 x8_3 p146 q146
          obtain rfl : ad145 = ad146 := (by injection e146)
          replace p146 := eq_true p146; replace q146 := eq_true q146
          go_wp2
          repeat (go_quiet (fail); try go_wp2)
          go_roundg k3
          case measure => have := HJ1.out; have := HJ14.out; have := HK3.out; omega
          case rel => exact ⟨(wrap64 (x8_3 + 1)), (by first | rfl | (simp; done) | (simp [*]; done)), H', ⟨by have := HJ1.out; have := HJ14.out; have := HK3.out; omega⟩, ⟨by (with_reducible repeat (first | apply Kd.R_alloc | apply Kd.R_drewN | apply Kd.R_drew)); exact HO_7.out⟩, ⟨belowA⟩⟩
         rw [if_neg c24] at H; have c24b0 : decide (((rd_T200 t142 x8_3).f0) ≤ a0) = false := decide_eq_false c24; clear c24; have H' := Aside0.mk H; clear H; obtain ⟨Ao28, co28, eo28⟩ := Kd.R_slice HO_7.out; subst eo28
         have p145 : 0 ≤ (x8_3 : Int) := of_decide_eq_true (by first | (with_reducible assumption) | assumption)
         have q145 : x8_3 < (t142.length : Int) := of_decide_eq_true (by first | (with_reducible assumption) | assumption)
         obtain ⟨ad145, e145, hx145_0, hx145_1, hx145_2, hx145_3⟩ := at_T200 (Kd.R_reads' HO_7.out).2.2 x8_3 p145 q145; cases e145; replace p145 := eq_true p145; replace q145 := eq_true q145
         go_wp2
         repeat (go_quiet (fail); try go_wp2)
         go_roundg k3
         case measure => have := HJ1.out; have := HJ14.out; have := HK3.out; omega
         case rel => exact ⟨(wrap64 (x8_3 + 1)), (by first | rfl | (simp; done) | (simp [*]; done)), H', ⟨by have := HJ1.out; have := HJ14.out; have := HK3.out; omega⟩, ⟨by (with_reducible repeat (first | apply Kd.R_alloc | apply Kd.R_drewN | apply Kd.R_drew)); exact HO_7.out⟩, ⟨belowA⟩⟩
        rw [if_neg c23] at H
        exact absurd H (by simp)
       rw [if_neg c22] at H; have c22b0 : decide (x8_3 < (t142.length : Int)) = false := decide_eq_false c22; clear c22; simp only [Option.some.injEq, Prod.mk.injEq] at H; obtain ⟨rfl, rfl⟩ := H; obtain ⟨Ao29, co29, eo29⟩ := Kd.R_slice HO_7.out; subst eo29
       go_wp2
       repeat (go_quiet (fail); try go_wp2)
       go_ret2
       exact ⟨by first | rfl | (simp [errW_none, errW_some] <;> rfl) | (simp [*, errW_none, errW_some] <;> rfl), belowA⟩

def spec_l01Known.tup (r : S200) : Int × Int × Int × Int := (r.f0, r.f1, r.f2, r.f3)
def W_spec_l01Known.f (a0 : Int) : Option (Int × Int) := some (YtiabgmddnddeiaaDoorCas.kind a0)
theorem spec_l01Known.get (rs : List S200) (i : Nat) (h : i < rs.length) : rd_T200 rs (i : Int) = rs[i] := by simp [rd_T200, List.getD, h]
theorem spec_l01Known.run1 (p : Int) (rs : List S200) (hl : rs.length ≤ 1000) (d : Nat) : ∀ (k i : Nat), i ≤ rs.length → rs.length - i = d → d < k →
    spec_l01Known.l1 k p rs (i : Int) = some (YtiabgmddnddeiaaDoorCas.find p ((rs.drop i).map spec_l01Known.tup)) := by
  induction d with
  | zero =>
    intro k i h1 h2 h3
    obtain ⟨k, rfl⟩ : ∃ m, k = m + 1 := ⟨k - 1, by omega⟩
    simp only [spec_l01Known.l1]
    rw [if_neg (by omega), List.drop_eq_nil_of_le (by omega)]
    rfl
  | succ d ih =>
    intro k i h1 h2 h3
    obtain ⟨k, rfl⟩ : ∃ m, k = m + 1 := ⟨k - 1, by omega⟩
    have hlt : i < rs.length := by omega
    have hw : wrap64 ((i : Int) + 1) = ((i + 1 : Nat) : Int) := by unfold wrap64; omega
    have hih := ih k (i + 1) (by omega) (by omega) (by omega)
    simp only [spec_l01Known.l1]
    rw [if_pos (by omega), if_pos (by omega), spec_l01Known.get rs i hlt, hw, hih, List.drop_eq_getElem_cons hlt, List.map_cons]
    rw [show spec_l01Known.tup rs[i] = (rs[i].f0, rs[i].f1, rs[i].f2, rs[i].f3) from rfl, YtiabgmddnddeiaaDoorCas.find_cons]
    by_cases c : p ≥ rs[i].f0
    · rw [if_pos c]
      by_cases c2 : p ≤ rs[i].f1
      · rw [if_pos c2, if_pos ⟨c, c2⟩]
      · rw [if_neg c2, if_neg (fun z => c2 z.2)]
    · rw [if_neg c, if_neg (fun z => c z.1)]
theorem spec_l01Known.run0 (p : Int) (hp : 512 ≤ p ∧ p < 1280) (rs : List S200) (hl : rs.length ≤ 1000) (d : Nat) : ∀ (k i : Nat), i ≤ rs.length → rs.length - i = d → d < k →
    spec_l01Known.l0 k p rs (i : Int) = some (YtiabgmddnddeiaaDoorCas.find7 (p % 256) (p / 256) ((rs.drop i).map spec_l01Known.tup)) := by
  induction d with
  | zero =>
    intro k i h1 h2 h3
    obtain ⟨k, rfl⟩ : ∃ m, k = m + 1 := ⟨k - 1, by omega⟩
    simp only [spec_l01Known.l0]
    rw [if_neg (by omega), List.drop_eq_nil_of_le (by omega)]
    rfl
  | succ d ih =>
    intro k i h1 h2 h3
    obtain ⟨k, rfl⟩ : ∃ m, k = m + 1 := ⟨k - 1, by omega⟩
    have hlt : i < rs.length := by omega
    have hw : wrap64 ((i : Int) + 1) = ((i + 1 : Nat) : Int) := by unfold wrap64; omega
    have hih := ih k (i + 1) (by omega) (by omega) (by omega)
    have hm : Int.tmod p 256 = p % 256 := Int.tmod_eq_emod_of_nonneg (by omega)
    have hd : Int.tdiv p 256 = p / 256 := Int.tdiv_eq_ediv_of_nonneg (by omega)
    have hv : wrap64 (p / 256) = p / 256 := by unfold wrap64; omega
    simp only [spec_l01Known.l0]
    rw [if_pos (by omega), if_pos (by omega), spec_l01Known.get rs i hlt, hw, hih, hm, hd, hv, List.drop_eq_getElem_cons hlt, List.map_cons]
    rw [show spec_l01Known.tup rs[i] = (rs[i].f0, rs[i].f1, rs[i].f2, rs[i].f3) from rfl, YtiabgmddnddeiaaDoorCas.find7_cons]
    by_cases c : p % 256 ≥ rs[i].f0
    · rw [if_pos c]
      by_cases c2 : p % 256 ≤ rs[i].f1
      · rw [if_pos c2, if_pos ⟨c, c2⟩]
      · rw [if_neg c2, if_neg (fun z => c2 z.2)]
    · rw [if_neg c, if_neg (fun z => c z.1)]
theorem spec_l01Known.eq (p : Int) : spec_l01Known.f 50 p = some (YtiabgmddnddeiaaDoorCas.kind p) := by
  unfold spec_l01Known.f
  by_cases c : 512 ≤ p ∧ p < 1280
  · rw [if_pos c.1, decide_eq_true c.2]
    simp only [spec_l01Known.j0, if_true, spec_l01Cased.f, Option.bind_some]
    rw [← YtiabgmddnddeiaaDoorCas.find_rows7 p c]
    exact spec_l01Known.run0 p c _ (by decide) _ 49 0 (Nat.zero_le _) rfl (by decide)
  · have e : (if p ≥ 512 then spec_l01Known.j0 50 p (decide (p < 1280)) else spec_l01Known.j0 50 p false) = spec_l01Known.j0 50 p false := by
      by_cases c1 : p ≥ 512
      · rw [if_pos c1, decide_eq_false (fun z => c ⟨c1, z⟩)]
      · rw [if_neg c1]
    rw [e]
    simp only [spec_l01Known.j0, Bool.false_eq_true, if_false]
    by_cases d : 8192 ≤ p ∧ p < 9728
    · have hm : Int.tmod p 512 = p % 512 := Int.tmod_eq_emod_of_nonneg (by omega)
      rw [if_pos d.1, decide_eq_true d.2]
      simp only [spec_l01Known.j2, if_true]
      rw [hm, YtiabgmddnddeiaaDoorCas.kind_mid p d]
      by_cases c1 : p % 512 ≥ 416
      · rw [if_pos c1, if_pos c1]
      · rw [if_neg c1, if_neg c1]
        by_cases c2 : p % 512 < 208
        · rw [if_pos c2, if_pos c2]
        · rw [if_neg c2, if_neg c2]
    · have e : (if p ≥ 8192 then spec_l01Known.j2 49 p (decide (p < 9728)) else spec_l01Known.j2 49 p false) = spec_l01Known.j2 49 p false := by
        by_cases c1 : p ≥ 8192
        · rw [if_pos c1, decide_eq_false (fun z => d ⟨c1, z⟩)]
        · rw [if_neg c1]
      rw [e]
      simp only [spec_l01Known.j2, Bool.false_eq_true, if_false, spec_l01Rows.f, Option.bind_some]
      rw [← YtiabgmddnddeiaaDoorCas.find_rows p c d]
      exact spec_l01Known.run1 p _ (by decide) _ 48 0 (Nat.zero_le _) rfl (by decide)
theorem W_spec_l01Known.to {a0 : Int} {r : Int × Int} (h : W_spec_l01Known.f a0 = some r) : ∃ k, spec_l01Known.f k a0 = some r := ⟨50, by rw [← h]; exact spec_l01Known.eq a0⟩
theorem W_spec_l01Known.calls (a0 : Int) (r1 : Int) (r2 : Int) (w : World) (h : W_spec_l01Known.f a0 = some (r1, r2)) :
    Calls Tryd.prog 226 #[.int .i64 a0] w fun e w' => e = .returned (.tuple #[.int .i64 r1, .int .i64 r2]) ∧ Below w.heap.size w w' := by
  obtain ⟨k, hk⟩ := W_spec_l01Known.to h
  exact spec_l01Known.calls k a0 r1 r2 w hk

/-! ### spec_l01Cat: function 181 -/
def spec_l01Cat.f (a0 : Int) : Option (Int) := (W_spec_l01Known.f a0).bind fun bt149 => (some bt149.1)
set_option maxHeartbeats 8000000 in
set_option maxRecDepth 100000 in
theorem spec_l01Cat.calls (a0 : Int) (r : Int) (w : World) (h : spec_l01Cat.f a0 = some r) :
    Calls Tryd.prog 181 #[.int .i64 a0] w fun e w' => e = .returned (.int .i64 r) ∧ Below w.heap.size w w' := by
  have HB := Aside0.mk (Below.refl w.heap.size w)
  have H : ((W_spec_l01Known.f a0).bind fun bt149 => (some bt149.1)) = some r := h
  clear h
  replace H := Option.bind_eq_some_iff.mp H
  obtain ⟨⟨t149, t150⟩, A20, H⟩ := H
  replace H : (some t149) = some r := H
  have A2 := Aside0.mk A20
  clear A20
  obtain rfl := Option.some.inj H
  go_enter Tryd.func181, Tryd.ntmps181
  go_wp2_with (first | ((with_reducible refine gate_callee (f := 226) rfl ?_); refine goesL_ (some 7) rfl rfl Tryd.func226 (by kernel_rfl) rfl #[.int .i64 a0] rfl (by (try simp only [List.map_toArray, List.map_cons, List.map_nil]); first | done | rfl | (simp only [List.length_drop, List.length_take]; rfl)) ?_; (with_reducible refine (W_spec_l01Known.calls a0 t149 t150 _ A2.out).mono ?_); rintro e w3 ⟨rfl, hb⟩; refine ⟨_, rfl, ?_⟩; have n0_ := Aside0.mk (below_step (by repeat (first | (with_reducible first | exact HB.out | apply below_alloc | apply pw_below_drewN | apply below_drew1) | exact HB.out)) hb); clear HB; have HB := n0_; clear n0_; (try clear hb); (try clear hb2); (try clear hk); (try clear hi)))
  go_ret
  exact ⟨by first | rfl | (simp [errW_none, errW_some] <;> rfl) | (simp [*, errW_none, errW_some] <;> rfl), by repeat (first | (with_reducible first | exact HB.out | apply below_alloc | apply pw_below_drewN | apply below_drew1) | exact HB.out)⟩

end Go.Proofs.YtiabgmddnddeiaaDoor.QFnExactSentenceCuts
