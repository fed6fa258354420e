/- The law FnNormer: at every input the call answers true (this text: contracts on its way, by a program of this session's; no condition of ours). -/
import Derived.Test.YtiabgmddnddeiaaDoorQFnNormerx0
import Derived.Test.YtiabgmddnddeiaaDoorQFnNormerx1
import Derived.Test.YtiabgmddnddeiaaDoorQFnNormerx3
namespace Go.Proofs.YtiabgmddnddeiaaDoor.QFnNormer
open Go.RowKit Go.Proofs.YtiabgmddnddeiaaDoorW.PrintWords Go.Proofs.YtiabgmddnddeiaaDoorW.PrintLast Go.Proofs.YtiabgmddnddeiaaDoorW.PrintMore
attribute [local go_sem] max2_int min2_int max_two min_two max_three min_three max_four min_four   -- for this text's walks alone
set_option linter.unusedVariables false
set_option linter.unusedSimpArgs false

/-! ### spec_l05Wide: function 248 (by hand) -/
theorem spec_l05Wide.litR (W : World) (base : Nat) (hb : base ≤ W.heap.size) (l : List Int) (hl : l.length ≤ 100) :
    Kd.R (Kd.int .i64) 2 (W.alloc (.cells (l.map (Value.int .i64)).toArray 2)) base (fun _ => True) (.slice (some ⟨W.heap.size, 0, none⟩) l.length l.length) l := by
  have hrep : Reps (Kd.M (Kd.int .i64) W base (fun _ => True)) (Kd.int .i64).sz l (l.map (Value.int .i64)) := by
    clear hl
    induction l with
    | nil => exact Reps.none _ _
    | cons x t ih => exact Reps.one (show Kd.M (Kd.int .i64) _ _ _ x [.int .i64 x] from rfl) ih
  refine ⟨fun _ _ => trivial, l.map (Value.int .i64), ?_, ?_⟩
  · have h2 := World.ownsRow_lit (base := base) (e := 2) (size := (Kd.int .i64).sz) W (l.map (Value.int .i64)).toArray l.length hb (by simp [maxLen]; omega) (by simpa using hrep.1)
    simpa using h2
  · refine hrep.imp_ (fun p c hp => hp)
def spec_l05Wide.Post (l : List Int) (w : World) (e : Ending) (w' : World) : Prop := ∃ v0_ : Value, e = .returned (v0_) ∧ Kd.R (Kd.int .i64) 2 w' w.heap.size (fun _ => True) v0_ l ∧ Below w.heap.size w w'
theorem spec_l05Wide.post0 {w : World} : spec_l05Wide.Post [] w (.returned (.slice (some ⟨w.heap.size, 0, none⟩) 0 0)) (w.alloc (.cells #[] 2)) :=
  ⟨_, rfl, spec_l05Wide.litR w _ (Nat.le_refl _) [] (by simp), below_alloc (Below.refl _ _) _⟩
theorem spec_l05Wide.post1 {w : World} {x : Int} (m : List Int) (hm : m = [x]) : spec_l05Wide.Post m w (.returned (.slice (some ⟨w.heap.size, 0, none⟩) 1 1)) (w.alloc (.cells #[.int .i64 x] 2)) := by
  subst hm
  exact ⟨_, rfl, spec_l05Wide.litR w _ (Nat.le_refl _) [x] (by simp), below_alloc (Below.refl _ _) _⟩
theorem spec_l05Wide.post2 {w : World} {x y : Int} (m : List Int) (hm : m = [x, y]) : spec_l05Wide.Post m w (.returned (.slice (some ⟨w.heap.size, 0, none⟩) 2 2)) (w.alloc (.cells #[.int .i64 x, .int .i64 y] 2)) := by
  subst hm
  exact ⟨_, rfl, spec_l05Wide.litR w _ (Nat.le_refl _) [x, y] (by simp), below_alloc (Below.refl _ _) _⟩
theorem spec_l05Wide.post3 {w : World} {x y : Int} (m : List Int) (hm : m = [x, y]) : spec_l05Wide.Post m w (.returned (.slice (some ⟨w.heap.size, 0, none⟩) 2 2)) (w.alloc (.cells #[.int .i64 x, .int .i64 y] 2)).drew := by
  subst hm
  exact ⟨_, rfl, Kd.R_drew (spec_l05Wide.litR w _ (Nat.le_refl _) [x, y] (by simp)), below_drew1 (below_alloc (Below.refl _ _) _)⟩
def spec_l05Wide.g (p : Int) : List Int := if 9984 ≤ p ∧ p ≤ 10009 then [p - 9919] else if 10016 ≤ p ∧ p ≤ 10025 then [p - 9968] else if p = 8064 ∨ p = 160 then [32]
  else if p = 10032 then [102, 102] else if p = 10033 then [102, 105] else if p = 10034 then [102, 108] else if p = 10035 then [115, 116] else []
def spec_l05Wide.f (p : Int) : Option (List Int) := if 0 ≤ p ∧ p ≤ 1114111 then some (spec_l05Wide.g p) else none
set_option maxHeartbeats 4000000 in
set_option maxRecDepth 100000 in
theorem spec_l05Wide.c1 (p : Int) (w : World) (h0 : 9984 ≤ p) (h1 : p ≤ 10009) : Calls Tryd.prog 248 #[.int .i64 p] w (spec_l05Wide.Post [p - 9919] w) := by
  go_enter Tryd.func248, Tryd.ntmps248
  go_wp2
  go_ret
  exact spec_l05Wide.post1 _ (by congr 1; omega)
set_option maxHeartbeats 4000000 in
set_option maxRecDepth 100000 in
theorem spec_l05Wide.c2 (p : Int) (w : World) (h0 : 10016 ≤ p) (h1 : p ≤ 10025) : Calls Tryd.prog 248 #[.int .i64 p] w (spec_l05Wide.Post [p - 9968] w) := by
  go_enter Tryd.func248, Tryd.ntmps248
  go_wp2
  go_ret
  exact spec_l05Wide.post1 _ (by congr 1; omega)
set_option maxHeartbeats 4000000 in
set_option maxRecDepth 100000 in
theorem spec_l05Wide.c3 (w : World) : Calls Tryd.prog 248 #[.int .i64 8064] w (spec_l05Wide.Post [32] w) := by
  go_enter Tryd.func248, Tryd.ntmps248
  go_wp2
  go_ret
  exact spec_l05Wide.post1 _ rfl
set_option maxHeartbeats 4000000 in
set_option maxRecDepth 100000 in
theorem spec_l05Wide.c4 (w : World) : Calls Tryd.prog 248 #[.int .i64 160] w (spec_l05Wide.Post [32] w) := by
  go_enter Tryd.func248, Tryd.ntmps248
  go_wp2
  go_ret
  exact spec_l05Wide.post1 _ rfl
set_option maxHeartbeats 4000000 in
set_option maxRecDepth 100000 in
theorem spec_l05Wide.c5 (w : World) : Calls Tryd.prog 248 #[.int .i64 10032] w (spec_l05Wide.Post [102, 102] w) := by
  have hs : (ByteArray.extract ⟨#[102, 102, 102, 105, 102, 108, 115, 116]⟩ 0 2) = ⟨#[102, 102]⟩ := by kernel_rfl
  go_enter Tryd.func248, Tryd.ntmps248
  go_wp2
  go_region
  go_wp2
  go_ret
  exact spec_l05Wide.post3 _ (by kernel_rfl)
set_option maxHeartbeats 4000000 in
set_option maxRecDepth 100000 in
theorem spec_l05Wide.c6 (w : World) : Calls Tryd.prog 248 #[.int .i64 10033] w (spec_l05Wide.Post [102, 105] w) := by
  have hs : (ByteArray.extract ⟨#[102, 102, 102, 105, 102, 108, 115, 116]⟩ 2 4) = ⟨#[102, 105]⟩ := by kernel_rfl
  go_enter Tryd.func248, Tryd.ntmps248
  go_wp2
  go_region
  go_wp2
  go_ret
  exact spec_l05Wide.post3 _ (by kernel_rfl)
set_option maxHeartbeats 4000000 in
set_option maxRecDepth 100000 in
theorem spec_l05Wide.c7 (w : World) : Calls Tryd.prog 248 #[.int .i64 10034] w (spec_l05Wide.Post [102, 108] w) := by
  have hs : (ByteArray.extract ⟨#[102, 102, 102, 105, 102, 108, 115, 116]⟩ 4 6) = ⟨#[102, 108]⟩ := by kernel_rfl
  go_enter Tryd.func248, Tryd.ntmps248
  go_wp2
  go_region
  go_wp2
  go_ret
  exact spec_l05Wide.post3 _ (by kernel_rfl)
set_option maxHeartbeats 4000000 in
set_option maxRecDepth 100000 in
theorem spec_l05Wide.c8 (w : World) : Calls Tryd.prog 248 #[.int .i64 10035] w (spec_l05Wide.Post [115, 116] w) := by
  have hs : (ByteArray.extract ⟨#[102, 102, 102, 105, 102, 108, 115, 116]⟩ 6 8) = ⟨#[115, 116]⟩ := by kernel_rfl
  go_enter Tryd.func248, Tryd.ntmps248
  go_wp2
  go_region
  go_wp2
  go_ret
  exact spec_l05Wide.post3 _ (by kernel_rfl)
set_option maxHeartbeats 4000000 in
set_option maxRecDepth 100000 in
theorem spec_l05Wide.c9 (p : Int) (w : World) (h1 : p < 9984 ∨ 10009 < p) (h2 : p < 10016 ∨ 10025 < p) (h3 : p ≠ 8064) (h4 : p ≠ 160) (h5 : p < 10032 ∨ 10035 < p) : Calls Tryd.prog 248 #[.int .i64 p] w (spec_l05Wide.Post [] w) := by
  have e3 : (p == 8064) = false := beq_eq_false_iff_ne.mpr h3
  have e4 : (p == 160) = false := beq_eq_false_iff_ne.mpr h4
  clear h3 h4
  have h : p < 9984 ∨ (10009 < p ∧ p < 10016) ∨ (10025 < p ∧ p < 10032) ∨ 10035 < p := by omega
  clear h1 h2 h5
  rcases h with h | ⟨h, h'⟩ | ⟨h, h'⟩ | h
  all_goals
    go_enter Tryd.func248, Tryd.ntmps248
    go_wp2
    go_ret
    exact spec_l05Wide.post0
theorem spec_l05Wide.calls (p : Int) (r : List Int) (w : World) (h : spec_l05Wide.f p = some r) : Calls Tryd.prog 248 #[.int .i64 p] w fun e w' => ∃ v0_ : Value, e = .returned (v0_) ∧ Kd.R (Kd.int .i64) 2 w' w.heap.size (fun _ => True) v0_ r ∧ Below w.heap.size w w' := by
  unfold spec_l05Wide.f at h
  split at h
  · have := Option.some.inj h
    subst this
    show Calls _ _ _ _ (spec_l05Wide.Post _ w)
    unfold spec_l05Wide.g
    by_cases d1 : 9984 ≤ p ∧ p ≤ 10009
    · rw [if_pos d1]; exact spec_l05Wide.c1 p w d1.1 d1.2
    rw [if_neg d1]
    by_cases d2 : 10016 ≤ p ∧ p ≤ 10025
    · rw [if_pos d2]; exact spec_l05Wide.c2 p w d2.1 d2.2
    rw [if_neg d2]
    by_cases d3 : p = 8064 ∨ p = 160
    · rw [if_pos d3]
      rcases d3 with rfl | rfl
      · exact spec_l05Wide.c3 w
      · exact spec_l05Wide.c4 w
    rw [if_neg d3]
    by_cases d4 : p = 10032
    · rw [if_pos d4, d4]; exact spec_l05Wide.c5 w
    rw [if_neg d4]
    by_cases d5 : p = 10033
    · rw [if_pos d5, d5]; exact spec_l05Wide.c6 w
    rw [if_neg d5]
    by_cases d6 : p = 10034
    · rw [if_pos d6, d6]; exact spec_l05Wide.c7 w
    rw [if_neg d6]
    by_cases d7 : p = 10035
    · rw [if_pos d7, d7]; exact spec_l05Wide.c8 w
    rw [if_neg d7]
    exact spec_l05Wide.c9 p w (by omega) (by omega) (by omega) (by omega) (by omega)
  · cases h

/-! ### spec_l05Parts: function 223 -/
mutual
def spec_l05Parts.j0 : Nat → Int → Bool → Int → Bool → Option (List Int)
 | 0, _, _, _, _ => none
 | k + 1, x0, x1, x5, x9 => if x9 = true then (if (wrap64 (Int.tdiv x0 512)) = 16 then ((spec_l05Letter.f (wrap64 (Int.tdiv x5 8))).bind fun t133 => (some (([t133, wrap64 (4096 + (Int.tmod x5 8))] : List Int)))) else (if (wrap64 (Int.tdiv x0 512)) = 17 then ((spec_l05Letter.f (wrap64 (Int.tdiv x5 8))).bind fun t137 => (some (([t137, wrap64 (4112 + (Int.tmod x5 8))] : List Int)))) else (some (([wrap64 (8704 + x5), 4096] : List Int))))) else (if x0 ≥ 9728 then (spec_l05Parts.j1 k x0 x1 (decide (x0 ≤ 9753))) else (spec_l05Parts.j1 k x0 x1 false))
def spec_l05Parts.j1 : Nat → Int → Bool → Bool → Option (List Int)
 | 0, _, _, _ => none
 | k + 1, x0, x1, x43 => if x43 = true then (some (([wrap64 ((wrap64 (x0 - 9728)) + 65)] : List Int))) else (if x0 ≥ 12288 then (spec_l05Parts.j2 k x0 x1 (decide (x0 ≤ 23459))) else (spec_l05Parts.j2 k x0 x1 false))
def spec_l05Parts.j2 : Nat → Int → Bool → Bool → Option (List Int)
 | 0, _, _, _ => none
 | k + 1, x0, x1, x54 => if x54 = true then (if (Int.tmod (wrap64 (x0 - 12288)) 28) > 0 then (some (([wrap64 (x0 - (Int.tmod (wrap64 (x0 - 12288)) 28)), wrap64 (1856 + (Int.tmod (wrap64 (x0 - 12288)) 28))] : List Int))) else (some (([wrap64 (1792 + (wrap64 (Int.tdiv (wrap64 (x0 - 12288)) 588))), wrap64 (1824 + (Int.tmod (wrap64 (Int.tdiv (wrap64 (x0 - 12288)) 28)) 21))] : List Int)))) else (if x1 = true then ((spec_l05Wide.f x0).bind fun t153 => (some t153)) else (some (([] : List Int))))
end
def spec_l05Parts.f (k : Nat) (a0 : Int) (a1 : Bool) : Option (List Int) := if a0 ≥ 8192 then (if a0 < 9728 then (spec_l05Parts.j0 k a0 a1 (Int.tmod a0 512) (decide ((Int.tmod a0 512) < 416))) else (spec_l05Parts.j0 k a0 a1 (Int.tmod a0 512) false)) else (spec_l05Parts.j0 k a0 a1 (Int.tmod a0 512) false)
theorem spec_l05Parts.mono_l : ∀ k, (∀ y0 y1 y2 y3, LeO (spec_l05Parts.j0 k y0 y1 y2 y3) (spec_l05Parts.j0 (k + 1) y0 y1 y2 y3)) ∧ (∀ y0 y1 y2, LeO (spec_l05Parts.j1 k y0 y1 y2) (spec_l05Parts.j1 (k + 1) y0 y1 y2)) ∧ (∀ y0 y1 y2, LeO (spec_l05Parts.j2 k y0 y1 y2) (spec_l05Parts.j2 (k + 1) y0 y1 y2))
 | 0 => ⟨fun _ _ _ _ r h => by simp [spec_l05Parts.j0] at h, fun _ _ _ r h => by simp [spec_l05Parts.j1] at h, fun _ _ _ r h => by simp [spec_l05Parts.j2] at h⟩
 | k + 1 => by
  obtain ⟨ih0, ih1, ih2⟩ := spec_l05Parts.mono_l k; refine ⟨?_, ?_, ?_⟩
  ·intro y0 y1 y2 y3
   unfold spec_l05Parts.j0
   repeat' first
   | (with_reducible exact ih0 _ _ _ _)
   | (with_reducible exact ih1 _ _ _)
   | (with_reducible exact ih2 _ _ _)
   | (with_reducible exact LeO.refl _)
   | (with_reducible exact LeO.none _)
   | (with_reducible refine LeO.ite ?_ ?_)
   | (with_reducible refine LeO.bind ?_ (fun _ => ?_))
   | exact ih0 _ _ _ _
   | exact ih1 _ _ _
   | exact ih2 _ _ _
   | exact LeO.none _
   | refine LeO.ite ?_ ?_
   | refine LeO.bind ?_ (fun _ => ?_)
  ·intro y0 y1 y2
   unfold spec_l05Parts.j1
   repeat' first
   | (with_reducible exact ih0 _ _ _ _)
   | (with_reducible exact ih1 _ _ _)
   | (with_reducible exact ih2 _ _ _)
   | (with_reducible exact LeO.refl _)
   | (with_reducible exact LeO.none _)
   | (with_reducible refine LeO.ite ?_ ?_)
   | (with_reducible refine LeO.bind ?_ (fun _ => ?_))
   | exact ih0 _ _ _ _
   | exact ih1 _ _ _
   | exact ih2 _ _ _
   | exact LeO.none _
   | refine LeO.ite ?_ ?_
   | refine LeO.bind ?_ (fun _ => ?_)
  intro y0 y1 y2
  unfold spec_l05Parts.j2
  repeat' first
  | (with_reducible exact ih0 _ _ _ _)
  | (with_reducible exact ih1 _ _ _)
  | (with_reducible exact ih2 _ _ _)
  | (with_reducible exact LeO.refl _)
  | (with_reducible exact LeO.none _)
  | (with_reducible refine LeO.ite ?_ ?_)
  | (with_reducible refine LeO.bind ?_ (fun _ => ?_))
  | exact ih0 _ _ _ _
  | exact ih1 _ _ _
  | exact ih2 _ _ _
  | exact LeO.none _
  | refine LeO.ite ?_ ?_
  | refine LeO.bind ?_ (fun _ => ?_)
theorem spec_l05Parts.mono : ∀ a0 a1 k, LeO (spec_l05Parts.f k a0 a1) (spec_l05Parts.f (k + 1) a0 a1) := by
 intro a0 a1 k
 obtain ⟨ih0, ih1, ih2⟩ := spec_l05Parts.mono_l k
 unfold spec_l05Parts.f
 repeat' first
   | (with_reducible exact ih0 _ _ _ _)
   | (with_reducible exact ih1 _ _ _)
   | (with_reducible exact ih2 _ _ _)
   | (with_reducible exact LeO.refl _)
   | (with_reducible exact LeO.none _)
   | (with_reducible refine LeO.ite ?_ ?_)
   | (with_reducible refine LeO.bind ?_ (fun _ => ?_))
   | exact ih0 _ _ _ _
   | exact ih1 _ _ _
   | exact ih2 _ _ _
   | exact LeO.none _
   | refine LeO.ite ?_ ?_
   | refine LeO.bind ?_ (fun _ => ?_)
set_option maxHeartbeats 8000000 in
set_option maxRecDepth 100000 in
theorem spec_l05Parts.calls (k : Nat) (a0 : Int) (a1 : Bool) (r : List Int) (w : World) (h : spec_l05Parts.f k a0 a1 = some r) :
  Calls Tryd.prog 223 #[.int .i64 a0, .bool a1] w fun e w' => ∃ v0_ : Value, e = .returned (v0_) ∧ Kd.R (Kd.int .i64) 2 w' w.heap.size (fun _ => True) v0_ r ∧ Below w.heap.size w w' := by
 have HB := Aside0.mk (Below.refl w.heap.size w)
 have H : (if a0 ≥ 8192 then (if a0 < 9728 then (spec_l05Parts.j0 k a0 a1 (Int.tmod a0 512) (decide ((Int.tmod a0 512) < 416))) else (spec_l05Parts.j0 k a0 a1 (Int.tmod a0 512) false)) else (spec_l05Parts.j0 k a0 a1 (Int.tmod a0 512) false)) = some r := h
 clear h
 have HC3 := Aside0.mk H
 clear H
 go_enter Tryd.func223, Tryd.ntmps223
 go_upto_region 2 with (fail)
 go_cut [9] (fun v9 wc => ∃ (kq : Nat) (x9_2 : Bool), v9 = .bool x9_2 ∧ Aside0 (spec_l05Parts.j0 kq a0 a1 (Int.tmod a0 512) x9_2 = some r) ∧ Aside0 (kq ≤ k) ∧ Aside0 (Below w.heap.size w wc))
 case first =>
  have H := HC3.out; clear HC3
  by_cases c4 : a0 ≥ 8192
  ·rw [if_pos c4] at H
   have c4b0 : decide (8192 ≤ a0) = true := decide_eq_true c4; clear c4
   (first | rw [c4b0] | (simp only [i64_w, i32_w]; rw [c4b0]) | skip)
   by_cases c5 : a0 < 9728
   ·rw [if_pos c5] at H
    have c5b0 : decide (a0 < 9728) = true := decide_eq_true c5; clear c5; have H' := Aside0.mk H; clear H
    go_wp2
    go_meet
    case rel => exact ⟨_, (decide ((Int.tmod a0 512) < 416)), (by first | rfl | (simp; done) | (simp [*]; done)), H', ⟨by first | omega | exact Nat.le_refl _⟩, ⟨belowA⟩⟩
   rw [if_neg c5] at H; have c5b0 : decide (a0 < 9728) = false := decide_eq_false c5; clear c5; have H' := Aside0.mk H; clear H
   go_wp2
   go_meet
   case rel => exact ⟨_, (false), (by first | rfl | (simp; done) | (simp [*]; done)), H', ⟨by first | omega | exact Nat.le_refl _⟩, ⟨belowA⟩⟩
  rw [if_neg c4] at H; have c4b0 : decide (8192 ≤ a0) = false := decide_eq_false c4; clear c4
  (first | rw [c4b0] | (simp only [i64_w, i32_w]; rw [c4b0]) | skip)
  have H' := Aside0.mk H; clear H
  go_wp2
  go_meet
  case rel => exact ⟨_, (false), (by first | rfl | (simp; done) | (simp [*]; done)), H', ⟨by first | omega | exact Nat.le_refl _⟩, ⟨belowA⟩⟩
 case rest =>
  clear HC3
  try clear c2; try clear p2; try clear c4; try clear c4b0; try clear c5; try clear c5b0
  obtain ⟨kq, x9_2, rfl, HA, HJ2, HB⟩ := hcut
  cases kq with
  | zero => exact absurd HA.out (by simp [spec_l05Parts.j0])
  | succ kj2 =>
   have H := HA.out; clear HA; simp only [spec_l05Parts.j0] at H
   by_cases c6 : x9_2 = true
   ·subst c6
    have H1 : (if (wrap64 (Int.tdiv a0 512)) = 16 then ((spec_l05Letter.f (wrap64 (Int.tdiv (Int.tmod a0 512) 8))).bind fun t133 => (some (([t133, wrap64 (4096 + (Int.tmod (Int.tmod a0 512) 8))] : List Int)))) else (if (wrap64 (Int.tdiv a0 512)) = 17 then ((spec_l05Letter.f (wrap64 (Int.tdiv (Int.tmod a0 512) 8))).bind fun t137 => (some (([t137, wrap64 (4112 + (Int.tmod (Int.tmod a0 512) 8))] : List Int)))) else (some (([wrap64 (8704 + (Int.tmod a0 512)), 4096] : List Int))))) = some r := by rw [if_pos rfl] at H; exact H
    clear H; have H := H1; clear H1
    by_cases c7 : (wrap64 (Int.tdiv a0 512)) = 16
    ·rw [if_pos c7] at H
     have c7b0 : ((wrap64 (Int.tdiv a0 512)) == 16) = true := beq_iff_eq.mpr c7; have c7b1 : ((wrap64 (Int.tdiv a0 512)) != 16) = false := bne_eq_false_iff_eq.mpr c7; clear c7; replace H := Option.bind_eq_some_iff.mp H; obtain ⟨t133, A80, H⟩ := H
     try dsimp only at H
     have A8 := Aside0.mk A80; clear A80; obtain ⟨y134, hy134⟩ : ∃ y_ : List Int, y_ = (([t133, wrap64 (4096 + (Int.tmod (Int.tmod a0 512) 8))] : List Int)) := ⟨_, rfl⟩
     replace H : (some y134) = some r := by first | (rw [hy134]; with_reducible exact H) | (have H2_ := (Option.bind_some _ _).symm.trans H; rw [hy134]; with_reducible exact H2_) | (have H2_ := (Option.bind_some _ _).symm.trans H; with_reducible exact H2_) | with_reducible exact H | (rw [hy134]; exact H) | exact H
     have Ny134 := Aside0.mk hy134; clear hy134; obtain rfl := Option.some.inj H
     go_wp2_with (first | (go_at_call 247; (with_reducible refine (spec_l05Letter.calls (wrap64 (Int.tdiv (Int.tmod a0 512) 8)) t133 _ A8.out).mono ?_); rintro e w' ⟨rfl, ⟨nd, rfl⟩⟩) | ((with_reducible refine gate_dst (N := 30) rfl ?_); refine Kd.R_lit (Kd.int .i64) _ 2 ?hg (N := 30) ?hd (xs := ([t133, wrap64 (4096 + (Int.tmod (Int.tmod a0 512) 8))] : List Int)) (inner := [.int .i64 t133, .int .i64 (wrap64 (4096 + (Int.tmod (Int.tmod a0 512) 8)))]) (ok := fun _ => True) (okp := fun _ => True) ?hr ?hp (fun _ hk => hk) trivial (Below.refl _ _) (Nat.le_refl _) (by simp) ?_; (case hd => rfl); (case hg => rfl); (case hr => first | (go_simp; done) | (go_simp; rfl)); (case hp => exact (Reps.one (show Kd.M (Kd.int .i64) _ _ _ t133 [.int .i64 t133] from rfl) (Reps.one (show Kd.M (Kd.int .i64) _ _ _ (wrap64 (4096 + (Int.tmod (Int.tmod a0 512) 8))) [.int .i64 (wrap64 (4096 + (Int.tmod (Int.tmod a0 512) 8)))] from rfl) (Reps.none _ _)))); intro v135 w9 ho10 hb hg_ hnew_; clear hg_ hnew_; (first | rw [← Ny134.out] at ho10 | (simp only [Int.reduceToNat] at ho10; rw [← Ny134.out] at ho10)); have n0_ := Aside0.mk (Kd.R_lower ho10 (below_size (belowA))); have n1_ := Aside0.mk (below_step (belowA) hb); have HO136 := n0_; replace HB := n1_; clear n0_ n1_; clear hb ho10))
     go_ret
     exact ⟨_, by first | rfl | (simp [errW_none, errW_some] <;> rfl) | (simp [*, errW_none, errW_some] <;> rfl), by (with_reducible repeat (first | apply Kd.R_alloc | apply Kd.R_drewN | apply Kd.R_drew)); exact HO136.out, belowA⟩
    rw [if_neg c7] at H; have c7b0 : ((wrap64 (Int.tdiv a0 512)) == 16) = false := beq_eq_false_iff_ne.mpr c7; have c7b1 : ((wrap64 (Int.tdiv a0 512)) != 16) = true := bne_iff_ne.mpr c7
    by_cases c11 : (wrap64 (Int.tdiv a0 512)) = 17
    ·rw [if_pos c11] at H
     have c11b0 : ((wrap64 (Int.tdiv a0 512)) == 17) = true := beq_iff_eq.mpr c11; have c11b1 : ((wrap64 (Int.tdiv a0 512)) != 17) = false := bne_eq_false_iff_eq.mpr c11; clear c11; replace H := Option.bind_eq_some_iff.mp H; obtain ⟨t137, A120, H⟩ := H
     try dsimp only at H
     have A12 := Aside0.mk A120; clear A120; obtain ⟨y138, hy138⟩ : ∃ y_ : List Int, y_ = (([t137, wrap64 (4112 + (Int.tmod (Int.tmod a0 512) 8))] : List Int)) := ⟨_, rfl⟩
     replace H : (some y138) = some r := by first | (rw [hy138]; with_reducible exact H) | (have H2_ := (Option.bind_some _ _).symm.trans H; rw [hy138]; with_reducible exact H2_) | (have H2_ := (Option.bind_some _ _).symm.trans H; with_reducible exact H2_) | with_reducible exact H | (rw [hy138]; exact H) | exact H
     have Ny138 := Aside0.mk hy138; clear hy138; obtain rfl := Option.some.inj H
     go_wp2_with (first | (go_at_call 247; (with_reducible refine (spec_l05Letter.calls (wrap64 (Int.tdiv (Int.tmod a0 512) 8)) t137 _ A12.out).mono ?_); rintro e w' ⟨rfl, ⟨nd, rfl⟩⟩) | ((with_reducible refine gate_dst (N := 39) rfl ?_); refine Kd.R_lit (Kd.int .i64) _ 2 ?hg (N := 39) ?hd (xs := ([t137, wrap64 (4112 + (Int.tmod (Int.tmod a0 512) 8))] : List Int)) (inner := [.int .i64 t137, .int .i64 (wrap64 (4112 + (Int.tmod (Int.tmod a0 512) 8)))]) (ok := fun _ => True) (okp := fun _ => True) ?hr ?hp (fun _ hk => hk) trivial (Below.refl _ _) (Nat.le_refl _) (by simp) ?_; (case hd => rfl); (case hg => rfl); (case hr => first | (go_simp; done) | (go_simp; rfl)); (case hp => exact (Reps.one (show Kd.M (Kd.int .i64) _ _ _ t137 [.int .i64 t137] from rfl) (Reps.one (show Kd.M (Kd.int .i64) _ _ _ (wrap64 (4112 + (Int.tmod (Int.tmod a0 512) 8))) [.int .i64 (wrap64 (4112 + (Int.tmod (Int.tmod a0 512) 8)))] from rfl) (Reps.none _ _)))); intro v139 w13 ho14 hb hg_ hnew_; clear hg_ hnew_; (first | rw [← Ny138.out] at ho14 | (simp only [Int.reduceToNat] at ho14; rw [← Ny138.out] at ho14)); have n0_ := Aside0.mk (Kd.R_lower ho14 (below_size (belowA))); have n1_ := Aside0.mk (below_step (belowA) hb); have HO140 := n0_; replace HB := n1_; clear n0_ n1_; clear hb ho14))
     go_ret
     exact ⟨_, by first | rfl | (simp [errW_none, errW_some] <;> rfl) | (simp [*, errW_none, errW_some] <;> rfl), by (with_reducible repeat (first | apply Kd.R_alloc | apply Kd.R_drewN | apply Kd.R_drew)); exact HO140.out, belowA⟩
    rw [if_neg c11] at H; have c11b0 : ((wrap64 (Int.tdiv a0 512)) == 17) = false := beq_eq_false_iff_ne.mpr c11; have c11b1 : ((wrap64 (Int.tdiv a0 512)) != 17) = true := bne_iff_ne.mpr c11; obtain ⟨y141, hy141⟩ : ∃ y_ : List Int, y_ = (([wrap64 (8704 + (Int.tmod a0 512)), 4096] : List Int)) := ⟨_, rfl⟩
    replace H : (some y141) = some r := by first | (rw [hy141]; with_reducible exact H) | (have H2_ := (Option.bind_some _ _).symm.trans H; rw [hy141]; with_reducible exact H2_) | (have H2_ := (Option.bind_some _ _).symm.trans H; with_reducible exact H2_) | with_reducible exact H | (rw [hy141]; exact H) | exact H
    have Ny141 := Aside0.mk hy141; clear hy141; obtain rfl := Option.some.inj H
    go_wp2_with (first | ((with_reducible refine gate_dst (N := 42) rfl ?_); refine Kd.R_lit (Kd.int .i64) _ 2 ?hg (N := 42) ?hd (xs := ([wrap64 (8704 + (Int.tmod a0 512)), 4096] : List Int)) (inner := [.int .i64 (wrap64 (8704 + (Int.tmod a0 512))), .int .i64 4096]) (ok := fun _ => True) (okp := fun _ => True) ?hr ?hp (fun _ hk => hk) trivial (Below.refl _ _) (Nat.le_refl _) (by simp) ?_; (case hd => rfl); (case hg => rfl); (case hr => first | (go_simp; done) | (go_simp; rfl)); (case hp => exact (Reps.one (show Kd.M (Kd.int .i64) _ _ _ (wrap64 (8704 + (Int.tmod a0 512))) [.int .i64 (wrap64 (8704 + (Int.tmod a0 512)))] from rfl) (Reps.one (show Kd.M (Kd.int .i64) _ _ _ 4096 [.int .i64 4096] from rfl) (Reps.none _ _)))); intro v142 w15 ho16 hb hg_ hnew_; clear hg_ hnew_; (first | rw [← Ny141.out] at ho16 | (simp only [Int.reduceToNat] at ho16; rw [← Ny141.out] at ho16)); have n0_ := Aside0.mk (Kd.R_lower ho16 (below_size (belowA))); have n1_ := Aside0.mk (below_step (belowA) hb); have HO143 := n0_; replace HB := n1_; clear n0_ n1_; clear hb ho16))
    go_ret
    exact ⟨_, by first | rfl | (simp [errW_none, errW_some] <;> rfl) | (simp [*, errW_none, errW_some] <;> rfl), by (with_reducible repeat (first | apply Kd.R_alloc | apply Kd.R_drewN | apply Kd.R_drew)); exact HO143.out, belowA⟩
   replace c6 := Bool.eq_false_iff.mpr c6; subst c6
   have H1 : (if a0 ≥ 9728 then (spec_l05Parts.j1 kj2 a0 a1 (decide (a0 ≤ 9753))) else (spec_l05Parts.j1 kj2 a0 a1 false)) = some r := by rw [if_neg (show ¬ (false = true) by decide)] at H; exact H
   clear H; have H := H1; clear H1; have HC17 := Aside0.mk H; clear H
   go_upto_region 9 with (fail)
   go_cut [43] (fun v43 wc => ∃ (kq : Nat) (x43_16 : Bool), v43 = .bool x43_16 ∧ Aside0 (spec_l05Parts.j1 kq a0 a1 x43_16 = some r) ∧ Aside0 (kq ≤ kj2) ∧ Aside0 (Below w.heap.size w wc))
   case first =>
    have H := HC17.out; clear HC17
    by_cases c18 : a0 ≥ 9728
    ·rw [if_pos c18] at H
     have c18b0 : decide (9728 ≤ a0) = true := decide_eq_true c18; clear c18
     (first | rw [c18b0] | (simp only [i64_w, i32_w]; rw [c18b0]) | skip)
     have H' := Aside0.mk H; clear H
     go_wp2
     go_meet
     case rel => exact ⟨_, (decide (a0 ≤ 9753)), (by first | rfl | (simp; done) | (simp [*]; done)), H', ⟨by have := HJ2.out; first | omega | exact Nat.le_refl _⟩, ⟨belowA⟩⟩
    rw [if_neg c18] at H; have c18b0 : decide (9728 ≤ a0) = false := decide_eq_false c18; clear c18
    (first | rw [c18b0] | (simp only [i64_w, i32_w]; rw [c18b0]) | skip)
    have H' := Aside0.mk H; clear H
    go_wp2
    go_meet
    case rel => exact ⟨_, (false), (by first | rfl | (simp; done) | (simp [*]; done)), H', ⟨by have := HJ2.out; first | omega | exact Nat.le_refl _⟩, ⟨belowA⟩⟩
   case rest =>
    clear HC17
    try clear c1; try clear c2; try clear p2; try clear c4; try clear c4b0; try clear c5; try clear c5b0; try clear c6; try clear p6; try clear c7; try clear c7b0; try clear c7b1; try clear c11; try clear c11b0; try clear c11b1; try clear c18; try clear c18b0; try clear p2
    obtain ⟨kq, x43_16, rfl, HA, HJ16, HB⟩ := hcut
    cases kq with
    | zero => exact absurd HA.out (by simp [spec_l05Parts.j1])
    | succ kj16 =>
     have H := HA.out; clear HA; simp only [spec_l05Parts.j1] at H
     by_cases c19 : x43_16 = true
     ·subst c19
      have H1 : (some (([wrap64 ((wrap64 (a0 - 9728)) + 65)] : List Int))) = some r := by rw [if_pos rfl] at H; exact H
      clear H; have H := H1; clear H1; obtain ⟨y144, hy144⟩ : ∃ y_ : List Int, y_ = (([wrap64 ((wrap64 (a0 - 9728)) + 65)] : List Int)) := ⟨_, rfl⟩
      replace H : (some y144) = some r := by first | (rw [hy144]; with_reducible exact H) | (have H2_ := (Option.bind_some _ _).symm.trans H; rw [hy144]; with_reducible exact H2_) | (have H2_ := (Option.bind_some _ _).symm.trans H; with_reducible exact H2_) | with_reducible exact H | (rw [hy144]; exact H) | exact H
      have Ny144 := Aside0.mk hy144; clear hy144; obtain rfl := Option.some.inj H
      go_wp2_with (first | ((with_reducible refine gate_dst (N := 53) rfl ?_); refine Kd.R_lit (Kd.int .i64) _ 2 ?hg (N := 53) ?hd (xs := ([wrap64 ((wrap64 (a0 - 9728)) + 65)] : List Int)) (inner := [.int .i64 (wrap64 ((wrap64 (a0 - 9728)) + 65))]) (ok := fun _ => True) (okp := fun _ => True) ?hr ?hp (fun _ hk => hk) trivial (Below.refl _ _) (Nat.le_refl _) (by simp) ?_; (case hd => rfl); (case hg => rfl); (case hr => first | (go_simp; done) | (go_simp; rfl)); (case hp => exact (Reps.one (show Kd.M (Kd.int .i64) _ _ _ (wrap64 ((wrap64 (a0 - 9728)) + 65)) [.int .i64 (wrap64 ((wrap64 (a0 - 9728)) + 65))] from rfl) (Reps.none _ _))); intro v145 w20 ho21 hb hg_ hnew_; clear hg_ hnew_; (first | rw [← Ny144.out] at ho21 | (simp only [Int.reduceToNat] at ho21; rw [← Ny144.out] at ho21)); have n0_ := Aside0.mk (Kd.R_lower ho21 (below_size (belowA))); have n1_ := Aside0.mk (below_step (belowA) hb); have HO146 := n0_; replace HB := n1_; clear n0_ n1_; clear hb ho21))
      go_ret
      exact ⟨_, by first | rfl | (simp [errW_none, errW_some] <;> rfl) | (simp [*, errW_none, errW_some] <;> rfl), by (with_reducible repeat (first | apply Kd.R_alloc | apply Kd.R_drewN | apply Kd.R_drew)); exact HO146.out, belowA⟩
     replace c19 := Bool.eq_false_iff.mpr c19; subst c19
     have H1 : (if a0 ≥ 12288 then (spec_l05Parts.j2 kj16 a0 a1 (decide (a0 ≤ 23459))) else (spec_l05Parts.j2 kj16 a0 a1 false)) = some r := by rw [if_neg (show ¬ (false = true) by decide)] at H; exact H
     clear H; have H := H1; clear H1; have HC22 := Aside0.mk H; clear H
     go_upto_region 11 with (fail)
     go_cut [54] (fun v54 wc => ∃ (kq : Nat) (x54_21 : Bool), v54 = .bool x54_21 ∧ Aside0 (spec_l05Parts.j2 kq a0 a1 x54_21 = some r) ∧ Aside0 (kq ≤ kj16) ∧ Aside0 (Below w.heap.size w wc))
     case first =>
      have H := HC22.out; clear HC22
      by_cases c23 : a0 ≥ 12288
      ·rw [if_pos c23] at H
       have c23b0 : decide (12288 ≤ a0) = true := decide_eq_true c23; clear c23
       (first | rw [c23b0] | (simp only [i64_w, i32_w]; rw [c23b0]) | skip)
       have H' := Aside0.mk H; clear H
       go_wp2
       go_meet
       case rel => exact ⟨_, (decide (a0 ≤ 23459)), (by first | rfl | (simp; done) | (simp [*]; done)), H', ⟨by have := HJ2.out; have := HJ16.out; first | omega | exact Nat.le_refl _⟩, ⟨belowA⟩⟩
      rw [if_neg c23] at H; have c23b0 : decide (12288 ≤ a0) = false := decide_eq_false c23; clear c23
      (first | rw [c23b0] | (simp only [i64_w, i32_w]; rw [c23b0]) | skip)
      have H' := Aside0.mk H; clear H
      go_wp2
      go_meet
      case rel => exact ⟨_, (false), (by first | rfl | (simp; done) | (simp [*]; done)), H', ⟨by have := HJ2.out; have := HJ16.out; first | omega | exact Nat.le_refl _⟩, ⟨belowA⟩⟩
     case rest =>
      clear HC22
      try clear c1; try clear c2; try clear p2; try clear c4; try clear c4b0; try clear c5; try clear c5b0; try clear c6; try clear p6; try clear c7; try clear c7b0; try clear c7b1; try clear c11; try clear c11b0; try clear c11b1; try clear c18; try clear c18b0; try clear c19; try clear c22; try clear c23; try clear c23b0; try clear p2; try clear p6
      obtain ⟨kq, x54_21, rfl, HA, HJ21, HB⟩ := hcut
      cases kq with
      | zero => exact absurd HA.out (by simp [spec_l05Parts.j2])
      | succ kj21 =>
       have H := HA.out; clear HA; simp only [spec_l05Parts.j2] at H
       by_cases c24 : x54_21 = true
       ·subst c24
        have H1 : (if (Int.tmod (wrap64 (a0 - 12288)) 28) > 0 then (some (([wrap64 (a0 - (Int.tmod (wrap64 (a0 - 12288)) 28)), wrap64 (1856 + (Int.tmod (wrap64 (a0 - 12288)) 28))] : List Int))) else (some (([wrap64 (1792 + (wrap64 (Int.tdiv (wrap64 (a0 - 12288)) 588))), wrap64 (1824 + (Int.tmod (wrap64 (Int.tdiv (wrap64 (a0 - 12288)) 28)) 21))] : List Int)))) = some r := by rw [if_pos rfl] at H; exact H
        clear H; have H := H1; clear H1
        by_cases c25 : (Int.tmod (wrap64 (a0 - 12288)) 28) > 0
        ·rw [if_pos c25] at H
         have c25b0 : decide (0 < (Int.tmod (wrap64 (a0 - 12288)) 28)) = true := decide_eq_true c25; clear c25; obtain ⟨y147, hy147⟩ : ∃ y_ : List Int, y_ = (([wrap64 (a0 - (Int.tmod (wrap64 (a0 - 12288)) 28)), wrap64 (1856 + (Int.tmod (wrap64 (a0 - 12288)) 28))] : List Int)) := ⟨_, rfl⟩
         replace H : (some y147) = some r := by first | (rw [hy147]; with_reducible exact H) | (have H2_ := (Option.bind_some _ _).symm.trans H; rw [hy147]; with_reducible exact H2_) | (have H2_ := (Option.bind_some _ _).symm.trans H; with_reducible exact H2_) | with_reducible exact H | (rw [hy147]; exact H) | exact H
         have Ny147 := Aside0.mk hy147; clear hy147; obtain rfl := Option.some.inj H
         go_wp2_with (first | ((with_reducible refine gate_dst (N := 73) rfl ?_); refine Kd.R_lit (Kd.int .i64) _ 2 ?hg (N := 73) ?hd (xs := ([wrap64 (a0 - (Int.tmod (wrap64 (a0 - 12288)) 28)), wrap64 (1856 + (Int.tmod (wrap64 (a0 - 12288)) 28))] : List Int)) (inner := [.int .i64 (wrap64 (a0 - (Int.tmod (wrap64 (a0 - 12288)) 28))), .int .i64 (wrap64 (1856 + (Int.tmod (wrap64 (a0 - 12288)) 28)))]) (ok := fun _ => True) (okp := fun _ => True) ?hr ?hp (fun _ hk => hk) trivial (Below.refl _ _) (Nat.le_refl _) (by simp) ?_; (case hd => rfl); (case hg => rfl); (case hr => first | (go_simp; done) | (go_simp; rfl)); (case hp => exact (Reps.one (show Kd.M (Kd.int .i64) _ _ _ (wrap64 (a0 - (Int.tmod (wrap64 (a0 - 12288)) 28))) [.int .i64 (wrap64 (a0 - (Int.tmod (wrap64 (a0 - 12288)) 28)))] from rfl) (Reps.one (show Kd.M (Kd.int .i64) _ _ _ (wrap64 (1856 + (Int.tmod (wrap64 (a0 - 12288)) 28))) [.int .i64 (wrap64 (1856 + (Int.tmod (wrap64 (a0 - 12288)) 28)))] from rfl) (Reps.none _ _)))); intro v148 w26 ho27 hb hg_ hnew_; clear hg_ hnew_; (first | rw [← Ny147.out] at ho27 | (simp only [Int.reduceToNat] at ho27; rw [← Ny147.out] at ho27)); have n0_ := Aside0.mk (Kd.R_lower ho27 (below_size (belowA))); have n1_ := Aside0.mk (below_step (belowA) hb); have HO149 := n0_; replace HB := n1_; clear n0_ n1_; clear hb ho27))
         go_ret
         exact ⟨_, by first | rfl | (simp [errW_none, errW_some] <;> rfl) | (simp [*, errW_none, errW_some] <;> rfl), by (with_reducible repeat (first | apply Kd.R_alloc | apply Kd.R_drewN | apply Kd.R_drew)); exact HO149.out, belowA⟩
        rw [if_neg c25] at H; have c25b0 : decide (0 < (Int.tmod (wrap64 (a0 - 12288)) 28)) = false := decide_eq_false c25; clear c25; obtain ⟨y150, hy150⟩ : ∃ y_ : List Int, y_ = (([wrap64 (1792 + (wrap64 (Int.tdiv (wrap64 (a0 - 12288)) 588))), wrap64 (1824 + (Int.tmod (wrap64 (Int.tdiv (wrap64 (a0 - 12288)) 28)) 21))] : List Int)) := ⟨_, rfl⟩
        replace H : (some y150) = some r := by first | (rw [hy150]; with_reducible exact H) | (have H2_ := (Option.bind_some _ _).symm.trans H; rw [hy150]; with_reducible exact H2_) | (have H2_ := (Option.bind_some _ _).symm.trans H; with_reducible exact H2_) | with_reducible exact H | (rw [hy150]; exact H) | exact H
        have Ny150 := Aside0.mk hy150; clear hy150; obtain rfl := Option.some.inj H
        go_wp2_with (first | ((with_reducible refine gate_dst (N := 81) rfl ?_); refine Kd.R_lit (Kd.int .i64) _ 2 ?hg (N := 81) ?hd (xs := ([wrap64 (1792 + (wrap64 (Int.tdiv (wrap64 (a0 - 12288)) 588))), wrap64 (1824 + (Int.tmod (wrap64 (Int.tdiv (wrap64 (a0 - 12288)) 28)) 21))] : List Int)) (inner := [.int .i64 (wrap64 (1792 + (wrap64 (Int.tdiv (wrap64 (a0 - 12288)) 588)))), .int .i64 (wrap64 (1824 + (Int.tmod (wrap64 (Int.tdiv (wrap64 (a0 - 12288)) 28)) 21)))]) (ok := fun _ => True) (okp := fun _ => True) ?hr ?hp (fun _ hk => hk) trivial (Below.refl _ _) (Nat.le_refl _) (by simp) ?_; (case hd => rfl); (case hg => rfl); (case hr => first | (go_simp; done) | (go_simp; rfl)); (case hp => exact (Reps.one (show Kd.M (Kd.int .i64) _ _ _ (wrap64 (1792 + (wrap64 (Int.tdiv (wrap64 (a0 - 12288)) 588)))) [.int .i64 (wrap64 (1792 + (wrap64 (Int.tdiv (wrap64 (a0 - 12288)) 588))))] from rfl) (Reps.one (show Kd.M (Kd.int .i64) _ _ _ (wrap64 (1824 + (Int.tmod (wrap64 (Int.tdiv (wrap64 (a0 - 12288)) 28)) 21))) [.int .i64 (wrap64 (1824 + (Int.tmod (wrap64 (Int.tdiv (wrap64 (a0 - 12288)) 28)) 21)))] from rfl) (Reps.none _ _)))); intro v151 w28 ho29 hb hg_ hnew_; clear hg_ hnew_; (first | rw [← Ny150.out] at ho29 | (simp only [Int.reduceToNat] at ho29; rw [← Ny150.out] at ho29)); have n0_ := Aside0.mk (Kd.R_lower ho29 (below_size (belowA))); have n1_ := Aside0.mk (below_step (belowA) hb); have HO152 := n0_; replace HB := n1_; clear n0_ n1_; clear hb ho29))
        go_ret
        exact ⟨_, by first | rfl | (simp [errW_none, errW_some] <;> rfl) | (simp [*, errW_none, errW_some] <;> rfl), by (with_reducible repeat (first | apply Kd.R_alloc | apply Kd.R_drewN | apply Kd.R_drew)); exact HO152.out, belowA⟩
       replace c24 := Bool.eq_false_iff.mpr c24; subst c24
       have H1 : (if a1 = true then ((spec_l05Wide.f a0).bind fun t153 => (some t153)) else (some (([] : List Int)))) = some r := by rw [if_neg (show ¬ (false = true) by decide)] at H; exact H
       clear H; have H := H1; clear H1
       by_cases c30 : a1 = true
       ·subst c30
        have H1 : ((spec_l05Wide.f a0).bind fun t153 => (some t153)) = some r := by rw [if_pos rfl] at H; exact H
        clear H; have H := H1; clear H1; replace H := Option.bind_eq_some_iff.mp H; obtain ⟨t153, A310, H⟩ := H
        try dsimp only at H
        have A31 := Aside0.mk A310; clear A310; obtain rfl := Option.some.inj H
        go_wp2_with (first | (go_at_call 248; (with_reducible refine (spec_l05Wide.calls a0 t153 _ A31.out).mono ?_); rintro e w32 ⟨v154, rfl, ho0, hb⟩; have n0_ := Aside0.mk (Kd.R_lower ho0 (below_size (belowA))); have n1_ := Aside0.mk (below_step (belowA) hb); have HO155 := n0_; replace HB := n1_; clear n0_ n1_; clear hb; (try clear ho0)))
        go_ret
        exact ⟨_, by first | rfl | (simp [errW_none, errW_some] <;> rfl) | (simp [*, errW_none, errW_some] <;> rfl), by (with_reducible repeat (first | apply Kd.R_alloc | apply Kd.R_drewN | apply Kd.R_drew)); exact HO155.out, belowA⟩
       replace c30 := Bool.eq_false_iff.mpr c30; subst c30
       have H1 : (some (([] : List Int))) = some r := by rw [if_neg (show ¬ (false = true) by decide)] at H; exact H
       clear H; have H := H1; clear H1; obtain ⟨y156, hy156⟩ : ∃ y_ : List Int, y_ = (([] : List Int)) := ⟨_, rfl⟩
       replace H : (some y156) = some r := by first | (rw [hy156]; with_reducible exact H) | (have H2_ := (Option.bind_some _ _).symm.trans H; rw [hy156]; with_reducible exact H2_) | (have H2_ := (Option.bind_some _ _).symm.trans H; with_reducible exact H2_) | with_reducible exact H | (rw [hy156]; exact H) | exact H
       have Ny156 := Aside0.mk hy156; clear hy156; obtain rfl := Option.some.inj H
       go_wp2_with (first | ((with_reducible refine gate_dst (N := 86) rfl ?_); refine Kd.R_lit (Kd.int .i64) _ 2 ?hg (N := 86) ?hd (xs := ([] : List Int)) (inner := []) (ok := fun _ => True) (okp := fun _ => True) ?hr ?hp (fun _ hk => hk) trivial (Below.refl _ _) (Nat.le_refl _) (by simp) ?_; (case hd => rfl); (case hg => rfl); (case hr => first | (go_simp; done) | (go_simp; rfl)); (case hp => exact (Reps.none _ _)); intro v157 w33 ho34 hb hg_ hnew_; clear hg_ hnew_; (first | rw [← Ny156.out] at ho34 | (simp only [Int.reduceToNat] at ho34; rw [← Ny156.out] at ho34)); have n0_ := Aside0.mk (Kd.R_lower ho34 (below_size (belowA))); have n1_ := Aside0.mk (below_step (belowA) hb); have HO158 := n0_; replace HB := n1_; clear n0_ n1_; clear hb ho34))
       go_ret
       exact ⟨_, by first | rfl | (simp [errW_none, errW_some] <;> rfl) | (simp [*, errW_none, errW_some] <;> rfl), by (with_reducible repeat (first | apply Kd.R_alloc | apply Kd.R_drewN | apply Kd.R_drew)); exact HO158.out, belowA⟩

def W_spec_l05Parts.f (a0 : Int) (a1 : Bool) : Option (List Int) := if 0 ≤ a0 ∧ a0 ≤ 1114111 then some (YtiabgmddnddeiaaDoorNrm.prt a1 a0) else none
theorem spec_l05Parts.wide_ (p : Int) (h0 : 0 ≤ p) (h1 : p ≤ 1114111) (c1 : ¬ (8192 ≤ p ∧ p ≤ 9631 ∧ p % 512 < 416)) (c2 : ¬ (9728 ≤ p ∧ p ≤ 9753)) (c3 : ¬ (12288 ≤ p ∧ p ≤ 23459)) : spec_l05Wide.f p = some (YtiabgmddnddeiaaDoorNrm.prt true p) := by
  unfold YtiabgmddnddeiaaDoorNrm.prt spec_l05Wide.f spec_l05Wide.g
  rw [if_neg c1, if_neg c2, if_neg c3, if_pos ⟨h0, h1⟩]
  simp only [true_and]
theorem spec_l05Parts.eq_ (p : Int) (k : Bool) (h0 : 0 ≤ p) (h1 : p ≤ 1114111) : spec_l05Parts.f 6 p k = some (YtiabgmddnddeiaaDoorNrm.prt k p) := by
  have t1 : Int.tmod p 512 = p % 512 := Int.tmod_eq_emod_of_nonneg h0
  have lt : ∀ i : Int, 0 ≤ i → i < 52 → spec_l05Letter.f i = some (YtiabgmddnddeiaaDoorNrm.letter i) := by
    intro i i0 i1
    unfold spec_l05Letter.f YtiabgmddnddeiaaDoorNrm.letter
    by_cases c : i < 26
    · rw [if_pos c, if_pos c]; unfold wrap64; congr 1; omega
    · rw [if_neg c, if_neg c]; unfold wrap64; congr 1; omega
  unfold spec_l05Parts.f
  rw [t1]
  by_cases c1 : 8192 ≤ p ∧ p ≤ 9631 ∧ p % 512 < 416
  · have t2 : wrap64 (Int.tdiv p 512) = p / 512 := by rw [Int.tdiv_eq_ediv_of_nonneg h0]; unfold wrap64; omega
    have t3 : wrap64 (Int.tdiv (p % 512) 8) = p % 512 / 8 := by rw [Int.tdiv_eq_ediv_of_nonneg (by omega)]; unfold wrap64; omega
    have t4 : Int.tmod (p % 512) 8 = p % 8 := by rw [Int.tmod_eq_emod_of_nonneg (by omega)]; omega
    rw [if_pos (show p ≥ 8192 from c1.1), if_pos (by omega), decide_eq_true c1.2.2]
    simp only [spec_l05Parts.j0]
    unfold YtiabgmddnddeiaaDoorNrm.prt
    rw [if_pos trivial, t2, t3, t4, lt _ (by omega) (by omega), if_pos c1]
    simp only [Option.bind_some]
    by_cases d1 : p < 8704
    · rw [if_pos (by omega), if_pos d1, show wrap64 (4096 + p % 8) = 4096 + p % 8 by unfold wrap64; omega]
    · rw [if_neg (by omega), if_neg d1]
      by_cases d2 : p < 9216
      · rw [if_pos (by omega), if_pos d2, show wrap64 (4112 + p % 8) = 4112 + p % 8 by unfold wrap64; omega]
      · rw [if_neg (by omega), if_neg d2, show wrap64 (8704 + p % 512) = 8704 + p % 512 by unfold wrap64; omega]
  have e1 : (if p ≥ 8192 then if p < 9728 then spec_l05Parts.j0 6 p k (p % 512) (decide (p % 512 < 416)) else spec_l05Parts.j0 6 p k (p % 512) false else spec_l05Parts.j0 6 p k (p % 512) false) = spec_l05Parts.j0 6 p k (p % 512) false := by
    by_cases c : p ≥ 8192
    · rw [if_pos c]
      by_cases c2 : p < 9728
      · rw [if_pos c2, decide_eq_false (by omega)]
      · rw [if_neg c2]
    · rw [if_neg c]
  rw [e1]
  simp only [spec_l05Parts.j0]
  rw [if_neg (by decide)]
  by_cases c2 : 9728 ≤ p ∧ p ≤ 9753
  · rw [if_pos (show p ≥ 9728 from c2.1), decide_eq_true c2.2]
    simp only [spec_l05Parts.j1]
    unfold YtiabgmddnddeiaaDoorNrm.prt
    rw [if_pos trivial, if_neg c1, if_pos c2, show wrap64 (wrap64 (p - 9728) + 65) = p - 9663 by unfold wrap64; omega]
  have e2 : (if p ≥ 9728 then spec_l05Parts.j1 5 p k (decide (p ≤ 9753)) else spec_l05Parts.j1 5 p k false) = spec_l05Parts.j1 5 p k false := by
    by_cases c : p ≥ 9728
    · rw [if_pos c, decide_eq_false (by omega)]
    · rw [if_neg c]
  rw [e2]
  simp only [spec_l05Parts.j1]
  rw [if_neg (by decide)]
  by_cases c3 : 12288 ≤ p ∧ p ≤ 23459
  · have w1 : wrap64 (p - 12288) = p - 12288 := by unfold wrap64; omega
    have t2 : Int.tmod (p - 12288) 28 = (p - 12288) % 28 := Int.tmod_eq_emod_of_nonneg (by omega)
    have t3 : wrap64 (Int.tdiv (p - 12288) 588) = (p - 12288) / 588 := by rw [Int.tdiv_eq_ediv_of_nonneg (by omega)]; unfold wrap64; omega
    have t4 : wrap64 (Int.tdiv (p - 12288) 28) = (p - 12288) / 28 := by rw [Int.tdiv_eq_ediv_of_nonneg (by omega)]; unfold wrap64; omega
    have t5 : Int.tmod ((p - 12288) / 28) 21 = (p - 12288) / 28 % 21 := Int.tmod_eq_emod_of_nonneg (by omega)
    rw [if_pos (show p ≥ 12288 from c3.1), decide_eq_true c3.2]
    simp only [spec_l05Parts.j2]
    unfold YtiabgmddnddeiaaDoorNrm.prt
    rw [if_pos trivial, if_neg c1, if_neg c2, if_pos c3, w1, t2, t3, t4, t5]
    by_cases d : 0 < (p - 12288) % 28
    · rw [if_pos (show (p - 12288) % 28 > 0 from d), if_pos d, show wrap64 (p - (p - 12288) % 28) = p - (p - 12288) % 28 by unfold wrap64; omega, show wrap64 (1856 + (p - 12288) % 28) = 1856 + (p - 12288) % 28 by unfold wrap64; omega]
    · rw [if_neg (show ¬ (p - 12288) % 28 > 0 from d), if_neg d, show wrap64 (1792 + (p - 12288) / 588) = 1792 + (p - 12288) / 588 by unfold wrap64; omega, show wrap64 (1824 + (p - 12288) / 28 % 21) = 1824 + (p - 12288) / 28 % 21 by unfold wrap64; omega]
  have e3 : (if p ≥ 12288 then spec_l05Parts.j2 4 p k (decide (p ≤ 23459)) else spec_l05Parts.j2 4 p k false) = spec_l05Parts.j2 4 p k false := by
    by_cases c : p ≥ 12288
    · rw [if_pos c, decide_eq_false (by omega)]
    · rw [if_neg c]
  rw [e3]
  simp only [spec_l05Parts.j2]
  rw [if_neg (by decide)]
  cases k with
  | true =>
    rw [if_pos rfl, spec_l05Parts.wide_ p h0 h1 c1 c2 c3]
    rfl
  | false =>
    unfold YtiabgmddnddeiaaDoorNrm.prt
    rw [if_neg (by decide), if_neg c1, if_neg c2, if_neg c3]
    simp
theorem W_spec_l05Parts.to {a0 : Int} {a1 : Bool} {r : List Int} (h : W_spec_l05Parts.f a0 a1 = some r) : ∃ k, spec_l05Parts.f k a0 a1 = some r := by
  unfold W_spec_l05Parts.f at h
  split at h
  · rename_i hp
    exact ⟨6, by rw [← h]; exact spec_l05Parts.eq_ a0 a1 hp.1 hp.2⟩
  · cases h
theorem W_spec_l05Parts.calls (a0 : Int) (a1 : Bool) (r : List Int) (w : World) (h : W_spec_l05Parts.f a0 a1 = some r) :
    Calls Tryd.prog 223 #[.int .i64 a0, .bool a1] w fun e w' => ∃ v0_ : Value, e = .returned (v0_) ∧ Kd.R (Kd.int .i64) 2 w' w.heap.size (fun _ => True) v0_ r ∧ Below w.heap.size w w' := by
  obtain ⟨k, hk⟩ := W_spec_l05Parts.to h
  exact spec_l05Parts.calls k a0 a1 r w hk

/-! ### spec_l05All: function 174 -/
mutual
def spec_l05All.l0 : Nat → Bool → List Int → List Int → Int → Option (List Int)
 | 0, _, _, _, _ => none
 | k + 1, x1, x5, x6, x7 => if x7 < (x5.length : Int) then (if 0 ≤ x7 then ((spec_l05All.f k (rd x5 x7) x1).bind fun t169 => (if x6.length + t169.length < 17592186044416 then (spec_l05All.l0 k x1 x5 (x6 ++ t169) (wrap64 (x7 + 1))) else (none))) else (none)) else (some x6)
def spec_l05All.f : Nat → Int → Bool → Option (List Int)
 | 0, _, _ => none
 | k + 1, a0, a1 => (W_spec_l05Parts.f a0 a1).bind fun t159 => (if (t159.length : Int) = 0 then (some (([a0] : List Int))) else (spec_l05All.l0 k a1 t159 (([] : List Int)) 0))
end
theorem spec_l05All.mono_l : ∀ k, (∀ y0 y1, LeO (spec_l05All.f k y0 y1) (spec_l05All.f (k + 1) y0 y1)) ∧ (∀ y0 y1 y2 y3, LeO (spec_l05All.l0 k y0 y1 y2 y3) (spec_l05All.l0 (k + 1) y0 y1 y2 y3))
 | 0 => ⟨fun _ _ r h => by simp [spec_l05All.f] at h, fun _ _ _ _ r h => by simp [spec_l05All.l0] at h⟩
 | k + 1 => by
  obtain ⟨ih0, ih1⟩ := spec_l05All.mono_l k; refine ⟨?_, ?_⟩
  ·intro y0 y1
   unfold spec_l05All.f
   repeat' first
   | (with_reducible exact ih0 _ _)
   | (with_reducible exact ih1 _ _ _ _)
   | (with_reducible exact LeO.refl _)
   | (with_reducible exact LeO.none _)
   | (with_reducible refine LeO.ite ?_ ?_)
   | (with_reducible refine LeO.bind ?_ (fun _ => ?_))
   | exact ih0 _ _
   | exact ih1 _ _ _ _
   | exact LeO.none _
   | refine LeO.ite ?_ ?_
   | refine LeO.bind ?_ (fun _ => ?_)
  intro y0 y1 y2 y3
  unfold spec_l05All.l0
  repeat' first
  | (with_reducible exact ih0 _ _)
  | (with_reducible exact ih1 _ _ _ _)
  | (with_reducible exact LeO.refl _)
  | (with_reducible exact LeO.none _)
  | (with_reducible refine LeO.ite ?_ ?_)
  | (with_reducible refine LeO.bind ?_ (fun _ => ?_))
  | exact ih0 _ _
  | exact ih1 _ _ _ _
  | exact LeO.none _
  | refine LeO.ite ?_ ?_
  | refine LeO.bind ?_ (fun _ => ?_)
theorem spec_l05All.mono : ∀ a0 a1 k, LeO (spec_l05All.f k a0 a1) (spec_l05All.f (k + 1) a0 a1) := by
 intro a0 a1 k
 obtain ⟨ih0, ih1⟩ := spec_l05All.mono_l k
 exact ih0 a0 a1
set_option maxHeartbeats 8000000 in
set_option maxRecDepth 100000 in
theorem spec_l05All.calls (k : Nat) : ∀ (a0 : Int) (a1 : Bool) (r : List Int) (w : World) (h : spec_l05All.f k a0 a1 = some r),
  Calls Tryd.prog 174 #[.int .i64 a0, .bool a1] w fun e w' => ∃ v0_ : Value, e = .returned (v0_) ∧ Kd.R (Kd.int .i64) 2 w' w.heap.size (fun _ => True) v0_ r ∧ Below w.heap.size w w' := by
 induction k using Nat.strongRecOn with
 | _ k ih =>
 intro a0 a1 r w h
 cases k with
 | zero => exact absurd h (by simp [spec_l05All.f])
 | succ k =>
 simp only [spec_l05All.f] at h
 have HB := Aside0.mk (Below.refl w.heap.size w)
 have H : ((W_spec_l05Parts.f a0 a1).bind fun t159 => (if (t159.length : Int) = 0 then (some (([a0] : List Int))) else (spec_l05All.l0 k a1 t159 (([] : List Int)) 0))) = some r := h
 clear h
 replace H := Option.bind_eq_some_iff.mp H
 obtain ⟨t159, A30, H⟩ := H
 try dsimp only at H
 have A3 := Aside0.mk A30
 clear A30
 by_cases c4 : (t159.length : Int) = 0
 ·rw [if_pos c4] at H
  have c4b0 : ((t159.length : Int) == 0) = true := beq_iff_eq.mpr c4; have c4b1 : ((t159.length : Int) != 0) = false := bne_eq_false_iff_eq.mpr c4; clear c4; obtain ⟨y162, hy162⟩ : ∃ y_ : List Int, y_ = (([a0] : List Int)) := ⟨_, rfl⟩
  replace H : (some y162) = some r := by first | (rw [hy162]; with_reducible exact H) | (have H2_ := (Option.bind_some _ _).symm.trans H; rw [hy162]; with_reducible exact H2_) | (have H2_ := (Option.bind_some _ _).symm.trans H; with_reducible exact H2_) | with_reducible exact H | (rw [hy162]; exact H) | exact H
  have Ny162 := Aside0.mk hy162; clear hy162; obtain rfl := Option.some.inj H
  go_enter Tryd.func174, Tryd.ntmps174
  go_wp2_with (first | (go_at_call 223; (with_reducible refine (W_spec_l05Parts.calls a0 a1 t159 _ A3.out).mono ?_); rintro e w5 ⟨v160, rfl, ho0, hb⟩; have n0_ := Aside0.mk (Kd.R_lower ho0 (below_size (belowA))); have n1_ := Aside0.mk (below_step (belowA) hb); have HO161 := n0_; replace HB := n1_; clear n0_ n1_; clear hb; (try clear ho0); obtain ⟨Ao6, co6, eo6⟩ := Kd.R_slice HO161.out; subst eo6) | ((with_reducible refine gate_dst (N := 15) rfl ?_); refine Kd.R_lit (Kd.int .i64) _ 2 ?hg (N := 15) ?hd (xs := ([a0] : List Int)) (inner := [.int .i64 a0]) (ok := fun _ => True) (okp := fun _ => True) ?hr ?hp (fun _ hk => hk) trivial (Below.refl _ _) (Nat.le_refl _) (by simp) ?_; (case hd => rfl); (case hg => rfl); (case hr => first | (go_simp; done) | (go_simp; rfl)); (case hp => exact (Reps.one (show Kd.M (Kd.int .i64) _ _ _ a0 [.int .i64 a0] from rfl) (Reps.none _ _))); intro v163 w7 ho8 hb hg_ hnew_; clear hg_ hnew_; (first | rw [← Ny162.out] at ho8 | (simp only [Int.reduceToNat] at ho8; rw [← Ny162.out] at ho8)); have n0_ := Aside0.mk (Kd.R_elder' (by (with_reducible repeat (first | apply Kd.R_alloc | apply Kd.R_drewN | apply Kd.R_drew)); exact HO161.out) (Kd.R_base ho8) hb); have n1_ := Aside0.mk (Kd.R_lower (Kd.R_new' ho8 (Kd.R_lt (by (with_reducible repeat (first | apply Kd.R_alloc | apply Kd.R_drewN | apply Kd.R_drew)); exact HO161.out))) (below_size (belowA))); have n2_ := Aside0.mk (below_step (belowA) hb); replace HO161 := n0_; have HO164 := n1_; replace HB := n2_; clear n0_ n1_ n2_; clear hb ho8))
  go_ret
  exact ⟨_, by first | rfl | (simp [errW_none, errW_some] <;> rfl) | (simp [*, errW_none, errW_some] <;> rfl), by (with_reducible repeat (first | apply Kd.R_alloc | apply Kd.R_drewN | apply Kd.R_drew)); exact Kd.R_mono HO164.out (fun _ hk => trivial), belowA⟩
 rw [if_neg c4] at H
 have c4b0 : ((t159.length : Int) == 0) = false := beq_eq_false_iff_ne.mpr c4
 have c4b1 : ((t159.length : Int) != 0) = true := bne_iff_ne.mpr c4
 have c4b2 : ¬ (t159 = []) := fun h_ => c4 (by rw [h_]; rfl)
 obtain ⟨y165, hy165⟩ : ∃ y_ : List Int, y_ = (([] : List Int)) := ⟨_, rfl⟩
 replace H : (spec_l05All.l0 k a1 t159 y165 0) = some r := by first | (rw [hy165]; with_reducible exact H) | (have H2_ := (Option.bind_some _ _).symm.trans H; rw [hy165]; with_reducible exact H2_) | (have H2_ := (Option.bind_some _ _).symm.trans H; with_reducible exact H2_) | with_reducible exact H | (rw [hy165]; exact H) | exact H
 have Ny165 := Aside0.mk hy165
 clear hy165
 have H' := Aside0.mk H
 clear H
 go_enter Tryd.func174, Tryd.ntmps174
 go_wp2_with (first | (go_at_call 223; (with_reducible refine (W_spec_l05Parts.calls a0 a1 t159 _ A3.out).mono ?_); rintro e w9 ⟨v160, rfl, ho0, hb⟩; have n0_ := Aside0.mk (Kd.R_lower ho0 (below_size (belowA))); have n1_ := Aside0.mk (below_step (belowA) hb); have HO161 := n0_; replace HB := n1_; clear n0_ n1_; clear hb; (try clear ho0); obtain ⟨Ao10, co10, eo10⟩ := Kd.R_slice HO161.out; subst eo10) | ((with_reducible refine gate_dst (N := 16) rfl ?_); refine Kd.R_lit (Kd.int .i64) _ 2 ?hg (N := 16) ?hd (xs := ([] : List Int)) (inner := []) (ok := fun _ => True) (okp := fun _ => True) ?hr ?hp (fun _ hk => hk) trivial (Below.refl _ _) (Nat.le_refl _) (by simp) ?_; (case hd => rfl); (case hg => rfl); (case hr => first | (go_simp; done) | (go_simp; rfl)); (case hp => exact (Reps.none _ _)); intro v166 w11 ho12 hb hg_ hnew_; clear hg_ hnew_; (first | rw [← Ny165.out] at ho12 | (simp only [Int.reduceToNat] at ho12; rw [← Ny165.out] at ho12)); have n0_ := Aside0.mk (Kd.R_elder' (by (with_reducible repeat (first | apply Kd.R_alloc | apply Kd.R_drewN | apply Kd.R_drew)); exact HO161.out) (Kd.R_base ho12) hb); have n1_ := Aside0.mk (Kd.R_lower (Kd.R_new' ho12 (Kd.R_lt (by (with_reducible repeat (first | apply Kd.R_alloc | apply Kd.R_drewN | apply Kd.R_drew)); exact HO161.out))) (below_size (belowA))); have n2_ := Aside0.mk (below_step (belowA) hb); replace HO161 := n0_; have HO167 := n1_; replace HB := n2_; clear n0_ n1_ n2_; clear hb ho12))
 go_loopg [6, 7] k (fun kq v6 v7 w' => ∃ (x6_1 : List Int) (x7_1 : Int), v7 = .int .i64 x7_1 ∧ Aside0 (spec_l05All.l0 kq a1 t159 x6_1 x7_1 = some r) ∧ Aside0 (kq ≤ k) ∧ Aside0 (Kd.R (Kd.int .i64) 2 w' w.heap.size (fun k_ => some k_ ≠ (v6 : Value).ownBlock) (.slice Ao10 t159.length co10) t159) ∧ Aside0 (Kd.R (Kd.int .i64) 2 w' w.heap.size (fun k_ => some k_ ≠ ((.slice Ao10 t159.length co10) : Value).ownBlock) v6 x6_1) ∧ Aside0 (Below w.heap.size w w'))
 case atStart => exact ⟨(y165), (0), (by first | rfl | (simp; done) | (simp [*]; done)), H', ⟨Nat.le_refl _⟩, ⟨by (with_reducible repeat (first | apply Kd.R_alloc | apply Kd.R_drewN | apply Kd.R_drew)); exact Kd.R_mono HO161.out (fun _ hk => hk.2)⟩, ⟨by (with_reducible repeat (first | apply Kd.R_alloc | apply Kd.R_drewN | apply Kd.R_drew)); exact Kd.R_mono HO167.out (fun _ hk => hk.2)⟩, ⟨belowA⟩⟩
 case round =>
  clear H'
  try clear c1; try clear c2; try clear p2; try clear c4; try clear c4b0; try clear c4b1; try clear c4b2
  obtain ⟨x6_1, x7_1, rfl, HA, HK1, HO_5, HO_6, HB⟩ := hrel
  cases gk with
  | zero => exact absurd HA.out (by simp [spec_l05All.l0])
  | succ k1 =>
   have H := HA.out; clear HA; simp only [spec_l05All.l0] at H
   by_cases c13 : x7_1 < (t159.length : Int)
   ·rw [if_pos c13] at H
    have c13b0 : decide (x7_1 < (t159.length : Int)) = true := decide_eq_true c13; clear c13
    by_cases c14 : 0 ≤ x7_1
    ·rw [if_pos c14] at H
     have c14b0 : decide (0 ≤ x7_1) = true := decide_eq_true c14; clear c14; replace H := Option.bind_eq_some_iff.mp H; obtain ⟨t169, A150, H⟩ := H
     try dsimp only at H
     have A15 := Aside0.mk A150; clear A150
     by_cases c16 : x6_1.length + t169.length < 17592186044416
     ·rw [if_pos c16] at H
      have LMc16 := Aside0.mk c16; clear c16; obtain ⟨y172, hy172⟩ : ∃ y_ : List Int, y_ = (x6_1 ++ t169) := ⟨_, rfl⟩
      replace H : (spec_l05All.l0 k1 a1 t159 y172 (wrap64 (x7_1 + 1))) = some r := by first | (rw [hy172]; with_reducible exact H) | (have H2_ := (Option.bind_some _ _).symm.trans H; rw [hy172]; with_reducible exact H2_) | (have H2_ := (Option.bind_some _ _).symm.trans H; with_reducible exact H2_) | with_reducible exact H | (rw [hy172]; exact H) | exact H
      have Ny172 := Aside0.mk hy172; clear hy172; have H' := Aside0.mk H; clear H; have p168 : 0 ≤ (x7_1 : Int) := ode; have q168 : x7_1 < (t159.length : Int) := ode; obtain ⟨ad168, e168, hx168_0⟩ := Kd.at_int (Kd.R_reads' HO_5.out).2.2 x7_1 p168 q168; cases e168; replace p168 := eq_true p168; replace q168 := eq_true q168
      go_wp2_with (first | (go_at_call 174; (with_reducible refine (ih k1 (by have := HK1.out; omega) (rd t159 x7_1) a1 t169 _ A15.out).mono ?_); rintro e w17 ⟨v170, rfl, ho0, hb⟩; have n0_ := Aside0.mk (Kd.R_elder' (by (with_reducible repeat (first | apply Kd.R_alloc | apply Kd.R_drewN | apply Kd.R_drew)); exact HO_5.out) (Kd.R_base ho0) hb); have n1_ := Aside0.mk (Kd.R_elder' (by (with_reducible repeat (first | apply Kd.R_alloc | apply Kd.R_drewN | apply Kd.R_drew)); exact HO_6.out) (Kd.R_base ho0) hb); have n2_ := Aside0.mk (Kd.R_lower (Kd.R_new' (Kd.R_new' ho0 (Kd.R_lt (by (with_reducible repeat (first | apply Kd.R_alloc | apply Kd.R_drewN | apply Kd.R_drew)); exact HO_5.out))) (Kd.R_lt (by (with_reducible repeat (first | apply Kd.R_alloc | apply Kd.R_drewN | apply Kd.R_drew)); exact HO_6.out))) (below_size (belowA))); have n3_ := Aside0.mk (below_step (belowA) hb); replace HO_5 := n0_; replace HO_6 := n1_; have HO171 := n2_; replace HB := n3_; clear n0_ n1_ n2_ n3_; clear hb; (try clear ho0); obtain ⟨Ao19, co19, eo19⟩ := Kd.R_slice HO171.out; subst eo19) | ((with_reducible refine gate_builtin (b := .append) (xs := #[.tmp 23, .tmp 29]) rfl ?_); at_builtin; refine Kd.R_append_rows (Kd.int .i64) (w0 := w) w.heap.size rfl (.tmp 23) (.tmp 29) 28 2 (.int .i64 0) 8 rfl Tryd.underlying28 info2 rfl (by decide) (by omega) u6 x6_1 t169 _ _ _ (fun k_ => some k_ ≠ (.slice (some ad168) t159.length co10 : Value).ownBlock ∧ some k_ ≠ (.slice Ao19 t169.length co19 : Value).ownBlock) (fun _ => False) rfl rfl ?aO ?aR (fun _ _ h => h) (fun _ h => h.elim) ?aF ?aB ?aS ?aL ?_; (case aR => repeat (first | exact (Kd.R_reads' HO171.out).2.2 | (with_reducible refine Kd.C_alloc ?_ _) | (with_reducible refine Kd.C_drewN ?_ _) | (with_reducible refine Kd.C_drew ?_))); (case aB => exact (belowA)); (case aF => exact (fun k_ hk => ⟨Kd.fresh' (Kd.R_lt (by (with_reducible repeat (first | apply Kd.R_alloc | apply Kd.R_drewN | apply Kd.R_drew)); exact HO_5.out)) k_ hk, Kd.fresh' (Kd.R_lt (by (with_reducible repeat (first | apply Kd.R_alloc | apply Kd.R_drewN | apply Kd.R_drew)); exact HO171.out)) k_ hk⟩)); (case aO => exact (by (with_reducible repeat (first | apply Kd.R_alloc | apply Kd.R_drewN | apply Kd.R_drew)); exact HO_6.out)); (case aS => exact (below_size (belowA))); (case aL => have := LMc16.out; omega); intro v173 w18 ho hb hg hat; rw [← Ny172.out] at ho; have n0_ := Aside0.mk (Kd.R_after (ok := (fun k_ => some k_ ≠ (.slice Ao19 t169.length co19 : Value).ownBlock)) (by (with_reducible repeat (first | apply Kd.R_alloc | apply Kd.R_drewN | apply Kd.R_drew)); exact Kd.R_mono HO_5.out (fun _ hk => ⟨hk.2, hk.1⟩)) hg hat); have n1_ := Aside0.mk (Kd.R_after (ok := (fun k_ => some k_ ≠ (.slice (some ad168) t159.length co10 : Value).ownBlock)) (by (with_reducible repeat (first | apply Kd.R_alloc | apply Kd.R_drewN | apply Kd.R_drew)); exact Kd.R_mono HO171.out (fun _ hk => ⟨hk.1.2, hk.2⟩)) hg hat); have n2_ := Aside0.mk (hb); have n3_ := Aside0.mk (ho); replace HO_5 := n0_; replace HO171 := n1_; replace HB := n2_; have HO174 := n3_; clear HO_6; clear n0_ n1_ n2_ n3_; clear ho hb hg hat))
      go_roundg k1
      case measure => have := HK1.out; omega
      case rel => exact ⟨(y172), (wrap64 (x7_1 + 1)), (by first | rfl | (simp; done) | (simp [*]; done)), H', ⟨by have := HK1.out; omega⟩, ⟨by (with_reducible repeat (first | apply Kd.R_alloc | apply Kd.R_drewN | apply Kd.R_drew)); exact Kd.R_mono HO_5.out (fun _ hk => hk.2)⟩, ⟨by (with_reducible repeat (first | apply Kd.R_alloc | apply Kd.R_drewN | apply Kd.R_drew)); exact Kd.R_mono HO174.out (fun _ hk => hk.1)⟩, ⟨belowA⟩⟩
     rw [if_neg c16] at H
     exact absurd H (by simp)
    rw [if_neg c14] at H
    exact absurd H (by simp)
   rw [if_neg c13] at H; have c13b0 : decide (x7_1 < (t159.length : Int)) = false := decide_eq_false c13; clear c13; obtain rfl := Option.some.inj H
   go_wp2
   go_ret
   exact ⟨_, by first | rfl | (simp [errW_none, errW_some] <;> rfl) | (simp [*, errW_none, errW_some] <;> rfl), by (with_reducible repeat (first | apply Kd.R_alloc | apply Kd.R_drewN | apply Kd.R_drew)); exact Kd.R_mono HO_6.out (fun _ hk => trivial), belowA⟩

def W_spec_l05All.f (a0 : Int) (a1 : Bool) : Option (List Int) := if 0 ≤ a0 ∧ a0 ≤ 1114111 then some (YtiabgmddnddeiaaDoorNrm.dec a1 a0) else none
theorem spec_l05All.len (k : Bool) (p : Int) : (YtiabgmddnddeiaaDoorNrm.dec k p).length ≤ 3 := by
  unfold YtiabgmddnddeiaaDoorNrm.dec
  repeat' split
  all_goals simp
theorem spec_l05All.plen (k : Bool) (p : Int) : (YtiabgmddnddeiaaDoorNrm.prt k p).length ≤ 2 := by
  unfold YtiabgmddnddeiaaDoorNrm.prt
  repeat' split
  all_goals simp
theorem spec_l05All.flen (k : Bool) (l : List Int) : (l.flatMap (YtiabgmddnddeiaaDoorNrm.dec k)).length ≤ 3 * l.length := by
  induction l with
  | nil => simp
  | cons x t ih => rw [List.flatMap_cons, List.length_append, List.length_cons]; have := spec_l05All.len k x; omega
theorem spec_l05All.prange {k : Bool} {p : Int} (h0 : 0 ≤ p) (h1 : p ≤ 1114111) : ∀ q ∈ YtiabgmddnddeiaaDoorNrm.prt k p, 0 ≤ q ∧ q ≤ 1114111 := by
  have := @YtiabgmddnddeiaaDoorNrm.letter_range (p % 512 / 8)
  intro q hq
  unfold YtiabgmddnddeiaaDoorNrm.prt at hq
  repeat' split at hq
  all_goals simp only [List.mem_cons, List.mem_nil_iff, or_false] at hq
  all_goals omega
theorem spec_l05All.loop (k : Bool) (L : List Int) (hl : L.length ≤ 2) (N : Nat) (H : ∀ q ∈ L, ∀ K, N ≤ K → spec_l05All.f K q k = some (YtiabgmddnddeiaaDoorNrm.dec k q)) (d : Nat) : ∀ (i K : Nat), i ≤ L.length → L.length - i = d → N + d < K →
    spec_l05All.l0 K k L ((L.take i).flatMap (YtiabgmddnddeiaaDoorNrm.dec k)) (i : Int) = some (L.flatMap (YtiabgmddnddeiaaDoorNrm.dec k)) := by
  induction d with
  | zero =>
    intro i K h1 h2 h3
    obtain ⟨K, rfl⟩ : ∃ m, K = m + 1 := ⟨K - 1, by omega⟩
    simp only [spec_l05All.l0]
    rw [if_neg (by omega), List.take_of_length_le (by omega)]
  | succ d ih =>
    intro i K h1 h2 h3
    obtain ⟨K, rfl⟩ : ∃ m, K = m + 1 := ⟨K - 1, by omega⟩
    have hlt : i < L.length := by omega
    have hih := ih (i + 1) K (by omega) (by omega) (by omega)
    have hw : wrap64 ((i : Int) + 1) = ((i + 1 : Nat) : Int) := by unfold wrap64; omega
    have hr : rd L (i : Int) = L[i] := by simp [rd, List.getD, hlt]
    have ht : (L.take (i + 1)).flatMap (YtiabgmddnddeiaaDoorNrm.dec k) = (L.take i).flatMap (YtiabgmddnddeiaaDoorNrm.dec k) ++ YtiabgmddnddeiaaDoorNrm.dec k L[i] := by
      rw [List.take_succ_eq_append_getElem hlt, List.flatMap_append]
      simp only [List.flatMap_cons, List.flatMap_nil, List.append_nil]
    have hlen := spec_l05All.flen k (L.take i)
    rw [List.length_take] at hlen
    have hl3 := spec_l05All.len k L[i]
    simp only [spec_l05All.l0]
    rw [if_pos (by omega), if_pos (by omega), hr, hw, H L[i] (List.getElem_mem hlt) K (by omega)]
    simp only [Option.bind_some]
    rw [if_pos (by omega), ← ht]
    exact hih
theorem spec_l05All.eq_ (n : Nat) : ∀ (p : Int) (k : Bool) (K : Nat), YtiabgmddnddeiaaDoorNrm.rk p ≤ n → 0 ≤ p → p ≤ 1114111 → 4 * n + 4 ≤ K → spec_l05All.f K p k = some (YtiabgmddnddeiaaDoorNrm.dec k p) := by
  induction n using Nat.strongRecOn with
  | _ n ih =>
  intro p k K hrk h0 h1 hK
  obtain ⟨K, rfl⟩ : ∃ m, K = m + 1 := ⟨K - 1, by omega⟩
  simp only [spec_l05All.f]
  unfold W_spec_l05Parts.f
  rw [if_pos ⟨h0, h1⟩]
  simp only [Option.bind_some]
  by_cases hp : YtiabgmddnddeiaaDoorNrm.prt k p = []
  · rw [hp, YtiabgmddnddeiaaDoorNrm.prt_nil hp]; rfl
  · have hpos := List.length_pos_iff.2 hp
    rw [if_neg (by omega), ← YtiabgmddnddeiaaDoorNrm.prt_dec hp]
    have hrks := @YtiabgmddnddeiaaDoorNrm.prt_rk k p
    have hrng := @spec_l05All.prange k p h0 h1
    have hl2 := spec_l05All.plen k p
    obtain ⟨L, hL⟩ : ∃ L, YtiabgmddnddeiaaDoorNrm.prt k p = L := ⟨_, rfl⟩
    rw [hL] at hpos hrks hrng hl2 ⊢
    have hn : 1 ≤ n := by
      cases L with
      | nil => simp at hpos
      | cons x t => have := hrks x (by simp); omega
    refine spec_l05All.loop k L hl2 (4 * (n - 1) + 4) (fun q hq K' hK' => ?_) L.length 0 K (by omega) (by omega) (by omega)
    have := hrks q hq
    exact ih (n - 1) (by omega) q k K' (by omega) (hrng q hq).1 (hrng q hq).2 hK'
theorem W_spec_l05All.to {a0 : Int} {a1 : Bool} {r : List Int} (h : W_spec_l05All.f a0 a1 = some r) : ∃ k, spec_l05All.f k a0 a1 = some r := by
  unfold W_spec_l05All.f at h
  split at h
  · rename_i hp
    exact ⟨4 * YtiabgmddnddeiaaDoorNrm.rk a0 + 4, by rw [← h]; exact spec_l05All.eq_ _ a0 a1 _ (Nat.le_refl _) hp.1 hp.2 (Nat.le_refl _)⟩
  · cases h
theorem W_spec_l05All.calls (a0 : Int) (a1 : Bool) (r : List Int) (w : World) (h : W_spec_l05All.f a0 a1 = some r) :
    Calls Tryd.prog 174 #[.int .i64 a0, .bool a1] w fun e w' => ∃ v0_ : Value, e = .returned (v0_) ∧ Kd.R (Kd.int .i64) 2 w' w.heap.size (fun _ => True) v0_ r ∧ Below w.heap.size w w' := by
  obtain ⟨k, hk⟩ := W_spec_l05All.to h
  exact spec_l05All.calls k a0 a1 r w hk

end Go.Proofs.YtiabgmddnddeiaaDoor.QFnNormer
