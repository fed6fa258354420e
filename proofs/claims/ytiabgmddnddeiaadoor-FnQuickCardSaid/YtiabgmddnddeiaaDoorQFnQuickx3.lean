/- The law FnQuick: at every input the call answers true (this text: contracts on its way, by a program of this session's; no condition of ours). -/
import Derived.Test.YtiabgmddnddeiaaDoorQFnQuickx0
import Derived.Test.YtiabgmddnddeiaaDoorQFnQuickx1
import Derived.Test.YtiabgmddnddeiaaDoorQFnQuickx2
namespace Go.Proofs.YtiabgmddnddeiaaDoor.QFnQuick
open Go.RowKit Go.Proofs.YtiabgmddnddeiaaDoorW.PrintWords Go.Proofs.YtiabgmddnddeiaaDoorW.PrintLast Go.Proofs.YtiabgmddnddeiaaDoorW.PrintMore
attribute [local go_sem] max2_int min2_int max_two min_two max_three min_three max_four min_four   -- for this text's walks alone
set_option linter.unusedVariables false
set_option linter.unusedSimpArgs false

/-! ### impl_parts: function 219 (by hand) -/
theorem litR (W : World) (base : Nat) (ok : Nat → Prop) (hb : base ≤ W.heap.size) (h : ok W.heap.size) (l : List Int) (hl : l.length ≤ 100) :
    Kd.R (Kd.int .i64) 2 (W.alloc (.cells (l.map (Value.int .i64)).toArray 2)) base ok (.slice (some ⟨W.heap.size, 0, none⟩) l.length l.length) l := by
  have hrep : Reps (Kd.M (Kd.int .i64) W base (fun _ => True)) (Kd.int .i64).sz l (l.map (Value.int .i64)) := by
    clear hl
    induction l with
    | nil => exact Reps.none _ _
    | cons x t ih => exact Reps.one (show Kd.M (Kd.int .i64) _ _ _ x [.int .i64 x] from rfl) ih
  refine ⟨fun k hk => ?_, l.map (Value.int .i64), ?_, ?_⟩
  · have : W.heap.size = k := by simpa [Value.ownBlock] using hk
    subst this
    exact h
  · have h2 := World.ownsRow_lit (base := base) (e := 2) (size := (Kd.int .i64).sz) W (l.map (Value.int .i64)).toArray l.length hb (by simp [maxLen]; omega) (by simpa using hrep.1)
    simpa using h2
  · refine hrep.imp_ (fun p c hp => hp)
theorem impl_parts.inT (x a b : Int) (W : World) (h1 : a ≤ x) (h2 : x ≤ b) : Calls Tryd.prog 105 #[.int .i64 x, .int .i64 a, .int .i64 b] W fun e w' => e = .returned (.bool true) ∧ Drawn0 W w' :=
  impl_in.calls x a b true W (by unfold impl_in.f; rw [if_pos h1, decide_eq_true h2])
theorem impl_parts.inF (x a b : Int) (W : World) (h : x < a ∨ b < x) : Calls Tryd.prog 105 #[.int .i64 x, .int .i64 a, .int .i64 b] W fun e w' => e = .returned (.bool false) ∧ Drawn0 W w' :=
  impl_in.calls x a b false W (by
    unfold impl_in.f
    by_cases c : x ≥ a
    · rw [if_pos c, decide_eq_false (by omega)]
    · rw [if_neg c])
theorem impl_parts.letter (i : Int) (W : World) (h0 : 0 ≤ i) (h1 : i < 52) : Calls Tryd.prog 244 #[.int .i64 i] W fun e w' => e = .returned (.int .i64 (YtiabgmddnddeiaaDoorNrm.letter i)) ∧ Drawn0 W w' :=
  impl_letter.calls i _ W (by
    unfold impl_letter.f YtiabgmddnddeiaaDoorNrm.letter
    by_cases c : i < 26
    · rw [if_pos c, if_pos c]; unfold wrap64; congr 1; omega
    · rw [if_neg c, if_neg c]; unfold wrap64; congr 1; omega)
def impl_parts.Post (l : List Int) (w : World) (e : Ending) (w' : World) : Prop := ∃ v0_ : Value, e = .returned (v0_) ∧ Kd.R (Kd.int .i64) 2 w' w.heap.size (fun _ => True) v0_ l ∧ (l = [] → v0_ = .slice none 0 0) ∧ Below w.heap.size w w'
theorem impl_parts.post {w W : World} (hB : Below w.heap.size w W) (l m : List Int) (hl : l.length ≤ 100) (hm : m = l) (hne : m ≠ []) : impl_parts.Post m w (.returned (.slice (some ⟨W.heap.size, 0, none⟩) l.length l.length)) (W.alloc (.cells (l.map (Value.int .i64)).toArray 2)) := by
  subst hm
  exact ⟨_, rfl, litR W _ _ hB.size trivial m hl, fun h => absurd h hne, below_alloc hB _⟩
theorem impl_parts.post1 {w W : World} {g : Nat} {x : Int} (m : List Int) (hB : Below w.heap.size w W) (hg : g = W.heap.size) (hm : m = [x]) : impl_parts.Post m w (.returned (.slice (some ⟨g, 0, none⟩) 1 1)) (W.alloc (.cells #[.int .i64 x] 2)) := by
  subst hg
  exact impl_parts.post hB [x] m (by simp) hm (by rw [hm]; simp)
theorem impl_parts.post2 {w W : World} {g : Nat} {x y : Int} (m : List Int) (hB : Below w.heap.size w W) (hg : g = W.heap.size) (hm : m = [x, y]) : impl_parts.Post m w (.returned (.slice (some ⟨g, 0, none⟩) 2 2)) (W.alloc (.cells #[.int .i64 x, .int .i64 y] 2)) := by
  subst hg
  exact impl_parts.post hB [x, y] m (by simp) hm (by rw [hm]; simp)
theorem lit2R {W : World} {g base : Nat} (x y : Int) (hb : base ≤ W.heap.size) (hg : g = W.heap.size) : Kd.R (Kd.int .i64) 2 (W.alloc (.cells #[.int .i64 x, .int .i64 y] 2)) base (fun _ => True) (.slice (some ⟨g, 0, none⟩) 2 2) [x, y] := by
  subst hg
  exact litR W base _ hb trivial [x, y] (by simp)
set_option maxHeartbeats 4000000 in
set_option maxRecDepth 100000 in
theorem impl_parts.calls1 (p : Int) (k : Bool) (w : World) (h0 : 8192 ≤ p) (h1 : p ≤ 9631) (h2 : p % 512 < 416) : Calls Tryd.prog 219 #[.int .i64 p, .bool k] w (impl_parts.Post (YtiabgmddnddeiaaDoorNrm.prt k p) w) := by
  have hpt : YtiabgmddnddeiaaDoorNrm.prt k p = if p < 8704 then [YtiabgmddnddeiaaDoorNrm.letter (p % 512 / 8), 4096 + p % 8] else if p < 9216 then [YtiabgmddnddeiaaDoorNrm.letter (p % 512 / 8), 4112 + p % 8] else [8704 + p % 512, 4096] := by
    unfold YtiabgmddnddeiaaDoorNrm.prt; rw [if_pos ⟨h0, h1, h2⟩]
  rw [hpt]
  clear hpt
  have z1 : (p - 8192) % 512 = p % 512 := by omega
  have z2 : (p - 8192) % 8 = p % 8 := by omega
  have Z1 := Aside0.mk z1
  have Z2 := Aside0.mk z2
  clear z1 z2
  by_cases c1 : p < 8704
  · rw [if_pos c1]
    have q0 : ((p - 8192) / 512 == 0) = true := beq_iff_eq.mpr (by omega)
    go_enter Tryd.func219, Tryd.ntmps219
    go_wp2_with (first
      | (go_at_call 105; ((with_reducible refine (impl_parts.inT _ _ _ _ (by omega) (by omega)).mono ?_); rintro e w1 ⟨rfl, ⟨nd, rfl⟩⟩))
      | (go_at_call 105; ((with_reducible refine (impl_parts.inF _ _ _ _ (by omega)).mono ?_); rintro e w1 ⟨rfl, ⟨nd, rfl⟩⟩))
      | (go_at_call 244; ((with_reducible refine (impl_parts.letter _ _ (by omega) (by omega)).mono ?_); rintro e w1 ⟨rfl, ⟨nd, rfl⟩⟩)))
    go_ret
    refine impl_parts.post2 _ ?hb rfl ?he
    case hb => repeat (first | exact Below.refl _ _ | apply pw_below_drewN | apply below_drew1)
    case he => first | rfl | (rw [Z1.out, Z2.out])
  · rw [if_neg c1]
    have q0 : ((p - 8192) / 512 == 0) = false := beq_eq_false_iff_ne.mpr (by omega)
    by_cases c2 : p < 9216
    · rw [if_pos c2]
      have q1 : ((p - 8192) / 512 == 1) = true := beq_iff_eq.mpr (by omega)
      go_enter Tryd.func219, Tryd.ntmps219
      go_wp2_with (first
        | (go_at_call 105; ((with_reducible refine (impl_parts.inT _ _ _ _ (by omega) (by omega)).mono ?_); rintro e w1 ⟨rfl, ⟨nd, rfl⟩⟩))
        | (go_at_call 105; ((with_reducible refine (impl_parts.inF _ _ _ _ (by omega)).mono ?_); rintro e w1 ⟨rfl, ⟨nd, rfl⟩⟩))
        | (go_at_call 244; ((with_reducible refine (impl_parts.letter _ _ (by omega) (by omega)).mono ?_); rintro e w1 ⟨rfl, ⟨nd, rfl⟩⟩)))
      go_ret
      refine impl_parts.post2 _ ?hb rfl ?he
      case hb => repeat (first | exact Below.refl _ _ | apply pw_below_drewN | apply below_drew1)
      case he => first | rfl | (rw [Z1.out, Z2.out])
    · rw [if_neg c2]
      have q1 : ((p - 8192) / 512 == 1) = false := beq_eq_false_iff_ne.mpr (by omega)
      go_enter Tryd.func219, Tryd.ntmps219
      go_wp2_with (first
        | (go_at_call 105; ((with_reducible refine (impl_parts.inT _ _ _ _ (by omega) (by omega)).mono ?_); rintro e w1 ⟨rfl, ⟨nd, rfl⟩⟩))
        | (go_at_call 105; ((with_reducible refine (impl_parts.inF _ _ _ _ (by omega)).mono ?_); rintro e w1 ⟨rfl, ⟨nd, rfl⟩⟩))
        | (go_at_call 244; ((with_reducible refine (impl_parts.letter _ _ (by omega) (by omega)).mono ?_); rintro e w1 ⟨rfl, ⟨nd, rfl⟩⟩)))
      go_ret
      refine impl_parts.post2 _ ?hb rfl ?he
      case hb => repeat (first | exact Below.refl _ _ | apply pw_below_drewN | apply below_drew1)
      case he => first | rfl | (rw [Z1.out])
set_option maxHeartbeats 4000000 in
set_option maxRecDepth 100000 in
theorem impl_parts.calls2 (p : Int) (k : Bool) (w : World) (h0 : 9728 ≤ p) (h1 : p ≤ 9753) : Calls Tryd.prog 219 #[.int .i64 p, .bool k] w (impl_parts.Post [p - 9663] w) := by
  go_enter Tryd.func219, Tryd.ntmps219
  go_wp2_with (first
    | (go_at_call 105; ((with_reducible refine (impl_parts.inT _ _ _ _ (by omega) (by omega)).mono ?_); rintro e w1 ⟨rfl, ⟨nd, rfl⟩⟩))
    | (go_at_call 105; ((with_reducible refine (impl_parts.inF _ _ _ _ (by omega)).mono ?_); rintro e w1 ⟨rfl, ⟨nd, rfl⟩⟩))
    | (go_at_call 244; ((with_reducible refine (impl_parts.letter _ _ (by omega) (by omega)).mono ?_); rintro e w1 ⟨rfl, ⟨nd, rfl⟩⟩)))
  go_ret
  refine impl_parts.post1 _ ?hb rfl ?he
  case hb => repeat (first | exact Below.refl _ _ | apply pw_below_drewN | apply below_drew1)
  case he => first | rfl | (congr 1; omega)
set_option maxHeartbeats 4000000 in
set_option maxRecDepth 100000 in
theorem impl_parts.calls3 (p : Int) (k : Bool) (w : World) (h0 : 12288 ≤ p) (h1 : p ≤ 23459) : Calls Tryd.prog 219 #[.int .i64 p, .bool k] w (impl_parts.Post (if 0 < (p - 12288) % 28 then [p - (p - 12288) % 28, 1856 + (p - 12288) % 28] else [1792 + (p - 12288) / 588, 1824 + (p - 12288) / 28 % 21]) w) := by
  have z1 : (p - 12288) / 28 / 21 = (p - 12288) / 588 := by omega
  have Z1 := Aside0.mk z1
  clear z1
  by_cases c1 : 0 < (p - 12288) % 28
  · rw [if_pos c1]
    go_enter Tryd.func219, Tryd.ntmps219
    go_wp2_with (first
      | (go_at_call 105; ((with_reducible refine (impl_parts.inT _ _ _ _ (by omega) (by omega)).mono ?_); rintro e w1 ⟨rfl, ⟨nd, rfl⟩⟩))
      | (go_at_call 105; ((with_reducible refine (impl_parts.inF _ _ _ _ (by omega)).mono ?_); rintro e w1 ⟨rfl, ⟨nd, rfl⟩⟩))
      | (go_at_call 244; ((with_reducible refine (impl_parts.letter _ _ (by omega) (by omega)).mono ?_); rintro e w1 ⟨rfl, ⟨nd, rfl⟩⟩)))
    go_ret
    refine impl_parts.post2 _ ?hb rfl ?he
    case hb => repeat (first | exact Below.refl _ _ | apply pw_below_drewN | apply below_drew1)
    case he => first | rfl | (skip)
  · rw [if_neg c1]
    go_enter Tryd.func219, Tryd.ntmps219
    go_wp2_with (first
      | (go_at_call 105; ((with_reducible refine (impl_parts.inT _ _ _ _ (by omega) (by omega)).mono ?_); rintro e w1 ⟨rfl, ⟨nd, rfl⟩⟩))
      | (go_at_call 105; ((with_reducible refine (impl_parts.inF _ _ _ _ (by omega)).mono ?_); rintro e w1 ⟨rfl, ⟨nd, rfl⟩⟩))
      | (go_at_call 244; ((with_reducible refine (impl_parts.letter _ _ (by omega) (by omega)).mono ?_); rintro e w1 ⟨rfl, ⟨nd, rfl⟩⟩)))
    go_ret
    refine impl_parts.post2 _ ?hb rfl ?he
    case hb => repeat (first | exact Below.refl _ _ | apply pw_below_drewN | apply below_drew1)
    case he => first | rfl | (rw [Z1.out])
set_option maxHeartbeats 4000000 in
set_option maxRecDepth 100000 in
theorem impl_parts.calls4 (p : Int) (w : World) (h0 : 9984 ≤ p) (h1 : p ≤ 10009) : Calls Tryd.prog 219 #[.int .i64 p, .bool true] w (impl_parts.Post [p - 9919] w) := by
  go_enter Tryd.func219, Tryd.ntmps219
  go_wp2_with (first
    | (go_at_call 105; ((with_reducible refine (impl_parts.inT _ _ _ _ (by omega) (by omega)).mono ?_); rintro e w1 ⟨rfl, ⟨nd, rfl⟩⟩))
    | (go_at_call 105; ((with_reducible refine (impl_parts.inF _ _ _ _ (by omega)).mono ?_); rintro e w1 ⟨rfl, ⟨nd, rfl⟩⟩))
    | (go_at_call 244; ((with_reducible refine (impl_parts.letter _ _ (by omega) (by omega)).mono ?_); rintro e w1 ⟨rfl, ⟨nd, rfl⟩⟩)))
  go_ret
  refine impl_parts.post1 _ ?hb rfl ?he
  case hb => repeat (first | exact Below.refl _ _ | apply pw_below_drewN | apply below_drew1)
  case he => first | rfl | (congr 1; omega)
set_option maxHeartbeats 4000000 in
set_option maxRecDepth 100000 in
theorem impl_parts.calls5 (p : Int) (w : World) (h0 : 10016 ≤ p) (h1 : p ≤ 10025) : Calls Tryd.prog 219 #[.int .i64 p, .bool true] w (impl_parts.Post [p - 9968] w) := by
  go_enter Tryd.func219, Tryd.ntmps219
  go_wp2_with (first
    | (go_at_call 105; ((with_reducible refine (impl_parts.inT _ _ _ _ (by omega) (by omega)).mono ?_); rintro e w1 ⟨rfl, ⟨nd, rfl⟩⟩))
    | (go_at_call 105; ((with_reducible refine (impl_parts.inF _ _ _ _ (by omega)).mono ?_); rintro e w1 ⟨rfl, ⟨nd, rfl⟩⟩))
    | (go_at_call 244; ((with_reducible refine (impl_parts.letter _ _ (by omega) (by omega)).mono ?_); rintro e w1 ⟨rfl, ⟨nd, rfl⟩⟩)))
  go_ret
  refine impl_parts.post1 _ ?hb rfl ?he
  case hb => repeat (first | exact Below.refl _ _ | apply pw_below_drewN | apply below_drew1)
  case he => first | rfl | (congr 1; omega)
set_option maxHeartbeats 4000000 in
set_option maxRecDepth 100000 in
theorem impl_parts.calls6 (w : World) : Calls Tryd.prog 219 #[.int .i64 8064, .bool true] w (impl_parts.Post [32] w) := by
  go_enter Tryd.func219, Tryd.ntmps219
  go_wp2_with (first
    | (go_at_call 105; ((with_reducible refine (impl_parts.inT _ _ _ _ (by omega) (by omega)).mono ?_); rintro e w1 ⟨rfl, ⟨nd, rfl⟩⟩))
    | (go_at_call 105; ((with_reducible refine (impl_parts.inF _ _ _ _ (by omega)).mono ?_); rintro e w1 ⟨rfl, ⟨nd, rfl⟩⟩))
    | (go_at_call 244; ((with_reducible refine (impl_parts.letter _ _ (by omega) (by omega)).mono ?_); rintro e w1 ⟨rfl, ⟨nd, rfl⟩⟩)))
  go_ret
  refine impl_parts.post1 _ ?hb rfl ?he
  case hb => repeat (first | exact Below.refl _ _ | apply pw_below_drewN | apply below_drew1)
  case he => first | rfl | (skip)
set_option maxHeartbeats 4000000 in
set_option maxRecDepth 100000 in
theorem impl_parts.calls7 (w : World) : Calls Tryd.prog 219 #[.int .i64 160, .bool true] w (impl_parts.Post [32] w) := by
  go_enter Tryd.func219, Tryd.ntmps219
  go_wp2_with (first
    | (go_at_call 105; ((with_reducible refine (impl_parts.inT _ _ _ _ (by omega) (by omega)).mono ?_); rintro e w1 ⟨rfl, ⟨nd, rfl⟩⟩))
    | (go_at_call 105; ((with_reducible refine (impl_parts.inF _ _ _ _ (by omega)).mono ?_); rintro e w1 ⟨rfl, ⟨nd, rfl⟩⟩))
    | (go_at_call 244; ((with_reducible refine (impl_parts.letter _ _ (by omega) (by omega)).mono ?_); rintro e w1 ⟨rfl, ⟨nd, rfl⟩⟩)))
  go_ret
  refine impl_parts.post1 _ ?hb rfl ?he
  case hb => repeat (first | exact Below.refl _ _ | apply pw_below_drewN | apply below_drew1)
  case he => first | rfl | (skip)
set_option maxHeartbeats 4000000 in
set_option maxRecDepth 100000 in
theorem impl_parts.calls8 (w : World) : Calls Tryd.prog 219 #[.int .i64 10032, .bool true] w (impl_parts.Post [102, 102] w) := by
  go_enter Tryd.func219, Tryd.ntmps219
  go_wp2_with (first
    | (go_at_call 105; ((with_reducible refine (impl_parts.inT _ _ _ _ (by omega) (by omega)).mono ?_); rintro e w1 ⟨rfl, ⟨nd, rfl⟩⟩))
    | (go_at_call 105; ((with_reducible refine (impl_parts.inF _ _ _ _ (by omega)).mono ?_); rintro e w1 ⟨rfl, ⟨nd, rfl⟩⟩))
    | (go_at_call 244; ((with_reducible refine (impl_parts.letter _ _ (by omega) (by omega)).mono ?_); rintro e w1 ⟨rfl, ⟨nd, rfl⟩⟩)))
  go_ret
  refine ⟨.slice (some ⟨w.heap.size, 0, none⟩) 2 2, rfl, ?_, fun h => absurd h (by simp), by repeat (first | exact Below.refl _ _ | apply pw_below_drewN | apply below_drew1 | apply below_alloc)⟩
  refine Kd.R_alloc (Kd.R_alloc (Kd.R_alloc (Kd.R_alloc (lit2R _ _ ?_ ?_) _) _) _) _
  · first | (simp [World.alloc]; done) | (simp [World.alloc]; omega)
  · simp [World.alloc]
set_option maxHeartbeats 4000000 in
set_option maxRecDepth 100000 in
theorem impl_parts.calls9 (w : World) : Calls Tryd.prog 219 #[.int .i64 10033, .bool true] w (impl_parts.Post [102, 105] w) := by
  go_enter Tryd.func219, Tryd.ntmps219
  go_wp2_with (first
    | (go_at_call 105; ((with_reducible refine (impl_parts.inT _ _ _ _ (by omega) (by omega)).mono ?_); rintro e w1 ⟨rfl, ⟨nd, rfl⟩⟩))
    | (go_at_call 105; ((with_reducible refine (impl_parts.inF _ _ _ _ (by omega)).mono ?_); rintro e w1 ⟨rfl, ⟨nd, rfl⟩⟩))
    | (go_at_call 244; ((with_reducible refine (impl_parts.letter _ _ (by omega) (by omega)).mono ?_); rintro e w1 ⟨rfl, ⟨nd, rfl⟩⟩)))
  go_ret
  refine ⟨.slice (some ⟨w.heap.size + 1, 0, none⟩) 2 2, rfl, ?_, fun h => absurd h (by simp), by repeat (first | exact Below.refl _ _ | apply pw_below_drewN | apply below_drew1 | apply below_alloc)⟩
  refine Kd.R_alloc (Kd.R_alloc (Kd.R_alloc (lit2R _ _ ?_ ?_) _) _) _
  · first | (simp [World.alloc]; done) | (simp [World.alloc]; omega)
  · simp [World.alloc]
set_option maxHeartbeats 4000000 in
set_option maxRecDepth 100000 in
theorem impl_parts.calls10 (w : World) : Calls Tryd.prog 219 #[.int .i64 10034, .bool true] w (impl_parts.Post [102, 108] w) := by
  go_enter Tryd.func219, Tryd.ntmps219
  go_wp2_with (first
    | (go_at_call 105; ((with_reducible refine (impl_parts.inT _ _ _ _ (by omega) (by omega)).mono ?_); rintro e w1 ⟨rfl, ⟨nd, rfl⟩⟩))
    | (go_at_call 105; ((with_reducible refine (impl_parts.inF _ _ _ _ (by omega)).mono ?_); rintro e w1 ⟨rfl, ⟨nd, rfl⟩⟩))
    | (go_at_call 244; ((with_reducible refine (impl_parts.letter _ _ (by omega) (by omega)).mono ?_); rintro e w1 ⟨rfl, ⟨nd, rfl⟩⟩)))
  go_ret
  refine ⟨.slice (some ⟨w.heap.size + 1 + 1, 0, none⟩) 2 2, rfl, ?_, fun h => absurd h (by simp), by repeat (first | exact Below.refl _ _ | apply pw_below_drewN | apply below_drew1 | apply below_alloc)⟩
  refine Kd.R_alloc (Kd.R_alloc (lit2R _ _ ?_ ?_) _) _
  · first | (simp [World.alloc]; done) | (simp [World.alloc]; omega)
  · simp [World.alloc]
set_option maxHeartbeats 4000000 in
set_option maxRecDepth 100000 in
theorem impl_parts.calls11 (w : World) : Calls Tryd.prog 219 #[.int .i64 10035, .bool true] w (impl_parts.Post [115, 116] w) := by
  go_enter Tryd.func219, Tryd.ntmps219
  go_wp2_with (first
    | (go_at_call 105; ((with_reducible refine (impl_parts.inT _ _ _ _ (by omega) (by omega)).mono ?_); rintro e w1 ⟨rfl, ⟨nd, rfl⟩⟩))
    | (go_at_call 105; ((with_reducible refine (impl_parts.inF _ _ _ _ (by omega)).mono ?_); rintro e w1 ⟨rfl, ⟨nd, rfl⟩⟩))
    | (go_at_call 244; ((with_reducible refine (impl_parts.letter _ _ (by omega) (by omega)).mono ?_); rintro e w1 ⟨rfl, ⟨nd, rfl⟩⟩)))
  go_ret
  refine ⟨.slice (some ⟨w.heap.size + 1 + 1 + 1, 0, none⟩) 2 2, rfl, ?_, fun h => absurd h (by simp), by repeat (first | exact Below.refl _ _ | apply pw_below_drewN | apply below_drew1 | apply below_alloc)⟩
  refine Kd.R_alloc (lit2R _ _ ?_ ?_) _
  · first | (simp [World.alloc]; done) | (simp [World.alloc]; omega)
  · simp [World.alloc]
set_option maxHeartbeats 4000000 in
set_option maxRecDepth 100000 in
theorem impl_parts.callsN (p : Int) (k : Bool) (w : World) (h0 : 0 ≤ p) (h1 : p ≤ 1114111) (h2 : YtiabgmddnddeiaaDoorNrm.prt k p = []) (c1 : ¬ (8192 ≤ p ∧ p ≤ 9631 ∧ p % 512 < 416)) (c2 : ¬ (9728 ≤ p ∧ p ≤ 9753)) (c3 : ¬ (12288 ≤ p ∧ p ≤ 23459)) : Calls Tryd.prog 219 #[.int .i64 p, .bool k] w (impl_parts.Post [] w) := by
  have n2 : p < 9728 ∨ 9753 < p := by omega
  have n3 : p < 12288 ∨ 23459 < p := by omega
  cases k with
  | false =>
    clear h2
    by_cases d : 8192 ≤ p ∧ p ≤ 9631
    · have d1 := d.1
      have d2 := d.2
      have d3 : 416 ≤ (p - 8192) % 512 := by omega
      clear c1 c2 c3 d
      go_enter Tryd.func219, Tryd.ntmps219
      go_wp2_with (first
        | (go_at_call 105; ((with_reducible refine (impl_parts.inT _ _ _ _ (by omega) (by omega)).mono ?_); rintro e w1 ⟨rfl, ⟨nd, rfl⟩⟩))
        | (go_at_call 105; ((with_reducible refine (impl_parts.inF _ _ _ _ (by omega)).mono ?_); rintro e w1 ⟨rfl, ⟨nd, rfl⟩⟩))
        | (go_at_call 244; ((with_reducible refine (impl_parts.letter _ _ (by omega) (by omega)).mono ?_); rintro e w1 ⟨rfl, ⟨nd, rfl⟩⟩)))
      go_ret
      exact ⟨_, rfl, Kd.R_nil _ _ _ _ _, fun _ => rfl, (by repeat (first | exact Below.refl _ _ | apply pw_below_drewN | apply below_drew1))⟩
    · have d3 : p < 8192 ∨ 9631 < p := by omega
      clear c1 c2 c3 d
      go_enter Tryd.func219, Tryd.ntmps219
      go_wp2_with (first
        | (go_at_call 105; ((with_reducible refine (impl_parts.inT _ _ _ _ (by omega) (by omega)).mono ?_); rintro e w1 ⟨rfl, ⟨nd, rfl⟩⟩))
        | (go_at_call 105; ((with_reducible refine (impl_parts.inF _ _ _ _ (by omega)).mono ?_); rintro e w1 ⟨rfl, ⟨nd, rfl⟩⟩))
        | (go_at_call 244; ((with_reducible refine (impl_parts.letter _ _ (by omega) (by omega)).mono ?_); rintro e w1 ⟨rfl, ⟨nd, rfl⟩⟩)))
      go_ret
      exact ⟨_, rfl, Kd.R_nil _ _ _ _ _, fun _ => rfl, (by repeat (first | exact Below.refl _ _ | apply pw_below_drewN | apply below_drew1))⟩
  | true =>
    have e : ¬ (9984 ≤ p ∧ p ≤ 10009) ∧ ¬ (10016 ≤ p ∧ p ≤ 10025) ∧ ¬ (p = 8064 ∨ p = 160) ∧ ¬ (10032 ≤ p ∧ p ≤ 10035) := by
      unfold YtiabgmddnddeiaaDoorNrm.prt at h2
      rw [if_neg c1, if_neg c2, if_neg c3] at h2
      refine ⟨fun z => ?_, fun z => ?_, fun z => ?_, fun z => ?_⟩
      · rw [if_pos ⟨rfl, z⟩] at h2; cases h2
      · rw [if_neg (by omega), if_pos ⟨rfl, z⟩] at h2; cases h2
      · rw [if_neg (by omega), if_neg (by omega), if_pos ⟨rfl, z⟩] at h2; cases h2
      · rw [if_neg (by omega), if_neg (by omega), if_neg (by omega)] at h2
        have : p = 10032 ∨ p = 10033 ∨ p = 10034 ∨ p = 10035 := by omega
        rcases this with rfl | rfl | rfl | rfl <;> simp at h2
    obtain ⟨e1, e2, e3, e4⟩ := e
    have e1 : p < 9984 ∨ 10009 < p := by omega
    have e2 : p < 10016 ∨ 10025 < p := by omega
    have e5 : (p == 8064) = false := beq_eq_false_iff_ne.mpr (by omega)
    have e6 : (p == 160) = false := beq_eq_false_iff_ne.mpr (by omega)
    have e4 : p < 10032 ∨ 10035 < p := by omega
    clear h2 e3
    by_cases d : 8192 ≤ p ∧ p ≤ 9631
    · have d1 := d.1
      have d2 := d.2
      have d3 : 416 ≤ (p - 8192) % 512 := by omega
      clear c1 c2 c3 d
      go_enter Tryd.func219, Tryd.ntmps219
      go_wp2_with (first
        | (go_at_call 105; ((with_reducible refine (impl_parts.inT _ _ _ _ (by omega) (by omega)).mono ?_); rintro e w1 ⟨rfl, ⟨nd, rfl⟩⟩))
        | (go_at_call 105; ((with_reducible refine (impl_parts.inF _ _ _ _ (by omega)).mono ?_); rintro e w1 ⟨rfl, ⟨nd, rfl⟩⟩))
        | (go_at_call 244; ((with_reducible refine (impl_parts.letter _ _ (by omega) (by omega)).mono ?_); rintro e w1 ⟨rfl, ⟨nd, rfl⟩⟩)))
      go_ret
      exact ⟨_, rfl, Kd.R_nil _ _ _ _ _, fun _ => rfl, (by repeat (first | exact Below.refl _ _ | apply pw_below_drewN | apply below_drew1))⟩
    · have d3 : p < 8192 ∨ 9631 < p := by omega
      clear c1 c2 c3 d
      go_enter Tryd.func219, Tryd.ntmps219
      go_wp2_with (first
        | (go_at_call 105; ((with_reducible refine (impl_parts.inT _ _ _ _ (by omega) (by omega)).mono ?_); rintro e w1 ⟨rfl, ⟨nd, rfl⟩⟩))
        | (go_at_call 105; ((with_reducible refine (impl_parts.inF _ _ _ _ (by omega)).mono ?_); rintro e w1 ⟨rfl, ⟨nd, rfl⟩⟩))
        | (go_at_call 244; ((with_reducible refine (impl_parts.letter _ _ (by omega) (by omega)).mono ?_); rintro e w1 ⟨rfl, ⟨nd, rfl⟩⟩)))
      go_ret
      exact ⟨_, rfl, Kd.R_nil _ _ _ _ _, fun _ => rfl, (by repeat (first | exact Below.refl _ _ | apply pw_below_drewN | apply below_drew1))⟩
theorem impl_parts.calls (p : Int) (k : Bool) (w : World) (h0 : 0 ≤ p) (h1 : p ≤ 1114111) : Calls Tryd.prog 219 #[.int .i64 p, .bool k] w (impl_parts.Post (YtiabgmddnddeiaaDoorNrm.prt k p) w) := by
  by_cases c1 : 8192 ≤ p ∧ p ≤ 9631 ∧ p % 512 < 416
  · exact impl_parts.calls1 p k w c1.1 c1.2.1 c1.2.2
  by_cases c2 : 9728 ≤ p ∧ p ≤ 9753
  · have e : YtiabgmddnddeiaaDoorNrm.prt k p = [p - 9663] := by unfold YtiabgmddnddeiaaDoorNrm.prt; rw [if_neg c1, if_pos c2]
    rw [e]; exact impl_parts.calls2 p k w c2.1 c2.2
  by_cases c3 : 12288 ≤ p ∧ p ≤ 23459
  · have e : YtiabgmddnddeiaaDoorNrm.prt k p = if 0 < (p - 12288) % 28 then [p - (p - 12288) % 28, 1856 + (p - 12288) % 28] else [1792 + (p - 12288) / 588, 1824 + (p - 12288) / 28 % 21] := by unfold YtiabgmddnddeiaaDoorNrm.prt; rw [if_neg c1, if_neg c2, if_pos c3]
    rw [e]; exact impl_parts.calls3 p k w c3.1 c3.2
  by_cases h2 : YtiabgmddnddeiaaDoorNrm.prt k p = []
  · rw [h2]; exact impl_parts.callsN p k w h0 h1 h2 c1 c2 c3
  have e0 := h2
  unfold YtiabgmddnddeiaaDoorNrm.prt at e0 ⊢
  rw [if_neg c1, if_neg c2, if_neg c3] at e0 ⊢
  by_cases d1 : k = true ∧ 9984 ≤ p ∧ p ≤ 10009
  · rw [if_pos d1, d1.1]; exact impl_parts.calls4 p w d1.2.1 d1.2.2
  rw [if_neg d1] at e0 ⊢
  by_cases d2 : k = true ∧ 10016 ≤ p ∧ p ≤ 10025
  · rw [if_pos d2, d2.1]; exact impl_parts.calls5 p w d2.2.1 d2.2.2
  rw [if_neg d2] at e0 ⊢
  by_cases d3 : k = true ∧ (p = 8064 ∨ p = 160)
  · rw [if_pos d3, d3.1]
    rcases d3.2 with rfl | rfl
    · exact impl_parts.calls6 w
    · exact impl_parts.calls7 w
  rw [if_neg d3] at e0 ⊢
  by_cases d4 : k = true ∧ p = 10032
  · rw [if_pos d4, d4.1, d4.2]; exact impl_parts.calls8 w
  rw [if_neg d4] at e0 ⊢
  by_cases d5 : k = true ∧ p = 10033
  · rw [if_pos d5, d5.1, d5.2]; exact impl_parts.calls9 w
  rw [if_neg d5] at e0 ⊢
  by_cases d6 : k = true ∧ p = 10034
  · rw [if_pos d6, d6.1, d6.2]; exact impl_parts.calls10 w
  rw [if_neg d6] at e0 ⊢
  by_cases d7 : k = true ∧ p = 10035
  · rw [if_pos d7, d7.1, d7.2]; exact impl_parts.calls11 w
  rw [if_neg d7] at e0
  exact absurd rfl e0

/-! ### impl_decompose: function 168 (by hand) -/
theorem impl_decompose.len (k : Bool) (p : Int) : (YtiabgmddnddeiaaDoorNrm.dec k p).length ≤ 3 := by
  unfold YtiabgmddnddeiaaDoorNrm.dec
  repeat' split
  all_goals simp
theorem impl_decompose.flen (k : Bool) (l : List Int) : (l.flatMap (YtiabgmddnddeiaaDoorNrm.dec k)).length ≤ 3 * l.length := by
  induction l with
  | nil => simp
  | cons x t ih => rw [List.flatMap_cons, List.length_append, List.length_cons]; have := impl_decompose.len k x; omega
theorem impl_decompose.plen (k : Bool) (p : Int) : (YtiabgmddnddeiaaDoorNrm.prt k p).length ≤ 2 := by
  unfold YtiabgmddnddeiaaDoorNrm.prt
  repeat' split
  all_goals simp
theorem impl_decompose.prange {k : Bool} {p : Int} (h0 : 0 ≤ p) (h1 : p ≤ 1114111) : ∀ q ∈ YtiabgmddnddeiaaDoorNrm.prt k p, 0 ≤ q ∧ q ≤ 1114111 := by
  have := @YtiabgmddnddeiaaDoorNrm.letter_range (p % 512 / 8)
  intro q hq
  unfold YtiabgmddnddeiaaDoorNrm.prt at hq
  repeat' split at hq
  all_goals simp only [List.mem_cons, List.mem_nil_iff, or_false] at hq
  all_goals omega
set_option maxHeartbeats 4000000 in
set_option maxRecDepth 100000 in
theorem impl_decompose.deep (n : Nat) : ∀ (p : Int) (k : Bool) (w : World), YtiabgmddnddeiaaDoorNrm.rk p ≤ n → 0 ≤ p → p ≤ 1114111 →
    Calls Tryd.prog 168 #[.int .i64 p, .bool k] w fun e w' => ∃ v0_ : Value, e = .returned (v0_) ∧ Kd.R (Kd.int .i64) 2 w' w.heap.size (fun _ => True) v0_ (YtiabgmddnddeiaaDoorNrm.dec k p) ∧ Below w.heap.size w w' := by
  induction n using Nat.strongRecOn with
  | _ n ih =>
  intro p k w hrk h0 h1
  by_cases hp : YtiabgmddnddeiaaDoorNrm.prt k p = []
  · rw [YtiabgmddnddeiaaDoorNrm.prt_nil hp]
    have HP := Aside0.mk hp
    have H0 := Aside0.mk (And.intro h0 h1)
    clear hp hrk ih
    go_enter Tryd.func168, Tryd.ntmps168
    go_wp2_with (go_at_call 219; ((with_reducible refine (impl_parts.calls p k _ H0.out.1 H0.out.2).mono ?_); rintro e w1 ⟨v1, rfl, hr, hn, hb⟩; obtain rfl := hn HP.out; have qe : ∀ W, (Go.binOp .eql 28 (.slice none 0 0) (.slice none 0 0)).run Tryd.prog W = .ok (.bool true) W := fun W => Lib.run_eql_slice_nil W _ _ none 0 0 0 0 Tryd.underlying28; have HB := Aside0.mk hb; clear hr hn hb))
    go_ret
    exact ⟨_, rfl, Kd.R_lower (litR _ _ _ (Nat.le_refl _) trivial [p] (by simp)) HB.out.size, below_alloc HB.out _⟩
  · have hdec := YtiabgmddnddeiaaDoorNrm.prt_dec hp
    obtain ⟨L, hL⟩ : ∃ L, YtiabgmddnddeiaaDoorNrm.prt k p = L := ⟨_, rfl⟩
    have hl2 := impl_decompose.plen k p
    have hrng := @impl_decompose.prange k p h0 h1
    have hrks := @YtiabgmddnddeiaaDoorNrm.prt_rk k p
    rw [hL] at hp hdec hl2 hrng hrks
    rw [← hdec]
    have ihc : ∀ q ∈ L, ∀ W : World, Calls Tryd.prog 168 #[.int .i64 q, .bool k] W fun e w' => ∃ v0_ : Value, e = .returned (v0_) ∧ Kd.R (Kd.int .i64) 2 w' W.heap.size (fun _ => True) v0_ (YtiabgmddnddeiaaDoorNrm.dec k q) ∧ Below W.heap.size W w' := by
      intro q hq W
      have := hrks q hq
      exact ih (YtiabgmddnddeiaaDoorNrm.rk q) (by omega) q k W (Nat.le_refl _) (hrng q hq).1 (hrng q hq).2
    have HL := Aside0.mk hL
    have HP := Aside0.mk (List.length_pos_iff.2 hp)
    have H0 := Aside0.mk (And.intro h0 h1)
    have IH := Aside0.mk ihc
    clear hp hdec hrng hrks ih ihc hL hrk
    go_enter Tryd.func168, Tryd.ntmps168
    go_wp2_with (go_at_call 219; ((with_reducible refine (impl_parts.calls p k _ H0.out.1 H0.out.2).mono ?_); rintro e w1 ⟨v1, rfl, hr, hn, hb⟩; rw [HL.out] at hr; obtain ⟨ad, c1, rfl⟩ := Kd.R_slice1 hr HP.out; have qe : ∀ W, (Go.binOp .eql 28 (.slice (some ad) L.length c1) (.slice none 0 0)).run Tryd.prog W = .ok (.bool false) W := fun W => Lib.run_eql_slice_nil W _ _ (some ad) _ _ 0 0 Tryd.underlying28; have HR := Aside0.mk (Kd.R_reads' hr).2.2; have HB := Aside0.mk hb; clear hr hn hb))
    go_loopw [6, 18] (fun v6 v18 wr => ∃ i : Nat, i ≤ L.length ∧ v18 = .int .i64 i ∧ Aside0 (Kd.R (Kd.int .i64) 2 wr w1.heap.size (fun _ => True) v6 ((L.take i).flatMap (YtiabgmddnddeiaaDoorNrm.dec k))) ∧ Aside0 (Below w1.heap.size w1 wr)) (fun _ v18 _ => L.length - (intOf v18).toNat)
    case atStart => exact ⟨0, Nat.zero_le _, rfl, ⟨Kd.R_nil _ _ _ _ _⟩, ⟨Below.refl _ _⟩⟩
    case round =>
      obtain ⟨i, hi, rfl, HO, HW⟩ := hrel
      by_cases hlt : i < L.length
      · have i0 : (0 : Int) ≤ (i : Int) := by omega
        have i1 : (i : Int) < (L.length : Int) := by omega
        obtain ⟨ad2, e1, hx0⟩ := Kd.at_int HR.out (i : Int) i0 i1
        cases e1
        have hx := (HW.out.cell (World.block_lt_of_cell? w1 _ hx0)).trans hx0
        rw [Int.toNat_natCast] at hx
        have hrd : rd L (i : Int) = L[i] := by simp [rd, List.getD, hlt]
        obtain ⟨q, hq⟩ : ∃ q, L[i] = q := ⟨_, rfl⟩
        rw [hrd, hq] at hx
        have ht : (L.take (i + 1)).flatMap (YtiabgmddnddeiaaDoorNrm.dec k) = (L.take i).flatMap (YtiabgmddnddeiaaDoorNrm.dec k) ++ YtiabgmddnddeiaaDoorNrm.dec k q := by
          rw [List.take_succ_eq_append_getElem hlt, List.flatMap_append, hq]
          simp only [List.flatMap_cons, List.flatMap_nil, List.append_nil]
        have hfl := impl_decompose.flen k (L.take i)
        have hdl := impl_decompose.len k q
        rw [List.length_take] at hfl
        have HT := Aside0.mk ht
        have HFL := Aside0.mk (And.intro hfl hdl)
        have HC := Aside0.mk (IH.out q (by rw [← hq]; exact List.getElem_mem hlt))
        have q0 := eq_true i0
        have q1 := eq_true i1
        clear hx0 hrd hq ht hfl hdl
        go_wp2_with (first
          | (go_at_call 168; ((with_reducible refine (HC.out _).mono ?_); rintro e w3 ⟨v3, rfl, ho3, hb3⟩; obtain ⟨A3, c3, rfl⟩ := Kd.R_slice ho3; have H3 := Aside0.mk (Kd.R_reads' ho3).2.2; have HO3 := Aside0.mk (Kd.R_below HO.out hb3); have HW3 := Aside0.mk (below_step HW.out hb3); clear ho3 hb3))
          | ((with_reducible refine gate_builtin (b := .append) (xs := #[.tmp 22, .tmp 25]) rfl ?_); at_builtin; refine Kd.R_append_rows (Kd.int .i64) (w0 := w1) w1.heap.size rfl (.tmp 22) (.tmp 25) 28 2 (.int .i64 0) 8 rfl Tryd.underlying28 info2 rfl (by decide) (by omega) _ _ _ _ _ _ (fun _ => True) (fun _ => False) rfl rfl HO3.out H3.out (fun _ _ h => h) (fun _ h => h.elim) (fun _ _ => trivial) HW3.out HW3.out.size (by have := HFL.out; omega) ?_; intro v4 w4 ho4 hb4 hg4 hat4; rw [← HT.out] at ho4; have HO4 := Aside0.mk ho4; have HB4 := Aside0.mk hb4; clear ho4 hb4 hg4 hat4))
        go_roundw
        case rel => exact ⟨i + 1, by omega, by go_num, HO4, HB4⟩
        case measure => simp [intOf]; omega
      · obtain rfl : i = L.length := by omega
        have ho := HO.out
        rw [List.take_length] at ho
        have HO2 := Aside0.mk ho
        clear ho HO
        go_wp2
        go_ret
        exact ⟨_, rfl, Kd.R_lower HO2.out HB.out.size, below_step HB.out HW.out⟩
theorem impl_decompose.calls (p : Int) (k : Bool) (w : World) (h0 : 0 ≤ p) (h1 : p ≤ 1114111) :
    Calls Tryd.prog 168 #[.int .i64 p, .bool k] w fun e w' => ∃ v0_ : Value, e = .returned (v0_) ∧ Kd.R (Kd.int .i64) 2 w' w.heap.size (fun _ => True) v0_ (YtiabgmddnddeiaaDoorNrm.dec k p) ∧ Below w.heap.size w w' :=
  impl_decompose.deep _ p k w (Nat.le_refl _) h0 h1

/-! ### impl_isSyllable: function 229 -/
def impl_isSyllable.f (a0 : Int) : Option (Bool) := (impl_in.f a0 12288 23459).bind fun t163 => (some t163)
set_option maxHeartbeats 8000000 in
set_option maxRecDepth 100000 in
theorem impl_isSyllable.calls (a0 : Int) (r : Bool) (w : World) (h : impl_isSyllable.f a0 = some r) :
    Calls Tryd.prog 229 #[.int .i64 a0] w fun e w' => e = .returned (.bool r) ∧ Drawn0 w w' := by
  have H : ((impl_in.f a0 12288 23459).bind fun t163 => (some t163)) = some r := h
  clear h
  replace H := Option.bind_eq_some_iff.mp H
  obtain ⟨t163, A20, H⟩ := H
  replace H : (some t163) = some r := H
  have A2 := Aside0.mk A20
  clear A20
  obtain rfl := Option.some.inj H
  go_enter Tryd.func229, Tryd.ntmps229
  go_wp2_with (first | ((with_reducible refine gate_callee (f := 105) rfl ?_); refine goesL_ (some 4) rfl rfl Tryd.func105 (by kernel_rfl) rfl #[.int .i64 a0, .int .i64 12288, .int .i64 23459] rfl (by (try simp only [List.map_toArray, List.map_cons, List.map_nil]); first | done | rfl | (simp only [List.length_drop, List.length_take]; rfl)) ?_; (with_reducible refine (impl_in.calls a0 12288 23459 t163 _ A2.out).mono ?_); rintro e w' ⟨rfl, ⟨nd, rfl⟩⟩; refine ⟨_, rfl, ?_⟩))
  go_ret
  exact ⟨by first | rfl | (simp; done) | (simp [*]; done), by repeat (first | exact Drawn0.refl _ | apply Drawn0.step)⟩

/-! ### impl_isOpen: function 222 -/
def impl_isOpen.f (a0 : Int) : Option (Bool) := (impl_isSyllable.f a0).bind fun t164 => (if t164 = true then (some ((Int.tmod (wrap64 (a0 - 12288)) 28) == 0)) else (some false))
set_option maxHeartbeats 8000000 in
set_option maxRecDepth 100000 in
theorem impl_isOpen.calls (a0 : Int) (r : Bool) (w : World) (h : impl_isOpen.f a0 = some r) :
    Calls Tryd.prog 222 #[.int .i64 a0] w fun e w' => e = .returned (.bool r) ∧ Drawn0 w w' := by
  have H : ((impl_isSyllable.f a0).bind fun t164 => (if t164 = true then (some ((Int.tmod (wrap64 (a0 - 12288)) 28) == 0)) else (some false))) = some r := h
  clear h
  replace H := Option.bind_eq_some_iff.mp H
  obtain ⟨t164, A20, H⟩ := H
  replace H : (if t164 = true then (some ((Int.tmod (wrap64 (a0 - 12288)) 28) == 0)) else (some false)) = some r := H
  have A2 := Aside0.mk A20
  clear A20
  by_cases c3 : t164 = true
  · subst c3
    have H1 : (some ((Int.tmod (wrap64 (a0 - 12288)) 28) == 0)) = some r := by rw [if_pos rfl] at H; exact H
    clear H
    have H := H1
    clear H1
    obtain rfl := Option.some.inj H
    go_enter Tryd.func222, Tryd.ntmps222
    go_wp2_with (first | ((with_reducible refine gate_callee (f := 229) rfl ?_); refine goesL_ (some 4) rfl rfl Tryd.func229 (by kernel_rfl) rfl #[.int .i64 a0] rfl (by (try simp only [List.map_toArray, List.map_cons, List.map_nil]); first | done | rfl | (simp only [List.length_drop, List.length_take]; rfl)) ?_; (with_reducible refine (impl_isSyllable.calls a0 true _ A2.out).mono ?_); rintro e w' ⟨rfl, ⟨nd, rfl⟩⟩; refine ⟨_, rfl, ?_⟩))
    go_ret
    exact ⟨by first | rfl | (simp; done) | (simp [*]; done), by repeat (first | exact Drawn0.refl _ | apply Drawn0.step)⟩
  · replace c3 := Bool.eq_false_iff.mpr c3
    subst c3
    have H1 : (some false) = some r := by rw [if_neg (show ¬ (false = true) by decide)] at H; exact H
    clear H
    have H := H1
    clear H1
    obtain rfl := Option.some.inj H
    go_enter Tryd.func222, Tryd.ntmps222
    go_wp2_with (first | ((with_reducible refine gate_callee (f := 229) rfl ?_); refine goesL_ (some 4) rfl rfl Tryd.func229 (by kernel_rfl) rfl #[.int .i64 a0] rfl (by (try simp only [List.map_toArray, List.map_cons, List.map_nil]); first | done | rfl | (simp only [List.length_drop, List.length_take]; rfl)) ?_; (with_reducible refine (impl_isSyllable.calls a0 false _ A2.out).mono ?_); rintro e w' ⟨rfl, ⟨nd, rfl⟩⟩; refine ⟨_, rfl, ?_⟩))
    go_ret
    exact ⟨by first | rfl | (simp; done) | (simp [*]; done), by repeat (first | exact Drawn0.refl _ | apply Drawn0.step)⟩

end Go.Proofs.YtiabgmddnddeiaaDoor.QFnQuick
