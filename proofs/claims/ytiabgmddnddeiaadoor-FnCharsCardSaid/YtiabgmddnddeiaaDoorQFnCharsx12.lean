/- The law FnChars: at every input the call answers true (this text: contracts on its way, by a program of this session's; no condition of ours). -/
import Derived.Test.YtiabgmddnddeiaaDoorQFnCharsx0
import Derived.Test.YtiabgmddnddeiaaDoorQFnCharsx1
import Derived.Test.YtiabgmddnddeiaaDoorQFnCharsx2
import Derived.Test.YtiabgmddnddeiaaDoorQFnCharsx4
import Derived.Test.YtiabgmddnddeiaaDoorQFnCharsx5
namespace Go.Proofs.YtiabgmddnddeiaaDoor.QFnChars
open Go.RowKit Go.Proofs.YtiabgmddnddeiaaDoorW.PrintWords Go.Proofs.YtiabgmddnddeiaaDoorW.PrintLast Go.Proofs.YtiabgmddnddeiaaDoorW.PrintMore
attribute [local go_sem] max2_int min2_int max_two min_two max_three min_three max_four min_four   -- for this text's walks alone
set_option linter.unusedVariables false
set_option linter.unusedSimpArgs false

/-! ### laws_lwSame: function 48 -/
def laws_lwSame.l0 : Nat → List Int → List Int → Int → Option (Bool)
 | 0, _, _, _ => none
 | k + 1, x0, x1, x5 => if x5 < (x0.length : Int) then (if 0 ≤ x5 then (if x5 < (x1.length : Int) then (if (rd x0 x5) = (rd x1 x5) then (laws_lwSame.l0 k x0 x1 (wrap64 (x5 + 1))) else (some false)) else (none)) else (none)) else (some true)
def laws_lwSame.f (k : Nat) (l0 : List Int) (l1 : List Int) : Option (Bool) := if (l0.length : Int) = (l1.length : Int) then (laws_lwSame.l0 k l0 l1 0) else (some false)
theorem laws_lwSame.mono_l : ∀ k, (∀ y0 y1 y2, LeO (laws_lwSame.l0 k y0 y1 y2) (laws_lwSame.l0 (k + 1) y0 y1 y2))
 | 0 => fun _ _ _ r h => by simp [laws_lwSame.l0] at h
 | k + 1 => by
  have ih0 := laws_lwSame.mono_l k; intro y0 y1 y2
  unfold laws_lwSame.l0
  repeat' first
  | (with_reducible exact ih0 _ _ _)
  | (with_reducible exact LeO.refl _)
  | (with_reducible exact LeO.none _)
  | (with_reducible refine LeO.ite ?_ ?_)
  | (with_reducible refine LeO.bind ?_ (fun _ => ?_))
  | exact ih0 _ _ _
  | exact LeO.none _
  | refine LeO.ite ?_ ?_
  | refine LeO.bind ?_ (fun _ => ?_)
theorem laws_lwSame.mono : ∀ a0 a1 k, LeO (laws_lwSame.f k a0 a1) (laws_lwSame.f (k + 1) a0 a1) := by
 intro a0 a1 k
 have ih0 := laws_lwSame.mono_l k
 unfold laws_lwSame.f
 repeat' first
   | (with_reducible exact ih0 _ _ _)
   | (with_reducible exact LeO.refl _)
   | (with_reducible exact LeO.none _)
   | (with_reducible refine LeO.ite ?_ ?_)
   | (with_reducible refine LeO.bind ?_ (fun _ => ?_))
   | exact ih0 _ _ _
   | exact LeO.none _
   | refine LeO.ite ?_ ?_
   | refine LeO.bind ?_ (fun _ => ?_)
set_option maxHeartbeats 8000000 in
set_option maxRecDepth 100000 in
theorem laws_lwSame.calls (k : Nat) (A0 : Option Addr) (c0 : Nat) (l0 : List Int) (A1 : Option Addr) (c1 : Nat) (l1 : List Int) (r : Bool) (w : World) (hr0 : Kd.C (Kd.int .i64) w A0 l0.length l0) (hc0 : l0.length ≤ c0) (hr1 : Kd.C (Kd.int .i64) w A1 l1.length l1) (hc1 : l1.length ≤ c1) (h : laws_lwSame.f k l0 l1 = some r) :
  Calls Tryd.prog 48 #[.slice A0 l0.length c0, .slice A1 l1.length c1] w fun e w' => e = .returned (.bool r) ∧ Drawn0 w w' := by
 have HR0 := Aside0.mk hr0
 have HC0 := Aside0.mk hc0
 clear hr0 hc0
 have HR1 := Aside0.mk hr1
 have HC1 := Aside0.mk hc1
 clear hr1 hc1
 have H : (if (l0.length : Int) = (l1.length : Int) then (laws_lwSame.l0 k l0 l1 0) else (some false)) = some r := h
 clear h
 by_cases c3 : (l0.length : Int) = (l1.length : Int)
 ·rw [if_pos c3] at H
  have c3b0 : ((l0.length : Int) == (l1.length : Int)) = true := beq_iff_eq.mpr c3; have c3b1 : ((l0.length : Int) != (l1.length : Int)) = false := bne_eq_false_iff_eq.mpr c3
  have c3b2 : (l0.length == l1.length) = true := by first | simpa using c3 | (simp at c3 ⊢; omega)
  clear c3; have H' := Aside0.mk H; clear H
  go_enter Tryd.func48, Tryd.ntmps48
  go_wp2
  repeat (go_quiet (fail); try go_wp2)
  go_loopg [5] k (fun kq v5 w' => ∃ (x5_1 : Int), v5 = .int .i64 x5_1 ∧ Aside0 (laws_lwSame.l0 kq l0 l1 x5_1 = some r) ∧ Aside0 (kq ≤ k) ∧ Drawn0 w w')
  case atStart => exact ⟨(0), (by first | rfl | (simp; done) | (simp [*]; done)), H', ⟨Nat.le_refl _⟩, by repeat (first | exact Drawn0.refl _ | apply Drawn0.step)⟩
  case round =>
   clear H'
   try clear c1; try clear p2; try clear c3; try clear c3b0; try clear c3b1; try clear c3b2
   obtain ⟨x5_1, rfl, HA, HK1, ⟨m1, rfl⟩⟩ := hrel
   cases gk with
   | zero => exact absurd HA.out (by simp [laws_lwSame.l0])
   | succ k1 =>
    have H := HA.out; clear HA; simp only [laws_lwSame.l0] at H
    by_cases c4 : x5_1 < (l0.length : Int)
    ·rw [if_pos c4] at H
     have c4b0 : decide (x5_1 < (l0.length : Int)) = true := decide_eq_true c4; clear c4
     by_cases c5 : 0 ≤ x5_1
     ·rw [if_pos c5] at H
      have c5b0 : decide (0 ≤ x5_1) = true := decide_eq_true c5; clear c5
      by_cases c6 : x5_1 < (l1.length : Int)
      ·rw [if_pos c6] at H
       have c6b0 : decide (x5_1 < (l1.length : Int)) = true := decide_eq_true c6; clear c6
       by_cases c7 : (rd l0 x5_1) = (rd l1 x5_1)
       ·rw [if_pos c7] at H
        have c7b0 : ((rd l0 x5_1) == (rd l1 x5_1)) = true := beq_iff_eq.mpr c7; have c7b1 : ((rd l0 x5_1) != (rd l1 x5_1)) = false := bne_eq_false_iff_eq.mpr c7; clear c7; have H' := Aside0.mk H; clear H
        have p302 : 0 ≤ (x5_1 : Int) := of_decide_eq_true (by first | (with_reducible assumption) | assumption)
        have q302 : x5_1 < (l0.length : Int) := of_decide_eq_true (by first | (with_reducible assumption) | assumption)
        obtain ⟨ad302, e302, hx302_0⟩ := Kd.at_int HR0.out x5_1 p302 q302; cases e302; replace p302 := eq_true p302; replace q302 := eq_true q302
        have p303 : 0 ≤ (x5_1 : Int) := of_decide_eq_true (by first | (with_reducible assumption) | assumption)
        have q303 : x5_1 < (l1.length : Int) := of_decide_eq_true (by first | (with_reducible assumption) | assumption)
        obtain ⟨ad303, e303, hx303_0⟩ := Kd.at_int HR1.out x5_1 p303 q303; cases e303; replace p303 := eq_true p303; replace q303 := eq_true q303
        go_wp2
        repeat (go_quiet (fail); try go_wp2)
        go_roundg k1
        case measure => have := HK1.out; omega
        case rel => exact ⟨(wrap64 (x5_1 + 1)), (by first | rfl | (simp; done) | (simp [*]; done)), H', ⟨by have := HK1.out; omega⟩, by repeat (first | exact Drawn0.refl _ | apply Drawn0.step)⟩
       rw [if_neg c7] at H; have c7b0 : ((rd l0 x5_1) == (rd l1 x5_1)) = false := beq_eq_false_iff_ne.mpr c7; have c7b1 : ((rd l0 x5_1) != (rd l1 x5_1)) = true := bne_iff_ne.mpr c7; obtain rfl := Option.some.inj H
       have p302 : 0 ≤ (x5_1 : Int) := of_decide_eq_true (by first | (with_reducible assumption) | assumption)
       have q302 : x5_1 < (l0.length : Int) := of_decide_eq_true (by first | (with_reducible assumption) | assumption)
       obtain ⟨ad302, e302, hx302_0⟩ := Kd.at_int HR0.out x5_1 p302 q302; cases e302; replace p302 := eq_true p302; replace q302 := eq_true q302
       have p303 : 0 ≤ (x5_1 : Int) := of_decide_eq_true (by first | (with_reducible assumption) | assumption)
       have q303 : x5_1 < (l1.length : Int) := of_decide_eq_true (by first | (with_reducible assumption) | assumption)
       obtain ⟨ad303, e303, hx303_0⟩ := Kd.at_int HR1.out x5_1 p303 q303; cases e303; replace p303 := eq_true p303; replace q303 := eq_true q303
       go_wp2
       repeat (go_quiet (fail); try go_wp2)
       go_ret
       exact ⟨by first | rfl | (simp; done) | (simp [*]; done), by repeat (first | exact Drawn0.refl _ | apply Drawn0.step)⟩
      rw [if_neg c6] at H
      exact absurd H (by simp)
     rw [if_neg c5] at H
     exact absurd H (by simp)
    rw [if_neg c4] at H; have c4b0 : decide (x5_1 < (l0.length : Int)) = false := decide_eq_false c4; clear c4; obtain rfl := Option.some.inj H
    go_wp2
    repeat (go_quiet (fail); try go_wp2)
    go_ret
    exact ⟨by first | rfl | (simp; done) | (simp [*]; done), by repeat (first | exact Drawn0.refl _ | apply Drawn0.step)⟩
 rw [if_neg c3] at H
 have c3b0 : ((l0.length : Int) == (l1.length : Int)) = false := beq_eq_false_iff_ne.mpr c3
 have c3b1 : ((l0.length : Int) != (l1.length : Int)) = true := bne_iff_ne.mpr c3
 have c3b2 : (l0.length == l1.length) = false := by first | simpa using c3 | (simp at c3 ⊢; omega)
 obtain rfl := Option.some.inj H
 go_enter Tryd.func48, Tryd.ntmps48
 go_wp2
 repeat (go_quiet (fail); try go_wp2)
 go_ret
 exact ⟨by first | rfl | (simp; done) | (simp [*]; done), by repeat (first | exact Drawn0.refl _ | apply Drawn0.step)⟩

def W_laws_lwSame.f (l0 : List Int) (l1 : List Int) : Option Bool := if l0.length ≤ 1099511627776 then some (decide (l0 = l1)) else none
theorem laws_lwSame.run (a b : List Int) (hl : a.length ≤ 1099511627776) (hab : a.length = b.length) (d : Nat) : ∀ (k i : Nat), i ≤ a.length → a.length - i = d → d < k → a.take i = b.take i →
    laws_lwSame.l0 k a b (i : Int) = some (decide (a = b)) := by
  induction d with
  | zero =>
    intro k i h1 h2 h3 h4
    obtain ⟨k, rfl⟩ : ∃ m, k = m + 1 := ⟨k - 1, by omega⟩
    simp only [laws_lwSame.l0]
    rw [if_neg (by omega)]
    rw [List.take_of_length_le (by omega), List.take_of_length_le (by omega)] at h4
    simp [h4]
  | succ d ih =>
    intro k i h1 h2 h3 h4
    obtain ⟨k, rfl⟩ : ∃ m, k = m + 1 := ⟨k - 1, by omega⟩
    have hlt : i < a.length := by omega
    have hlb : i < b.length := by omega
    simp only [laws_lwSame.l0]
    rw [if_pos (by omega), if_pos (by omega), if_pos (by omega)]
    have hw : wrap64 ((i : Int) + 1) = ((i + 1 : Nat) : Int) := by unfold wrap64; omega
    have ha : rd a (i : Int) = a[i] := by simp [rd, List.getD, hlt]
    have hb : rd b (i : Int) = b[i] := by simp [rd, List.getD, hlb]
    rw [ha, hb]
    by_cases e : a[i] = b[i]
    · rw [if_pos e, hw]
      exact ih k (i + 1) (by omega) (by omega) (by omega) (by rw [List.take_succ_eq_append_getElem hlt, List.take_succ_eq_append_getElem hlb, h4, e])
    · rw [if_neg e]
      have : a ≠ b := by intro h; subst h; exact e rfl
      simp [this]
theorem W_laws_lwSame.to {l0 l1 : List Int} {r : Bool} (h : W_laws_lwSame.f l0 l1 = some r) : ∃ k, laws_lwSame.f k l0 l1 = some r := by
  unfold W_laws_lwSame.f at h
  split at h
  · rename_i hl
    refine ⟨l0.length + 1, ?_⟩
    rw [← h]
    unfold laws_lwSame.f
    by_cases hab : l0.length = l1.length
    · rw [if_pos (by omega)]
      exact laws_lwSame.run l0 l1 hl hab l0.length (l0.length + 1) 0 (by omega) (by omega) (by omega) rfl
    · rw [if_neg (by omega)]
      have : l0 ≠ l1 := by intro h; subst h; exact hab rfl
      simp [this]
  · cases h
theorem W_laws_lwSame.calls (A0 : Option Addr) (c0 : Nat) (l0 : List Int) (A1 : Option Addr) (c1 : Nat) (l1 : List Int) (r : Bool) (w : World) (hr0 : Kd.C (Kd.int .i64) w A0 l0.length l0) (hc0 : l0.length ≤ c0) (hr1 : Kd.C (Kd.int .i64) w A1 l1.length l1) (hc1 : l1.length ≤ c1) (h : W_laws_lwSame.f l0 l1 = some r) :
    Calls Tryd.prog 48 #[.slice A0 l0.length c0, .slice A1 l1.length c1] w fun e w' => e = .returned (.bool r) ∧ Drawn0 w w' := by
  obtain ⟨k, hk⟩ := W_laws_lwSame.to h
  exact laws_lwSame.calls k A0 c0 l0 A1 c1 l1 r w hr0 hc0 hr1 hc1 hk

/-! ### laws_lwJoin: function 50 -/
def laws_lwJoin.l0 : Nat → List ByteArray → List Int → Int → Option (ByteArray)
 | 0, _, _, _ => none
 | k + 1, x0, x3, x4 => if x4 < (x0.length : Int) then (if 0 ≤ x4 then (if x3.length + (rdOf ByteArray.empty x0 x4).size < 140737488355328 then (laws_lwJoin.l0 k x0 (x3 ++ bytesOf (rdOf ByteArray.empty x0 x4)) (wrap64 (x4 + 1))) else (none)) else (none)) else (some (strOfNums x3))
def laws_lwJoin.f (k : Nat) (l0 : List ByteArray) : Option (ByteArray) := laws_lwJoin.l0 k l0 (([] : List Int)) 0
theorem laws_lwJoin.mono_l : ∀ k, (∀ y0 y1 y2, LeO (laws_lwJoin.l0 k y0 y1 y2) (laws_lwJoin.l0 (k + 1) y0 y1 y2))
 | 0 => fun _ _ _ r h => by simp [laws_lwJoin.l0] at h
 | k + 1 => by
  have ih0 := laws_lwJoin.mono_l k; intro y0 y1 y2
  unfold laws_lwJoin.l0
  repeat' first
  | (with_reducible exact ih0 _ _ _)
  | (with_reducible exact LeO.refl _)
  | (with_reducible exact LeO.none _)
  | (with_reducible refine LeO.ite ?_ ?_)
  | (with_reducible refine LeO.bind ?_ (fun _ => ?_))
  | exact ih0 _ _ _
  | exact LeO.none _
  | refine LeO.ite ?_ ?_
  | refine LeO.bind ?_ (fun _ => ?_)
theorem laws_lwJoin.mono : ∀ a0 k, LeO (laws_lwJoin.f k a0) (laws_lwJoin.f (k + 1) a0) := by
 intro a0 k
 have ih0 := laws_lwJoin.mono_l k
 unfold laws_lwJoin.f
 repeat' first
   | (with_reducible exact ih0 _ _ _)
   | (with_reducible exact LeO.refl _)
   | (with_reducible exact LeO.none _)
   | (with_reducible refine LeO.ite ?_ ?_)
   | (with_reducible refine LeO.bind ?_ (fun _ => ?_))
   | exact ih0 _ _ _
   | exact LeO.none _
   | refine LeO.ite ?_ ?_
   | refine LeO.bind ?_ (fun _ => ?_)
set_option maxHeartbeats 8000000 in
set_option maxRecDepth 100000 in
theorem laws_lwJoin.calls (k : Nat) (A0 : Option Addr) (c0 : Nat) (l0 : List ByteArray) (r : ByteArray) (w : World) (hr0 : Kd.C Kd.string w A0 l0.length l0) (hc0 : l0.length ≤ c0) (h : laws_lwJoin.f k l0 = some r) :
  Calls Tryd.prog 50 #[.slice A0 l0.length c0] w fun e w' => e = .returned (.string r) ∧ Below w.heap.size w w' := by
 have HR0 := Aside0.mk hr0
 have HC0 := Aside0.mk hc0
 clear hr0 hc0
 have HB := Aside0.mk (Below.refl w.heap.size w)
 have H : (laws_lwJoin.l0 k l0 (([] : List Int)) 0) = some r := h
 clear h
 obtain ⟨y304, hy304⟩ : ∃ y_ : List Int, y_ = (([] : List Int)) := ⟨_, rfl⟩
 replace H : (laws_lwJoin.l0 k l0 y304 0) = some r := by first | (rw [hy304]; with_reducible exact H) | (have H2_ := (Option.bind_some _ _).symm.trans H; rw [hy304]; with_reducible exact H2_) | (have H2_ := (Option.bind_some _ _).symm.trans H; with_reducible exact H2_) | with_reducible exact H | (rw [hy304]; exact H) | exact H
 have Ny304 := Aside0.mk hy304
 clear hy304
 have H' := Aside0.mk H
 clear H
 go_enter Tryd.func50, Tryd.ntmps50
 go_wp2_with (first | ((with_reducible refine gate_dst (N := 5) rfl ?_); refine Kd.R_lit (Kd.int .u8) _ 5 ?hg (N := 5) ?hd (xs := ([] : List Int)) (inner := []) (ok := fun _ => True) (okp := fun _ => True) ?hr ?hp (fun _ hk => hk) trivial (Below.refl _ _) (Nat.le_refl _) (by simp) ?_; (case hd => rfl); (case hg => rfl); (case hr => first | (go_simp; done) | (go_simp; rfl)); (case hp => exact (Reps.none _ _)); intro v305 w2 ho3 hb hg_ hnew_; clear hg_ hnew_; (first | rw [← Ny304.out] at ho3 | (simp only [Int.reduceToNat] at ho3; rw [← Ny304.out] at ho3)); have n0_ := Aside0.mk (Kd.R_lower ho3 (below_size (belowA))); have n1_ := Aside0.mk (below_step (belowA) hb); clear HB; have HO306 := n0_; have HB := n1_; clear n0_ n1_; clear hb ho3))
 go_loopg [3, 4] k (fun kq v3 v4 w' => ∃ (x3_1 : List Int) (x4_1 : Int), v4 = .int .i64 x4_1 ∧ Aside0 (laws_lwJoin.l0 kq l0 x3_1 x4_1 = some r) ∧ Aside0 (kq ≤ k) ∧ Aside0 (Kd.R (Kd.int .u8) 5 w' w.heap.size (fun _ => True) v3 x3_1) ∧ Aside0 (Below w.heap.size w w'))
 case atStart => exact ⟨(y304), (0), (by first | rfl | (simp; done) | (simp [*]; done)), H', ⟨Nat.le_refl _⟩, ⟨by (with_reducible repeat (first | apply Kd.R_alloc | apply Kd.R_drewN | apply Kd.R_drew)); exact HO306.out⟩, ⟨belowA⟩⟩
 case round =>
  clear H'
  try clear p2
  obtain ⟨x3_1, x4_1, rfl, HA, HK1, HO_3, HB⟩ := hrel
  cases gk with
  | zero => exact absurd HA.out (by simp [laws_lwJoin.l0])
  | succ k1 =>
   have H := HA.out; clear HA; simp only [laws_lwJoin.l0] at H
   by_cases c4 : x4_1 < (l0.length : Int)
   ·rw [if_pos c4] at H
    have c4b0 : decide (x4_1 < (l0.length : Int)) = true := decide_eq_true c4; clear c4
    by_cases c5 : 0 ≤ x4_1
    ·rw [if_pos c5] at H
     have c5b0 : decide (0 ≤ x4_1) = true := decide_eq_true c5; clear c5
     by_cases c6 : x3_1.length + (rdOf ByteArray.empty l0 x4_1).size < 140737488355328
     ·rw [if_pos c6] at H
      have LMc6 := Aside0.mk c6; clear c6; obtain ⟨y308, hy308⟩ : ∃ y_ : List Int, y_ = (x3_1 ++ bytesOf (rdOf ByteArray.empty l0 x4_1)) := ⟨_, rfl⟩
      replace H : (laws_lwJoin.l0 k1 l0 y308 (wrap64 (x4_1 + 1))) = some r := by first | (rw [hy308]; with_reducible exact H) | (have H2_ := (Option.bind_some _ _).symm.trans H; rw [hy308]; with_reducible exact H2_) | (have H2_ := (Option.bind_some _ _).symm.trans H; with_reducible exact H2_) | with_reducible exact H | (rw [hy308]; exact H) | exact H
      have Ny308 := Aside0.mk hy308; clear hy308; have H' := Aside0.mk H; clear H
      have p307 : 0 ≤ (x4_1 : Int) := of_decide_eq_true (by first | (with_reducible assumption) | assumption)
      have q307 : x4_1 < (l0.length : Int) := of_decide_eq_true (by first | (with_reducible assumption) | assumption)
      obtain ⟨ad307, e307, hx307_0⟩ := Kd.at_string HR0.out x4_1 p307 q307; cases e307; replace hx307_0 := (HB.out.cell (World.block_lt_of_cell? w _ hx307_0)).trans hx307_0; replace p307 := eq_true p307; replace q307 := eq_true q307
      go_wp2_with (first | (at_builtin; refine print_append_str (w0 := w) w.heap.size rfl (.tmp 12) _ 22 9 5 rfl Tryd.underlying22 Tryd.underlying9 info5 u3 x3_1 (rdOf ByteArray.empty l0 x4_1) rfl rfl ?aO ?aB ?aS ?aL ?_; (case aB => exact (belowA)); (case aO => exact (Kd.own_of_R (by (with_reducible repeat (first | apply Kd.R_alloc | apply Kd.R_drewN | apply Kd.R_drew)); exact HO_3.out))); (case aS => exact (below_size (belowA))); (case aL => have := LMc6.out; omega); intro v309 w7 ho0 hb hg; have ho := Kd.R_of_own (h1 := fun _ => rfl) (ok := fun _ => True) ho0 (fun _ _ => trivial); clear ho0; have hat := True.intro; rw [← Ny308.out] at ho; change Kd.R (Kd.int .u8) 5 w7 w.heap.size (fun _ => True) v309 y308 at ho; have n0_ := Aside0.mk (hb); have n1_ := Aside0.mk (ho); clear HB; clear HO_3; have HB := n0_; have HO310 := n1_; clear n0_ n1_; clear ho hb hg hat))
      go_roundg k1
      case measure => have := HK1.out; omega
      case rel => exact ⟨(y308), (wrap64 (x4_1 + 1)), (by first | rfl | (simp; done) | (simp [*]; done)), H', ⟨by have := HK1.out; omega⟩, ⟨by (with_reducible repeat (first | apply Kd.R_alloc | apply Kd.R_drewN | apply Kd.R_drew)); exact HO310.out⟩, ⟨belowA⟩⟩
     rw [if_neg c6] at H
     exact absurd H (by simp)
    rw [if_neg c5] at H
    exact absurd H (by simp)
   rw [if_neg c4] at H; have c4b0 : decide (x4_1 < (l0.length : Int)) = false := decide_eq_false c4; clear c4; obtain rfl := Option.some.inj H; have hcv8 := own_string (P := Tryd.prog) Tryd.underlying22 Tryd.underlying5 Tryd.underlying9 (Kd.own_of_R HO_3.out)
   go_wp2
   go_ret
   exact ⟨by first | rfl | (simp [errW_none, errW_some] <;> rfl) | (simp [*, errW_none, errW_some] <;> rfl), belowA⟩

def W_laws_lwJoin.f (l : List ByteArray) : Option ByteArray := if l.length ≤ 1000000000 ∧ (l.flatMap bytesOf).length ≤ 1000000000 then some (strOfNums (l.flatMap bytesOf)) else none
theorem laws_lwJoin.run (l : List ByteArray) (hl : l.length ≤ 1000000000) (hz : (l.flatMap bytesOf).length ≤ 1000000000) (d : Nat) : ∀ (k i : Nat), i ≤ l.length → l.length - i = d → d < k → laws_lwJoin.l0 k l ((l.take i).flatMap bytesOf) (i : Int) = some (strOfNums (l.flatMap bytesOf)) := by
  induction d with
  | zero =>
    intro k i h1 h2 h3
    obtain ⟨k, rfl⟩ : ∃ m, k = m + 1 := ⟨k - 1, by omega⟩
    simp only [laws_lwJoin.l0]
    rw [if_neg (by omega), List.take_of_length_le (by omega)]
  | succ d ih =>
    intro k i h1 h2 h3
    obtain ⟨k, rfl⟩ : ∃ m, k = m + 1 := ⟨k - 1, by omega⟩
    have hlt : i < l.length := by omega
    have hw : wrap64 ((i : Int) + 1) = ((i + 1 : Nat) : Int) := by unfold wrap64; omega
    have hr : rdOf ByteArray.empty l (i : Int) = l[i] := by simp [rdOf, List.getD, hlt]
    have et : (l.take i).flatMap bytesOf ++ bytesOf l[i] = (l.take (i + 1)).flatMap bytesOf := by
      rw [List.take_succ_eq_append_getElem hlt, List.flatMap_append]; simp
    have el : l.flatMap bytesOf = (l.take (i + 1)).flatMap bytesOf ++ (l.drop (i + 1)).flatMap bytesOf := by rw [← List.flatMap_append, List.take_append_drop]
    have eL := congrArg List.length el
    have eT := congrArg List.length et
    rw [List.length_append] at eL eT
    rw [bytesOf_length] at eT
    simp only [laws_lwJoin.l0]
    rw [if_pos (by omega), if_pos (by omega), hr, if_pos (by omega), hw, et]
    exact ih k (i + 1) (by omega) (by omega) (by omega)
theorem W_laws_lwJoin.to {l : List ByteArray} {r : ByteArray} (h : W_laws_lwJoin.f l = some r) : ∃ k, laws_lwJoin.f k l = some r := by
  unfold W_laws_lwJoin.f at h
  split at h
  · rename_i hs
    refine ⟨l.length + 1, ?_⟩
    rw [← h]
    exact laws_lwJoin.run l hs.1 hs.2 _ _ 0 (Nat.zero_le _) rfl (by omega)
  · cases h
theorem W_laws_lwJoin.calls (A0 : Option Addr) (c0 : Nat) (l0 : List ByteArray) (r : ByteArray) (w : World) (hr0 : Kd.C Kd.string w A0 l0.length l0) (hc0 : l0.length ≤ c0) (h : W_laws_lwJoin.f l0 = some r) :
    Calls Tryd.prog 50 #[.slice A0 l0.length c0] w fun e w' => e = .returned (.string r) ∧ Below w.heap.size w w' := by
  obtain ⟨k, hk⟩ := W_laws_lwJoin.to h
  exact laws_lwJoin.calls k A0 c0 l0 r w hr0 hc0 hk

/-! ### impl_NextChar: function 51 -/
def impl_NextChar.l0 : Nat → ByteArray → Int → List Int → Int → Int → Option (Int)
 | 0, _, _, _, _, _ => none
 | k + 1, x0, x1, x8, x9, x10 => if x10 < x9 then (if 0 ≤ x10 then (if x10 < (x8.length : Int) then (if (rd x8 x10) > x1 then (some (rd x8 x10)) else (impl_NextChar.l0 k x0 x1 x8 x9 (wrap64 (x10 + 1)))) else (none)) else (none)) else ((impl_long.f x0).bind fun t315 => (if t315 = true then (some 0) else (some (-1))))
def impl_NextChar.f (k : Nat) (a0 : ByteArray) (a1 : Int) : Option (Int) := (impl_CharCuts.f a0).bind fun t311 => (impl_NextChar.l0 k a0 a1 t311 (t311.length : Int) 0)
theorem impl_NextChar.mono_l : ∀ k, (∀ y0 y1 y2 y3 y4, LeO (impl_NextChar.l0 k y0 y1 y2 y3 y4) (impl_NextChar.l0 (k + 1) y0 y1 y2 y3 y4))
 | 0 => fun _ _ _ _ _ r h => by simp [impl_NextChar.l0] at h
 | k + 1 => by
  have ih0 := impl_NextChar.mono_l k; intro y0 y1 y2 y3 y4
  unfold impl_NextChar.l0
  repeat' first
  | (with_reducible exact ih0 _ _ _ _ _)
  | (with_reducible exact LeO.refl _)
  | (with_reducible exact LeO.none _)
  | (with_reducible refine LeO.ite ?_ ?_)
  | (with_reducible refine LeO.bind ?_ (fun _ => ?_))
  | exact ih0 _ _ _ _ _
  | exact LeO.none _
  | refine LeO.ite ?_ ?_
  | refine LeO.bind ?_ (fun _ => ?_)
theorem impl_NextChar.mono : ∀ a0 a1 k, LeO (impl_NextChar.f k a0 a1) (impl_NextChar.f (k + 1) a0 a1) := by
 intro a0 a1 k
 have ih0 := impl_NextChar.mono_l k
 unfold impl_NextChar.f
 repeat' first
   | (with_reducible exact ih0 _ _ _ _ _)
   | (with_reducible exact LeO.refl _)
   | (with_reducible exact LeO.none _)
   | (with_reducible refine LeO.ite ?_ ?_)
   | (with_reducible refine LeO.bind ?_ (fun _ => ?_))
   | exact ih0 _ _ _ _ _
   | exact LeO.none _
   | refine LeO.ite ?_ ?_
   | refine LeO.bind ?_ (fun _ => ?_)
set_option maxHeartbeats 8000000 in
set_option maxRecDepth 100000 in
theorem impl_NextChar.calls (k : Nat) (a0 : ByteArray) (a1 : Int) (r : Int) (w : World) (h : impl_NextChar.f k a0 a1 = some r) (hG : GT w) :
  Calls Tryd.prog 51 #[.string a0, .int .i64 a1] w fun e w' => e = .returned (.int .i64 r) ∧ Below w.heap.size w w' := by
 have HG := Aside0.mk hG
 clear hG
 have HB := Aside0.mk (Below.refl w.heap.size w)
 have H : ((impl_CharCuts.f a0).bind fun t311 => (impl_NextChar.l0 k a0 a1 t311 (t311.length : Int) 0)) = some r := h
 clear h
 replace H := Option.bind_eq_some_iff.mp H
 obtain ⟨t311, A30, H⟩ := H
 try dsimp only at H
 have A3 := Aside0.mk A30
 clear A30
 have H' := Aside0.mk H
 clear H
 go_enter Tryd.func51, Tryd.ntmps51
 go_wp2_with (first | ((with_reducible refine gate_callee (f := 45) rfl ?_); refine goesL_ (some 8) rfl rfl Tryd.func45 (by kernel_rfl) rfl #[.string a0] rfl (by (try simp only [List.map_toArray, List.map_cons, List.map_nil]); first | done | rfl) ?_; (with_reducible refine (impl_CharCuts.calls a0 t311 _ A3.out (by first | exact HG.out | exact GT.below HG.out (by first | exact HB.out | (repeat (first | (with_reducible first | exact HB.out | apply below_alloc | apply pw_below_drewN | apply below_drew1 | refine below_set ?_ (Aside0.out (by assumption))) | exact HB.out))) | exact GT.below HG.out (HB.out))).mono ?_); rintro e w4 ⟨v312, rfl, ho0, hb⟩; refine ⟨_, rfl, ?_⟩; have n0_ := Aside0.mk (Kd.R_lower ho0 (below_size (belowA))); have n1_ := Aside0.mk (below_step (belowA) hb); clear HB; have HO313 := n0_; have HB := n1_; clear n0_ n1_; (try clear hb); (try clear hb2); (try clear hk); (try clear hi); (try clear ho0); obtain ⟨Ao5, co5, eo5⟩ := Kd.R_slice HO313.out; subst eo5))
 go_loopg [10] k (fun kq v10 w' => ∃ (x10_1 : Int), v10 = .int .i64 x10_1 ∧ Aside0 (impl_NextChar.l0 kq a0 a1 t311 (t311.length : Int) x10_1 = some r) ∧ Aside0 (kq ≤ k) ∧ Aside0 (Kd.R (Kd.int .i64) 2 w' w.heap.size (fun _ => True) (.slice Ao5 t311.length co5) t311) ∧ Aside0 (Below w.heap.size w w'))
 case atStart => exact ⟨(0), (by first | rfl | (simp; done) | (simp [*]; done)), H', ⟨Nat.le_refl _⟩, ⟨by (with_reducible repeat (first | apply Kd.R_alloc | apply Kd.R_drewN | apply Kd.R_drew)); exact HO313.out⟩, ⟨belowA⟩⟩
 case round =>
  clear H'
  try clear p2; try clear c4; try clear c5
  obtain ⟨x10_1, rfl, HA, HK1, HO_8, HB⟩ := hrel
  cases gk with
  | zero => exact absurd HA.out (by simp [impl_NextChar.l0])
  | succ k1 =>
   have H := HA.out; clear HA; simp only [impl_NextChar.l0] at H
   by_cases c6 : x10_1 < (t311.length : Int)
   ·rw [if_pos c6] at H
    have c6b0 : decide (x10_1 < (t311.length : Int)) = true := decide_eq_true c6; clear c6
    by_cases c7 : 0 ≤ x10_1
    ·rw [if_pos c7] at H
     have c7b0 : decide (0 ≤ x10_1) = true := decide_eq_true c7; clear c7
     by_cases c8 : x10_1 < (t311.length : Int)
     ·rw [if_pos c8] at H
      have c8b0 : decide (x10_1 < (t311.length : Int)) = true := decide_eq_true c8; clear c8
      by_cases c9 : (rd t311 x10_1) > a1
      ·rw [if_pos c9] at H
       have c9b0 : decide (a1 < (rd t311 x10_1)) = true := decide_eq_true c9; clear c9; obtain rfl := Option.some.inj H
       have p314 : 0 ≤ (x10_1 : Int) := of_decide_eq_true (by first | (with_reducible assumption) | assumption)
       have q314 : x10_1 < (t311.length : Int) := of_decide_eq_true (by first | (with_reducible assumption) | assumption)
       obtain ⟨ad314, e314, hx314_0⟩ := Kd.at_int (Kd.R_reads' HO_8.out).2.2 x10_1 p314 q314; cases e314; replace p314 := eq_true p314; replace q314 := eq_true q314
       go_wp2
       go_ret
       exact ⟨by first | rfl | (simp [errW_none, errW_some] <;> rfl) | (simp [*, errW_none, errW_some] <;> rfl), belowA⟩
      rw [if_neg c9] at H; have c9b0 : decide (a1 < (rd t311 x10_1)) = false := decide_eq_false c9; clear c9; have H' := Aside0.mk H; clear H
      have p314 : 0 ≤ (x10_1 : Int) := of_decide_eq_true (by first | (with_reducible assumption) | assumption)
      have q314 : x10_1 < (t311.length : Int) := of_decide_eq_true (by first | (with_reducible assumption) | assumption)
      obtain ⟨ad314, e314, hx314_0⟩ := Kd.at_int (Kd.R_reads' HO_8.out).2.2 x10_1 p314 q314; cases e314; replace p314 := eq_true p314; replace q314 := eq_true q314
      go_wp2
      go_roundg k1
      case measure => have := HK1.out; omega
      case rel => exact ⟨(wrap64 (x10_1 + 1)), (by first | rfl | (simp; done) | (simp [*]; done)), H', ⟨by have := HK1.out; omega⟩, ⟨by (with_reducible repeat (first | apply Kd.R_alloc | apply Kd.R_drewN | apply Kd.R_drew)); exact HO_8.out⟩, ⟨belowA⟩⟩
     rw [if_neg c8] at H
     exact absurd H (by simp)
    rw [if_neg c7] at H
    exact absurd H (by simp)
   rw [if_neg c6] at H; have c6b0 : decide (x10_1 < (t311.length : Int)) = false := decide_eq_false c6; clear c6; replace H := Option.bind_eq_some_iff.mp H; obtain ⟨t315, A100, H⟩ := H
   try dsimp only at H
   have A10 := Aside0.mk A100; clear A100
   by_cases c11 : t315 = true
   ·subst c11
    have H1 : (some 0) = some r := by rw [if_pos rfl] at H; exact H
    clear H; have H := H1; clear H1; obtain rfl := Option.some.inj H
    go_wp2_with (first | ((with_reducible refine gate_callee (f := 86) rfl ?_); refine goesL_ (some 20) rfl rfl Tryd.func86 (by kernel_rfl) rfl #[.string a0] rfl (by (try simp only [List.map_toArray, List.map_cons, List.map_nil]); first | done | rfl) ?_; (with_reducible refine (impl_long.calls a0 true _ A10.out).mono ?_); rintro e w' ⟨rfl, ⟨nd, rfl⟩⟩; refine ⟨_, rfl, ?_⟩))
    go_ret
    exact ⟨by first | rfl | (simp [errW_none, errW_some] <;> rfl) | (simp [*, errW_none, errW_some] <;> rfl), belowA⟩
   replace c11 := Bool.eq_false_iff.mpr c11; subst c11
   have H1 : (some (-1)) = some r := by rw [if_neg (show ¬ (false = true) by decide)] at H; exact H
   clear H; have H := H1; clear H1; obtain rfl := Option.some.inj H
   go_wp2_with (first | ((with_reducible refine gate_callee (f := 86) rfl ?_); refine goesL_ (some 20) rfl rfl Tryd.func86 (by kernel_rfl) rfl #[.string a0] rfl (by (try simp only [List.map_toArray, List.map_cons, List.map_nil]); first | done | rfl) ?_; (with_reducible refine (impl_long.calls a0 false _ A10.out).mono ?_); rintro e w' ⟨rfl, ⟨nd, rfl⟩⟩; refine ⟨_, rfl, ?_⟩))
   go_ret
   exact ⟨by first | rfl | (simp [errW_none, errW_some] <;> rfl) | (simp [*, errW_none, errW_some] <;> rfl), belowA⟩

def W_impl_NextChar.f (t : ByteArray) (a : Int) : Option Int := if t.size ≤ 65536 then some (YtiabgmddnddeiaaDoorChr.nextC a (YtiabgmddnddeiaaDoorChr.places (bytesOf t))) else none
theorem impl_NextChar.run (t : ByteArray) (ht : t.size ≤ 65536) (a : Int) (M : List Int) (hM : M.length ≤ 1000000000) (d : Nat) : ∀ (k i : Nat), i ≤ M.length → M.length - i = d → d < k → impl_NextChar.l0 k t a M (M.length : Int) (i : Int) = some (YtiabgmddnddeiaaDoorChr.nextC a (M.drop i)) := by
  induction d with
  | zero =>
    intro k i h1 h2 h3
    obtain ⟨k, rfl⟩ : ∃ m, k = m + 1 := ⟨k - 1, by omega⟩
    simp only [impl_NextChar.l0]
    unfold impl_long.f
    rw [if_neg (by omega), List.drop_eq_nil_of_le (by omega), decide_eq_false (by omega)]
    rfl
  | succ d ih =>
    intro k i h1 h2 h3
    obtain ⟨k, rfl⟩ : ∃ m, k = m + 1 := ⟨k - 1, by omega⟩
    have hlt : i < M.length := by omega
    have hw : wrap64 ((i : Int) + 1) = ((i + 1 : Nat) : Int) := by unfold wrap64; omega
    have hr : rd M (i : Int) = M[i] := by simp [rd, List.getD, hlt]
    simp only [impl_NextChar.l0]
    rw [if_pos (by omega), if_pos (by omega), if_pos (by omega), hr, hw, List.drop_eq_getElem_cons hlt, YtiabgmddnddeiaaDoorChr.nextC]
    by_cases c : M[i] > a
    · rw [if_pos c, if_pos c]
    · rw [if_neg c, if_neg c]; exact ih k (i + 1) (by omega) (by omega) (by omega)
theorem W_impl_NextChar.to {t : ByteArray} {a : Int} {r : Int} (h : W_impl_NextChar.f t a = some r) : ∃ k, impl_NextChar.f k t a = some r := by
  unfold W_impl_NextChar.f at h
  split at h
  · rename_i hs
    have hl := YtiabgmddnddeiaaDoorChr.places_length (bytesOf t)
    rw [bytesOf_length] at hl
    have hc : impl_CharCuts.f t = some (YtiabgmddnddeiaaDoorChr.places (bytesOf t)) := by
      unfold impl_CharCuts.f impl_long.f W_impl_charPlaces.f
      rw [decide_eq_false (by omega), if_pos (by omega)]
      rfl
    refine ⟨(YtiabgmddnddeiaaDoorChr.places (bytesOf t)).length + 1, ?_⟩
    rw [← h]
    unfold impl_NextChar.f
    rw [hc]
    exact impl_NextChar.run t hs a _ (by omega) _ _ 0 (Nat.zero_le _) rfl (by omega)
  · cases h
theorem W_impl_NextChar.calls (a0 : ByteArray) (a1 : Int) (r : Int) (w : World) (h : W_impl_NextChar.f a0 a1 = some r) (hG : GT w) :
    Calls Tryd.prog 51 #[.string a0, .int .i64 a1] w fun e w' => e = .returned (.int .i64 r) ∧ Below w.heap.size w w' := by
  obtain ⟨k, hk⟩ := W_impl_NextChar.to h
  exact impl_NextChar.calls k a0 a1 r w hk hG

/-! ### impl_LastChar: function 52 -/
def impl_LastChar.l0 : Nat → ByteArray → Int → Int → List Int → Int → Int → Option (Int)
 | 0, _, _, _, _, _, _ => none
 | k + 1, x0, x1, x5, x9, x10, x11 => if x11 < x10 then (if 0 ≤ x11 then (if x11 < (x9.length : Int) then (if (rd x9 x11) < x1 then (impl_LastChar.l0 k x0 x1 (rd x9 x11) x9 x10 (wrap64 (x11 + 1))) else (impl_LastChar.l0 k x0 x1 x5 x9 x10 (wrap64 (x11 + 1)))) else (none)) else (none)) else ((impl_long.f x0).bind fun t320 => (if t320 = true then (some 0) else (some x5)))
def impl_LastChar.f (k : Nat) (a0 : ByteArray) (a1 : Int) : Option (Int) := (impl_CharCuts.f a0).bind fun t316 => (impl_LastChar.l0 k a0 a1 (-1) t316 (t316.length : Int) 0)
theorem impl_LastChar.mono_l : ∀ k, (∀ y0 y1 y2 y3 y4 y5, LeO (impl_LastChar.l0 k y0 y1 y2 y3 y4 y5) (impl_LastChar.l0 (k + 1) y0 y1 y2 y3 y4 y5))
 | 0 => fun _ _ _ _ _ _ r h => by simp [impl_LastChar.l0] at h
 | k + 1 => by
  have ih0 := impl_LastChar.mono_l k; intro y0 y1 y2 y3 y4 y5
  unfold impl_LastChar.l0
  repeat' first
  | (with_reducible exact ih0 _ _ _ _ _ _)
  | (with_reducible exact LeO.refl _)
  | (with_reducible exact LeO.none _)
  | (with_reducible refine LeO.ite ?_ ?_)
  | (with_reducible refine LeO.bind ?_ (fun _ => ?_))
  | exact ih0 _ _ _ _ _ _
  | exact LeO.none _
  | refine LeO.ite ?_ ?_
  | refine LeO.bind ?_ (fun _ => ?_)
theorem impl_LastChar.mono : ∀ a0 a1 k, LeO (impl_LastChar.f k a0 a1) (impl_LastChar.f (k + 1) a0 a1) := by
 intro a0 a1 k
 have ih0 := impl_LastChar.mono_l k
 unfold impl_LastChar.f
 repeat' first
   | (with_reducible exact ih0 _ _ _ _ _ _)
   | (with_reducible exact LeO.refl _)
   | (with_reducible exact LeO.none _)
   | (with_reducible refine LeO.ite ?_ ?_)
   | (with_reducible refine LeO.bind ?_ (fun _ => ?_))
   | exact ih0 _ _ _ _ _ _
   | exact LeO.none _
   | refine LeO.ite ?_ ?_
   | refine LeO.bind ?_ (fun _ => ?_)
set_option maxHeartbeats 8000000 in
set_option maxRecDepth 100000 in
theorem impl_LastChar.calls (k : Nat) (a0 : ByteArray) (a1 : Int) (r : Int) (w : World) (h : impl_LastChar.f k a0 a1 = some r) (hG : GT w) :
  Calls Tryd.prog 52 #[.string a0, .int .i64 a1] w fun e w' => e = .returned (.int .i64 r) ∧ Below w.heap.size w w' := by
 have HG := Aside0.mk hG
 clear hG
 have HB := Aside0.mk (Below.refl w.heap.size w)
 have H : ((impl_CharCuts.f a0).bind fun t316 => (impl_LastChar.l0 k a0 a1 (-1) t316 (t316.length : Int) 0)) = some r := h
 clear h
 replace H := Option.bind_eq_some_iff.mp H
 obtain ⟨t316, A30, H⟩ := H
 try dsimp only at H
 have A3 := Aside0.mk A30
 clear A30
 have H' := Aside0.mk H
 clear H
 go_enter Tryd.func52, Tryd.ntmps52
 go_wp2_with (first | ((with_reducible refine gate_callee (f := 45) rfl ?_); refine goesL_ (some 9) rfl rfl Tryd.func45 (by kernel_rfl) rfl #[.string a0] rfl (by (try simp only [List.map_toArray, List.map_cons, List.map_nil]); first | done | rfl) ?_; (with_reducible refine (impl_CharCuts.calls a0 t316 _ A3.out (by first | exact HG.out | exact GT.below HG.out (by first | exact HB.out | (repeat (first | (with_reducible first | exact HB.out | apply below_alloc | apply pw_below_drewN | apply below_drew1 | refine below_set ?_ (Aside0.out (by assumption))) | exact HB.out))) | exact GT.below HG.out (HB.out))).mono ?_); rintro e w4 ⟨v317, rfl, ho0, hb⟩; refine ⟨_, rfl, ?_⟩; have n0_ := Aside0.mk (Kd.R_lower ho0 (below_size (belowA))); have n1_ := Aside0.mk (below_step (belowA) hb); clear HB; have HO318 := n0_; have HB := n1_; clear n0_ n1_; (try clear hb); (try clear hb2); (try clear hk); (try clear hi); (try clear ho0); obtain ⟨Ao5, co5, eo5⟩ := Kd.R_slice HO318.out; subst eo5))
 go_loopg [5, 11] k (fun kq v5 v11 w' => ∃ (x5_1 : Int) (x11_1 : Int), v5 = .int .i64 x5_1 ∧ v11 = .int .i64 x11_1 ∧ Aside0 (impl_LastChar.l0 kq a0 a1 x5_1 t316 (t316.length : Int) x11_1 = some r) ∧ Aside0 (kq ≤ k) ∧ Aside0 (Kd.R (Kd.int .i64) 2 w' w.heap.size (fun _ => True) (.slice Ao5 t316.length co5) t316) ∧ Aside0 (Below w.heap.size w w'))
 case atStart => exact ⟨((-1)), (0), (by first | rfl | (simp; done) | (simp [*]; done)), (by first | rfl | (simp; done) | (simp [*]; done)), H', ⟨Nat.le_refl _⟩, ⟨by (with_reducible repeat (first | apply Kd.R_alloc | apply Kd.R_drewN | apply Kd.R_drew)); exact HO318.out⟩, ⟨belowA⟩⟩
 case round =>
  clear H'
  try clear p2; try clear c4; try clear c5
  obtain ⟨x5_1, x11_1, rfl, rfl, HA, HK1, HO_9, HB⟩ := hrel
  cases gk with
  | zero => exact absurd HA.out (by simp [impl_LastChar.l0])
  | succ k1 =>
   have H := HA.out; clear HA; simp only [impl_LastChar.l0] at H
   by_cases c6 : x11_1 < (t316.length : Int)
   ·rw [if_pos c6] at H
    have c6b0 : decide (x11_1 < (t316.length : Int)) = true := decide_eq_true c6; clear c6
    by_cases c7 : 0 ≤ x11_1
    ·rw [if_pos c7] at H
     have c7b0 : decide (0 ≤ x11_1) = true := decide_eq_true c7; clear c7
     by_cases c8 : x11_1 < (t316.length : Int)
     ·rw [if_pos c8] at H
      have c8b0 : decide (x11_1 < (t316.length : Int)) = true := decide_eq_true c8; clear c8
      by_cases c9 : (rd t316 x11_1) < a1
      ·rw [if_pos c9] at H
       have c9b0 : decide ((rd t316 x11_1) < a1) = true := decide_eq_true c9; clear c9; have H' := Aside0.mk H; clear H
       have p319 : 0 ≤ (x11_1 : Int) := of_decide_eq_true (by first | (with_reducible assumption) | assumption)
       have q319 : x11_1 < (t316.length : Int) := of_decide_eq_true (by first | (with_reducible assumption) | assumption)
       obtain ⟨ad319, e319, hx319_0⟩ := Kd.at_int (Kd.R_reads' HO_9.out).2.2 x11_1 p319 q319; cases e319; replace p319 := eq_true p319; replace q319 := eq_true q319
       go_wp2
       go_roundg k1
       case measure => have := HK1.out; omega
       case rel => exact ⟨(rd t316 x11_1), (wrap64 (x11_1 + 1)), (by first | rfl | (simp; done) | (simp [*]; done)), (by first | rfl | (simp; done) | (simp [*]; done)), H', ⟨by have := HK1.out; omega⟩, ⟨by (with_reducible repeat (first | apply Kd.R_alloc | apply Kd.R_drewN | apply Kd.R_drew)); exact HO_9.out⟩, ⟨belowA⟩⟩
      rw [if_neg c9] at H; have c9b0 : decide ((rd t316 x11_1) < a1) = false := decide_eq_false c9; clear c9; have H' := Aside0.mk H; clear H
      have p319 : 0 ≤ (x11_1 : Int) := of_decide_eq_true (by first | (with_reducible assumption) | assumption)
      have q319 : x11_1 < (t316.length : Int) := of_decide_eq_true (by first | (with_reducible assumption) | assumption)
      obtain ⟨ad319, e319, hx319_0⟩ := Kd.at_int (Kd.R_reads' HO_9.out).2.2 x11_1 p319 q319; cases e319; replace p319 := eq_true p319; replace q319 := eq_true q319
      go_wp2
      go_roundg k1
      case measure => have := HK1.out; omega
      case rel => exact ⟨(x5_1), (wrap64 (x11_1 + 1)), (by first | rfl | (simp; done) | (simp [*]; done)), (by first | rfl | (simp; done) | (simp [*]; done)), H', ⟨by have := HK1.out; omega⟩, ⟨by (with_reducible repeat (first | apply Kd.R_alloc | apply Kd.R_drewN | apply Kd.R_drew)); exact HO_9.out⟩, ⟨belowA⟩⟩
     rw [if_neg c8] at H
     exact absurd H (by simp)
    rw [if_neg c7] at H
    exact absurd H (by simp)
   rw [if_neg c6] at H; have c6b0 : decide (x11_1 < (t316.length : Int)) = false := decide_eq_false c6; clear c6; replace H := Option.bind_eq_some_iff.mp H; obtain ⟨t320, A100, H⟩ := H
   try dsimp only at H
   have A10 := Aside0.mk A100; clear A100
   by_cases c11 : t320 = true
   ·subst c11
    have H1 : (some 0) = some r := by rw [if_pos rfl] at H; exact H
    clear H; have H := H1; clear H1; obtain rfl := Option.some.inj H
    go_wp2_with (first | ((with_reducible refine gate_callee (f := 86) rfl ?_); refine goesL_ (some 21) rfl rfl Tryd.func86 (by kernel_rfl) rfl #[.string a0] rfl (by (try simp only [List.map_toArray, List.map_cons, List.map_nil]); first | done | rfl) ?_; (with_reducible refine (impl_long.calls a0 true _ A10.out).mono ?_); rintro e w' ⟨rfl, ⟨nd, rfl⟩⟩; refine ⟨_, rfl, ?_⟩))
    go_ret
    exact ⟨by first | rfl | (simp [errW_none, errW_some] <;> rfl) | (simp [*, errW_none, errW_some] <;> rfl), belowA⟩
   replace c11 := Bool.eq_false_iff.mpr c11; subst c11
   have H1 : (some x5_1) = some r := by rw [if_neg (show ¬ (false = true) by decide)] at H; exact H
   clear H; have H := H1; clear H1; obtain rfl := Option.some.inj H
   go_wp2_with (first | ((with_reducible refine gate_callee (f := 86) rfl ?_); refine goesL_ (some 21) rfl rfl Tryd.func86 (by kernel_rfl) rfl #[.string a0] rfl (by (try simp only [List.map_toArray, List.map_cons, List.map_nil]); first | done | rfl) ?_; (with_reducible refine (impl_long.calls a0 false _ A10.out).mono ?_); rintro e w' ⟨rfl, ⟨nd, rfl⟩⟩; refine ⟨_, rfl, ?_⟩))
   go_ret
   exact ⟨by first | rfl | (simp [errW_none, errW_some] <;> rfl) | (simp [*, errW_none, errW_some] <;> rfl), belowA⟩

def W_impl_LastChar.f (t : ByteArray) (a : Int) : Option Int := if t.size ≤ 65536 then some (YtiabgmddnddeiaaDoorChr.lastC a (YtiabgmddnddeiaaDoorChr.places (bytesOf t)) (-1)) else none
theorem impl_LastChar.run (t : ByteArray) (ht : t.size ≤ 65536) (a : Int) (M : List Int) (hM : M.length ≤ 1000000000) (d : Nat) : ∀ (k i : Nat) (acc : Int), i ≤ M.length → M.length - i = d → d < k → impl_LastChar.l0 k t a acc M (M.length : Int) (i : Int) = some (YtiabgmddnddeiaaDoorChr.lastC a (M.drop i) acc) := by
  induction d with
  | zero =>
    intro k i acc h1 h2 h3
    obtain ⟨k, rfl⟩ : ∃ m, k = m + 1 := ⟨k - 1, by omega⟩
    simp only [impl_LastChar.l0]
    unfold impl_long.f
    rw [if_neg (by omega), List.drop_eq_nil_of_le (by omega), decide_eq_false (by omega)]
    rfl
  | succ d ih =>
    intro k i acc h1 h2 h3
    obtain ⟨k, rfl⟩ : ∃ m, k = m + 1 := ⟨k - 1, by omega⟩
    have hlt : i < M.length := by omega
    have hw : wrap64 ((i : Int) + 1) = ((i + 1 : Nat) : Int) := by unfold wrap64; omega
    have hr : rd M (i : Int) = M[i] := by simp [rd, List.getD, hlt]
    simp only [impl_LastChar.l0]
    rw [if_pos (by omega), if_pos (by omega), if_pos (by omega), hr, hw, List.drop_eq_getElem_cons hlt, YtiabgmddnddeiaaDoorChr.lastC]
    by_cases c : M[i] < a
    · rw [if_pos c, if_pos c]; exact ih k (i + 1) _ (by omega) (by omega) (by omega)
    · rw [if_neg c, if_neg c]; exact ih k (i + 1) _ (by omega) (by omega) (by omega)
theorem W_impl_LastChar.to {t : ByteArray} {a : Int} {r : Int} (h : W_impl_LastChar.f t a = some r) : ∃ k, impl_LastChar.f k t a = some r := by
  unfold W_impl_LastChar.f at h
  split at h
  · rename_i hs
    have hl := YtiabgmddnddeiaaDoorChr.places_length (bytesOf t)
    rw [bytesOf_length] at hl
    have hc : impl_CharCuts.f t = some (YtiabgmddnddeiaaDoorChr.places (bytesOf t)) := by
      unfold impl_CharCuts.f impl_long.f W_impl_charPlaces.f
      rw [decide_eq_false (by omega), if_pos (by omega)]
      rfl
    refine ⟨(YtiabgmddnddeiaaDoorChr.places (bytesOf t)).length + 1, ?_⟩
    rw [← h]
    unfold impl_LastChar.f
    rw [hc]
    exact impl_LastChar.run t hs a _ (by omega) _ _ 0 _ (Nat.zero_le _) rfl (by omega)
  · cases h
theorem W_impl_LastChar.calls (a0 : ByteArray) (a1 : Int) (r : Int) (w : World) (h : W_impl_LastChar.f a0 a1 = some r) (hG : GT w) :
    Calls Tryd.prog 52 #[.string a0, .int .i64 a1] w fun e w' => e = .returned (.int .i64 r) ∧ Below w.heap.size w w' := by
  obtain ⟨k, hk⟩ := W_impl_LastChar.to h
  exact impl_LastChar.calls k a0 a1 r w hk hG

end Go.Proofs.YtiabgmddnddeiaaDoor.QFnChars
