/- The law FnQuick: at every input the call answers true (this text: contracts on its way, by a program of this session's; no condition of ours). -/
import Derived.Test.YtiabgmddnddeiaaDoorQFnQuickx0
import Derived.Test.YtiabgmddnddeiaaDoorQFnQuickx1
import Derived.Test.YtiabgmddnddeiaaDoorQFnQuickx6
namespace Go.Proofs.YtiabgmddnddeiaaDoor.QFnQuick
open Go.RowKit Go.Proofs.YtiabgmddnddeiaaDoorW.PrintWords Go.Proofs.YtiabgmddnddeiaaDoorW.PrintLast Go.Proofs.YtiabgmddnddeiaaDoorW.PrintMore
attribute [local go_sem] max2_int min2_int max_two min_two max_three min_three max_four min_four   -- for this text's walks alone
set_option linter.unusedVariables false
set_option linter.unusedSimpArgs false

/-! ### spec_l01Text: function 95 -/
def spec_l01Text.l0 : Nat → List Int → List Int → Int → Option (ByteArray)
 | 0, _, _, _ => none
 | k + 1, x0, x3, x4 => if x4 < (x0.length : Int) then (if 0 ≤ x4 then ((W_spec_l01Write.f (rd x0 x4)).bind fun t214 => (if x3.length + t214.size < 140737488355328 then (spec_l01Text.l0 k x0 (x3 ++ bytesOf t214) (wrap64 (x4 + 1))) else (none))) else (none)) else (some (strOfNums x3))
def spec_l01Text.f (k : Nat) (l0 : List Int) : Option (ByteArray) := spec_l01Text.l0 k l0 (([] : List Int)) 0
theorem spec_l01Text.mono_l : ∀ k, (∀ y0 y1 y2, LeO (spec_l01Text.l0 k y0 y1 y2) (spec_l01Text.l0 (k + 1) y0 y1 y2))
 | 0 => fun _ _ _ r h => by simp [spec_l01Text.l0] at h
 | k + 1 => by
  have ih0 := spec_l01Text.mono_l k; intro y0 y1 y2
  unfold spec_l01Text.l0
  repeat' first
  | (with_reducible exact ih0 _ _ _)
  | (with_reducible exact LeO.refl _)
  | (with_reducible exact LeO.none _)
  | (with_reducible refine LeO.ite ?_ ?_)
  | (with_reducible refine LeO.bind ?_ (fun _ => ?_))
  | exact ih0 _ _ _
  | exact LeO.none _
  | refine LeO.ite ?_ ?_
  | refine LeO.bind ?_ (fun _ => ?_)
theorem spec_l01Text.mono : ∀ a0 k, LeO (spec_l01Text.f k a0) (spec_l01Text.f (k + 1) a0) := by
 intro a0 k
 have ih0 := spec_l01Text.mono_l k
 unfold spec_l01Text.f
 repeat' first
   | (with_reducible exact ih0 _ _ _)
   | (with_reducible exact LeO.refl _)
   | (with_reducible exact LeO.none _)
   | (with_reducible refine LeO.ite ?_ ?_)
   | (with_reducible refine LeO.bind ?_ (fun _ => ?_))
   | exact ih0 _ _ _
   | exact LeO.none _
   | refine LeO.ite ?_ ?_
   | refine LeO.bind ?_ (fun _ => ?_)
set_option maxHeartbeats 8000000 in
set_option maxRecDepth 100000 in
theorem spec_l01Text.calls (k : Nat) (A0 : Option Addr) (c0 : Nat) (l0 : List Int) (r : ByteArray) (w : World) (hr0 : Kd.C (Kd.int .i64) w A0 l0.length l0) (hc0 : l0.length ≤ c0) (h : spec_l01Text.f k l0 = some r) :
  Calls Tryd.prog 95 #[.slice A0 l0.length c0] w fun e w' => e = .returned (.string r) ∧ Below w.heap.size w w' := by
 have HR0 := Aside0.mk hr0
 have HC0 := Aside0.mk hc0
 clear hr0 hc0
 have HB := Aside0.mk (Below.refl w.heap.size w)
 have H : (spec_l01Text.l0 k l0 (([] : List Int)) 0) = some r := h
 clear h
 obtain ⟨y210, hy210⟩ : ∃ y_ : List Int, y_ = (([] : List Int)) := ⟨_, rfl⟩
 replace H : (spec_l01Text.l0 k l0 y210 0) = some r := by first | (rw [hy210]; with_reducible exact H) | (have H2_ := (Option.bind_some _ _).symm.trans H; rw [hy210]; with_reducible exact H2_) | (have H2_ := (Option.bind_some _ _).symm.trans H; with_reducible exact H2_) | with_reducible exact H | (rw [hy210]; exact H) | exact H
 have Ny210 := Aside0.mk hy210
 clear hy210
 have H' := Aside0.mk H
 clear H
 go_enter Tryd.func95, Tryd.ntmps95
 go_wp2_with (first | ((with_reducible refine gate_dst (N := 5) rfl ?_); refine Kd.R_lit (Kd.int .u8) _ 5 ?hg (N := 5) ?hd (xs := ([] : List Int)) (inner := []) (ok := fun _ => True) (okp := fun _ => True) ?hr ?hp (fun _ hk => hk) trivial (Below.refl _ _) (Nat.le_refl _) (by simp) ?_; (case hd => rfl); (case hg => rfl); (case hr => first | (go_simp; done) | (go_simp; rfl)); (case hp => exact (Reps.none _ _)); intro v211 w2 ho3 hb hg_ hnew_; clear hg_ hnew_; (first | rw [← Ny210.out] at ho3 | (simp only [Int.reduceToNat] at ho3; rw [← Ny210.out] at ho3)); have n0_ := Aside0.mk (Kd.R_lower ho3 (below_size (belowA))); have n1_ := Aside0.mk (below_step (belowA) hb); clear HB; have HO212 := n0_; have HB := n1_; clear n0_ n1_; clear hb ho3))
 go_loopg [3, 4] k (fun kq v3 v4 w' => ∃ (x3_1 : List Int) (x4_1 : Int), v4 = .int .i64 x4_1 ∧ Aside0 (spec_l01Text.l0 kq l0 x3_1 x4_1 = some r) ∧ Aside0 (kq ≤ k) ∧ Aside0 (Kd.R (Kd.int .u8) 5 w' w.heap.size (fun _ => True) v3 x3_1) ∧ Aside0 (Below w.heap.size w w'))
 case atStart => exact ⟨(y210), (0), (by first | rfl | (simp; done) | (simp [*]; done)), H', ⟨Nat.le_refl _⟩, ⟨by (with_reducible repeat (first | apply Kd.R_alloc | apply Kd.R_drewN | apply Kd.R_drew)); exact HO212.out⟩, ⟨belowA⟩⟩
 case round =>
  clear H'
  try clear p2
  obtain ⟨x3_1, x4_1, rfl, HA, HK1, HO_3, HB⟩ := hrel
  cases gk with
  | zero => exact absurd HA.out (by simp [spec_l01Text.l0])
  | succ k1 =>
   have H := HA.out; clear HA; simp only [spec_l01Text.l0] at H
   by_cases c4 : x4_1 < (l0.length : Int)
   ·rw [if_pos c4] at H
    have c4b0 : decide (x4_1 < (l0.length : Int)) = true := decide_eq_true c4; clear c4
    by_cases c5 : 0 ≤ x4_1
    ·rw [if_pos c5] at H
     have c5b0 : decide (0 ≤ x4_1) = true := decide_eq_true c5; clear c5; replace H := Option.bind_eq_some_iff.mp H; obtain ⟨t214, A60, H⟩ := H
     try dsimp only at H
     have A6 := Aside0.mk A60; clear A60
     by_cases c7 : x3_1.length + t214.size < 140737488355328
     ·rw [if_pos c7] at H
      have LMc7 := Aside0.mk c7; clear c7; obtain ⟨y215, hy215⟩ : ∃ y_ : List Int, y_ = (x3_1 ++ bytesOf t214) := ⟨_, rfl⟩
      replace H : (spec_l01Text.l0 k1 l0 y215 (wrap64 (x4_1 + 1))) = some r := by first | (rw [hy215]; with_reducible exact H) | (have H2_ := (Option.bind_some _ _).symm.trans H; rw [hy215]; with_reducible exact H2_) | (have H2_ := (Option.bind_some _ _).symm.trans H; with_reducible exact H2_) | with_reducible exact H | (rw [hy215]; exact H) | exact H
      have Ny215 := Aside0.mk hy215; clear hy215; have H' := Aside0.mk H; clear H
      have p213 : 0 ≤ (x4_1 : Int) := of_decide_eq_true (by first | (with_reducible assumption) | assumption)
      have q213 : x4_1 < (l0.length : Int) := of_decide_eq_true (by first | (with_reducible assumption) | assumption)
      obtain ⟨ad213, e213, hx213_0⟩ := Kd.at_int HR0.out x4_1 p213 q213; cases e213; replace hx213_0 := (HB.out.cell (World.block_lt_of_cell? w _ hx213_0)).trans hx213_0; replace p213 := eq_true p213; replace q213 := eq_true q213
      go_wp2_with (first | ((with_reducible refine gate_callee (f := 81) rfl ?_); refine goesL_ (some 17) rfl rfl Tryd.func81 (by kernel_rfl) rfl #[.int .i64 (rd l0 x4_1)] rfl (by (try simp only [List.map_toArray, List.map_cons, List.map_nil]); first | done | rfl) ?_; (with_reducible refine (W_spec_l01Write.calls (rd l0 x4_1) t214 _ A6.out).mono ?_); rintro e w8 ⟨rfl, hb⟩; refine ⟨_, rfl, ?_⟩; have n0_ := Aside0.mk (Kd.R_below (by (with_reducible repeat (first | apply Kd.R_alloc | apply Kd.R_drewN | apply Kd.R_drew)); exact HO_3.out) hb); have n1_ := Aside0.mk (below_step (belowA) hb); clear HO_3; clear HB; have HO_3 := n0_; have HB := n1_; clear n0_ n1_; (try clear hb); (try clear hb2); (try clear hk); (try clear hi)) | (at_builtin; refine print_append_str (w0 := w) w.heap.size rfl (.tmp 12) _ 22 9 5 rfl Tryd.underlying22 Tryd.underlying9 info5 u3 x3_1 t214 rfl rfl ?aO ?aB ?aS ?aL ?_; (case aB => exact (belowA)); (case aO => exact (Kd.own_of_R (by (with_reducible repeat (first | apply Kd.R_alloc | apply Kd.R_drewN | apply Kd.R_drew)); exact HO_3.out))); (case aS => exact (below_size (belowA))); (case aL => have := LMc7.out; omega); intro v216 w9 ho0 hb hg; have ho := Kd.R_of_own (h1 := fun _ => rfl) (ok := fun _ => True) ho0 (fun _ _ => trivial); clear ho0; have hat := True.intro; rw [← Ny215.out] at ho; change Kd.R (Kd.int .u8) 5 w9 w.heap.size (fun _ => True) v216 y215 at ho; have n0_ := Aside0.mk (hb); have n1_ := Aside0.mk (ho); clear HB; clear HO_3; have HB := n0_; have HO217 := n1_; clear n0_ n1_; clear ho hb hg hat))
      go_roundg k1
      case measure => have := HK1.out; omega
      case rel => exact ⟨(y215), (wrap64 (x4_1 + 1)), (by first | rfl | (simp; done) | (simp [*]; done)), H', ⟨by have := HK1.out; omega⟩, ⟨by (with_reducible repeat (first | apply Kd.R_alloc | apply Kd.R_drewN | apply Kd.R_drew)); exact HO217.out⟩, ⟨belowA⟩⟩
     rw [if_neg c7] at H
     exact absurd H (by simp)
    rw [if_neg c5] at H
    exact absurd H (by simp)
   rw [if_neg c4] at H; have c4b0 : decide (x4_1 < (l0.length : Int)) = false := decide_eq_false c4; clear c4; obtain rfl := Option.some.inj H; have hcv10 := own_string (P := Tryd.prog) Tryd.underlying22 Tryd.underlying5 Tryd.underlying9 (Kd.own_of_R HO_3.out)
   go_wp2
   go_ret
   exact ⟨by first | rfl | (simp [errW_none, errW_some] <;> rfl) | (simp [*, errW_none, errW_some] <;> rfl), belowA⟩

def W_spec_l01Text.f (l0 : List Int) : Option (ByteArray) := if l0.length ≤ 1099511627776 then some (strOfNums (YtiabgmddnddeiaaDoorPts.encs l0)) else none
theorem spec_l01Text.run (l : List Int) (hl : l.length ≤ 1099511627776) (d : Nat) : ∀ (k i : Nat), i ≤ l.length → l.length - i = d → d < k →
    spec_l01Text.l0 k l (YtiabgmddnddeiaaDoorPts.encs (l.take i)) (i : Int) = some (strOfNums (YtiabgmddnddeiaaDoorPts.encs l)) := by
  induction d with
  | zero =>
    intro k i h1 h2 h3
    obtain ⟨k, rfl⟩ : ∃ m, k = m + 1 := ⟨k - 1, by omega⟩
    simp only [spec_l01Text.l0]
    rw [if_neg (by omega), List.take_of_length_le (by omega)]
  | succ d ih =>
    intro k i h1 h2 h3
    obtain ⟨k, rfl⟩ : ∃ m, k = m + 1 := ⟨k - 1, by omega⟩
    have hlt : i < l.length := by omega
    simp only [spec_l01Text.l0]
    rw [if_pos (by omega), if_pos (by omega)]
    have hw : wrap64 ((i : Int) + 1) = ((i + 1 : Nat) : Int) := by unfold wrap64; omega
    have hr : rd l (i : Int) = l[i] := by simp [rd, List.getD, hlt]
    have hb : bytesOf (strOfNums (YtiabgmddnddeiaaDoorPts.enc l[i])) = YtiabgmddnddeiaaDoorPts.enc l[i] := YtiabgmddnddeiaaDoorPts.bytesOf_strOfNums (YtiabgmddnddeiaaDoorPts.enc_bytes _)
    have ht : YtiabgmddnddeiaaDoorPts.encs (l.take (i + 1)) = YtiabgmddnddeiaaDoorPts.encs (l.take i) ++ YtiabgmddnddeiaaDoorPts.enc l[i] := by
      rw [List.take_succ_eq_append_getElem hlt, YtiabgmddnddeiaaDoorPts.encs_append]
      simp [YtiabgmddnddeiaaDoorPts.encs]
    have hlen := YtiabgmddnddeiaaDoorPts.encs_length (l.take i)
    rw [List.length_take] at hlen
    have hone := YtiabgmddnddeiaaDoorPts.enc_length l[i]
    rw [hr]
    unfold W_spec_l01Write.f
    simp only [Option.bind_some]
    rw [hb, strOfNums_size, if_pos (by omega), hw, ← ht]
    exact ih k (i + 1) (by omega) (by omega) (by omega)
theorem W_spec_l01Text.to {l0 : List Int} {r : ByteArray} (h : W_spec_l01Text.f l0 = some r) : ∃ k, spec_l01Text.f k l0 = some r := by
  unfold W_spec_l01Text.f at h
  split at h
  · rename_i hl
    refine ⟨l0.length + 1, ?_⟩
    rw [← h]
    exact spec_l01Text.run l0 hl l0.length (l0.length + 1) 0 (by omega) (by omega) (by omega)
  · cases h
theorem W_spec_l01Text.calls (A0 : Option Addr) (c0 : Nat) (l0 : List Int) (r : ByteArray) (w : World) (hr0 : Kd.C (Kd.int .i64) w A0 l0.length l0) (hc0 : l0.length ≤ c0) (h : W_spec_l01Text.f l0 = some r) :
    Calls Tryd.prog 95 #[.slice A0 l0.length c0] w fun e w' => e = .returned (.string r) ∧ Below w.heap.size w w' := by
  obtain ⟨k, hk⟩ := W_spec_l01Text.to h
  exact spec_l01Text.calls k A0 c0 l0 r w hr0 hc0 hk

/-! ### spec_l05C: function 146 -/
def spec_l05C.f (a0 : Int) : Option (Bool) := some ((Int.tmod a0 2) == 0)
set_option maxHeartbeats 8000000 in
set_option maxRecDepth 100000 in
theorem spec_l05C.calls (a0 : Int) (r : Bool) (w : World) (h : spec_l05C.f a0 = some r) :
    Calls Tryd.prog 146 #[.int .i64 a0] w fun e w' => e = .returned (.bool r) ∧ Drawn0 w w' := by
  have H : (some ((Int.tmod a0 2) == 0)) = some r := h
  clear h
  obtain rfl := Option.some.inj H
  go_enter Tryd.func146, Tryd.ntmps146
  go_wp2
  go_ret
  exact ⟨by first | rfl | (simp; done) | (simp [*]; done), by repeat (first | exact Drawn0.refl _ | apply Drawn0.step)⟩

/-! ### spec_l05Letter: function 247 -/
def spec_l05Letter.f (a0 : Int) : Option (Int) := if a0 < 26 then (some (wrap64 (65 + a0))) else (some (wrap64 ((wrap64 (97 + a0)) - 26)))
set_option maxHeartbeats 8000000 in
set_option maxRecDepth 100000 in
theorem spec_l05Letter.calls (a0 : Int) (r : Int) (w : World) (h : spec_l05Letter.f a0 = some r) :
    Calls Tryd.prog 247 #[.int .i64 a0] w fun e w' => e = .returned (.int .i64 r) ∧ Drawn0 w w' := by
  have H : (if a0 < 26 then (some (wrap64 (65 + a0))) else (some (wrap64 ((wrap64 (97 + a0)) - 26)))) = some r := h
  clear h
  by_cases c2 : a0 < 26
  · rw [if_pos c2] at H
    have c2b0 : decide (a0 < 26) = true := decide_eq_true c2
    clear c2
    obtain rfl := Option.some.inj H
    go_enter Tryd.func247, Tryd.ntmps247
    go_wp2
    go_ret
    exact ⟨by first | rfl | (simp; done) | (simp [*]; done), by repeat (first | exact Drawn0.refl _ | apply Drawn0.step)⟩
  · rw [if_neg c2] at H
    have c2b0 : decide (a0 < 26) = false := decide_eq_false c2
    clear c2
    obtain rfl := Option.some.inj H
    go_enter Tryd.func247, Tryd.ntmps247
    go_wp2
    go_ret
    exact ⟨by first | rfl | (simp; done) | (simp [*]; done), by repeat (first | exact Drawn0.refl _ | apply Drawn0.step)⟩

/-! ### spec_l05Wide: function 248 (by hand) -/
theorem spec_l05Wide.litR (W : World) (base : Nat) (hb : base ≤ W.heap.size) (l : List Int) (hl : l.length ≤ 100) :
    Kd.R (Kd.int .i64) 2 (W.alloc (.cells (l.map (Value.int .i64)).toArray 2)) base (fun _ => True) (.slice (some ⟨W.heap.size, 0, none⟩) l.length l.length) l := by
  have hrep : Reps (Kd.M (Kd.int .i64) W base (fun _ => True)) (Kd.int .i64).sz l (l.map (Value.int .i64)) := by
    clear hl
    induction l with
    | nil => exact Reps.none _ _
    | cons x t ih => exact Reps.one (show Kd.M (Kd.int .i64) _ _ _ x [.int .i64 x] from rfl) ih
  refine ⟨fun _ _ => trivial, l.map (Value.int .i64), ?_, ?_⟩
  · have h2 := World.ownsRow_lit (base := base) (e := 2) (size := (Kd.int .i64).sz) W (l.map (Value.int .i64)).toArray l.length hb (by simp [maxLen]; omega) (by simpa using hrep.1)
    simpa using h2
  · refine hrep.imp_ (fun p c hp => hp)
def spec_l05Wide.Post (l : List Int) (w : World) (e : Ending) (w' : World) : Prop := ∃ v0_ : Value, e = .returned (v0_) ∧ Kd.R (Kd.int .i64) 2 w' w.heap.size (fun _ => True) v0_ l ∧ Below w.heap.size w w'
theorem spec_l05Wide.post0 {w : World} : spec_l05Wide.Post [] w (.returned (.slice (some ⟨w.heap.size, 0, none⟩) 0 0)) (w.alloc (.cells #[] 2)) :=
  ⟨_, rfl, spec_l05Wide.litR w _ (Nat.le_refl _) [] (by simp), below_alloc (Below.refl _ _) _⟩
theorem spec_l05Wide.post1 {w : World} {x : Int} (m : List Int) (hm : m = [x]) : spec_l05Wide.Post m w (.returned (.slice (some ⟨w.heap.size, 0, none⟩) 1 1)) (w.alloc (.cells #[.int .i64 x] 2)) := by
  subst hm
  exact ⟨_, rfl, spec_l05Wide.litR w _ (Nat.le_refl _) [x] (by simp), below_alloc (Below.refl _ _) _⟩
theorem spec_l05Wide.post2 {w : World} {x y : Int} (m : List Int) (hm : m = [x, y]) : spec_l05Wide.Post m w (.returned (.slice (some ⟨w.heap.size, 0, none⟩) 2 2)) (w.alloc (.cells #[.int .i64 x, .int .i64 y] 2)) := by
  subst hm
  exact ⟨_, rfl, spec_l05Wide.litR w _ (Nat.le_refl _) [x, y] (by simp), below_alloc (Below.refl _ _) _⟩
theorem spec_l05Wide.post3 {w : World} {x y : Int} (m : List Int) (hm : m = [x, y]) : spec_l05Wide.Post m w (.returned (.slice (some ⟨w.heap.size, 0, none⟩) 2 2)) (w.alloc (.cells #[.int .i64 x, .int .i64 y] 2)).drew := by
  subst hm
  exact ⟨_, rfl, Kd.R_drew (spec_l05Wide.litR w _ (Nat.le_refl _) [x, y] (by simp)), below_drew1 (below_alloc (Below.refl _ _) _)⟩
def spec_l05Wide.g (p : Int) : List Int := if 9984 ≤ p ∧ p ≤ 10009 then [p - 9919] else if 10016 ≤ p ∧ p ≤ 10025 then [p - 9968] else if p = 8064 ∨ p = 160 then [32]
  else if p = 10032 then [102, 102] else if p = 10033 then [102, 105] else if p = 10034 then [102, 108] else if p = 10035 then [115, 116] else []
def spec_l05Wide.f (p : Int) : Option (List Int) := if 0 ≤ p ∧ p ≤ 1114111 then some (spec_l05Wide.g p) else none
set_option maxHeartbeats 4000000 in
set_option maxRecDepth 100000 in
theorem spec_l05Wide.c1 (p : Int) (w : World) (h0 : 9984 ≤ p) (h1 : p ≤ 10009) : Calls Tryd.prog 248 #[.int .i64 p] w (spec_l05Wide.Post [p - 9919] w) := by
  go_enter Tryd.func248, Tryd.ntmps248
  go_wp2
  go_ret
  exact spec_l05Wide.post1 _ (by congr 1; omega)
set_option maxHeartbeats 4000000 in
set_option maxRecDepth 100000 in
theorem spec_l05Wide.c2 (p : Int) (w : World) (h0 : 10016 ≤ p) (h1 : p ≤ 10025) : Calls Tryd.prog 248 #[.int .i64 p] w (spec_l05Wide.Post [p - 9968] w) := by
  go_enter Tryd.func248, Tryd.ntmps248
  go_wp2
  go_ret
  exact spec_l05Wide.post1 _ (by congr 1; omega)
set_option maxHeartbeats 4000000 in
set_option maxRecDepth 100000 in
theorem spec_l05Wide.c3 (w : World) : Calls Tryd.prog 248 #[.int .i64 8064] w (spec_l05Wide.Post [32] w) := by
  go_enter Tryd.func248, Tryd.ntmps248
  go_wp2
  go_ret
  exact spec_l05Wide.post1 _ rfl
set_option maxHeartbeats 4000000 in
set_option maxRecDepth 100000 in
theorem spec_l05Wide.c4 (w : World) : Calls Tryd.prog 248 #[.int .i64 160] w (spec_l05Wide.Post [32] w) := by
  go_enter Tryd.func248, Tryd.ntmps248
  go_wp2
  go_ret
  exact spec_l05Wide.post1 _ rfl
set_option maxHeartbeats 4000000 in
set_option maxRecDepth 100000 in
theorem spec_l05Wide.c5 (w : World) : Calls Tryd.prog 248 #[.int .i64 10032] w (spec_l05Wide.Post [102, 102] w) := by
  have hs : (ByteArray.extract ⟨#[102, 102, 102, 105, 102, 108, 115, 116]⟩ 0 2) = ⟨#[102, 102]⟩ := by kernel_rfl
  go_enter Tryd.func248, Tryd.ntmps248
  go_wp2
  go_region
  go_wp2
  go_ret
  exact spec_l05Wide.post3 _ (by kernel_rfl)
set_option maxHeartbeats 4000000 in
set_option maxRecDepth 100000 in
theorem spec_l05Wide.c6 (w : World) : Calls Tryd.prog 248 #[.int .i64 10033] w (spec_l05Wide.Post [102, 105] w) := by
  have hs : (ByteArray.extract ⟨#[102, 102, 102, 105, 102, 108, 115, 116]⟩ 2 4) = ⟨#[102, 105]⟩ := by kernel_rfl
  go_enter Tryd.func248, Tryd.ntmps248
  go_wp2
  go_region
  go_wp2
  go_ret
  exact spec_l05Wide.post3 _ (by kernel_rfl)
set_option maxHeartbeats 4000000 in
set_option maxRecDepth 100000 in
theorem spec_l05Wide.c7 (w : World) : Calls Tryd.prog 248 #[.int .i64 10034] w (spec_l05Wide.Post [102, 108] w) := by
  have hs : (ByteArray.extract ⟨#[102, 102, 102, 105, 102, 108, 115, 116]⟩ 4 6) = ⟨#[102, 108]⟩ := by kernel_rfl
  go_enter Tryd.func248, Tryd.ntmps248
  go_wp2
  go_region
  go_wp2
  go_ret
  exact spec_l05Wide.post3 _ (by kernel_rfl)
set_option maxHeartbeats 4000000 in
set_option maxRecDepth 100000 in
theorem spec_l05Wide.c8 (w : World) : Calls Tryd.prog 248 #[.int .i64 10035] w (spec_l05Wide.Post [115, 116] w) := by
  have hs : (ByteArray.extract ⟨#[102, 102, 102, 105, 102, 108, 115, 116]⟩ 6 8) = ⟨#[115, 116]⟩ := by kernel_rfl
  go_enter Tryd.func248, Tryd.ntmps248
  go_wp2
  go_region
  go_wp2
  go_ret
  exact spec_l05Wide.post3 _ (by kernel_rfl)
set_option maxHeartbeats 4000000 in
set_option maxRecDepth 100000 in
theorem spec_l05Wide.c9 (p : Int) (w : World) (h1 : p < 9984 ∨ 10009 < p) (h2 : p < 10016 ∨ 10025 < p) (h3 : p ≠ 8064) (h4 : p ≠ 160) (h5 : p < 10032 ∨ 10035 < p) : Calls Tryd.prog 248 #[.int .i64 p] w (spec_l05Wide.Post [] w) := by
  have e3 : (p == 8064) = false := beq_eq_false_iff_ne.mpr h3
  have e4 : (p == 160) = false := beq_eq_false_iff_ne.mpr h4
  clear h3 h4
  have h : p < 9984 ∨ (10009 < p ∧ p < 10016) ∨ (10025 < p ∧ p < 10032) ∨ 10035 < p := by omega
  clear h1 h2 h5
  rcases h with h | ⟨h, h'⟩ | ⟨h, h'⟩ | h
  all_goals
    go_enter Tryd.func248, Tryd.ntmps248
    go_wp2
    go_ret
    exact spec_l05Wide.post0
theorem spec_l05Wide.calls (p : Int) (r : List Int) (w : World) (h : spec_l05Wide.f p = some r) : Calls Tryd.prog 248 #[.int .i64 p] w fun e w' => ∃ v0_ : Value, e = .returned (v0_) ∧ Kd.R (Kd.int .i64) 2 w' w.heap.size (fun _ => True) v0_ r ∧ Below w.heap.size w w' := by
  unfold spec_l05Wide.f at h
  split at h
  · have := Option.some.inj h
    subst this
    show Calls _ _ _ _ (spec_l05Wide.Post _ w)
    unfold spec_l05Wide.g
    by_cases d1 : 9984 ≤ p ∧ p ≤ 10009
    · rw [if_pos d1]; exact spec_l05Wide.c1 p w d1.1 d1.2
    rw [if_neg d1]
    by_cases d2 : 10016 ≤ p ∧ p ≤ 10025
    · rw [if_pos d2]; exact spec_l05Wide.c2 p w d2.1 d2.2
    rw [if_neg d2]
    by_cases d3 : p = 8064 ∨ p = 160
    · rw [if_pos d3]
      rcases d3 with rfl | rfl
      · exact spec_l05Wide.c3 w
      · exact spec_l05Wide.c4 w
    rw [if_neg d3]
    by_cases d4 : p = 10032
    · rw [if_pos d4, d4]; exact spec_l05Wide.c5 w
    rw [if_neg d4]
    by_cases d5 : p = 10033
    · rw [if_pos d5, d5]; exact spec_l05Wide.c6 w
    rw [if_neg d5]
    by_cases d6 : p = 10034
    · rw [if_pos d6, d6]; exact spec_l05Wide.c7 w
    rw [if_neg d6]
    by_cases d7 : p = 10035
    · rw [if_pos d7, d7]; exact spec_l05Wide.c8 w
    rw [if_neg d7]
    exact spec_l05Wide.c9 p w (by omega) (by omega) (by omega) (by omega) (by omega)
  · cases h

/-! ### spec_l05Parts: function 223 -/
mutual
def spec_l05Parts.j0 : Nat → Int → Bool → Int → Bool → Option (List Int)
 | 0, _, _, _, _ => none
 | k + 1, x0, x1, x5, x9 => if x9 = true then (if (wrap64 (Int.tdiv x0 512)) = 16 then ((spec_l05Letter.f (wrap64 (Int.tdiv x5 8))).bind fun t218 => (some (([t218, wrap64 (4096 + (Int.tmod x5 8))] : List Int)))) else (if (wrap64 (Int.tdiv x0 512)) = 17 then ((spec_l05Letter.f (wrap64 (Int.tdiv x5 8))).bind fun t222 => (some (([t222, wrap64 (4112 + (Int.tmod x5 8))] : List Int)))) else (some (([wrap64 (8704 + x5), 4096] : List Int))))) else (if x0 ≥ 9728 then (spec_l05Parts.j1 k x0 x1 (decide (x0 ≤ 9753))) else (spec_l05Parts.j1 k x0 x1 false))
def spec_l05Parts.j1 : Nat → Int → Bool → Bool → Option (List Int)
 | 0, _, _, _ => none
 | k + 1, x0, x1, x43 => if x43 = true then (some (([wrap64 ((wrap64 (x0 - 9728)) + 65)] : List Int))) else (if x0 ≥ 12288 then (spec_l05Parts.j2 k x0 x1 (decide (x0 ≤ 23459))) else (spec_l05Parts.j2 k x0 x1 false))
def spec_l05Parts.j2 : Nat → Int → Bool → Bool → Option (List Int)
 | 0, _, _, _ => none
 | k + 1, x0, x1, x54 => if x54 = true then (if (Int.tmod (wrap64 (x0 - 12288)) 28) > 0 then (some (([wrap64 (x0 - (Int.tmod (wrap64 (x0 - 12288)) 28)), wrap64 (1856 + (Int.tmod (wrap64 (x0 - 12288)) 28))] : List Int))) else (some (([wrap64 (1792 + (wrap64 (Int.tdiv (wrap64 (x0 - 12288)) 588))), wrap64 (1824 + (Int.tmod (wrap64 (Int.tdiv (wrap64 (x0 - 12288)) 28)) 21))] : List Int)))) else (if x1 = true then ((spec_l05Wide.f x0).bind fun t238 => (some t238)) else (some (([] : List Int))))
end
def spec_l05Parts.f (k : Nat) (a0 : Int) (a1 : Bool) : Option (List Int) := if a0 ≥ 8192 then (if a0 < 9728 then (spec_l05Parts.j0 k a0 a1 (Int.tmod a0 512) (decide ((Int.tmod a0 512) < 416))) else (spec_l05Parts.j0 k a0 a1 (Int.tmod a0 512) false)) else (spec_l05Parts.j0 k a0 a1 (Int.tmod a0 512) false)
theorem spec_l05Parts.mono_l : ∀ k, (∀ y0 y1 y2 y3, LeO (spec_l05Parts.j0 k y0 y1 y2 y3) (spec_l05Parts.j0 (k + 1) y0 y1 y2 y3)) ∧ (∀ y0 y1 y2, LeO (spec_l05Parts.j1 k y0 y1 y2) (spec_l05Parts.j1 (k + 1) y0 y1 y2)) ∧ (∀ y0 y1 y2, LeO (spec_l05Parts.j2 k y0 y1 y2) (spec_l05Parts.j2 (k + 1) y0 y1 y2))
 | 0 => ⟨fun _ _ _ _ r h => by simp [spec_l05Parts.j0] at h, fun _ _ _ r h => by simp [spec_l05Parts.j1] at h, fun _ _ _ r h => by simp [spec_l05Parts.j2] at h⟩
 | k + 1 => by
  obtain ⟨ih0, ih1, ih2⟩ := spec_l05Parts.mono_l k; refine ⟨?_, ?_, ?_⟩
  ·intro y0 y1 y2 y3
   unfold spec_l05Parts.j0
   repeat' first
   | (with_reducible exact ih0 _ _ _ _)
   | (with_reducible exact ih1 _ _ _)
   | (with_reducible exact ih2 _ _ _)
   | (with_reducible exact LeO.refl _)
   | (with_reducible exact LeO.none _)
   | (with_reducible refine LeO.ite ?_ ?_)
   | (with_reducible refine LeO.bind ?_ (fun _ => ?_))
   | exact ih0 _ _ _ _
   | exact ih1 _ _ _
   | exact ih2 _ _ _
   | exact LeO.none _
   | refine LeO.ite ?_ ?_
   | refine LeO.bind ?_ (fun _ => ?_)
  ·intro y0 y1 y2
   unfold spec_l05Parts.j1
   repeat' first
   | (with_reducible exact ih0 _ _ _ _)
   | (with_reducible exact ih1 _ _ _)
   | (with_reducible exact ih2 _ _ _)
   | (with_reducible exact LeO.refl _)
   | (with_reducible exact LeO.none _)
   | (with_reducible refine LeO.ite ?_ ?_)
   | (with_reducible refine LeO.bind ?_ (fun _ => ?_))
   | exact ih0 _ _ _ _
   | exact ih1 _ _ _
   | exact ih2 _ _ _
   | exact LeO.none _
   | refine LeO.ite ?_ ?_
   | refine LeO.bind ?_ (fun _ => ?_)
  intro y0 y1 y2
  unfold spec_l05Parts.j2
  repeat' first
  | (with_reducible exact ih0 _ _ _ _)
  | (with_reducible exact ih1 _ _ _)
  | (with_reducible exact ih2 _ _ _)
  | (with_reducible exact LeO.refl _)
  | (with_reducible exact LeO.none _)
  | (with_reducible refine LeO.ite ?_ ?_)
  | (with_reducible refine LeO.bind ?_ (fun _ => ?_))
  | exact ih0 _ _ _ _
  | exact ih1 _ _ _
  | exact ih2 _ _ _
  | exact LeO.none _
  | refine LeO.ite ?_ ?_
  | refine LeO.bind ?_ (fun _ => ?_)
theorem spec_l05Parts.mono : ∀ a0 a1 k, LeO (spec_l05Parts.f k a0 a1) (spec_l05Parts.f (k + 1) a0 a1) := by
 intro a0 a1 k
 obtain ⟨ih0, ih1, ih2⟩ := spec_l05Parts.mono_l k
 unfold spec_l05Parts.f
 repeat' first
   | (with_reducible exact ih0 _ _ _ _)
   | (with_reducible exact ih1 _ _ _)
   | (with_reducible exact ih2 _ _ _)
   | (with_reducible exact LeO.refl _)
   | (with_reducible exact LeO.none _)
   | (with_reducible refine LeO.ite ?_ ?_)
   | (with_reducible refine LeO.bind ?_ (fun _ => ?_))
   | exact ih0 _ _ _ _
   | exact ih1 _ _ _
   | exact ih2 _ _ _
   | exact LeO.none _
   | refine LeO.ite ?_ ?_
   | refine LeO.bind ?_ (fun _ => ?_)
set_option maxHeartbeats 8000000 in
set_option maxRecDepth 100000 in
theorem spec_l05Parts.calls (k : Nat) (a0 : Int) (a1 : Bool) (r : List Int) (w : World) (h : spec_l05Parts.f k a0 a1 = some r) :
  Calls Tryd.prog 223 #[.int .i64 a0, .bool a1] w fun e w' => ∃ v0_ : Value, e = .returned (v0_) ∧ Kd.R (Kd.int .i64) 2 w' w.heap.size (fun _ => True) v0_ r ∧ Below w.heap.size w w' := by
 have HB := Aside0.mk (Below.refl w.heap.size w)
 have H : (if a0 ≥ 8192 then (if a0 < 9728 then (spec_l05Parts.j0 k a0 a1 (Int.tmod a0 512) (decide ((Int.tmod a0 512) < 416))) else (spec_l05Parts.j0 k a0 a1 (Int.tmod a0 512) false)) else (spec_l05Parts.j0 k a0 a1 (Int.tmod a0 512) false)) = some r := h
 clear h
 have HC3 := Aside0.mk H
 clear H
 go_enter Tryd.func223, Tryd.ntmps223
 go_upto_region 2 with (fail)
 go_cut [9] (fun v9 wc => ∃ (kq : Nat) (x9_2 : Bool), v9 = .bool x9_2 ∧ Aside0 (spec_l05Parts.j0 kq a0 a1 (Int.tmod a0 512) x9_2 = some r) ∧ Aside0 (kq ≤ k) ∧ Aside0 (Below w.heap.size w wc))
 case first =>
  have H := HC3.out; clear HC3
  by_cases c4 : a0 ≥ 8192
  ·rw [if_pos c4] at H
   have c4b0 : decide (8192 ≤ a0) = true := decide_eq_true c4; clear c4
   (first | rw [c4b0] | (simp only [i64_w, i32_w]; rw [c4b0]) | skip)
   by_cases c5 : a0 < 9728
   ·rw [if_pos c5] at H
    have c5b0 : decide (a0 < 9728) = true := decide_eq_true c5; clear c5; have H' := Aside0.mk H; clear H
    go_wp2
    go_meet
    case rel => exact ⟨_, (decide ((Int.tmod a0 512) < 416)), (by first | rfl | (simp; done) | (simp [*]; done)), H', ⟨by first | omega | exact Nat.le_refl _⟩, ⟨belowA⟩⟩
   rw [if_neg c5] at H; have c5b0 : decide (a0 < 9728) = false := decide_eq_false c5; clear c5; have H' := Aside0.mk H; clear H
   go_wp2
   go_meet
   case rel => exact ⟨_, (false), (by first | rfl | (simp; done) | (simp [*]; done)), H', ⟨by first | omega | exact Nat.le_refl _⟩, ⟨belowA⟩⟩
  rw [if_neg c4] at H; have c4b0 : decide (8192 ≤ a0) = false := decide_eq_false c4; clear c4
  (first | rw [c4b0] | (simp only [i64_w, i32_w]; rw [c4b0]) | skip)
  have H' := Aside0.mk H; clear H
  go_wp2
  go_meet
  case rel => exact ⟨_, (false), (by first | rfl | (simp; done) | (simp [*]; done)), H', ⟨by first | omega | exact Nat.le_refl _⟩, ⟨belowA⟩⟩
 case rest =>
  clear HC3
  try clear c2; try clear p2; try clear c4; try clear c4b0; try clear c5; try clear c5b0
  obtain ⟨kq, x9_2, rfl, HA, HJ2, HB⟩ := hcut
  cases kq with
  | zero => exact absurd HA.out (by simp [spec_l05Parts.j0])
  | succ kj2 =>
   have H := HA.out; clear HA; simp only [spec_l05Parts.j0] at H
   by_cases c6 : x9_2 = true
   ·subst c6
    have H1 : (if (wrap64 (Int.tdiv a0 512)) = 16 then ((spec_l05Letter.f (wrap64 (Int.tdiv (Int.tmod a0 512) 8))).bind fun t218 => (some (([t218, wrap64 (4096 + (Int.tmod (Int.tmod a0 512) 8))] : List Int)))) else (if (wrap64 (Int.tdiv a0 512)) = 17 then ((spec_l05Letter.f (wrap64 (Int.tdiv (Int.tmod a0 512) 8))).bind fun t222 => (some (([t222, wrap64 (4112 + (Int.tmod (Int.tmod a0 512) 8))] : List Int)))) else (some (([wrap64 (8704 + (Int.tmod a0 512)), 4096] : List Int))))) = some r := by rw [if_pos rfl] at H; exact H
    clear H; have H := H1; clear H1
    by_cases c7 : (wrap64 (Int.tdiv a0 512)) = 16
    ·rw [if_pos c7] at H
     have c7b0 : ((wrap64 (Int.tdiv a0 512)) == 16) = true := beq_iff_eq.mpr c7; have c7b1 : ((wrap64 (Int.tdiv a0 512)) != 16) = false := bne_eq_false_iff_eq.mpr c7; clear c7; replace H := Option.bind_eq_some_iff.mp H; obtain ⟨t218, A80, H⟩ := H
     try dsimp only at H
     have A8 := Aside0.mk A80; clear A80; obtain ⟨y219, hy219⟩ : ∃ y_ : List Int, y_ = (([t218, wrap64 (4096 + (Int.tmod (Int.tmod a0 512) 8))] : List Int)) := ⟨_, rfl⟩
     replace H : (some y219) = some r := by first | (rw [hy219]; with_reducible exact H) | (have H2_ := (Option.bind_some _ _).symm.trans H; rw [hy219]; with_reducible exact H2_) | (have H2_ := (Option.bind_some _ _).symm.trans H; with_reducible exact H2_) | with_reducible exact H | (rw [hy219]; exact H) | exact H
     have Ny219 := Aside0.mk hy219; clear hy219; obtain rfl := Option.some.inj H
     go_wp2_with (first | ((with_reducible refine gate_callee (f := 247) rfl ?_); refine goesL_ (some 26) rfl rfl Tryd.func247 (by kernel_rfl) rfl #[.int .i64 (wrap64 (Int.tdiv (Int.tmod a0 512) 8))] rfl (by (try simp only [List.map_toArray, List.map_cons, List.map_nil]); first | done | rfl) ?_; (with_reducible refine (spec_l05Letter.calls (wrap64 (Int.tdiv (Int.tmod a0 512) 8)) t218 _ A8.out).mono ?_); rintro e w' ⟨rfl, ⟨nd, rfl⟩⟩; refine ⟨_, rfl, ?_⟩) | ((with_reducible refine gate_dst (N := 30) rfl ?_); refine Kd.R_lit (Kd.int .i64) _ 2 ?hg (N := 30) ?hd (xs := ([t218, wrap64 (4096 + (Int.tmod (Int.tmod a0 512) 8))] : List Int)) (inner := [.int .i64 t218, .int .i64 (wrap64 (4096 + (Int.tmod (Int.tmod a0 512) 8)))]) (ok := fun _ => True) (okp := fun _ => True) ?hr ?hp (fun _ hk => hk) trivial (Below.refl _ _) (Nat.le_refl _) (by simp) ?_; (case hd => rfl); (case hg => rfl); (case hr => first | (go_simp; done) | (go_simp; rfl)); (case hp => exact (Reps.one (show Kd.M (Kd.int .i64) _ _ _ t218 [.int .i64 t218] from rfl) (Reps.one (show Kd.M (Kd.int .i64) _ _ _ (wrap64 (4096 + (Int.tmod (Int.tmod a0 512) 8))) [.int .i64 (wrap64 (4096 + (Int.tmod (Int.tmod a0 512) 8)))] from rfl) (Reps.none _ _)))); intro v220 w9 ho10 hb hg_ hnew_; clear hg_ hnew_; (first | rw [← Ny219.out] at ho10 | (simp only [Int.reduceToNat] at ho10; rw [← Ny219.out] at ho10)); have n0_ := Aside0.mk (Kd.R_lower ho10 (below_size (belowA))); have n1_ := Aside0.mk (below_step (belowA) hb); clear HB; have HO221 := n0_; have HB := n1_; clear n0_ n1_; clear hb ho10))
     go_ret
     exact ⟨_, by first | rfl | (simp [errW_none, errW_some] <;> rfl) | (simp [*, errW_none, errW_some] <;> rfl), by (with_reducible repeat (first | apply Kd.R_alloc | apply Kd.R_drewN | apply Kd.R_drew)); exact HO221.out, belowA⟩
    rw [if_neg c7] at H; have c7b0 : ((wrap64 (Int.tdiv a0 512)) == 16) = false := beq_eq_false_iff_ne.mpr c7; have c7b1 : ((wrap64 (Int.tdiv a0 512)) != 16) = true := bne_iff_ne.mpr c7
    by_cases c11 : (wrap64 (Int.tdiv a0 512)) = 17
    ·rw [if_pos c11] at H
     have c11b0 : ((wrap64 (Int.tdiv a0 512)) == 17) = true := beq_iff_eq.mpr c11; have c11b1 : ((wrap64 (Int.tdiv a0 512)) != 17) = false := bne_eq_false_iff_eq.mpr c11; clear c11; replace H := Option.bind_eq_some_iff.mp H; obtain ⟨t222, A120, H⟩ := H
     try dsimp only at H
     have A12 := Aside0.mk A120; clear A120; obtain ⟨y223, hy223⟩ : ∃ y_ : List Int, y_ = (([t222, wrap64 (4112 + (Int.tmod (Int.tmod a0 512) 8))] : List Int)) := ⟨_, rfl⟩
     replace H : (some y223) = some r := by first | (rw [hy223]; with_reducible exact H) | (have H2_ := (Option.bind_some _ _).symm.trans H; rw [hy223]; with_reducible exact H2_) | (have H2_ := (Option.bind_some _ _).symm.trans H; with_reducible exact H2_) | with_reducible exact H | (rw [hy223]; exact H) | exact H
     have Ny223 := Aside0.mk hy223; clear hy223; obtain rfl := Option.some.inj H
     go_wp2_with (first | ((with_reducible refine gate_callee (f := 247) rfl ?_); refine goesL_ (some 35) rfl rfl Tryd.func247 (by kernel_rfl) rfl #[.int .i64 (wrap64 (Int.tdiv (Int.tmod a0 512) 8))] rfl (by (try simp only [List.map_toArray, List.map_cons, List.map_nil]); first | done | rfl) ?_; (with_reducible refine (spec_l05Letter.calls (wrap64 (Int.tdiv (Int.tmod a0 512) 8)) t222 _ A12.out).mono ?_); rintro e w' ⟨rfl, ⟨nd, rfl⟩⟩; refine ⟨_, rfl, ?_⟩) | ((with_reducible refine gate_dst (N := 39) rfl ?_); refine Kd.R_lit (Kd.int .i64) _ 2 ?hg (N := 39) ?hd (xs := ([t222, wrap64 (4112 + (Int.tmod (Int.tmod a0 512) 8))] : List Int)) (inner := [.int .i64 t222, .int .i64 (wrap64 (4112 + (Int.tmod (Int.tmod a0 512) 8)))]) (ok := fun _ => True) (okp := fun _ => True) ?hr ?hp (fun _ hk => hk) trivial (Below.refl _ _) (Nat.le_refl _) (by simp) ?_; (case hd => rfl); (case hg => rfl); (case hr => first | (go_simp; done) | (go_simp; rfl)); (case hp => exact (Reps.one (show Kd.M (Kd.int .i64) _ _ _ t222 [.int .i64 t222] from rfl) (Reps.one (show Kd.M (Kd.int .i64) _ _ _ (wrap64 (4112 + (Int.tmod (Int.tmod a0 512) 8))) [.int .i64 (wrap64 (4112 + (Int.tmod (Int.tmod a0 512) 8)))] from rfl) (Reps.none _ _)))); intro v224 w13 ho14 hb hg_ hnew_; clear hg_ hnew_; (first | rw [← Ny223.out] at ho14 | (simp only [Int.reduceToNat] at ho14; rw [← Ny223.out] at ho14)); have n0_ := Aside0.mk (Kd.R_lower ho14 (below_size (belowA))); have n1_ := Aside0.mk (below_step (belowA) hb); clear HB; have HO225 := n0_; have HB := n1_; clear n0_ n1_; clear hb ho14))
     go_ret
     exact ⟨_, by first | rfl | (simp [errW_none, errW_some] <;> rfl) | (simp [*, errW_none, errW_some] <;> rfl), by (with_reducible repeat (first | apply Kd.R_alloc | apply Kd.R_drewN | apply Kd.R_drew)); exact HO225.out, belowA⟩
    rw [if_neg c11] at H; have c11b0 : ((wrap64 (Int.tdiv a0 512)) == 17) = false := beq_eq_false_iff_ne.mpr c11; have c11b1 : ((wrap64 (Int.tdiv a0 512)) != 17) = true := bne_iff_ne.mpr c11; obtain ⟨y226, hy226⟩ : ∃ y_ : List Int, y_ = (([wrap64 (8704 + (Int.tmod a0 512)), 4096] : List Int)) := ⟨_, rfl⟩
    replace H : (some y226) = some r := by first | (rw [hy226]; with_reducible exact H) | (have H2_ := (Option.bind_some _ _).symm.trans H; rw [hy226]; with_reducible exact H2_) | (have H2_ := (Option.bind_some _ _).symm.trans H; with_reducible exact H2_) | with_reducible exact H | (rw [hy226]; exact H) | exact H
    have Ny226 := Aside0.mk hy226; clear hy226; obtain rfl := Option.some.inj H
    go_wp2_with (first | ((with_reducible refine gate_dst (N := 42) rfl ?_); refine Kd.R_lit (Kd.int .i64) _ 2 ?hg (N := 42) ?hd (xs := ([wrap64 (8704 + (Int.tmod a0 512)), 4096] : List Int)) (inner := [.int .i64 (wrap64 (8704 + (Int.tmod a0 512))), .int .i64 4096]) (ok := fun _ => True) (okp := fun _ => True) ?hr ?hp (fun _ hk => hk) trivial (Below.refl _ _) (Nat.le_refl _) (by simp) ?_; (case hd => rfl); (case hg => rfl); (case hr => first | (go_simp; done) | (go_simp; rfl)); (case hp => exact (Reps.one (show Kd.M (Kd.int .i64) _ _ _ (wrap64 (8704 + (Int.tmod a0 512))) [.int .i64 (wrap64 (8704 + (Int.tmod a0 512)))] from rfl) (Reps.one (show Kd.M (Kd.int .i64) _ _ _ 4096 [.int .i64 4096] from rfl) (Reps.none _ _)))); intro v227 w15 ho16 hb hg_ hnew_; clear hg_ hnew_; (first | rw [← Ny226.out] at ho16 | (simp only [Int.reduceToNat] at ho16; rw [← Ny226.out] at ho16)); have n0_ := Aside0.mk (Kd.R_lower ho16 (below_size (belowA))); have n1_ := Aside0.mk (below_step (belowA) hb); clear HB; have HO228 := n0_; have HB := n1_; clear n0_ n1_; clear hb ho16))
    go_ret
    exact ⟨_, by first | rfl | (simp [errW_none, errW_some] <;> rfl) | (simp [*, errW_none, errW_some] <;> rfl), by (with_reducible repeat (first | apply Kd.R_alloc | apply Kd.R_drewN | apply Kd.R_drew)); exact HO228.out, belowA⟩
   replace c6 := Bool.eq_false_iff.mpr c6; subst c6
   have H1 : (if a0 ≥ 9728 then (spec_l05Parts.j1 kj2 a0 a1 (decide (a0 ≤ 9753))) else (spec_l05Parts.j1 kj2 a0 a1 false)) = some r := by rw [if_neg (show ¬ (false = true) by decide)] at H; exact H
   clear H; have H := H1; clear H1; have HC17 := Aside0.mk H; clear H
   go_upto_region 9 with (fail)
   go_cut [43] (fun v43 wc => ∃ (kq : Nat) (x43_16 : Bool), v43 = .bool x43_16 ∧ Aside0 (spec_l05Parts.j1 kq a0 a1 x43_16 = some r) ∧ Aside0 (kq ≤ kj2) ∧ Aside0 (Below w.heap.size w wc))
   case first =>
    have H := HC17.out; clear HC17
    by_cases c18 : a0 ≥ 9728
    ·rw [if_pos c18] at H
     have c18b0 : decide (9728 ≤ a0) = true := decide_eq_true c18; clear c18
     (first | rw [c18b0] | (simp only [i64_w, i32_w]; rw [c18b0]) | skip)
     have H' := Aside0.mk H; clear H
     go_wp2
     go_meet
     case rel => exact ⟨_, (decide (a0 ≤ 9753)), (by first | rfl | (simp; done) | (simp [*]; done)), H', ⟨by have := HJ2.out; first | omega | exact Nat.le_refl _⟩, ⟨belowA⟩⟩
    rw [if_neg c18] at H; have c18b0 : decide (9728 ≤ a0) = false := decide_eq_false c18; clear c18
    (first | rw [c18b0] | (simp only [i64_w, i32_w]; rw [c18b0]) | skip)
    have H' := Aside0.mk H; clear H
    go_wp2
    go_meet
    case rel => exact ⟨_, (false), (by first | rfl | (simp; done) | (simp [*]; done)), H', ⟨by have := HJ2.out; first | omega | exact Nat.le_refl _⟩, ⟨belowA⟩⟩
   case rest =>
    clear HC17
    try clear c1; try clear c2; try clear p2; try clear c4; try clear c4b0; try clear c5; try clear c5b0; try clear c6; try clear p6; try clear c7; try clear c7b0; try clear c7b1; try clear c11; try clear c11b0; try clear c11b1; try clear c18; try clear c18b0; try clear p2
    obtain ⟨kq, x43_16, rfl, HA, HJ16, HB⟩ := hcut
    cases kq with
    | zero => exact absurd HA.out (by simp [spec_l05Parts.j1])
    | succ kj16 =>
     have H := HA.out; clear HA; simp only [spec_l05Parts.j1] at H
     by_cases c19 : x43_16 = true
     ·subst c19
      have H1 : (some (([wrap64 ((wrap64 (a0 - 9728)) + 65)] : List Int))) = some r := by rw [if_pos rfl] at H; exact H
      clear H; have H := H1; clear H1; obtain ⟨y229, hy229⟩ : ∃ y_ : List Int, y_ = (([wrap64 ((wrap64 (a0 - 9728)) + 65)] : List Int)) := ⟨_, rfl⟩
      replace H : (some y229) = some r := by first | (rw [hy229]; with_reducible exact H) | (have H2_ := (Option.bind_some _ _).symm.trans H; rw [hy229]; with_reducible exact H2_) | (have H2_ := (Option.bind_some _ _).symm.trans H; with_reducible exact H2_) | with_reducible exact H | (rw [hy229]; exact H) | exact H
      have Ny229 := Aside0.mk hy229; clear hy229; obtain rfl := Option.some.inj H
      go_wp2_with (first | ((with_reducible refine gate_dst (N := 53) rfl ?_); refine Kd.R_lit (Kd.int .i64) _ 2 ?hg (N := 53) ?hd (xs := ([wrap64 ((wrap64 (a0 - 9728)) + 65)] : List Int)) (inner := [.int .i64 (wrap64 ((wrap64 (a0 - 9728)) + 65))]) (ok := fun _ => True) (okp := fun _ => True) ?hr ?hp (fun _ hk => hk) trivial (Below.refl _ _) (Nat.le_refl _) (by simp) ?_; (case hd => rfl); (case hg => rfl); (case hr => first | (go_simp; done) | (go_simp; rfl)); (case hp => exact (Reps.one (show Kd.M (Kd.int .i64) _ _ _ (wrap64 ((wrap64 (a0 - 9728)) + 65)) [.int .i64 (wrap64 ((wrap64 (a0 - 9728)) + 65))] from rfl) (Reps.none _ _))); intro v230 w20 ho21 hb hg_ hnew_; clear hg_ hnew_; (first | rw [← Ny229.out] at ho21 | (simp only [Int.reduceToNat] at ho21; rw [← Ny229.out] at ho21)); have n0_ := Aside0.mk (Kd.R_lower ho21 (below_size (belowA))); have n1_ := Aside0.mk (below_step (belowA) hb); clear HB; have HO231 := n0_; have HB := n1_; clear n0_ n1_; clear hb ho21))
      go_ret
      exact ⟨_, by first | rfl | (simp [errW_none, errW_some] <;> rfl) | (simp [*, errW_none, errW_some] <;> rfl), by (with_reducible repeat (first | apply Kd.R_alloc | apply Kd.R_drewN | apply Kd.R_drew)); exact HO231.out, belowA⟩
     replace c19 := Bool.eq_false_iff.mpr c19; subst c19
     have H1 : (if a0 ≥ 12288 then (spec_l05Parts.j2 kj16 a0 a1 (decide (a0 ≤ 23459))) else (spec_l05Parts.j2 kj16 a0 a1 false)) = some r := by rw [if_neg (show ¬ (false = true) by decide)] at H; exact H
     clear H; have H := H1; clear H1; have HC22 := Aside0.mk H; clear H
     go_upto_region 11 with (fail)
     go_cut [54] (fun v54 wc => ∃ (kq : Nat) (x54_21 : Bool), v54 = .bool x54_21 ∧ Aside0 (spec_l05Parts.j2 kq a0 a1 x54_21 = some r) ∧ Aside0 (kq ≤ kj16) ∧ Aside0 (Below w.heap.size w wc))
     case first =>
      have H := HC22.out; clear HC22
      by_cases c23 : a0 ≥ 12288
      ·rw [if_pos c23] at H
       have c23b0 : decide (12288 ≤ a0) = true := decide_eq_true c23; clear c23
       (first | rw [c23b0] | (simp only [i64_w, i32_w]; rw [c23b0]) | skip)
       have H' := Aside0.mk H; clear H
       go_wp2
       go_meet
       case rel => exact ⟨_, (decide (a0 ≤ 23459)), (by first | rfl | (simp; done) | (simp [*]; done)), H', ⟨by have := HJ2.out; have := HJ16.out; first | omega | exact Nat.le_refl _⟩, ⟨belowA⟩⟩
      rw [if_neg c23] at H; have c23b0 : decide (12288 ≤ a0) = false := decide_eq_false c23; clear c23
      (first | rw [c23b0] | (simp only [i64_w, i32_w]; rw [c23b0]) | skip)
      have H' := Aside0.mk H; clear H
      go_wp2
      go_meet
      case rel => exact ⟨_, (false), (by first | rfl | (simp; done) | (simp [*]; done)), H', ⟨by have := HJ2.out; have := HJ16.out; first | omega | exact Nat.le_refl _⟩, ⟨belowA⟩⟩
     case rest =>
      clear HC22
      try clear c1; try clear c2; try clear p2; try clear c4; try clear c4b0; try clear c5; try clear c5b0; try clear c6; try clear p6; try clear c7; try clear c7b0; try clear c7b1; try clear c11; try clear c11b0; try clear c11b1; try clear c18; try clear c18b0; try clear c19; try clear c22; try clear c23; try clear c23b0; try clear p2; try clear p6
      obtain ⟨kq, x54_21, rfl, HA, HJ21, HB⟩ := hcut
      cases kq with
      | zero => exact absurd HA.out (by simp [spec_l05Parts.j2])
      | succ kj21 =>
       have H := HA.out; clear HA; simp only [spec_l05Parts.j2] at H
       by_cases c24 : x54_21 = true
       ·subst c24
        have H1 : (if (Int.tmod (wrap64 (a0 - 12288)) 28) > 0 then (some (([wrap64 (a0 - (Int.tmod (wrap64 (a0 - 12288)) 28)), wrap64 (1856 + (Int.tmod (wrap64 (a0 - 12288)) 28))] : List Int))) else (some (([wrap64 (1792 + (wrap64 (Int.tdiv (wrap64 (a0 - 12288)) 588))), wrap64 (1824 + (Int.tmod (wrap64 (Int.tdiv (wrap64 (a0 - 12288)) 28)) 21))] : List Int)))) = some r := by rw [if_pos rfl] at H; exact H
        clear H; have H := H1; clear H1
        by_cases c25 : (Int.tmod (wrap64 (a0 - 12288)) 28) > 0
        ·rw [if_pos c25] at H
         have c25b0 : decide (0 < (Int.tmod (wrap64 (a0 - 12288)) 28)) = true := decide_eq_true c25; clear c25; obtain ⟨y232, hy232⟩ : ∃ y_ : List Int, y_ = (([wrap64 (a0 - (Int.tmod (wrap64 (a0 - 12288)) 28)), wrap64 (1856 + (Int.tmod (wrap64 (a0 - 12288)) 28))] : List Int)) := ⟨_, rfl⟩
         replace H : (some y232) = some r := by first | (rw [hy232]; with_reducible exact H) | (have H2_ := (Option.bind_some _ _).symm.trans H; rw [hy232]; with_reducible exact H2_) | (have H2_ := (Option.bind_some _ _).symm.trans H; with_reducible exact H2_) | with_reducible exact H | (rw [hy232]; exact H) | exact H
         have Ny232 := Aside0.mk hy232; clear hy232; obtain rfl := Option.some.inj H
         go_wp2_with (first | ((with_reducible refine gate_dst (N := 73) rfl ?_); refine Kd.R_lit (Kd.int .i64) _ 2 ?hg (N := 73) ?hd (xs := ([wrap64 (a0 - (Int.tmod (wrap64 (a0 - 12288)) 28)), wrap64 (1856 + (Int.tmod (wrap64 (a0 - 12288)) 28))] : List Int)) (inner := [.int .i64 (wrap64 (a0 - (Int.tmod (wrap64 (a0 - 12288)) 28))), .int .i64 (wrap64 (1856 + (Int.tmod (wrap64 (a0 - 12288)) 28)))]) (ok := fun _ => True) (okp := fun _ => True) ?hr ?hp (fun _ hk => hk) trivial (Below.refl _ _) (Nat.le_refl _) (by simp) ?_; (case hd => rfl); (case hg => rfl); (case hr => first | (go_simp; done) | (go_simp; rfl)); (case hp => exact (Reps.one (show Kd.M (Kd.int .i64) _ _ _ (wrap64 (a0 - (Int.tmod (wrap64 (a0 - 12288)) 28))) [.int .i64 (wrap64 (a0 - (Int.tmod (wrap64 (a0 - 12288)) 28)))] from rfl) (Reps.one (show Kd.M (Kd.int .i64) _ _ _ (wrap64 (1856 + (Int.tmod (wrap64 (a0 - 12288)) 28))) [.int .i64 (wrap64 (1856 + (Int.tmod (wrap64 (a0 - 12288)) 28)))] from rfl) (Reps.none _ _)))); intro v233 w26 ho27 hb hg_ hnew_; clear hg_ hnew_; (first | rw [← Ny232.out] at ho27 | (simp only [Int.reduceToNat] at ho27; rw [← Ny232.out] at ho27)); have n0_ := Aside0.mk (Kd.R_lower ho27 (below_size (belowA))); have n1_ := Aside0.mk (below_step (belowA) hb); clear HB; have HO234 := n0_; have HB := n1_; clear n0_ n1_; clear hb ho27))
         go_ret
         exact ⟨_, by first | rfl | (simp [errW_none, errW_some] <;> rfl) | (simp [*, errW_none, errW_some] <;> rfl), by (with_reducible repeat (first | apply Kd.R_alloc | apply Kd.R_drewN | apply Kd.R_drew)); exact HO234.out, belowA⟩
        rw [if_neg c25] at H; have c25b0 : decide (0 < (Int.tmod (wrap64 (a0 - 12288)) 28)) = false := decide_eq_false c25; clear c25; obtain ⟨y235, hy235⟩ : ∃ y_ : List Int, y_ = (([wrap64 (1792 + (wrap64 (Int.tdiv (wrap64 (a0 - 12288)) 588))), wrap64 (1824 + (Int.tmod (wrap64 (Int.tdiv (wrap64 (a0 - 12288)) 28)) 21))] : List Int)) := ⟨_, rfl⟩
        replace H : (some y235) = some r := by first | (rw [hy235]; with_reducible exact H) | (have H2_ := (Option.bind_some _ _).symm.trans H; rw [hy235]; with_reducible exact H2_) | (have H2_ := (Option.bind_some _ _).symm.trans H; with_reducible exact H2_) | with_reducible exact H | (rw [hy235]; exact H) | exact H
        have Ny235 := Aside0.mk hy235; clear hy235; obtain rfl := Option.some.inj H
        go_wp2_with (first | ((with_reducible refine gate_dst (N := 81) rfl ?_); refine Kd.R_lit (Kd.int .i64) _ 2 ?hg (N := 81) ?hd (xs := ([wrap64 (1792 + (wrap64 (Int.tdiv (wrap64 (a0 - 12288)) 588))), wrap64 (1824 + (Int.tmod (wrap64 (Int.tdiv (wrap64 (a0 - 12288)) 28)) 21))] : List Int)) (inner := [.int .i64 (wrap64 (1792 + (wrap64 (Int.tdiv (wrap64 (a0 - 12288)) 588)))), .int .i64 (wrap64 (1824 + (Int.tmod (wrap64 (Int.tdiv (wrap64 (a0 - 12288)) 28)) 21)))]) (ok := fun _ => True) (okp := fun _ => True) ?hr ?hp (fun _ hk => hk) trivial (Below.refl _ _) (Nat.le_refl _) (by simp) ?_; (case hd => rfl); (case hg => rfl); (case hr => first | (go_simp; done) | (go_simp; rfl)); (case hp => exact (Reps.one (show Kd.M (Kd.int .i64) _ _ _ (wrap64 (1792 + (wrap64 (Int.tdiv (wrap64 (a0 - 12288)) 588)))) [.int .i64 (wrap64 (1792 + (wrap64 (Int.tdiv (wrap64 (a0 - 12288)) 588))))] from rfl) (Reps.one (show Kd.M (Kd.int .i64) _ _ _ (wrap64 (1824 + (Int.tmod (wrap64 (Int.tdiv (wrap64 (a0 - 12288)) 28)) 21))) [.int .i64 (wrap64 (1824 + (Int.tmod (wrap64 (Int.tdiv (wrap64 (a0 - 12288)) 28)) 21)))] from rfl) (Reps.none _ _)))); intro v236 w28 ho29 hb hg_ hnew_; clear hg_ hnew_; (first | rw [← Ny235.out] at ho29 | (simp only [Int.reduceToNat] at ho29; rw [← Ny235.out] at ho29)); have n0_ := Aside0.mk (Kd.R_lower ho29 (below_size (belowA))); have n1_ := Aside0.mk (below_step (belowA) hb); clear HB; have HO237 := n0_; have HB := n1_; clear n0_ n1_; clear hb ho29))
        go_ret
        exact ⟨_, by first | rfl | (simp [errW_none, errW_some] <;> rfl) | (simp [*, errW_none, errW_some] <;> rfl), by (with_reducible repeat (first | apply Kd.R_alloc | apply Kd.R_drewN | apply Kd.R_drew)); exact HO237.out, belowA⟩
       replace c24 := Bool.eq_false_iff.mpr c24; subst c24
       have H1 : (if a1 = true then ((spec_l05Wide.f a0).bind fun t238 => (some t238)) else (some (([] : List Int)))) = some r := by rw [if_neg (show ¬ (false = true) by decide)] at H; exact H
       clear H; have H := H1; clear H1
       by_cases c30 : a1 = true
       ·subst c30
        have H1 : ((spec_l05Wide.f a0).bind fun t238 => (some t238)) = some r := by rw [if_pos rfl] at H; exact H
        clear H; have H := H1; clear H1; replace H := Option.bind_eq_some_iff.mp H; obtain ⟨t238, A310, H⟩ := H
        try dsimp only at H
        have A31 := Aside0.mk A310; clear A310; obtain rfl := Option.some.inj H
        go_wp2_with (first | ((with_reducible refine gate_callee (f := 248) rfl ?_); refine goesL_ (some 85) rfl rfl Tryd.func248 (by kernel_rfl) rfl #[.int .i64 a0] rfl (by (try simp only [List.map_toArray, List.map_cons, List.map_nil]); first | done | rfl) ?_; (with_reducible refine (spec_l05Wide.calls a0 t238 _ A31.out).mono ?_); rintro e w32 ⟨v239, rfl, ho0, hb⟩; refine ⟨_, rfl, ?_⟩; have n0_ := Aside0.mk (Kd.R_lower ho0 (below_size (belowA))); have n1_ := Aside0.mk (below_step (belowA) hb); clear HB; have HO240 := n0_; have HB := n1_; clear n0_ n1_; (try clear hb); (try clear hb2); (try clear hk); (try clear hi); (try clear ho0)))
        go_ret
        exact ⟨_, by first | rfl | (simp [errW_none, errW_some] <;> rfl) | (simp [*, errW_none, errW_some] <;> rfl), by (with_reducible repeat (first | apply Kd.R_alloc | apply Kd.R_drewN | apply Kd.R_drew)); exact HO240.out, belowA⟩
       replace c30 := Bool.eq_false_iff.mpr c30; subst c30
       have H1 : (some (([] : List Int))) = some r := by rw [if_neg (show ¬ (false = true) by decide)] at H; exact H
       clear H; have H := H1; clear H1; obtain ⟨y241, hy241⟩ : ∃ y_ : List Int, y_ = (([] : List Int)) := ⟨_, rfl⟩
       replace H : (some y241) = some r := by first | (rw [hy241]; with_reducible exact H) | (have H2_ := (Option.bind_some _ _).symm.trans H; rw [hy241]; with_reducible exact H2_) | (have H2_ := (Option.bind_some _ _).symm.trans H; with_reducible exact H2_) | with_reducible exact H | (rw [hy241]; exact H) | exact H
       have Ny241 := Aside0.mk hy241; clear hy241; obtain rfl := Option.some.inj H
       go_wp2_with (first | ((with_reducible refine gate_dst (N := 86) rfl ?_); refine Kd.R_lit (Kd.int .i64) _ 2 ?hg (N := 86) ?hd (xs := ([] : List Int)) (inner := []) (ok := fun _ => True) (okp := fun _ => True) ?hr ?hp (fun _ hk => hk) trivial (Below.refl _ _) (Nat.le_refl _) (by simp) ?_; (case hd => rfl); (case hg => rfl); (case hr => first | (go_simp; done) | (go_simp; rfl)); (case hp => exact (Reps.none _ _)); intro v242 w33 ho34 hb hg_ hnew_; clear hg_ hnew_; (first | rw [← Ny241.out] at ho34 | (simp only [Int.reduceToNat] at ho34; rw [← Ny241.out] at ho34)); have n0_ := Aside0.mk (Kd.R_lower ho34 (below_size (belowA))); have n1_ := Aside0.mk (below_step (belowA) hb); clear HB; have HO243 := n0_; have HB := n1_; clear n0_ n1_; clear hb ho34))
       go_ret
       exact ⟨_, by first | rfl | (simp [errW_none, errW_some] <;> rfl) | (simp [*, errW_none, errW_some] <;> rfl), by (with_reducible repeat (first | apply Kd.R_alloc | apply Kd.R_drewN | apply Kd.R_drew)); exact HO243.out, belowA⟩

def W_spec_l05Parts.f (a0 : Int) (a1 : Bool) : Option (List Int) := if 0 ≤ a0 ∧ a0 ≤ 1114111 then some (YtiabgmddnddeiaaDoorNrm.prt a1 a0) else none
theorem spec_l05Parts.wide_ (p : Int) (h0 : 0 ≤ p) (h1 : p ≤ 1114111) (c1 : ¬ (8192 ≤ p ∧ p ≤ 9631 ∧ p % 512 < 416)) (c2 : ¬ (9728 ≤ p ∧ p ≤ 9753)) (c3 : ¬ (12288 ≤ p ∧ p ≤ 23459)) : spec_l05Wide.f p = some (YtiabgmddnddeiaaDoorNrm.prt true p) := by
  unfold YtiabgmddnddeiaaDoorNrm.prt spec_l05Wide.f spec_l05Wide.g
  rw [if_neg c1, if_neg c2, if_neg c3, if_pos ⟨h0, h1⟩]
  simp only [true_and]
theorem spec_l05Parts.eq_ (p : Int) (k : Bool) (h0 : 0 ≤ p) (h1 : p ≤ 1114111) : spec_l05Parts.f 6 p k = some (YtiabgmddnddeiaaDoorNrm.prt k p) := by
  have t1 : Int.tmod p 512 = p % 512 := Int.tmod_eq_emod_of_nonneg h0
  have lt : ∀ i : Int, 0 ≤ i → i < 52 → spec_l05Letter.f i = some (YtiabgmddnddeiaaDoorNrm.letter i) := by
    intro i i0 i1
    unfold spec_l05Letter.f YtiabgmddnddeiaaDoorNrm.letter
    by_cases c : i < 26
    · rw [if_pos c, if_pos c]; unfold wrap64; congr 1; omega
    · rw [if_neg c, if_neg c]; unfold wrap64; congr 1; omega
  unfold spec_l05Parts.f
  rw [t1]
  by_cases c1 : 8192 ≤ p ∧ p ≤ 9631 ∧ p % 512 < 416
  · have t2 : wrap64 (Int.tdiv p 512) = p / 512 := by rw [Int.tdiv_eq_ediv_of_nonneg h0]; unfold wrap64; omega
    have t3 : wrap64 (Int.tdiv (p % 512) 8) = p % 512 / 8 := by rw [Int.tdiv_eq_ediv_of_nonneg (by omega)]; unfold wrap64; omega
    have t4 : Int.tmod (p % 512) 8 = p % 8 := by rw [Int.tmod_eq_emod_of_nonneg (by omega)]; omega
    rw [if_pos (show p ≥ 8192 from c1.1), if_pos (by omega), decide_eq_true c1.2.2]
    simp only [spec_l05Parts.j0]
    unfold YtiabgmddnddeiaaDoorNrm.prt
    rw [if_pos trivial, t2, t3, t4, lt _ (by omega) (by omega), if_pos c1]
    simp only [Option.bind_some]
    by_cases d1 : p < 8704
    · rw [if_pos (by omega), if_pos d1, show wrap64 (4096 + p % 8) = 4096 + p % 8 by unfold wrap64; omega]
    · rw [if_neg (by omega), if_neg d1]
      by_cases d2 : p < 9216
      · rw [if_pos (by omega), if_pos d2, show wrap64 (4112 + p % 8) = 4112 + p % 8 by unfold wrap64; omega]
      · rw [if_neg (by omega), if_neg d2, show wrap64 (8704 + p % 512) = 8704 + p % 512 by unfold wrap64; omega]
  have e1 : (if p ≥ 8192 then if p < 9728 then spec_l05Parts.j0 6 p k (p % 512) (decide (p % 512 < 416)) else spec_l05Parts.j0 6 p k (p % 512) false else spec_l05Parts.j0 6 p k (p % 512) false) = spec_l05Parts.j0 6 p k (p % 512) false := by
    by_cases c : p ≥ 8192
    · rw [if_pos c]
      by_cases c2 : p < 9728
      · rw [if_pos c2, decide_eq_false (by omega)]
      · rw [if_neg c2]
    · rw [if_neg c]
  rw [e1]
  simp only [spec_l05Parts.j0]
  rw [if_neg (by decide)]
  by_cases c2 : 9728 ≤ p ∧ p ≤ 9753
  · rw [if_pos (show p ≥ 9728 from c2.1), decide_eq_true c2.2]
    simp only [spec_l05Parts.j1]
    unfold YtiabgmddnddeiaaDoorNrm.prt
    rw [if_pos trivial, if_neg c1, if_pos c2, show wrap64 (wrap64 (p - 9728) + 65) = p - 9663 by unfold wrap64; omega]
  have e2 : (if p ≥ 9728 then spec_l05Parts.j1 5 p k (decide (p ≤ 9753)) else spec_l05Parts.j1 5 p k false) = spec_l05Parts.j1 5 p k false := by
    by_cases c : p ≥ 9728
    · rw [if_pos c, decide_eq_false (by omega)]
    · rw [if_neg c]
  rw [e2]
  simp only [spec_l05Parts.j1]
  rw [if_neg (by decide)]
  by_cases c3 : 12288 ≤ p ∧ p ≤ 23459
  · have w1 : wrap64 (p - 12288) = p - 12288 := by unfold wrap64; omega
    have t2 : Int.tmod (p - 12288) 28 = (p - 12288) % 28 := Int.tmod_eq_emod_of_nonneg (by omega)
    have t3 : wrap64 (Int.tdiv (p - 12288) 588) = (p - 12288) / 588 := by rw [Int.tdiv_eq_ediv_of_nonneg (by omega)]; unfold wrap64; omega
    have t4 : wrap64 (Int.tdiv (p - 12288) 28) = (p - 12288) / 28 := by rw [Int.tdiv_eq_ediv_of_nonneg (by omega)]; unfold wrap64; omega
    have t5 : Int.tmod ((p - 12288) / 28) 21 = (p - 12288) / 28 % 21 := Int.tmod_eq_emod_of_nonneg (by omega)
    rw [if_pos (show p ≥ 12288 from c3.1), decide_eq_true c3.2]
    simp only [spec_l05Parts.j2]
    unfold YtiabgmddnddeiaaDoorNrm.prt
    rw [if_pos trivial, if_neg c1, if_neg c2, if_pos c3, w1, t2, t3, t4, t5]
    by_cases d : 0 < (p - 12288) % 28
    · rw [if_pos (show (p - 12288) % 28 > 0 from d), if_pos d, show wrap64 (p - (p - 12288) % 28) = p - (p - 12288) % 28 by unfold wrap64; omega, show wrap64 (1856 + (p - 12288) % 28) = 1856 + (p - 12288) % 28 by unfold wrap64; omega]
    · rw [if_neg (show ¬ (p - 12288) % 28 > 0 from d), if_neg d, show wrap64 (1792 + (p - 12288) / 588) = 1792 + (p - 12288) / 588 by unfold wrap64; omega, show wrap64 (1824 + (p - 12288) / 28 % 21) = 1824 + (p - 12288) / 28 % 21 by unfold wrap64; omega]
  have e3 : (if p ≥ 12288 then spec_l05Parts.j2 4 p k (decide (p ≤ 23459)) else spec_l05Parts.j2 4 p k false) = spec_l05Parts.j2 4 p k false := by
    by_cases c : p ≥ 12288
    · rw [if_pos c, decide_eq_false (by omega)]
    · rw [if_neg c]
  rw [e3]
  simp only [spec_l05Parts.j2]
  rw [if_neg (by decide)]
  cases k with
  | true =>
    rw [if_pos rfl, spec_l05Parts.wide_ p h0 h1 c1 c2 c3]
    rfl
  | false =>
    unfold YtiabgmddnddeiaaDoorNrm.prt
    rw [if_neg (by decide), if_neg c1, if_neg c2, if_neg c3]
    simp
theorem W_spec_l05Parts.to {a0 : Int} {a1 : Bool} {r : List Int} (h : W_spec_l05Parts.f a0 a1 = some r) : ∃ k, spec_l05Parts.f k a0 a1 = some r := by
  unfold W_spec_l05Parts.f at h
  split at h
  · rename_i hp
    exact ⟨6, by rw [← h]; exact spec_l05Parts.eq_ a0 a1 hp.1 hp.2⟩
  · cases h
theorem W_spec_l05Parts.calls (a0 : Int) (a1 : Bool) (r : List Int) (w : World) (h : W_spec_l05Parts.f a0 a1 = some r) :
    Calls Tryd.prog 223 #[.int .i64 a0, .bool a1] w fun e w' => ∃ v0_ : Value, e = .returned (v0_) ∧ Kd.R (Kd.int .i64) 2 w' w.heap.size (fun _ => True) v0_ r ∧ Below w.heap.size w w' := by
  obtain ⟨k, hk⟩ := W_spec_l05Parts.to h
  exact spec_l05Parts.calls k a0 a1 r w hk

end Go.Proofs.YtiabgmddnddeiaaDoor.QFnQuick
