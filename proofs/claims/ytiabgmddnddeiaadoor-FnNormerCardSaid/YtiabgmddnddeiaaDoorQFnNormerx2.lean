/- The law FnNormer: at every input the call answers true (this text: contracts on its way, by a program of this session's; no condition of ours). -/
import Derived.Test.YtiabgmddnddeiaaDoorQFnNormerx0
import Derived.Test.YtiabgmddnddeiaaDoorQFnNormerx1
namespace Go.Proofs.YtiabgmddnddeiaaDoor.QFnNormer
open Go.RowKit Go.Proofs.YtiabgmddnddeiaaDoorW.PrintWords Go.Proofs.YtiabgmddnddeiaaDoorW.PrintLast Go.Proofs.YtiabgmddnddeiaaDoorW.PrintMore
attribute [local go_sem] max2_int min2_int max_two min_two max_three min_three max_four min_four   -- for this text's walks alone
set_option linter.unusedVariables false
set_option linter.unusedSimpArgs false

/-! ### spec_l01Text: function 95 -/
def spec_l01Text.l0 : Nat → List Int → List Int → Int → Option (ByteArray)
 | 0, _, _, _ => none
 | k + 1, x0, x3, x4 => if x4 < (x0.length : Int) then (if 0 ≤ x4 then ((W_spec_l01Write.f (rd x0 x4)).bind fun t118 => (if x3.length + t118.size < 140737488355328 then (spec_l01Text.l0 k x0 (x3 ++ bytesOf t118) (wrap64 (x4 + 1))) else (none))) else (none)) else (some (strOfNums x3))
def spec_l01Text.f (k : Nat) (l0 : List Int) : Option (ByteArray) := spec_l01Text.l0 k l0 (([] : List Int)) 0
theorem spec_l01Text.mono_l : ∀ k, (∀ y0 y1 y2, LeO (spec_l01Text.l0 k y0 y1 y2) (spec_l01Text.l0 (k + 1) y0 y1 y2))
 | 0 => fun _ _ _ r h => by simp [spec_l01Text.l0] at h
 | k + 1 => by
  have ih0 := spec_l01Text.mono_l k; intro y0 y1 y2
  unfold spec_l01Text.l0
  repeat' first
  | (with_reducible exact ih0 _ _ _)
  | (with_reducible exact LeO.refl _)
  | (with_reducible exact LeO.none _)
  | (with_reducible refine LeO.ite ?_ ?_)
  | (with_reducible refine LeO.bind ?_ (fun _ => ?_))
  | exact ih0 _ _ _
  | exact LeO.none _
  | refine LeO.ite ?_ ?_
  | refine LeO.bind ?_ (fun _ => ?_)
theorem spec_l01Text.mono : ∀ a0 k, LeO (spec_l01Text.f k a0) (spec_l01Text.f (k + 1) a0) := by
 intro a0 k
 have ih0 := spec_l01Text.mono_l k
 unfold spec_l01Text.f
 repeat' first
   | (with_reducible exact ih0 _ _ _)
   | (with_reducible exact LeO.refl _)
   | (with_reducible exact LeO.none _)
   | (with_reducible refine LeO.ite ?_ ?_)
   | (with_reducible refine LeO.bind ?_ (fun _ => ?_))
   | exact ih0 _ _ _
   | exact LeO.none _
   | refine LeO.ite ?_ ?_
   | refine LeO.bind ?_ (fun _ => ?_)
set_option maxHeartbeats 8000000 in
set_option maxRecDepth 100000 in
theorem spec_l01Text.calls (k : Nat) (A0 : Option Addr) (c0 : Nat) (l0 : List Int) (r : ByteArray) (w : World) (hr0 : Kd.C (Kd.int .i64) w A0 l0.length l0) (hc0 : l0.length ≤ c0) (h : spec_l01Text.f k l0 = some r) :
  Calls Tryd.prog 95 #[.slice A0 l0.length c0] w fun e w' => e = .returned (.string r) ∧ Below w.heap.size w w' := by
 have HR0 := Aside0.mk hr0
 have HC0 := Aside0.mk hc0
 clear hr0 hc0
 have HB := Aside0.mk (Below.refl w.heap.size w)
 have H : (spec_l01Text.l0 k l0 (([] : List Int)) 0) = some r := h
 clear h
 obtain ⟨y114, hy114⟩ : ∃ y_ : List Int, y_ = (([] : List Int)) := ⟨_, rfl⟩
 replace H : (spec_l01Text.l0 k l0 y114 0) = some r := by first | (rw [hy114]; with_reducible exact H) | (have H2_ := (Option.bind_some _ _).symm.trans H; rw [hy114]; with_reducible exact H2_) | (have H2_ := (Option.bind_some _ _).symm.trans H; with_reducible exact H2_) | with_reducible exact H | (rw [hy114]; exact H) | exact H
 have Ny114 := Aside0.mk hy114
 clear hy114
 have H' := Aside0.mk H
 clear H
 go_enter Tryd.func95, Tryd.ntmps95
 go_wp2_with (first | ((with_reducible refine gate_dst (N := 5) rfl ?_); refine Kd.R_lit (Kd.int .u8) _ 5 ?hg (N := 5) ?hd (xs := ([] : List Int)) (inner := []) (ok := fun _ => True) (okp := fun _ => True) ?hr ?hp (fun _ hk => hk) trivial (Below.refl _ _) (Nat.le_refl _) (by simp) ?_; (case hd => rfl); (case hg => rfl); (case hr => first | (go_simp; done) | (go_simp; rfl)); (case hp => exact (Reps.none _ _)); intro v115 w2 ho3 hb hg_ hnew_; clear hg_ hnew_; (first | rw [← Ny114.out] at ho3 | (simp only [Int.reduceToNat] at ho3; rw [← Ny114.out] at ho3)); have n0_ := Aside0.mk (Kd.R_lower ho3 (below_size (belowA))); have n1_ := Aside0.mk (below_step (belowA) hb); have HO116 := n0_; replace HB := n1_; clear n0_ n1_; clear hb ho3))
 go_loopg [3, 4] k (fun kq v3 v4 w' => ∃ (x3_1 : List Int) (x4_1 : Int), v4 = .int .i64 x4_1 ∧ Aside0 (spec_l01Text.l0 kq l0 x3_1 x4_1 = some r) ∧ Aside0 (kq ≤ k) ∧ Aside0 (Kd.R (Kd.int .u8) 5 w' w.heap.size (fun _ => True) v3 x3_1) ∧ Aside0 (Below w.heap.size w w'))
 case atStart => exact ⟨(y114), (0), (by first | rfl | (simp; done) | (simp [*]; done)), H', ⟨Nat.le_refl _⟩, ⟨by (with_reducible repeat (first | apply Kd.R_alloc | apply Kd.R_drewN | apply Kd.R_drew)); exact HO116.out⟩, ⟨belowA⟩⟩
 case round =>
  clear H'
  try clear p2
  obtain ⟨x3_1, x4_1, rfl, HA, HK1, HO_3, HB⟩ := hrel
  cases gk with
  | zero => exact absurd HA.out (by simp [spec_l01Text.l0])
  | succ k1 =>
   have H := HA.out; clear HA; simp only [spec_l01Text.l0] at H
   by_cases c4 : x4_1 < (l0.length : Int)
   ·rw [if_pos c4] at H
    have c4b0 : decide (x4_1 < (l0.length : Int)) = true := decide_eq_true c4; clear c4
    by_cases c5 : 0 ≤ x4_1
    ·rw [if_pos c5] at H
     have c5b0 : decide (0 ≤ x4_1) = true := decide_eq_true c5; clear c5; replace H := Option.bind_eq_some_iff.mp H; obtain ⟨t118, A60, H⟩ := H
     try dsimp only at H
     have A6 := Aside0.mk A60; clear A60
     by_cases c7 : x3_1.length + t118.size < 140737488355328
     ·rw [if_pos c7] at H
      have LMc7 := Aside0.mk c7; clear c7; obtain ⟨y119, hy119⟩ : ∃ y_ : List Int, y_ = (x3_1 ++ bytesOf t118) := ⟨_, rfl⟩
      replace H : (spec_l01Text.l0 k1 l0 y119 (wrap64 (x4_1 + 1))) = some r := by first | (rw [hy119]; with_reducible exact H) | (have H2_ := (Option.bind_some _ _).symm.trans H; rw [hy119]; with_reducible exact H2_) | (have H2_ := (Option.bind_some _ _).symm.trans H; with_reducible exact H2_) | with_reducible exact H | (rw [hy119]; exact H) | exact H
      have Ny119 := Aside0.mk hy119; clear hy119; have H' := Aside0.mk H; clear H; have p117 : 0 ≤ (x4_1 : Int) := ode; have q117 : x4_1 < (l0.length : Int) := ode; obtain ⟨ad117, e117, hx117_0⟩ := Kd.at_int HR0.out x4_1 p117 q117; cases e117; replace hx117_0 := (HB.out.cell (World.block_lt_of_cell? w _ hx117_0)).trans hx117_0; replace p117 := eq_true p117; replace q117 := eq_true q117
      go_wp2_with (first | (go_at_call 81; (with_reducible refine (W_spec_l01Write.calls (rd l0 x4_1) t118 _ A6.out).mono ?_); rintro e w8 ⟨rfl, hb⟩; have n0_ := rbb HO_3.out hb; have n1_ := Aside0.mk (below_step (belowA) hb); replace HO_3 := n0_; replace HB := n1_; clear n0_ n1_; clear hb) | (at_builtin; refine print_append_str (w0 := w) w.heap.size rfl (.tmp 12) _ 22 9 5 rfl Tryd.underlying22 Tryd.underlying9 info5 u3 x3_1 t118 rfl rfl ?aO ?aB ?aS ?aL ?_; (case aB => exact (belowA)); (case aO => exact (Kd.own_of_R (by (with_reducible repeat (first | apply Kd.R_alloc | apply Kd.R_drewN | apply Kd.R_drew)); exact HO_3.out))); (case aS => exact (below_size (belowA))); (case aL => have := LMc7.out; omega); intro v120 w9 ho0 hb hg; have ho := Kd.R_of_own (h1 := fun _ => rfl) (ok := fun _ => True) ho0 (fun _ _ => trivial); clear ho0; have hat := True.intro; rw [← Ny119.out] at ho; change Kd.R (Kd.int .u8) 5 w9 w.heap.size (fun _ => True) v120 y119 at ho; have n0_ := Aside0.mk (hb); have n1_ := Aside0.mk (ho); replace HB := n0_; have HO121 := n1_; clear HO_3; clear n0_ n1_; clear ho hb hg hat))
      go_roundg k1
      case measure => have := HK1.out; omega
      case rel => exact ⟨(y119), (wrap64 (x4_1 + 1)), (by first | rfl | (simp; done) | (simp [*]; done)), H', ⟨by have := HK1.out; omega⟩, ⟨by (with_reducible repeat (first | apply Kd.R_alloc | apply Kd.R_drewN | apply Kd.R_drew)); exact HO121.out⟩, ⟨belowA⟩⟩
     rw [if_neg c7] at H
     exact absurd H (by simp)
    rw [if_neg c5] at H
    exact absurd H (by simp)
   rw [if_neg c4] at H; have c4b0 : decide (x4_1 < (l0.length : Int)) = false := decide_eq_false c4; clear c4; obtain rfl := Option.some.inj H; have hcv10 := own_string (P := Tryd.prog) Tryd.underlying22 Tryd.underlying5 Tryd.underlying9 (Kd.own_of_R HO_3.out)
   go_wp2
   go_ret
   exact ⟨by first | rfl | (simp [errW_none, errW_some] <;> rfl) | (simp [*, errW_none, errW_some] <;> rfl), belowA⟩

def W_spec_l01Text.f (l0 : List Int) : Option (ByteArray) := if l0.length ≤ 1099511627776 then some (strOfNums (YtiabgmddnddeiaaDoorPts.encs l0)) else none
theorem spec_l01Text.run (l : List Int) (hl : l.length ≤ 1099511627776) (d : Nat) : ∀ (k i : Nat), i ≤ l.length → l.length - i = d → d < k →
    spec_l01Text.l0 k l (YtiabgmddnddeiaaDoorPts.encs (l.take i)) (i : Int) = some (strOfNums (YtiabgmddnddeiaaDoorPts.encs l)) := by
  induction d with
  | zero =>
    intro k i h1 h2 h3
    obtain ⟨k, rfl⟩ : ∃ m, k = m + 1 := ⟨k - 1, by omega⟩
    simp only [spec_l01Text.l0]
    rw [if_neg (by omega), List.take_of_length_le (by omega)]
  | succ d ih =>
    intro k i h1 h2 h3
    obtain ⟨k, rfl⟩ : ∃ m, k = m + 1 := ⟨k - 1, by omega⟩
    have hlt : i < l.length := by omega
    simp only [spec_l01Text.l0]
    rw [if_pos (by omega), if_pos (by omega)]
    have hw : wrap64 ((i : Int) + 1) = ((i + 1 : Nat) : Int) := by unfold wrap64; omega
    have hr : rd l (i : Int) = l[i] := by simp [rd, List.getD, hlt]
    have hb : bytesOf (strOfNums (YtiabgmddnddeiaaDoorPts.enc l[i])) = YtiabgmddnddeiaaDoorPts.enc l[i] := YtiabgmddnddeiaaDoorPts.bytesOf_strOfNums (YtiabgmddnddeiaaDoorPts.enc_bytes _)
    have ht : YtiabgmddnddeiaaDoorPts.encs (l.take (i + 1)) = YtiabgmddnddeiaaDoorPts.encs (l.take i) ++ YtiabgmddnddeiaaDoorPts.enc l[i] := by
      rw [List.take_succ_eq_append_getElem hlt, YtiabgmddnddeiaaDoorPts.encs_append]
      simp [YtiabgmddnddeiaaDoorPts.encs]
    have hlen := YtiabgmddnddeiaaDoorPts.encs_length (l.take i)
    rw [List.length_take] at hlen
    have hone := YtiabgmddnddeiaaDoorPts.enc_length l[i]
    rw [hr]
    unfold W_spec_l01Write.f
    simp only [Option.bind_some]
    rw [hb, strOfNums_size, if_pos (by omega), hw, ← ht]
    exact ih k (i + 1) (by omega) (by omega) (by omega)
theorem W_spec_l01Text.to {l0 : List Int} {r : ByteArray} (h : W_spec_l01Text.f l0 = some r) : ∃ k, spec_l01Text.f k l0 = some r := by
  unfold W_spec_l01Text.f at h
  split at h
  · rename_i hl
    refine ⟨l0.length + 1, ?_⟩
    rw [← h]
    exact spec_l01Text.run l0 hl l0.length (l0.length + 1) 0 (by omega) (by omega) (by omega)
  · cases h
theorem W_spec_l01Text.calls (A0 : Option Addr) (c0 : Nat) (l0 : List Int) (r : ByteArray) (w : World) (hr0 : Kd.C (Kd.int .i64) w A0 l0.length l0) (hc0 : l0.length ≤ c0) (h : W_spec_l01Text.f l0 = some r) :
    Calls Tryd.prog 95 #[.slice A0 l0.length c0] w fun e w' => e = .returned (.string r) ∧ Below w.heap.size w w' := by
  obtain ⟨k, hk⟩ := W_spec_l01Text.to h
  exact spec_l01Text.calls k A0 c0 l0 r w hr0 hc0 hk

/-! ### spec_DrawNormalize: function 14 (by hand) -/
/-- the state of the draws, whatever it holds -/
def Src (w0 W : World) (g : Nat) : Prop := ∃ (l : List Int) (a m z : Int), IsS134 w0 W g l a m z ∧ l.length ≤ 140737488355328 ∧ 0 ≤ a ∧ a ≤ (l.length : Int) ∧ 0 ≤ z ∧ z ≤ 12
/-- the state lies at g, and of the memory of w nothing else has turned -/
def St (w0 w W : World) (g : Nat) : Prop := Src w0 W g ∧ Below w0.heap.size w0 W ∧ KeepBut w W g none ∧ w0.heap.size ≤ w.heap.size
theorem Src.lt {w0 W : World} {g : Nat} (h : Src w0 W g) : g < W.heap.size := by obtain ⟨l, a, m, z, hI, _⟩ := h; exact hI.lt
theorem St.refl {w0 w : World} {g : Nat} (hI : Src w0 w g) (hB : Below w0.heap.size w0 w) : St w0 w w g := ⟨hI, hB, KeepBut.refl _ _ _, hB.size⟩
theorem St.self {w0 w W : World} {g : Nat} (h : St w0 w W g) : St w0 W W g := St.refl h.1 h.2.1
theorem St.trans {w0 w W W' : World} {g : Nat} (h : St w0 w W g) (k : St w0 W W' g) : St w0 w W' g := ⟨k.1, k.2.1, KeepBut.trans h.2.2.1 k.2.2.1 (.inl rfl), h.2.2.2⟩
theorem St.below {w0 w W W' : World} {g : Nat} (h : St w0 w W g) (hb : Below W.heap.size W W') : St w0 w W' g := by
  obtain ⟨⟨l, a, m, z, hI, q⟩, hB, hK, hle⟩ := h
  exact ⟨⟨l, a, m, z, hI.below hb, q⟩, below_step hB hb, KeepBut.trans hK (KeepBut.of_below hb g none) (.inl rfl), hle⟩
theorem St.alloc {w0 w W : World} {g : Nat} (h : St w0 w W g) (o : Obj) : St w0 w (W.alloc o) g := h.below (below_alloc (Below.refl _ _) o)
theorem St.drewN {w0 w W : World} {g : Nat} (h : St w0 w W g) (m : Nat) : St w0 w (W.drewN m) g := by
  obtain ⟨⟨l, a, x, z, hI, q⟩, hB, hK, hle⟩ := h
  exact ⟨⟨l, a, x, z, hI.drewN m, q⟩, pw_below_drewN hB m, keep_drewN hK m, hle⟩
theorem St.drew {w0 w W : World} {g : Nat} (h : St w0 w W g) : St w0 w W.drew g := by
  obtain ⟨⟨l, a, x, z, hI, q⟩, hB, hK, hle⟩ := h
  exact ⟨⟨l, a, x, z, hI.drew, q⟩, below_drew1 hB, keep_drew hK, hle⟩
theorem St.row {w0 w W W' : World} {g : Nat} {α : Type} {d : Kd α} {e : Nat} {base : Nat} {v : Value} {xs : List α} (h : St w0 w W g) (ho : d.R e W base (fun _ => True) v xs) (ht : ∀ q, q ∈ e :: d.E → q ≠ 134) (hk : St w0 W W' g) : d.R e W' base (fun _ => True) v xs := by
  obtain ⟨⟨l, a, m, z, hI, q⟩, hB, hK, hle⟩ := h
  exact Kd.R_mono (Kd.R_keep (IsS134.apart hI ho ht) hk.2.2.1 (fun _ h => h.2)) (fun _ h => h.1)
theorem St.grown {w0 w W W' : World} {g : Nat} {α : Type} {d : Kd α} {e : Nat} {v : Value} {xs : List α} (h : St w0 w W g) (ho : d.R e W w.heap.size (fun _ => True) v xs) (ht : e ≠ 134) (hg : W.grownBy W' v.ownBlock) (hb : Below w.heap.size W W') : St w0 w W' g := by
  obtain ⟨⟨l, a, m, z, hI, q⟩, hB, hK, hle⟩ := h
  exact ⟨⟨l, a, m, z, hI.grown hg (IsS134.own_ne hI ho ht), q⟩, below_weaken hB hle hb, KeepBut.trans hK (KeepBut.of_grown hg g) (Kd.R_base2 ho), hle⟩
theorem stA {w0 w W : World} {g : Nat} (h : St w0 w W g := by repeat (first | (with_reducible first | exact HS.out | apply St.alloc | apply St.drewN | apply St.drew) | exact HS.out)) : St w0 w W g := h
theorem nL {w0 w W : World} {g : Nat} (m : Int) (hm : m ≤ 9223372036854775807) (hS : St w0 w W g) :
    Calls Tryd.prog 82 #[.pointer (some ⟨g, 0, none⟩), .int .i64 m] W fun e w' => ∃ r : Int, e = .returned (.int .i64 r) ∧ 0 ≤ r ∧ (r < m ∨ r = 0) ∧ Aside0 (St w0 w w' g) ∧ Aside0 (St w0 W w' g) := by
  have hS' := hS
  obtain ⟨⟨l, a, x, z, hI, hl, h0, h1, hz⟩, hB, hK, hle⟩ := hS
  obtain ⟨⟨r, a', x', z'⟩, hf, q0, q1, q2, q3, q4⟩ := spec_l01Src_n.tot l a x z m hl h0 h1 hm
  refine (spec_l01Src_n.calls g l a x z m r a' x' z' w0 W hI hB hf).mono ?_
  rintro e w' ⟨rfl, hI', hB', hK'⟩
  dsimp only at q0 q1 q2 q3 q4
  have hst : St w0 W w' g := ⟨⟨l, a', x', z', hI', hl, q2, q3, by omega⟩, hB', hK', hB.size⟩
  exact ⟨r, rfl, q0, by omega, ⟨hS'.trans hst⟩, ⟨hst⟩⟩
/-- all cells are numbers -/
def ints (cs : Array Value) : Bool := cs.toList.all fun v => match v with | .int .i64 _ => true | _ => false
theorem ints_at {cs : Array Value} (h : ints cs = true) (i : Nat) (hi : i < cs.size) : ∃ p, cs[i]? = some (.int .i64 p) := by
  unfold ints at h
  have := List.all_eq_true.1 h cs[i] (by simp)
  rw [Array.getElem?_eq_getElem hi]
  split at this
  · rename_i p e; exact ⟨p, by rw [e]⟩
  · cases this
/-- a draw of an index of the row that has just been made -/
def litOk (o : Array Value) (m : Int) (t : Nat) : Bool := ints o && decide (m = o.size) && decide (1 ≤ o.size) && decide (o.size ≤ 10000) && decide (t ≠ 134)
theorem nLit {w0 w W : World} {g : Nat} {o : Array Value} {t : TypeId} (m : Int) (hok : litOk o m t = true) (hS : St w0 w (W.alloc (.cells o t)) g) :
    Calls Tryd.prog 82 #[.pointer (some ⟨g, 0, none⟩), .int .i64 m] (W.alloc (.cells o t)) fun e w' => ∃ r p : Int, e = .returned (.int .i64 r) ∧ (0 ≤ r) = True ∧ (r < m) = True ∧ w'.cell? ⟨W.heap.size, r.toNat, none⟩ = some (.int .i64 p) ∧ Aside0 (St w0 w w' g) := by
  unfold litOk at hok
  simp only [Bool.and_eq_true, decide_eq_true_eq] at hok
  obtain ⟨⟨⟨⟨hc, hm⟩, h1⟩, hm2⟩, ht⟩ := hok
  refine (nL m (by omega) hS).mono ?_
  rintro e w' ⟨r, rfl, h0, h2, hs, hk⟩
  have hlt : r < m := by omega
  obtain ⟨p, hp⟩ := ints_at hc r.toNat (by omega)
  have hb := blk_new W (.cells o t)
  have hne : W.heap.size ≠ g := by
    obtain ⟨⟨l, a, x, z, hI, _⟩, _⟩ := hS
    exact fun hh => hI.ne_blk hb ht hh.symm
  have hb' := hk.out.2.2.1.blk hb hne (by simp)
  exact ⟨r, p, rfl, eq_true h0, eq_true hlt, (blk_cell hb' _).trans hp, hs⟩
set_option maxHeartbeats 8000000 in
set_option maxRecDepth 100000 in
theorem oneL {w0 w W : World} {g : Nat} (m : Int) (hm : m ≤ 9223372036854775807) (hS : St w0 w W g) :
    Calls Tryd.prog 79 #[.pointer (some ⟨g, 0, none⟩), .int .i64 m] W fun e w' => ∃ r : Bool, e = .returned (.bool r) ∧ Aside0 (St w0 w w' g) ∧ Aside0 (St w0 W w' g) := by
  have HS := Aside0.mk hS.self
  have HT := Aside0.mk hS
  clear hS
  go_enter Tryd.func79, Tryd.ntmps79
  go_wp2_with (go_at_call 82; (with_reducible refine (nL _ hm stA).mono ?_); clear HS; rintro e w1 ⟨r, rfl, hr0, hr1, HS, -⟩)
  go_ret
  exact ⟨_, rfl, ⟨HT.out.trans HS.out⟩, HS⟩
/-- a new source of draws -/
theorem srcL {w0 w : World} (A0 : Option Addr) (c0 : Nat) (l0 : List Int) (hB : Below w0.heap.size w0 w) (hr0 : Kd.C (Kd.int .u8) w0 A0 l0.length l0) (hc0 : l0.length ≤ c0) (hl : l0.length ≤ 1048576) :
    Calls Tryd.prog 76 #[.slice A0 l0.length c0] w fun e w' => ∃ g : Nat, e = .returned (.pointer (some ⟨g, 0, none⟩)) ∧ Aside0 (St w0 w' w' g) := by
  have hf : spec_l01Source.f l0 = some (l0, 0, spec_l01Source.mix l0 (if l0.length < 64 then l0.length else 64), if 12 < (l0.length : Int) / 20 then 12 else (l0.length : Int) / 20) := if_pos (by omega)
  refine (spec_l01Source.calls A0 c0 l0 _ _ _ _ w0 w hB hr0 hc0 hf).mono ?_
  rintro e w' ⟨g, rfl, hI, hb, -⟩
  exact ⟨g, rfl, ⟨St.refl ⟨_, _, _, _, hI, by omega, by omega, by omega, by split <;> omega, by split <;> omega⟩ hb⟩⟩
theorem lit0 (W : World) (base : Nat) (hb : base ≤ W.heap.size) : Kd.R (Kd.int .i64) 2 (W.alloc (.cells #[] 2)) base (fun _ => True) (.slice (some ⟨W.heap.size, 0, none⟩) 0 0) [] := by
  refine ⟨fun k _ => trivial, [], ?_, Reps.none _ _⟩
  have h2 := World.ownsRow_lit (base := base) (e := 2) (size := (Kd.int .i64).sz) W #[] 0 hb (by simp [maxLen]) (by simp)
  simpa using h2
theorem St.size {w0 w W : World} {g : Nat} (h : St w0 w W g) : w.heap.size ≤ W.heap.size := h.2.2.1.1
theorem textC {A : Option Addr} {c : Nat} (l : List Int) (W : World) (hl : l.length ≤ 1000000) (h : Kd.C (Kd.int .i64) W A l.length l) (hc : l.length ≤ c) :
    Calls Tryd.prog 95 #[.slice A l.length c] W fun e w' => ∃ t : ByteArray, e = .returned (.string t) ∧ t.size ≤ 4 * l.length ∧ Below W.heap.size W w' := by
  refine (W_spec_l01Text.calls A c l _ W h hc (if_pos (by omega))).mono ?_
  rintro e w' ⟨rfl, hb⟩
  have hs := YtiabgmddnddeiaaDoorPts.encs_length l
  exact ⟨_, rfl, by rw [strOfNums_size]; omega, hb⟩
def spec_DrawNormalize.f (l0 : List Int) : Option (Int × ByteArray) := none
set_option maxHeartbeats 8000000 in
set_option maxRecDepth 100000 in
theorem pointL {w0 w W : World} {g : Nat} (hS : St w0 w W g) :
    Calls Tryd.prog 179 #[.pointer (some ⟨g, 0, none⟩)] W fun e w' => ∃ p : Int, e = .returned (.int .i64 p) ∧ Aside0 (St w0 w w' g) ∧ Aside0 (St w0 W w' g) := by
  have HS := Aside0.mk hS.self
  have HT := Aside0.mk hS
  clear hS
  go_enter Tryd.func179, Tryd.ntmps179
  go_wp2_with (first
    | (go_at_call 82; (with_reducible refine (nLit _ ?_ stA).mono ?_); rfl; clear HS; rintro e w1 ⟨r, p, rfl, hr0, hr1, hx, HS⟩)
    | (go_at_call 82; (with_reducible refine (nL _ (by decide) stA).mono ?_); clear HS; rintro e w1 ⟨r, rfl, hr0, hr1, HS, -⟩)
    | (go_at_call 79; (with_reducible refine (oneL _ (by decide) stA).mono ?_); clear HS; rintro e w1 ⟨r, rfl, HS, -⟩))
  all_goals
    go_ret
    exact ⟨_, rfl, ⟨HT.out.trans HS.out⟩, HS⟩
set_option maxHeartbeats 8000000 in
set_option maxRecDepth 100000 in
theorem partL {w0 w W : World} {g : Nat} (hS : St w0 w W g) :
    Calls Tryd.prog 165 #[.pointer (some ⟨g, 0, none⟩)] W fun e w' => ∃ p : Int, e = .returned (.int .i64 p) ∧ Aside0 (St w0 w w' g) ∧ Aside0 (St w0 W w' g) := by
  have HS := Aside0.mk hS.self
  have HT := Aside0.mk hS
  clear hS
  go_enter Tryd.func165, Tryd.ntmps165
  go_wp2_with (first
    | (go_at_call 82; (with_reducible refine (nLit _ ?_ stA).mono ?_); rfl; clear HS; rintro e w1 ⟨r, p, rfl, hr0, hr1, hx, HS⟩)
    | (go_at_call 82; (with_reducible refine (nL _ (by decide) stA).mono ?_); clear HS; rintro e w1 ⟨r, rfl, hr0, hr1, HS, -⟩)
    | (go_at_call 79; (with_reducible refine (oneL _ (by decide) stA).mono ?_); clear HS; rintro e w1 ⟨r, rfl, HS, -⟩)
    | (go_at_call 179; (with_reducible refine (pointL stA).mono ?_); clear HS; rintro e w1 ⟨r, rfl, HS, -⟩))
  all_goals
    go_ret
    exact ⟨_, rfl, ⟨HT.out.trans HS.out⟩, HS⟩
set_option maxHeartbeats 8000000 in
set_option maxRecDepth 100000 in
theorem normFormL {w0 w W : World} {g : Nat} (hS : St w0 w W g) :
    Calls Tryd.prog 77 #[.pointer (some ⟨g, 0, none⟩)] W fun e w' => ∃ p : Int, e = .returned (.int .i64 p) ∧ Aside0 (St w0 w w' g) ∧ Aside0 (St w0 W w' g) := by
  have HS := Aside0.mk hS.self
  have HT := Aside0.mk hS
  clear hS
  go_enter Tryd.func77, Tryd.ntmps77
  go_wp2_with (first
    | (go_at_call 82; (with_reducible refine (nLit _ ?_ stA).mono ?_); rfl; clear HS; rintro e w1 ⟨r, p, rfl, hr0, hr1, hx, HS⟩)
    | (go_at_call 82; (with_reducible refine (nL _ (by decide) stA).mono ?_); clear HS; rintro e w1 ⟨r, rfl, hr0, hr1, HS, -⟩)
    | (go_at_call 79; (with_reducible refine (oneL _ (by decide) stA).mono ?_); clear HS; rintro e w1 ⟨r, rfl, HS, -⟩))
  all_goals
    go_ret
    exact ⟨_, rfl, ⟨HT.out.trans HS.out⟩, HS⟩
theorem conv1 (W : World) (x : Int) : (convert 22 9 (.slice (some ⟨W.heap.size, 0, none⟩) 1 1)).run Tryd.prog (W.alloc (.cells #[.int .u8 x] 5)) = .ok (.string (strOfNums [x])) (W.alloc (.cells #[.int .u8 x] 5)) := by
  have h2 := World.ownsRow_lit (base := 0) (e := 5) (size := 1) W #[.int .u8 x] 1 (by omega) (by simp [maxLen]) (by simp)
  exact own_string Tryd.underlying22 Tryd.underlying5 Tryd.underlying9 h2
theorem conv2 (x : Int) : ∃ c : ByteArray, c.size = 1 ∧ ∀ V : World, (convert 22 9 (.slice (some ⟨V.heap.size, 0, none⟩) 1 1)).run Tryd.prog (V.alloc (.cells #[.int .u8 x] 5)) = .ok (.string c) (V.alloc (.cells #[.int .u8 x] 5)) :=
  ⟨strOfNums [x], by rw [strOfNums_size]; rfl, fun V => conv1 V x⟩
theorem nS {w0 w W : World} {g : Nat} (t : ByteArray) (ht : t.size ≤ 10000000) (hS : St w0 w W g) :
    Calls Tryd.prog 82 #[.pointer (some ⟨g, 0, none⟩), .int .i64 ((t.size : Int) + 1)] W fun e w' => ∃ r : Int, e = .returned (.int .i64 r) ∧ 0 ≤ r ∧ r ≤ (t.size : Int) ∧ ((r == (t.size : Int)) = true ∨ (r < (t.size : Int) ∧ (r == (t.size : Int)) = false)) ∧ Aside0 (St w0 w w' g) := by
  refine (nL _ (by omega) hS).mono ?_
  rintro e w' ⟨r, rfl, h0, h1, hs, -⟩
  refine ⟨r, rfl, h0, by omega, ?_, hs⟩
  by_cases c : r = (t.size : Int)
  · exact .inl (by simp [c])
  · exact .inr ⟨by omega, by simpa using c⟩
theorem wrapS (r : Int) (h : 0 ≤ r) (h2 : r ≤ 100000000) : IntKind.i64.wrap (r + 1) = r + 1 := by
  rw [i64_w]; unfold wrap64; omega
theorem cutSize (t : ByteArray) (i j : Nat) (h : j ≤ t.size) : (t.extract i j).size = j - i := by rw [ByteArray.size_extract]; omega
theorem nK {w0 w W : World} {g : Nat} (m : Int) (hm : 1 ≤ m) (hm2 : m ≤ 10000) (hS : St w0 w W g) :
    Calls Tryd.prog 82 #[.pointer (some ⟨g, 0, none⟩), .int .i64 m] W fun e w' => ∃ r : Int, e = .returned (.int .i64 r) ∧ 0 ≤ r ∧ r < m ∧ Aside0 (St w0 w w' g) := by
  refine (nL _ (by omega) hS).mono ?_
  rintro e w' ⟨r, rfl, h0, h1, hs, -⟩
  exact ⟨r, rfl, h0, by omega, hs⟩
set_option maxHeartbeats 8000000 in
set_option maxRecDepth 100000 in
theorem spoilL {w0 w W : World} {g : Nat} (t : ByteArray) (ht : t.size ≤ 10000000) (hS : St w0 w W g) :
    Calls Tryd.prog 166 #[.pointer (some ⟨g, 0, none⟩), .string t] W fun e w' => ∃ u : ByteArray, e = .returned (.string u) ∧ u.size ≤ t.size + 1 ∧ Aside0 (St w0 w w' g) ∧ Aside0 (St w0 W w' g) := by
  have HS := Aside0.mk hS.self
  have HT := Aside0.mk hS
  clear hS
  go_enter Tryd.func166, Tryd.ntmps166
  go_wp2_with (first
    | (go_at_call 82; (with_reducible refine (nS t ht stA).mono ?_); clear HS; rintro e w1 ⟨r, rfl, hr0, hr1, hr2, HS⟩; have d0 := eq_true hr0; have d1 := eq_true hr1; have HR := Aside0.mk (And.intro hr0 hr1); rcases hr2 with hr2 | ⟨hr3, hr2⟩; rotate_left; have d2 : (0 ≤ r + 1) = True := (eq_true (by omega)); have d3 : (r + 1 ≤ (t.size : Int)) = True := (eq_true (by omega)); have d4 := wrapS r hr0 (by omega); clear hr3 hr0 hr1; rotate_left; clear hr0 hr1)
    | (go_at_call 82; (with_reducible refine (nK 17 (by decide) (by decide) stA).mono ?_); clear HS; rintro e w2 ⟨q, rfl, hq0, hq1, HS⟩; replace hq0 := eq_true hq0; replace hq1 := eq_true hq1; have hx := bt_at (⟨#[32, 10, 48, 97, 45, 110, 44, 58, 93, 255, 40, 120, 34, 49, 128, 225, 59]⟩ : ByteArray) q; obtain ⟨c, hcs, kc⟩ := conv2 (bt (⟨#[32, 10, 48, 97, 45, 110, 44, 58, 93, 255, 40, 120, 34, 49, 128, 225, 59]⟩ : ByteArray) q); have b0 : (9223372036854775807 < r.toNat + c.size) = False := (eq_false (by have hr := HR.out; omega)); have b1 : (9223372036854775807 < r.toNat + c.size + (t.size - r.toNat)) = False := (eq_false (by have hr := HR.out; omega)); have b2 : (9223372036854775807 < r.toNat + (t.size - (r + 1).toNat)) = False := (eq_false (by have hr := HR.out; omega)); have b3 : (9223372036854775807 < r.toNat + c.size + (t.size - (r + 1).toNat)) = False := (eq_false (by have hr := HR.out; omega)); have HC := Aside0.mk hcs; clear hcs)
    | (go_at_call 79; (with_reducible refine (oneL _ (by decide) stA).mono ?_); clear HS; rintro e w1 ⟨b, rfl, HS, -⟩))
  all_goals go_quiet (fail)
  all_goals go_wp2
  all_goals
    have hr := HR.out
    have hc := HC.out
    go_ret
    refine ⟨_, rfl, ?_, ⟨HT.out.trans stA⟩, ⟨stA⟩⟩
    simp only [ByteArray.size_append, ByteArray.size_extract]
    omega
set_option maxHeartbeats 8000000 in
set_option maxRecDepth 100000 in
theorem partsTextL {w0 w W : World} {g : Nat} (hS : St w0 w W g) :
    Calls Tryd.prog 78 #[.pointer (some ⟨g, 0, none⟩)] W fun e w' => ∃ t : ByteArray, e = .returned (.string t) ∧ t.size ≤ 1000 ∧ Aside0 (St w0 w w' g) ∧ Aside0 (St w0 W w' g) := by
  have HS := Aside0.mk hS.self
  have HT := Aside0.mk hS
  obtain ⟨⟨l, a, m, z, ⟨A0, c0, hblk, _, _⟩, _, _, _, hz0, hz1⟩, _⟩ := hS
  have k3 := cellS134_3 (blk_alloc hblk (.cells #[] 2))
  clear hblk
  go_enter Tryd.func78, Tryd.ntmps78
  go_wp2_with (go_at_call 82; (with_reducible refine (nL _ (by omega) stA).mono ?_); rintro e w1 ⟨r, rfl, hr0, hr1, HS1, HK⟩; have HO := Aside0.mk (St.row (stA (w := W)) (lit0 _ W.heap.size (St.size (stA (w := W)))) (by decide) HK.out); clear HS HK; have HS := HS1; clear HS1; replace hr1 : r ≤ 40 := (by omega))
  clear k3
  go_loopw [3, 4] (fun v3 v4 wr => ∃ (xs : List Int) (n : Int), v4 = .int .i64 n ∧ 0 ≤ n ∧ n ≤ 40 ∧ (xs.length : Int) + n ≤ 40 ∧ Aside0 (Kd.R (Kd.int .i64) 2 wr W.heap.size (fun _ => True) v3 xs) ∧ Aside0 (St w0 W wr g)) (fun _ v4 _ => (intOf v4).toNat)
  case atStart => exact ⟨[], r, rfl, hr0, hr1, by simpa using hr1, HO, HS⟩
  case round =>
    clear HO HS
    obtain ⟨xs, n, rfl, hn0, hn1, hn2, HO, HS⟩ := hrel
    by_cases hn : 0 < n
    · go_wp2_with (first
        | (go_at_call 165; (with_reducible refine (partL stA).mono ?_); rintro e w2 ⟨p, rfl, HS1, HK⟩; have HO1 := Aside0.mk (St.row (stA (w := W)) HO.out (by decide) HK.out); clear HS HK HO; have HS := HS1; have HO := HO1; clear HS1 HO1)
        | (at_builtin; refine Kd.R_append (Kd.int .i64) W.heap.size rfl (.tmp 19) (.tmp 22) 28 2 (.int .i64 0) 8 rfl Tryd.underlying28 info2 rfl (by decide) (by omega) _ xs p [.int .i64 p] (fun _ => True) (fun _ => False) rfl rfl rfl (fun _ hk => hk.elim) (fun _ _ => trivial) (by (with_reducible repeat (first | apply Kd.R_alloc | apply Kd.R_drewN | apply Kd.R_drew)); exact HO.out) (Below.refl _ _) (St.size (stA (w := W))) (by omega) ?_; intro v3 w3 ho hb hg hat; have HS1 := Aside0.mk (St.grown (stA (w := W)) (by (with_reducible repeat (first | apply Kd.R_alloc | apply Kd.R_drewN | apply Kd.R_drew)); exact HO.out) (by decide) hg hb); have HO1 := Aside0.mk ho; clear HS HO ho hb hg hat; have HS := HS1; have HO := HO1; clear HS1 HO1))
      go_roundw
      case rel => exact ⟨_, n - 1, by go_num, by omega, by omega, by simp only [List.length_append, List.length_cons, List.length_nil]; omega, HO, HS⟩
      case measure => simp [intOf]; omega
    · have hxl : xs.length ≤ 40 := by omega
      obtain ⟨A1, c1, rfl⟩ := Kd.R_slice HO.out
      go_wp2_with (first
        | (go_at_call 95; (with_reducible refine (textC xs _ (by omega) (by repeat (first | exact (Kd.R_reads' HO.out).2.2 | (with_reducible refine Kd.C_alloc ?_ _) | (with_reducible refine Kd.C_drewN ?_ _))) (Kd.R_reads' HO.out).2.1).mono ?_); rintro e w2 ⟨t, rfl, ht, hb⟩; have HS1 := Aside0.mk (St.below (stA (w := W)) hb); clear HS hb; have HS := HS1; clear HS1)
        | (go_at_call 79; (with_reducible refine (oneL _ (by decide) stA).mono ?_); clear HS; rintro e w1 ⟨r, rfl, HS, -⟩)
        | (go_at_call 166; (with_reducible refine (spoilL _ (by omega) stA).mono ?_); clear HS; rintro e w1 ⟨u, rfl, hu, HS, -⟩))
      all_goals
        go_ret
        exact ⟨_, rfl, by omega, ⟨HT.out.trans HS.out⟩, HS⟩
theorem lit0b (W : World) (base : Nat) (hb : base ≤ W.heap.size) : Kd.R (Kd.int .u8) 5 (W.alloc (.cells #[] 5)) base (fun _ => True) (.slice (some ⟨W.heap.size, 0, none⟩) 0 0) [] := by
  refine ⟨fun k _ => trivial, [], ?_, Reps.none _ _⟩
  have h2 := World.ownsRow_lit (base := base) (e := 5) (size := (Kd.int .u8).sz) W #[] 0 hb (by simp [maxLen]) (by simp)
  simpa using h2
set_option maxHeartbeats 8000000 in
set_option maxRecDepth 100000 in
theorem longL {w0 w W : World} {g : Nat} (c : ByteArray) (n : Int) (hc : 1 ≤ c.size) (hc2 : c.size ≤ 10) (hn0 : 0 ≤ n) (hn : n ≤ 1000000) (hS : St w0 w W g) :
    Calls Tryd.prog 80 #[.pointer (some ⟨g, 0, none⟩), .string c, .int .i64 n] W fun e w' => ∃ t : ByteArray, e = .returned (.string t) ∧ (t.size : Int) ≤ n ∧ Aside0 (St w0 w w' g) ∧ Aside0 (St w0 W w' g) := by
  have HS := Aside0.mk hS.self
  have HT := Aside0.mk hS
  have HC := Aside0.mk hc
  have HC2 := Aside0.mk hc2
  clear hS hc hc2
  go_enter Tryd.func80, Tryd.ntmps80
  go_wp2
  go_loopw [7] (fun v7 wr => ∃ (A : Option Addr) (k : Nat) (xs : List Int), v7 = .slice A xs.length k ∧ xs.length ≤ 1000010 ∧ Aside0 (Kd.R (Kd.int .u8) 5 wr W.heap.size (fun _ => True) (.slice A xs.length k) xs) ∧ Aside0 (St w0 W wr g)) (fun v7 _ => match v7 with | .slice _ m _ => (n - m).toNat | _ => 0)
  case atStart => exact ⟨some ⟨W.heap.size, 0, none⟩, 0, [], rfl, by simp, ⟨lit0b W W.heap.size (Nat.le_refl _)⟩, ⟨stA⟩⟩
  case round =>
    clear HS
    obtain ⟨A, k, xs, rfl, hl, HO, HS⟩ := hrel
    by_cases hlt : (xs.length : Int) < n
    · go_wp2_with (at_builtin; refine print_append_str W.heap.size rfl (.tmp 13) _ 22 9 5 rfl Tryd.underlying22 Tryd.underlying9 info5 (.slice A xs.length k) xs c rfl rfl (Kd.own_of_R HO.out) (Below.refl _ _) (St.size (stA (w := W))) (by have := HC2.out; omega) ?_; intro v w9 ho0 hb hg; have ho := Kd.R_of_own (h1 := fun _ => rfl) (ok := fun _ => True) ho0 (fun _ _ => trivial); change Kd.R (Kd.int .u8) 5 w9 W.heap.size (fun _ => True) v (xs ++ bytesOf c) at ho; have HS1 := Aside0.mk (St.grown (stA (w := W)) HO.out (by decide) hg hb); have HO1 := Aside0.mk ho; clear HS HO ho ho0 hb hg; have HS := HS1; have HO := HO1; clear HS1 HO1; obtain ⟨A2, k2, rfl⟩ := Kd.R_slice HO.out)
      go_roundw
      case rel => exact ⟨A2, k2, xs ++ bytesOf c, by rw [List.length_append], by have := HC2.out; rw [List.length_append, bytesOf_length]; omega, HO, HS⟩
      case measure =>
        have := HC.out
        show (n - ((xs.length + (bytesOf c).length : Nat) : Int)).toNat < (n - (xs.length : Int)).toNat
        rw [bytesOf_length]; omega
    · have hn2 : n ≤ (xs.length : Int) := by omega
      have hroom := (Kd.R_reads' HO.out).2.1
      have hC0 : Kd.C (Kd.int .u8) _ A xs.length xs := (Kd.R_reads' HO.out).2.2
      obtain ⟨i0, hi0, _, hsz, _⟩ := info_parts info5
      have hcut := cut_to (P := Tryd.prog) 22 5 .i64 Tryd.underlying22 hi0 A xs.length k n hn0 hn2 hroom
      have hr := Kd.C_take (m := n.toNat) hC0 (by omega)
      obtain ⟨ys, hy⟩ : ∃ ys, ys = xs.take n.toNat := ⟨_, rfl⟩
      have hyl : ys.length = n.toNat := by rw [hy, List.length_take]; omega
      rw [← hy] at hr
      rw [← hyl] at hcut
      have HR := Aside0.mk hr
      have HY := Aside0.mk hyl
      clear hy hyl hr hC0 hi0 hsz hroom
      have q0 := eq_true hn0
      have q1 := eq_true hn2
      have hcv := Kd.C_string (P := Tryd.prog) (A := A) (c := k) Tryd.underlying22 Tryd.underlying5 Tryd.underlying9 HR.out
      go_wp2
      go_ret
      exact ⟨_, rfl, by rw [strOfNums_size, HY.out]; omega, ⟨HT.out.trans HS.out⟩, HS⟩
theorem writeC (p : Int) (W : World) : Calls Tryd.prog 81 #[.int .i64 p] W fun e w' => ∃ c : ByteArray, e = .returned (.string c) ∧ 1 ≤ c.size ∧ c.size ≤ 10 ∧ Below W.heap.size W w' := by
  refine (W_spec_l01Write.calls p _ W rfl).mono ?_
  rintro e w' ⟨rfl, hb⟩
  have hs := YtiabgmddnddeiaaDoorPts.enc_length p
  exact ⟨_, rfl, by rw [strOfNums_size]; omega, by rw [strOfNums_size]; omega, hb⟩
set_option maxHeartbeats 8000000 in
set_option maxRecDepth 100000 in
theorem spec_DrawNormalize.loose (A0 : Option Addr) (c0 : Nat) (l0 : List Int) (w : World) (hr0 : Kd.C (Kd.int .u8) w A0 l0.length l0) (hc0 : l0.length ≤ c0) (hl : l0.length ≤ 1048576) :
    Calls Tryd.prog 14 #[.slice A0 l0.length c0] w fun e w' => ∃ (f : Int) (t : ByteArray), t.size ≤ 100000 ∧ e = .returned (.tuple #[.int .i64 f, .string t]) ∧ Below w.heap.size w w' := by
  have HR := Aside0.mk hr0
  clear hr0
  go_enter Tryd.func14, Tryd.ntmps14
  go_wp2_with (first
    | (go_at_call 76; (with_reducible refine (srcL A0 c0 l0 (Below.refl w.heap.size w) HR.out hc0 hl).mono ?_); rintro e w1 ⟨g, rfl, HS⟩)
    | (go_at_call 77; (with_reducible refine (normFormL stA).mono ?_); clear HS; rintro e w2 ⟨f, rfl, HS, -⟩)
    | (go_at_call 78; (with_reducible refine (partsTextL stA).mono ?_); clear HS; rintro e w3 ⟨t, rfl, ht, HS, -⟩)
    | (go_at_call 79; (with_reducible refine (oneL _ (by decide) stA).mono ?_); clear HS; rintro e w4 ⟨b, rfl, HS, -⟩)
    | (go_at_call 81; (with_reducible refine (writeC _ _).mono ?_); rintro e w5 ⟨c, rfl, hc1, hc2, hb⟩; have HS1 := Aside0.mk (St.below stA hb); clear HS hb; have HS := HS1; clear HS1)
    | (go_at_call 82; (with_reducible refine (nK 2 (by decide) (by decide) stA).mono ?_); clear HS; rintro e w6 ⟨r, rfl, hr0, hr1, HS⟩)
    | (go_at_call 80; (with_reducible refine (longL c _ hc1 hc2 (by omega) (by omega) stA).mono ?_); clear HS; rintro e w7 ⟨u, rfl, hu, HS, -⟩))
  all_goals
    go_ret2
    exact ⟨_, _, by omega, rfl, HS.out.2.1⟩

/-! ### spec_l05IsForm: function 83 -/
def spec_l05IsForm.f (a0 : Int) : Option (Bool) := if a0 ≥ 1 then (some (decide (a0 ≤ 4))) else (some false)
set_option maxHeartbeats 8000000 in
set_option maxRecDepth 100000 in
theorem spec_l05IsForm.calls (a0 : Int) (r : Bool) (w : World) (h : spec_l05IsForm.f a0 = some r) :
    Calls Tryd.prog 83 #[.int .i64 a0] w fun e w' => e = .returned (.bool r) ∧ Drawn0 w w' := by
  have H : (if a0 ≥ 1 then (some (decide (a0 ≤ 4))) else (some false)) = some r := h
  clear h
  by_cases c2 : a0 ≥ 1
  · rw [if_pos c2] at H
    have c2b0 : decide (1 ≤ a0) = true := decide_eq_true c2
    clear c2
    obtain rfl := Option.some.inj H
    go_enter Tryd.func83, Tryd.ntmps83
    go_wp2
    go_ret
    exact ⟨by first | rfl | (simp; done) | (simp [*]; done), by repeat (first | exact Drawn0.refl _ | apply Drawn0.step)⟩
  · rw [if_neg c2] at H
    have c2b0 : decide (1 ≤ a0) = false := decide_eq_false c2
    clear c2
    obtain rfl := Option.some.inj H
    go_enter Tryd.func83, Tryd.ntmps83
    go_wp2
    go_ret
    exact ⟨by first | rfl | (simp; done) | (simp [*]; done), by repeat (first | exact Drawn0.refl _ | apply Drawn0.step)⟩

theorem spec_l05IsForm.eq (f : Int) : spec_l05IsForm.f f = some (YtiabgmddnddeiaaDoorNst.ok f) := by
  unfold spec_l05IsForm.f YtiabgmddnddeiaaDoorNst.ok
  by_cases c : 1 ≤ f
  · rw [if_pos (show f ≥ 1 from c)]
    by_cases d : f ≤ 4
    · rw [decide_eq_true d, decide_eq_true ⟨c, d⟩]
    · rw [decide_eq_false d, decide_eq_false (fun z => d z.2)]
  · rw [if_neg (show ¬ f ≥ 1 from c), decide_eq_false (fun z => c z.1)]

/-! ### spec_l01Small: function 84 -/
def spec_l01Small.f (a0 : ByteArray) : Option (ByteArray) := if (a0.size : Int) > 65536 then (some (⟨#[]⟩ : ByteArray)) else (some a0)
set_option maxHeartbeats 8000000 in
set_option maxRecDepth 100000 in
theorem spec_l01Small.calls (a0 : ByteArray) (r : ByteArray) (w : World) (h : spec_l01Small.f a0 = some r) :
    Calls Tryd.prog 84 #[.string a0] w fun e w' => e = .returned (.string r) ∧ Drawn0 w w' := by
  have H : (if (a0.size : Int) > 65536 then (some (⟨#[]⟩ : ByteArray)) else (some a0)) = some r := h
  clear h
  by_cases c2 : (a0.size : Int) > 65536
  · rw [if_pos c2] at H
    have c2b0 : decide (65536 < (a0.size : Int)) = true := decide_eq_true c2
    have c2b1 : decide (65536 < a0.size) = true := decide_eq_true (by omega)
    clear c2
    obtain rfl := Option.some.inj H
    go_enter Tryd.func84, Tryd.ntmps84
    go_wp2
    go_ret
    exact ⟨by first | rfl | (simp; done) | (simp [*]; done), by repeat (first | exact Drawn0.refl _ | apply Drawn0.step)⟩
  · rw [if_neg c2] at H
    have c2b0 : decide (65536 < (a0.size : Int)) = false := decide_eq_false c2
    have c2b1 : decide (65536 < a0.size) = false := decide_eq_false (by omega)
    clear c2
    obtain rfl := Option.some.inj H
    go_enter Tryd.func84, Tryd.ntmps84
    go_wp2
    go_ret
    exact ⟨by first | rfl | (simp; done) | (simp [*]; done), by repeat (first | exact Drawn0.refl _ | apply Drawn0.step)⟩

end Go.Proofs.YtiabgmddnddeiaaDoor.QFnNormer
