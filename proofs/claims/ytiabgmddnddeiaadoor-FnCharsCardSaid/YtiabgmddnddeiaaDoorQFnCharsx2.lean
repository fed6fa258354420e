/- The law FnChars: at every input the call answers true (this text: contracts on its way, by a program of this session's; no condition of ours). -/
import Derived.Test.YtiabgmddnddeiaaDoorQFnCharsx0
import Derived.Test.YtiabgmddnddeiaaDoorQFnCharsx1
namespace Go.Proofs.YtiabgmddnddeiaaDoor.QFnChars
open Go.RowKit Go.Proofs.YtiabgmddnddeiaaDoorW.PrintWords Go.Proofs.YtiabgmddnddeiaaDoorW.PrintLast Go.Proofs.YtiabgmddnddeiaaDoorW.PrintMore
attribute [local go_sem] max2_int min2_int max_two min_two max_three min_three max_four min_four   -- for this text's walks alone
set_option linter.unusedVariables false
set_option linter.unusedSimpArgs false

/-! ### spec_l01Text: function 95 -/
def spec_l01Text.l0 : Nat → List Int → List Int → Int → Option (ByteArray)
 | 0, _, _, _ => none
 | k + 1, x0, x3, x4 => if x4 < (x0.length : Int) then (if 0 ≤ x4 then ((W_spec_l01Write.f (rd x0 x4)).bind fun t118 => (if x3.length + t118.size < 140737488355328 then (spec_l01Text.l0 k x0 (x3 ++ bytesOf t118) (wrap64 (x4 + 1))) else (none))) else (none)) else (some (strOfNums x3))
def spec_l01Text.f (k : Nat) (l0 : List Int) : Option (ByteArray) := spec_l01Text.l0 k l0 (([] : List Int)) 0
theorem spec_l01Text.mono_l : ∀ k, (∀ y0 y1 y2, LeO (spec_l01Text.l0 k y0 y1 y2) (spec_l01Text.l0 (k + 1) y0 y1 y2))
 | 0 => fun _ _ _ r h => by simp [spec_l01Text.l0] at h
 | k + 1 => by
  have ih0 := spec_l01Text.mono_l k; intro y0 y1 y2
  unfold spec_l01Text.l0
  repeat' first
  | (with_reducible exact ih0 _ _ _)
  | (with_reducible exact LeO.refl _)
  | (with_reducible exact LeO.none _)
  | (with_reducible refine LeO.ite ?_ ?_)
  | (with_reducible refine LeO.bind ?_ (fun _ => ?_))
  | exact ih0 _ _ _
  | exact LeO.none _
  | refine LeO.ite ?_ ?_
  | refine LeO.bind ?_ (fun _ => ?_)
theorem spec_l01Text.mono : ∀ a0 k, LeO (spec_l01Text.f k a0) (spec_l01Text.f (k + 1) a0) := by
 intro a0 k
 have ih0 := spec_l01Text.mono_l k
 unfold spec_l01Text.f
 repeat' first
   | (with_reducible exact ih0 _ _ _)
   | (with_reducible exact LeO.refl _)
   | (with_reducible exact LeO.none _)
   | (with_reducible refine LeO.ite ?_ ?_)
   | (with_reducible refine LeO.bind ?_ (fun _ => ?_))
   | exact ih0 _ _ _
   | exact LeO.none _
   | refine LeO.ite ?_ ?_
   | refine LeO.bind ?_ (fun _ => ?_)
set_option maxHeartbeats 8000000 in
set_option maxRecDepth 100000 in
theorem spec_l01Text.calls (k : Nat) (A0 : Option Addr) (c0 : Nat) (l0 : List Int) (r : ByteArray) (w : World) (hr0 : Kd.C (Kd.int .i64) w A0 l0.length l0) (hc0 : l0.length ≤ c0) (h : spec_l01Text.f k l0 = some r) :
  Calls Tryd.prog 95 #[.slice A0 l0.length c0] w fun e w' => e = .returned (.string r) ∧ Below w.heap.size w w' := by
 have HR0 := Aside0.mk hr0
 have HC0 := Aside0.mk hc0
 clear hr0 hc0
 have HB := Aside0.mk (Below.refl w.heap.size w)
 have H : (spec_l01Text.l0 k l0 (([] : List Int)) 0) = some r := h
 clear h
 obtain ⟨y114, hy114⟩ : ∃ y_ : List Int, y_ = (([] : List Int)) := ⟨_, rfl⟩
 replace H : (spec_l01Text.l0 k l0 y114 0) = some r := by first | (rw [hy114]; with_reducible exact H) | (have H2_ := (Option.bind_some _ _).symm.trans H; rw [hy114]; with_reducible exact H2_) | (have H2_ := (Option.bind_some _ _).symm.trans H; with_reducible exact H2_) | with_reducible exact H | (rw [hy114]; exact H) | exact H
 have Ny114 := Aside0.mk hy114
 clear hy114
 have H' := Aside0.mk H
 clear H
 go_enter Tryd.func95, Tryd.ntmps95
 go_wp2_with (first | ((with_reducible refine gate_dst (N := 5) rfl ?_); refine Kd.R_lit (Kd.int .u8) _ 5 ?hg (N := 5) ?hd (xs := ([] : List Int)) (inner := []) (ok := fun _ => True) (okp := fun _ => True) ?hr ?hp (fun _ hk => hk) trivial (Below.refl _ _) (Nat.le_refl _) (by simp) ?_; (case hd => rfl); (case hg => rfl); (case hr => first | (go_simp; done) | (go_simp; rfl)); (case hp => exact (Reps.none _ _)); intro v115 w2 ho3 hb hg_ hnew_; clear hg_ hnew_; (first | rw [← Ny114.out] at ho3 | (simp only [Int.reduceToNat] at ho3; rw [← Ny114.out] at ho3)); have n0_ := Aside0.mk (Kd.R_lower ho3 (below_size (belowA))); have n1_ := Aside0.mk (below_step (belowA) hb); clear HB; have HO116 := n0_; have HB := n1_; clear n0_ n1_; clear hb ho3))
 go_loopg [3, 4] k (fun kq v3 v4 w' => ∃ (x3_1 : List Int) (x4_1 : Int), v4 = .int .i64 x4_1 ∧ Aside0 (spec_l01Text.l0 kq l0 x3_1 x4_1 = some r) ∧ Aside0 (kq ≤ k) ∧ Aside0 (Kd.R (Kd.int .u8) 5 w' w.heap.size (fun _ => True) v3 x3_1) ∧ Aside0 (Below w.heap.size w w'))
 case atStart => exact ⟨(y114), (0), (by first | rfl | (simp; done) | (simp [*]; done)), H', ⟨Nat.le_refl _⟩, ⟨by (with_reducible repeat (first | apply Kd.R_alloc | apply Kd.R_drewN | apply Kd.R_drew)); exact HO116.out⟩, ⟨belowA⟩⟩
 case round =>
  clear H'
  try clear p2
  obtain ⟨x3_1, x4_1, rfl, HA, HK1, HO_3, HB⟩ := hrel
  cases gk with
  | zero => exact absurd HA.out (by simp [spec_l01Text.l0])
  | succ k1 =>
   have H := HA.out; clear HA; simp only [spec_l01Text.l0] at H
   by_cases c4 : x4_1 < (l0.length : Int)
   ·rw [if_pos c4] at H
    have c4b0 : decide (x4_1 < (l0.length : Int)) = true := decide_eq_true c4; clear c4
    by_cases c5 : 0 ≤ x4_1
    ·rw [if_pos c5] at H
     have c5b0 : decide (0 ≤ x4_1) = true := decide_eq_true c5; clear c5; replace H := Option.bind_eq_some_iff.mp H; obtain ⟨t118, A60, H⟩ := H
     try dsimp only at H
     have A6 := Aside0.mk A60; clear A60
     by_cases c7 : x3_1.length + t118.size < 140737488355328
     ·rw [if_pos c7] at H
      have LMc7 := Aside0.mk c7; clear c7; obtain ⟨y119, hy119⟩ : ∃ y_ : List Int, y_ = (x3_1 ++ bytesOf t118) := ⟨_, rfl⟩
      replace H : (spec_l01Text.l0 k1 l0 y119 (wrap64 (x4_1 + 1))) = some r := by first | (rw [hy119]; with_reducible exact H) | (have H2_ := (Option.bind_some _ _).symm.trans H; rw [hy119]; with_reducible exact H2_) | (have H2_ := (Option.bind_some _ _).symm.trans H; with_reducible exact H2_) | with_reducible exact H | (rw [hy119]; exact H) | exact H
      have Ny119 := Aside0.mk hy119; clear hy119; have H' := Aside0.mk H; clear H
      have p117 : 0 ≤ (x4_1 : Int) := of_decide_eq_true (by first | (with_reducible assumption) | assumption)
      have q117 : x4_1 < (l0.length : Int) := of_decide_eq_true (by first | (with_reducible assumption) | assumption)
      obtain ⟨ad117, e117, hx117_0⟩ := Kd.at_int HR0.out x4_1 p117 q117; cases e117; replace hx117_0 := (HB.out.cell (World.block_lt_of_cell? w _ hx117_0)).trans hx117_0; replace p117 := eq_true p117; replace q117 := eq_true q117
      go_wp2_with (first | ((with_reducible refine gate_callee (f := 81) rfl ?_); refine goesL_ (some 17) rfl rfl Tryd.func81 (by kernel_rfl) rfl #[.int .i64 (rd l0 x4_1)] rfl (by (try simp only [List.map_toArray, List.map_cons, List.map_nil]); first | done | rfl) ?_; (with_reducible refine (W_spec_l01Write.calls (rd l0 x4_1) t118 _ A6.out).mono ?_); rintro e w8 ⟨rfl, hb⟩; refine ⟨_, rfl, ?_⟩; have n0_ := Aside0.mk (Kd.R_below (by (with_reducible repeat (first | apply Kd.R_alloc | apply Kd.R_drewN | apply Kd.R_drew)); exact HO_3.out) hb); have n1_ := Aside0.mk (below_step (belowA) hb); clear HO_3; clear HB; have HO_3 := n0_; have HB := n1_; clear n0_ n1_; (try clear hb); (try clear hb2); (try clear hk); (try clear hi)) | (at_builtin; refine print_append_str (w0 := w) w.heap.size rfl (.tmp 12) _ 22 9 5 rfl Tryd.underlying22 Tryd.underlying9 info5 u3 x3_1 t118 rfl rfl ?aO ?aB ?aS ?aL ?_; (case aB => exact (belowA)); (case aO => exact (Kd.own_of_R (by (with_reducible repeat (first | apply Kd.R_alloc | apply Kd.R_drewN | apply Kd.R_drew)); exact HO_3.out))); (case aS => exact (below_size (belowA))); (case aL => have := LMc7.out; omega); intro v120 w9 ho0 hb hg; have ho := Kd.R_of_own (h1 := fun _ => rfl) (ok := fun _ => True) ho0 (fun _ _ => trivial); clear ho0; have hat := True.intro; rw [← Ny119.out] at ho; change Kd.R (Kd.int .u8) 5 w9 w.heap.size (fun _ => True) v120 y119 at ho; have n0_ := Aside0.mk (hb); have n1_ := Aside0.mk (ho); clear HB; clear HO_3; have HB := n0_; have HO121 := n1_; clear n0_ n1_; clear ho hb hg hat))
      go_roundg k1
      case measure => have := HK1.out; omega
      case rel => exact ⟨(y119), (wrap64 (x4_1 + 1)), (by first | rfl | (simp; done) | (simp [*]; done)), H', ⟨by have := HK1.out; omega⟩, ⟨by (with_reducible repeat (first | apply Kd.R_alloc | apply Kd.R_drewN | apply Kd.R_drew)); exact HO121.out⟩, ⟨belowA⟩⟩
     rw [if_neg c7] at H
     exact absurd H (by simp)
    rw [if_neg c5] at H
    exact absurd H (by simp)
   rw [if_neg c4] at H; have c4b0 : decide (x4_1 < (l0.length : Int)) = false := decide_eq_false c4; clear c4; obtain rfl := Option.some.inj H; have hcv10 := own_string (P := Tryd.prog) Tryd.underlying22 Tryd.underlying5 Tryd.underlying9 (Kd.own_of_R HO_3.out)
   go_wp2
   go_ret
   exact ⟨by first | rfl | (simp [errW_none, errW_some] <;> rfl) | (simp [*, errW_none, errW_some] <;> rfl), belowA⟩

def W_spec_l01Text.f (l0 : List Int) : Option (ByteArray) := if l0.length ≤ 1099511627776 then some (strOfNums (YtiabgmddnddeiaaDoorPts.encs l0)) else none
theorem spec_l01Text.run (l : List Int) (hl : l.length ≤ 1099511627776) (d : Nat) : ∀ (k i : Nat), i ≤ l.length → l.length - i = d → d < k →
    spec_l01Text.l0 k l (YtiabgmddnddeiaaDoorPts.encs (l.take i)) (i : Int) = some (strOfNums (YtiabgmddnddeiaaDoorPts.encs l)) := by
  induction d with
  | zero =>
    intro k i h1 h2 h3
    obtain ⟨k, rfl⟩ : ∃ m, k = m + 1 := ⟨k - 1, by omega⟩
    simp only [spec_l01Text.l0]
    rw [if_neg (by omega), List.take_of_length_le (by omega)]
  | succ d ih =>
    intro k i h1 h2 h3
    obtain ⟨k, rfl⟩ : ∃ m, k = m + 1 := ⟨k - 1, by omega⟩
    have hlt : i < l.length := by omega
    simp only [spec_l01Text.l0]
    rw [if_pos (by omega), if_pos (by omega)]
    have hw : wrap64 ((i : Int) + 1) = ((i + 1 : Nat) : Int) := by unfold wrap64; omega
    have hr : rd l (i : Int) = l[i] := by simp [rd, List.getD, hlt]
    have hb : bytesOf (strOfNums (YtiabgmddnddeiaaDoorPts.enc l[i])) = YtiabgmddnddeiaaDoorPts.enc l[i] := YtiabgmddnddeiaaDoorPts.bytesOf_strOfNums (YtiabgmddnddeiaaDoorPts.enc_bytes _)
    have ht : YtiabgmddnddeiaaDoorPts.encs (l.take (i + 1)) = YtiabgmddnddeiaaDoorPts.encs (l.take i) ++ YtiabgmddnddeiaaDoorPts.enc l[i] := by
      rw [List.take_succ_eq_append_getElem hlt, YtiabgmddnddeiaaDoorPts.encs_append]
      simp [YtiabgmddnddeiaaDoorPts.encs]
    have hlen := YtiabgmddnddeiaaDoorPts.encs_length (l.take i)
    rw [List.length_take] at hlen
    have hone := YtiabgmddnddeiaaDoorPts.enc_length l[i]
    rw [hr]
    unfold W_spec_l01Write.f
    simp only [Option.bind_some]
    rw [hb, strOfNums_size, if_pos (by omega), hw, ← ht]
    exact ih k (i + 1) (by omega) (by omega) (by omega)
theorem W_spec_l01Text.to {l0 : List Int} {r : ByteArray} (h : W_spec_l01Text.f l0 = some r) : ∃ k, spec_l01Text.f k l0 = some r := by
  unfold W_spec_l01Text.f at h
  split at h
  · rename_i hl
    refine ⟨l0.length + 1, ?_⟩
    rw [← h]
    exact spec_l01Text.run l0 hl l0.length (l0.length + 1) 0 (by omega) (by omega) (by omega)
  · cases h
theorem W_spec_l01Text.calls (A0 : Option Addr) (c0 : Nat) (l0 : List Int) (r : ByteArray) (w : World) (hr0 : Kd.C (Kd.int .i64) w A0 l0.length l0) (hc0 : l0.length ≤ c0) (h : W_spec_l01Text.f l0 = some r) :
    Calls Tryd.prog 95 #[.slice A0 l0.length c0] w fun e w' => e = .returned (.string r) ∧ Below w.heap.size w w' := by
  obtain ⟨k, hk⟩ := W_spec_l01Text.to h
  exact spec_l01Text.calls k A0 c0 l0 r w hr0 hc0 hk

/-! ### spec_DrawChars: function 43 (by hand) -/
/-- the state of the draws, whatever it holds -/
def Src (w0 W : World) (g : Nat) : Prop := ∃ (l : List Int) (a m z : Int), IsS134 w0 W g l a m z ∧ l.length ≤ 140737488355328 ∧ 0 ≤ a ∧ a ≤ (l.length : Int) ∧ 0 ≤ z ∧ z ≤ 12
/-- the state lies at g, and of the memory of w nothing else has turned -/
def St (w0 w W : World) (g : Nat) : Prop := Src w0 W g ∧ Below w0.heap.size w0 W ∧ KeepBut w W g none ∧ w0.heap.size ≤ w.heap.size
theorem Src.lt {w0 W : World} {g : Nat} (h : Src w0 W g) : g < W.heap.size := by obtain ⟨l, a, m, z, hI, _⟩ := h; exact hI.lt
theorem St.refl {w0 w : World} {g : Nat} (hI : Src w0 w g) (hB : Below w0.heap.size w0 w) : St w0 w w g := ⟨hI, hB, KeepBut.refl _ _ _, hB.size⟩
theorem St.self {w0 w W : World} {g : Nat} (h : St w0 w W g) : St w0 W W g := St.refl h.1 h.2.1
theorem St.trans {w0 w W W' : World} {g : Nat} (h : St w0 w W g) (k : St w0 W W' g) : St w0 w W' g := ⟨k.1, k.2.1, KeepBut.trans h.2.2.1 k.2.2.1 (.inl rfl), h.2.2.2⟩
theorem St.below {w0 w W W' : World} {g : Nat} (h : St w0 w W g) (hb : Below W.heap.size W W') : St w0 w W' g := by
  obtain ⟨⟨l, a, m, z, hI, q⟩, hB, hK, hle⟩ := h
  exact ⟨⟨l, a, m, z, hI.below hb, q⟩, below_step hB hb, KeepBut.trans hK (KeepBut.of_below hb g none) (.inl rfl), hle⟩
theorem St.alloc {w0 w W : World} {g : Nat} (h : St w0 w W g) (o : Obj) : St w0 w (W.alloc o) g := h.below (below_alloc (Below.refl _ _) o)
theorem St.drewN {w0 w W : World} {g : Nat} (h : St w0 w W g) (m : Nat) : St w0 w (W.drewN m) g := by
  obtain ⟨⟨l, a, x, z, hI, q⟩, hB, hK, hle⟩ := h
  exact ⟨⟨l, a, x, z, hI.drewN m, q⟩, pw_below_drewN hB m, keep_drewN hK m, hle⟩
theorem St.drew {w0 w W : World} {g : Nat} (h : St w0 w W g) : St w0 w W.drew g := by
  obtain ⟨⟨l, a, x, z, hI, q⟩, hB, hK, hle⟩ := h
  exact ⟨⟨l, a, x, z, hI.drew, q⟩, below_drew1 hB, keep_drew hK, hle⟩
theorem St.row {w0 w W W' : World} {g : Nat} {α : Type} {d : Kd α} {e : Nat} {base : Nat} {v : Value} {xs : List α} (h : St w0 w W g) (ho : d.R e W base (fun _ => True) v xs) (ht : ∀ q, q ∈ e :: d.E → q ≠ 134) (hk : St w0 W W' g) : d.R e W' base (fun _ => True) v xs := by
  obtain ⟨⟨l, a, m, z, hI, q⟩, hB, hK, hle⟩ := h
  exact Kd.R_mono (Kd.R_keep (IsS134.apart hI ho ht) hk.2.2.1 (fun _ h => h.2)) (fun _ h => h.1)
theorem St.grown {w0 w W W' : World} {g : Nat} {α : Type} {d : Kd α} {e : Nat} {v : Value} {xs : List α} (h : St w0 w W g) (ho : d.R e W w.heap.size (fun _ => True) v xs) (ht : e ≠ 134) (hg : W.grownBy W' v.ownBlock) (hb : Below w.heap.size W W') : St w0 w W' g := by
  obtain ⟨⟨l, a, m, z, hI, q⟩, hB, hK, hle⟩ := h
  exact ⟨⟨l, a, m, z, hI.grown hg (IsS134.own_ne hI ho ht), q⟩, below_weaken hB hle hb, KeepBut.trans hK (KeepBut.of_grown hg g) (Kd.R_base2 ho), hle⟩
theorem stA {w0 w W : World} {g : Nat} (h : St w0 w W g := by repeat (first | (with_reducible first | exact HS.out | apply St.alloc | apply St.drewN | apply St.drew) | exact HS.out)) : St w0 w W g := h
theorem nL {w0 w W : World} {g : Nat} (m : Int) (hm : m ≤ 9223372036854775807) (hS : St w0 w W g) :
    Calls Tryd.prog 82 #[.pointer (some ⟨g, 0, none⟩), .int .i64 m] W fun e w' => ∃ r : Int, e = .returned (.int .i64 r) ∧ 0 ≤ r ∧ (r < m ∨ r = 0) ∧ Aside0 (St w0 w w' g) ∧ Aside0 (St w0 W w' g) := by
  have hS' := hS
  obtain ⟨⟨l, a, x, z, hI, hl, h0, h1, hz⟩, hB, hK, hle⟩ := hS
  obtain ⟨⟨r, a', x', z'⟩, hf, q0, q1, q2, q3, q4⟩ := spec_l01Src_n.tot l a x z m hl h0 h1 hm
  refine (spec_l01Src_n.calls g l a x z m r a' x' z' w0 W hI hB hf).mono ?_
  rintro e w' ⟨rfl, hI', hB', hK'⟩
  dsimp only at q0 q1 q2 q3 q4
  have hst : St w0 W w' g := ⟨⟨l, a', x', z', hI', hl, q2, q3, by omega⟩, hB', hK', hB.size⟩
  exact ⟨r, rfl, q0, by omega, ⟨hS'.trans hst⟩, ⟨hst⟩⟩
/-- all cells are numbers -/
def ints (cs : Array Value) : Bool := cs.toList.all fun v => match v with | .int .i64 _ => true | _ => false
theorem ints_at {cs : Array Value} (h : ints cs = true) (i : Nat) (hi : i < cs.size) : ∃ p, cs[i]? = some (.int .i64 p) := by
  unfold ints at h
  have := List.all_eq_true.1 h cs[i] (by simp)
  rw [Array.getElem?_eq_getElem hi]
  split at this
  · rename_i p e; exact ⟨p, by rw [e]⟩
  · cases this
/-- a draw of an index of the row that has just been made -/
def litOk (o : Array Value) (m : Int) (t : Nat) : Bool := ints o && decide (m = o.size) && decide (1 ≤ o.size) && decide (o.size ≤ 10000) && decide (t ≠ 134)
theorem nLit {w0 w W : World} {g : Nat} {o : Array Value} {t : TypeId} (m : Int) (hok : litOk o m t = true) (hS : St w0 w (W.alloc (.cells o t)) g) :
    Calls Tryd.prog 82 #[.pointer (some ⟨g, 0, none⟩), .int .i64 m] (W.alloc (.cells o t)) fun e w' => ∃ r p : Int, e = .returned (.int .i64 r) ∧ (0 ≤ r) = True ∧ (r < m) = True ∧ w'.cell? ⟨W.heap.size, r.toNat, none⟩ = some (.int .i64 p) ∧ Aside0 (St w0 w w' g) := by
  unfold litOk at hok
  simp only [Bool.and_eq_true, decide_eq_true_eq] at hok
  obtain ⟨⟨⟨⟨hc, hm⟩, h1⟩, hm2⟩, ht⟩ := hok
  refine (nL m (by omega) hS).mono ?_
  rintro e w' ⟨r, rfl, h0, h2, hs, hk⟩
  have hlt : r < m := by omega
  obtain ⟨p, hp⟩ := ints_at hc r.toNat (by omega)
  have hb := blk_new W (.cells o t)
  have hne : W.heap.size ≠ g := by
    obtain ⟨⟨l, a, x, z, hI, _⟩, _⟩ := hS
    exact fun hh => hI.ne_blk hb ht hh.symm
  have hb' := hk.out.2.2.1.blk hb hne (by simp)
  exact ⟨r, p, rfl, eq_true h0, eq_true hlt, (blk_cell hb' _).trans hp, hs⟩
set_option maxHeartbeats 8000000 in
set_option maxRecDepth 100000 in
theorem oneL {w0 w W : World} {g : Nat} (m : Int) (hm : m ≤ 9223372036854775807) (hS : St w0 w W g) :
    Calls Tryd.prog 79 #[.pointer (some ⟨g, 0, none⟩), .int .i64 m] W fun e w' => ∃ r : Bool, e = .returned (.bool r) ∧ Aside0 (St w0 w w' g) ∧ Aside0 (St w0 W w' g) := by
  have HS := Aside0.mk hS.self
  have HT := Aside0.mk hS
  clear hS
  go_enter Tryd.func79, Tryd.ntmps79
  go_wp2_with (go_at_call 82; (with_reducible refine (nL _ hm stA).mono ?_); clear HS; rintro e w1 ⟨r, rfl, hr0, hr1, HS, -⟩)
  go_ret
  exact ⟨_, rfl, ⟨HT.out.trans HS.out⟩, HS⟩
/-- a new source of draws -/
theorem srcL {w0 w : World} (A0 : Option Addr) (c0 : Nat) (l0 : List Int) (hB : Below w0.heap.size w0 w) (hr0 : Kd.C (Kd.int .u8) w0 A0 l0.length l0) (hc0 : l0.length ≤ c0) (hl : l0.length ≤ 1048576) :
    Calls Tryd.prog 76 #[.slice A0 l0.length c0] w fun e w' => ∃ g : Nat, e = .returned (.pointer (some ⟨g, 0, none⟩)) ∧ Aside0 (St w0 w' w' g) := by
  have hf : spec_l01Source.f l0 = some (l0, 0, spec_l01Source.mix l0 (if l0.length < 64 then l0.length else 64), if 12 < (l0.length : Int) / 20 then 12 else (l0.length : Int) / 20) := if_pos (by omega)
  refine (spec_l01Source.calls A0 c0 l0 _ _ _ _ w0 w hB hr0 hc0 hf).mono ?_
  rintro e w' ⟨g, rfl, hI, hb, -⟩
  exact ⟨g, rfl, ⟨St.refl ⟨_, _, _, _, hI, by omega, by omega, by omega, by split <;> omega, by split <;> omega⟩ hb⟩⟩
theorem lit0 (W : World) (base : Nat) (hb : base ≤ W.heap.size) : Kd.R (Kd.int .i64) 2 (W.alloc (.cells #[] 2)) base (fun _ => True) (.slice (some ⟨W.heap.size, 0, none⟩) 0 0) [] := by
  refine ⟨fun k _ => trivial, [], ?_, Reps.none _ _⟩
  have h2 := World.ownsRow_lit (base := base) (e := 2) (size := (Kd.int .i64).sz) W #[] 0 hb (by simp [maxLen]) (by simp)
  simpa using h2
theorem St.size {w0 w W : World} {g : Nat} (h : St w0 w W g) : w.heap.size ≤ W.heap.size := h.2.2.1.1
theorem textC {A : Option Addr} {c : Nat} (l : List Int) (W : World) (hl : l.length ≤ 1000000) (h : Kd.C (Kd.int .i64) W A l.length l) (hc : l.length ≤ c) :
    Calls Tryd.prog 95 #[.slice A l.length c] W fun e w' => ∃ t : ByteArray, e = .returned (.string t) ∧ t.size ≤ 4 * l.length ∧ Below W.heap.size W w' := by
  refine (W_spec_l01Text.calls A c l _ W h hc (if_pos (by omega))).mono ?_
  rintro e w' ⟨rfl, hb⟩
  have hs := YtiabgmddnddeiaaDoorPts.encs_length l
  exact ⟨_, rfl, by rw [strOfNums_size]; omega, hb⟩
def spec_DrawChars.f (l0 : List Int) : Option ByteArray := none
set_option maxHeartbeats 8000000 in
set_option maxRecDepth 100000 in
theorem pointL {w0 w W : World} {g : Nat} (hS : St w0 w W g) :
    Calls Tryd.prog 179 #[.pointer (some ⟨g, 0, none⟩)] W fun e w' => ∃ p : Int, e = .returned (.int .i64 p) ∧ Aside0 (St w0 w w' g) ∧ Aside0 (St w0 W w' g) := by
  have HS := Aside0.mk hS.self
  have HT := Aside0.mk hS
  clear hS
  go_enter Tryd.func179, Tryd.ntmps179
  go_wp2_with (first
    | (go_at_call 82; (with_reducible refine (nLit _ ?_ stA).mono ?_); rfl; clear HS; rintro e w1 ⟨r, p, rfl, hr0, hr1, hx, HS⟩)
    | (go_at_call 82; (with_reducible refine (nL _ (by decide) stA).mono ?_); clear HS; rintro e w1 ⟨r, rfl, hr0, hr1, HS, -⟩)
    | (go_at_call 79; (with_reducible refine (oneL _ (by decide) stA).mono ?_); clear HS; rintro e w1 ⟨r, rfl, HS, -⟩))
  all_goals
    go_ret
    exact ⟨_, rfl, ⟨HT.out.trans HS.out⟩, HS⟩
set_option maxHeartbeats 8000000 in
set_option maxRecDepth 100000 in
theorem cutPointL {w0 w W : World} {g : Nat} (hS : St w0 w W g) :
    Calls Tryd.prog 204 #[.pointer (some ⟨g, 0, none⟩)] W fun e w' => ∃ p : Int, e = .returned (.int .i64 p) ∧ Aside0 (St w0 w w' g) ∧ Aside0 (St w0 W w' g) := by
  have HS := Aside0.mk hS.self
  have HT := Aside0.mk hS
  clear hS
  go_enter Tryd.func204, Tryd.ntmps204
  go_wp2_with (first
    | (go_at_call 82; (with_reducible refine (nLit _ ?_ stA).mono ?_); rfl; clear HS; rintro e w1 ⟨r, p, rfl, hr0, hr1, hx, HS⟩)
    | (go_at_call 82; (with_reducible refine (nL _ (by decide) stA).mono ?_); clear HS; rintro e w1 ⟨r, rfl, hr0, hr1, HS, -⟩)
    | (go_at_call 79; (with_reducible refine (oneL _ (by decide) stA).mono ?_); clear HS; rintro e w1 ⟨r, rfl, HS, -⟩)
    | (go_at_call 179; (with_reducible refine (pointL stA).mono ?_); clear HS; rintro e w1 ⟨r, rfl, HS, -⟩))
  all_goals
    go_ret
    exact ⟨_, rfl, ⟨HT.out.trans HS.out⟩, HS⟩
theorem conv1 (W : World) (x : Int) : (convert 22 9 (.slice (some ⟨W.heap.size, 0, none⟩) 1 1)).run Tryd.prog (W.alloc (.cells #[.int .u8 x] 5)) = .ok (.string (strOfNums [x])) (W.alloc (.cells #[.int .u8 x] 5)) := by
  have h2 := World.ownsRow_lit (base := 0) (e := 5) (size := 1) W #[.int .u8 x] 1 (by omega) (by simp [maxLen]) (by simp)
  exact own_string Tryd.underlying22 Tryd.underlying5 Tryd.underlying9 h2
theorem conv2 (x : Int) : ∃ c : ByteArray, c.size = 1 ∧ ∀ V : World, (convert 22 9 (.slice (some ⟨V.heap.size, 0, none⟩) 1 1)).run Tryd.prog (V.alloc (.cells #[.int .u8 x] 5)) = .ok (.string c) (V.alloc (.cells #[.int .u8 x] 5)) :=
  ⟨strOfNums [x], by rw [strOfNums_size]; rfl, fun V => conv1 V x⟩
theorem nS {w0 w W : World} {g : Nat} (t : ByteArray) (ht : t.size ≤ 10000000) (hS : St w0 w W g) :
    Calls Tryd.prog 82 #[.pointer (some ⟨g, 0, none⟩), .int .i64 ((t.size : Int) + 1)] W fun e w' => ∃ r : Int, e = .returned (.int .i64 r) ∧ 0 ≤ r ∧ r ≤ (t.size : Int) ∧ ((r == (t.size : Int)) = true ∨ (r < (t.size : Int) ∧ (r == (t.size : Int)) = false)) ∧ Aside0 (St w0 w w' g) := by
  refine (nL _ (by omega) hS).mono ?_
  rintro e w' ⟨r, rfl, h0, h1, hs, -⟩
  refine ⟨r, rfl, h0, by omega, ?_, hs⟩
  by_cases c : r = (t.size : Int)
  · exact .inl (by simp [c])
  · exact .inr ⟨by omega, by simpa using c⟩
theorem wrapS (r : Int) (h : 0 ≤ r) (h2 : r ≤ 100000000) : IntKind.i64.wrap (r + 1) = r + 1 := by
  rw [i64_w]; unfold wrap64; omega
theorem cutSize (t : ByteArray) (i j : Nat) (h : j ≤ t.size) : (t.extract i j).size = j - i := by rw [ByteArray.size_extract]; omega
theorem nK {w0 w W : World} {g : Nat} (m : Int) (hm : 1 ≤ m) (hm2 : m ≤ 10000) (hS : St w0 w W g) :
    Calls Tryd.prog 82 #[.pointer (some ⟨g, 0, none⟩), .int .i64 m] W fun e w' => ∃ r : Int, e = .returned (.int .i64 r) ∧ 0 ≤ r ∧ r < m ∧ Aside0 (St w0 w w' g) := by
  refine (nL _ (by omega) hS).mono ?_
  rintro e w' ⟨r, rfl, h0, h1, hs, -⟩
  exact ⟨r, rfl, h0, by omega, hs⟩
set_option maxHeartbeats 8000000 in
set_option maxRecDepth 100000 in
theorem spoilL {w0 w W : World} {g : Nat} (t : ByteArray) (ht : t.size ≤ 10000000) (hS : St w0 w W g) :
    Calls Tryd.prog 166 #[.pointer (some ⟨g, 0, none⟩), .string t] W fun e w' => ∃ u : ByteArray, e = .returned (.string u) ∧ u.size ≤ t.size + 1 ∧ Aside0 (St w0 w w' g) ∧ Aside0 (St w0 W w' g) := by
  have HS := Aside0.mk hS.self
  have HT := Aside0.mk hS
  clear hS
  go_enter Tryd.func166, Tryd.ntmps166
  go_wp2_with (first
    | (go_at_call 82; (with_reducible refine (nS t ht stA).mono ?_); clear HS; rintro e w1 ⟨r, rfl, hr0, hr1, hr2, HS⟩; have d0 := eq_true hr0; have d1 := eq_true hr1; have HR := Aside0.mk (And.intro hr0 hr1); rcases hr2 with hr2 | ⟨hr3, hr2⟩; rotate_left; have d2 : (0 ≤ r + 1) = True := (eq_true (by omega)); have d3 : (r + 1 ≤ (t.size : Int)) = True := (eq_true (by omega)); have d4 := wrapS r hr0 (by omega); clear hr3 hr0 hr1; rotate_left; clear hr0 hr1)
    | (go_at_call 82; (with_reducible refine (nK 17 (by decide) (by decide) stA).mono ?_); clear HS; rintro e w2 ⟨q, rfl, hq0, hq1, HS⟩; replace hq0 := eq_true hq0; replace hq1 := eq_true hq1; have hx := bt_at (⟨#[32, 10, 48, 97, 45, 110, 44, 58, 93, 255, 40, 120, 34, 49, 128, 225, 59]⟩ : ByteArray) q; obtain ⟨c, hcs, kc⟩ := conv2 (bt (⟨#[32, 10, 48, 97, 45, 110, 44, 58, 93, 255, 40, 120, 34, 49, 128, 225, 59]⟩ : ByteArray) q); have b0 : (9223372036854775807 < r.toNat + c.size) = False := (eq_false (by have hr := HR.out; omega)); have b1 : (9223372036854775807 < r.toNat + c.size + (t.size - r.toNat)) = False := (eq_false (by have hr := HR.out; omega)); have b2 : (9223372036854775807 < r.toNat + (t.size - (r + 1).toNat)) = False := (eq_false (by have hr := HR.out; omega)); have b3 : (9223372036854775807 < r.toNat + c.size + (t.size - (r + 1).toNat)) = False := (eq_false (by have hr := HR.out; omega)); have HC := Aside0.mk hcs; clear hcs)
    | (go_at_call 79; (with_reducible refine (oneL _ (by decide) stA).mono ?_); clear HS; rintro e w1 ⟨b, rfl, HS, -⟩))
  all_goals go_quiet (fail)
  all_goals go_wp2
  all_goals
    have hr := HR.out
    have hc := HC.out
    go_ret
    refine ⟨_, rfl, ?_, ⟨HT.out.trans stA⟩, ⟨stA⟩⟩
    simp only [ByteArray.size_append, ByteArray.size_extract]
    omega
set_option maxHeartbeats 8000000 in
set_option maxRecDepth 100000 in
theorem cutTextL {w0 w W : World} {g : Nat} (hS : St w0 w W g) :
    Calls Tryd.prog 134 #[.pointer (some ⟨g, 0, none⟩)] W fun e w' => ∃ t : ByteArray, e = .returned (.string t) ∧ t.size ≤ 1000 ∧ Aside0 (St w0 w w' g) ∧ Aside0 (St w0 W w' g) := by
  have HS := Aside0.mk hS.self
  have HT := Aside0.mk hS
  obtain ⟨⟨l, a, m, z, ⟨A0, c0, hblk, _, _⟩, _, _, _, hz0, hz1⟩, _⟩ := hS
  have k3 := cellS134_3 (blk_alloc hblk (.cells #[] 2))
  clear hblk
  go_enter Tryd.func134, Tryd.ntmps134
  go_wp2_with (go_at_call 82; (with_reducible refine (nL _ (by omega) stA).mono ?_); rintro e w1 ⟨r, rfl, hr0, hr1, HS1, HK⟩; have HO := Aside0.mk (St.row (stA (w := W)) (lit0 _ W.heap.size (St.size (stA (w := W)))) (by decide) HK.out); clear HS HK; have HS := HS1; clear HS1; replace hr1 : r ≤ 40 := (by omega))
  clear k3
  go_loopw [3, 4] (fun v3 v4 wr => ∃ (xs : List Int) (n : Int), v4 = .int .i64 n ∧ 0 ≤ n ∧ n ≤ 40 ∧ (xs.length : Int) + n ≤ 40 ∧ Aside0 (Kd.R (Kd.int .i64) 2 wr W.heap.size (fun _ => True) v3 xs) ∧ Aside0 (St w0 W wr g)) (fun _ v4 _ => (intOf v4).toNat)
  case atStart => exact ⟨[], r, rfl, hr0, hr1, by simpa using hr1, HO, HS⟩
  case round =>
    clear HO HS
    obtain ⟨xs, n, rfl, hn0, hn1, hn2, HO, HS⟩ := hrel
    by_cases hn : 0 < n
    · go_wp2_with (first
        | (go_at_call 204; (with_reducible refine (cutPointL stA).mono ?_); rintro e w2 ⟨p, rfl, HS1, HK⟩; have HO1 := Aside0.mk (St.row (stA (w := W)) HO.out (by decide) HK.out); clear HS HK HO; have HS := HS1; have HO := HO1; clear HS1 HO1)
        | (at_builtin; refine Kd.R_append (Kd.int .i64) W.heap.size rfl (.tmp 19) (.tmp 22) 28 2 (.int .i64 0) 8 rfl Tryd.underlying28 info2 rfl (by decide) (by omega) _ xs p [.int .i64 p] (fun _ => True) (fun _ => False) rfl rfl rfl (fun _ hk => hk.elim) (fun _ _ => trivial) (by (with_reducible repeat (first | apply Kd.R_alloc | apply Kd.R_drewN | apply Kd.R_drew)); exact HO.out) (Below.refl _ _) (St.size (stA (w := W))) (by omega) ?_; intro v3 w3 ho hb hg hat; have HS1 := Aside0.mk (St.grown (stA (w := W)) (by (with_reducible repeat (first | apply Kd.R_alloc | apply Kd.R_drewN | apply Kd.R_drew)); exact HO.out) (by decide) hg hb); have HO1 := Aside0.mk ho; clear HS HO ho hb hg hat; have HS := HS1; have HO := HO1; clear HS1 HO1))
      go_roundw
      case rel => exact ⟨_, n - 1, by go_num, by omega, by omega, by simp only [List.length_append, List.length_cons, List.length_nil]; omega, HO, HS⟩
      case measure => simp [intOf]; omega
    · have hxl : xs.length ≤ 40 := by omega
      obtain ⟨A1, c1, rfl⟩ := Kd.R_slice HO.out
      go_wp2_with (first
        | (go_at_call 95; (with_reducible refine (textC xs _ (by omega) (by repeat (first | exact (Kd.R_reads' HO.out).2.2 | (with_reducible refine Kd.C_alloc ?_ _) | (with_reducible refine Kd.C_drewN ?_ _))) (Kd.R_reads' HO.out).2.1).mono ?_); rintro e w2 ⟨t, rfl, ht, hb⟩; have HS1 := Aside0.mk (St.below (stA (w := W)) hb); clear HS hb; have HS := HS1; clear HS1)
        | (go_at_call 79; (with_reducible refine (oneL _ (by decide) stA).mono ?_); clear HS; rintro e w1 ⟨r, rfl, HS, -⟩)
        | (go_at_call 166; (with_reducible refine (spoilL _ (by omega) stA).mono ?_); clear HS; rintro e w1 ⟨u, rfl, hu, HS, -⟩))
      all_goals
        go_ret
        exact ⟨_, rfl, by omega, ⟨HT.out.trans HS.out⟩, HS⟩
set_option maxHeartbeats 8000000 in
set_option maxRecDepth 100000 in
theorem spec_DrawChars.loose (A0 : Option Addr) (c0 : Nat) (l0 : List Int) (w : World) (hr0 : Kd.C (Kd.int .u8) w A0 l0.length l0) (hc0 : l0.length ≤ c0) (hl : l0.length ≤ 1048576) :
    Calls Tryd.prog 43 #[.slice A0 l0.length c0] w fun e w' => ∃ t : ByteArray, t.size ≤ 10000 ∧ e = .returned (.string t) ∧ Below w.heap.size w w' := by
  have HR := Aside0.mk hr0
  clear hr0
  go_enter Tryd.func43, Tryd.ntmps43
  go_wp2_with (first
    | (go_at_call 76; (with_reducible refine (srcL A0 c0 l0 (Below.refl w.heap.size w) HR.out hc0 hl).mono ?_); rintro e w1 ⟨g, rfl, HS⟩)
    | (go_at_call 134; (with_reducible refine (cutTextL stA).mono ?_); clear HS; rintro e w3 ⟨t, rfl, ht, HS, -⟩))
  go_ret
  exact ⟨t, by omega, rfl, HS.out.2.1⟩

/-! ### impl_long: function 86 -/
def impl_long.f (a0 : ByteArray) : Option (Bool) := some (decide ((a0.size : Int) > 65536))
set_option maxHeartbeats 8000000 in
set_option maxRecDepth 100000 in
theorem impl_long.calls (a0 : ByteArray) (r : Bool) (w : World) (h : impl_long.f a0 = some r) :
    Calls Tryd.prog 86 #[.string a0] w fun e w' => e = .returned (.bool r) ∧ Drawn0 w w' := by
  have H : (some (decide ((a0.size : Int) > 65536))) = some r := h
  clear h
  obtain rfl := Option.some.inj H
  go_enter Tryd.func86, Tryd.ntmps86
  go_wp2
  go_ret
  exact ⟨by first | rfl | (simp; done) | (simp [*]; done), by repeat (first | exact Drawn0.refl _ | apply Drawn0.step)⟩

/-- The tables of unicode/utf8 lie in this world as start-up lays them. -/
def GT (w : World) : Prop := Lib.Utf8Tabs 1 2 w
theorem GT.below {w w' : World} (h : GT w) (hb : Below w.heap.size w w') : GT w' := by
  obtain ⟨h1, h2⟩ := h
  refine ⟨fun c hc => ?_, fun i hi => ⟨?_, ?_⟩⟩
  · exact (hb.cell (World.block_lt_of_cell? w _ (h1 c hc))).trans (h1 c hc)
  · exact (hb.cell (World.block_lt_of_cell? w _ (h2 i hi).1)).trans (h2 i hi).1
  · exact (hb.cell (World.block_lt_of_cell? w _ (h2 i hi).2)).trans (h2 i hi).2
theorem gtA {W : World} (h : GT W := by first | exact HG.out | exact GT.below HG.out (by first | exact HB.out | (repeat (first | (with_reducible first | exact HB.out | apply below_alloc | apply pw_below_drewN | apply below_drew1 | refine below_set ?_ (Aside0.out (by assumption))) | exact HB.out))) | exact GT.below HG.out (HB.out)) : GT W := h

/-! ### utf8_DecodeRuneInString: function 189 (by hand) -/
def utf8_DecodeRuneInString.f (a0 : ByteArray) : Option (Int × Int) := some (((Lib.decodeGo a0).1 : Int), ((Lib.decodeGo a0).2 : Int))
theorem utf8_DecodeRuneInString.calls (a0 : ByteArray) (r1 : Int) (r2 : Int) (w : World) (h : utf8_DecodeRuneInString.f a0 = some (r1, r2)) (hG : GT w) :
    Calls Tryd.prog 189 #[.string a0] w fun e w' => e = .returned (.tuple #[.int .i32 r1, .int .i64 r2]) ∧ Below w.heap.size w w' := by
  have h := Option.some.inj h
  obtain ⟨rfl, rfl⟩ := Prod.mk.inj h
  exact Tryd.utf8_DecodeRuneInString a0 w hG

/-! ### impl_read: function 113 -/
def impl_read.l0 : Nat → ByteArray → List (S121) → Int → Option ((List (S121)))
 | 0, _, _, _ => none
 | k + 1, x0, x3, x4 => if x4 < (x0.size : Int) then (if 0 ≤ x4 then (if x4 ≤ (x0.size : Int) then ((utf8_DecodeRuneInString.f (x0.extract (x4 : Int).toNat x0.size)).bind fun bt122 => (if bt122.1 = 65533 then (if x3.length < 4398046511104 then (impl_read.l0 k x0 (x3 ++ [(⟨wrap64 (bt122.1), x4, wrap64 (x4 + bt122.2), (bt122.2 == 1)⟩ : S121)]) (wrap64 (x4 + bt122.2))) else (none)) else (if x3.length < 4398046511104 then (impl_read.l0 k x0 (x3 ++ [(⟨wrap64 (bt122.1), x4, wrap64 (x4 + bt122.2),false⟩ : S121)]) (wrap64 (x4 + bt122.2))) else (none)))) else (none)) else (none)) else (some x3)
def impl_read.f (k : Nat) (a0 : ByteArray) : Option ((List (S121))) := impl_read.l0 k a0 ([] : List (S121)) 0
theorem impl_read.mono_l : ∀ k, (∀ y0 y1 y2, LeO (impl_read.l0 k y0 y1 y2) (impl_read.l0 (k + 1) y0 y1 y2))
 | 0 => fun _ _ _ r h => by simp [impl_read.l0] at h
 | k + 1 => by
  have ih0 := impl_read.mono_l k; intro y0 y1 y2
  unfold impl_read.l0
  repeat' first
  | (with_reducible exact ih0 _ _ _)
  | (with_reducible exact LeO.refl _)
  | (with_reducible exact LeO.none _)
  | (with_reducible refine LeO.ite ?_ ?_)
  | (with_reducible refine LeO.bind ?_ (fun _ => ?_))
  | exact ih0 _ _ _
  | exact LeO.none _
  | refine LeO.ite ?_ ?_
  | refine LeO.bind ?_ (fun _ => ?_)
theorem impl_read.mono : ∀ a0 k, LeO (impl_read.f k a0) (impl_read.f (k + 1) a0) := by
 intro a0 k
 have ih0 := impl_read.mono_l k
 unfold impl_read.f
 repeat' first
   | (with_reducible exact ih0 _ _ _)
   | (with_reducible exact LeO.refl _)
   | (with_reducible exact LeO.none _)
   | (with_reducible refine LeO.ite ?_ ?_)
   | (with_reducible refine LeO.bind ?_ (fun _ => ?_))
   | exact ih0 _ _ _
   | exact LeO.none _
   | refine LeO.ite ?_ ?_
   | refine LeO.bind ?_ (fun _ => ?_)
set_option maxHeartbeats 8000000 in
set_option maxRecDepth 100000 in
theorem impl_read.calls (k : Nat) (a0 : ByteArray) (r : List (S121)) (w : World) (h : impl_read.f k a0 = some r) (hG : GT w) :
  Calls Tryd.prog 113 #[.string a0] w fun e w' => ∃ v0_ : Value, e = .returned (v0_) ∧ Kd.R k121 121 w' w.heap.size (fun _ => True) v0_ r ∧ Below w.heap.size w w' := by
 have HG := Aside0.mk hG
 clear hG
 have hu121 := Tryd.underlying121
 have HB := Aside0.mk (Below.refl w.heap.size w)
 have H : (impl_read.l0 k a0 ([] : List (S121)) 0) = some r := h
 clear h
 have H' := Aside0.mk H
 clear H
 go_enter Tryd.func113, Tryd.ntmps113
 go_wp2
 go_loopg [3, 4] k (fun kq v3 v4 w' => ∃ (x3_1 : List (S121)) (x4_1 : Int), v4 = .int .i64 x4_1 ∧ Aside0 (impl_read.l0 kq a0 x3_1 x4_1 = some r) ∧ Aside0 (kq ≤ k) ∧ Aside0 (Kd.R k121 121 w' w.heap.size (fun _ => True) v3 x3_1) ∧ Aside0 (Below w.heap.size w w'))
 case atStart => exact ⟨(([] : List (S121))), (0), (by first | rfl | (simp; done) | (simp [*]; done)), H', ⟨Nat.le_refl _⟩, ⟨by first | exact Kd.R_nil _ _ _ _ _ | exact Kd.N_nil _ _ _ _ _ | exact Kd.V_nil _ _ _ _ _ | exact Kd.Q_nil _ _ _ _ _ | exact Kd.S_nil _ _ _ _ _⟩, ⟨belowA⟩⟩
 case round =>
  clear H'
  try clear c1
  obtain ⟨x3_1, x4_1, rfl, HA, HK1, HO_3, HB⟩ := hrel
  cases gk with
  | zero => exact absurd HA.out (by simp [impl_read.l0])
  | succ k1 =>
   have H := HA.out; clear HA; simp only [impl_read.l0] at H
   by_cases c2 : x4_1 < (a0.size : Int)
   ·rw [if_pos c2] at H
    have c2b0 : decide (x4_1 < (a0.size : Int)) = true := decide_eq_true c2; clear c2
    by_cases c3 : 0 ≤ x4_1
    ·rw [if_pos c3] at H
     have c3b0 := eq_true c3; have c3b1 : decide (0 ≤ x4_1) = true := decide_eq_true c3; clear c3
     by_cases c4 : x4_1 ≤ (a0.size : Int)
     ·rw [if_pos c4] at H
      have c4b0 := eq_true c4; have c4b1 : decide (x4_1 ≤ (a0.size : Int)) = true := decide_eq_true c4; clear c4; replace H := Option.bind_eq_some_iff.mp H; obtain ⟨⟨t122, t123⟩, A50, H⟩ := H
      try dsimp only at H
      have A5 := Aside0.mk A50; clear A50
      by_cases c6 : t122 = 65533
      ·rw [if_pos c6] at H
       have c6b0 : (t122 == 65533) = true := beq_iff_eq.mpr c6; have c6b1 : (t122 != 65533) = false := bne_eq_false_iff_eq.mpr c6; clear c6
       by_cases c7 : x3_1.length < 4398046511104
       ·rw [if_pos c7] at H
        have LMc7 := Aside0.mk c7; clear c7; obtain ⟨y124, hy124⟩ : ∃ y_ : List (S121), y_ = (x3_1 ++ [(⟨wrap64 (t122), x4_1, wrap64 (x4_1 + t123), (t123 == 1)⟩ : S121)]) := ⟨_, rfl⟩
        replace H : (impl_read.l0 k1 a0 y124 (wrap64 (x4_1 + t123))) = some r := by first | (rw [hy124]; with_reducible exact H) | (have H2_ := (Option.bind_some _ _).symm.trans H; rw [hy124]; with_reducible exact H2_) | (have H2_ := (Option.bind_some _ _).symm.trans H; with_reducible exact H2_) | with_reducible exact H | (rw [hy124]; exact H) | exact H
        have Ny124 := Aside0.mk hy124; clear hy124; have H' := Aside0.mk H; clear H
        go_wp2_with (first | ((with_reducible refine gate_callee (f := 189) rfl ?_); refine goesL_ (some 16) rfl rfl Tryd.func189 (by kernel_rfl) rfl #[.string (a0.extract (x4_1 : Int).toNat a0.size)] rfl (by (try simp only [List.map_toArray, List.map_cons, List.map_nil]); first | done | rfl) ?_; (with_reducible refine (utf8_DecodeRuneInString.calls (a0.extract (x4_1 : Int).toNat a0.size) t122 t123 _ A5.out (by first | exact HG.out | exact GT.below HG.out (by first | exact HB.out | (repeat (first | (with_reducible first | exact HB.out | apply below_alloc | apply pw_below_drewN | apply below_drew1 | refine below_set ?_ (Aside0.out (by assumption))) | exact HB.out))) | exact GT.below HG.out (HB.out))).mono ?_); rintro e w8 ⟨rfl, hb⟩; refine ⟨_, rfl, ?_⟩; have n0_ := Aside0.mk (Kd.R_below (by (with_reducible repeat (first | apply Kd.R_alloc | apply Kd.R_drewN | apply Kd.R_drew)); exact HO_3.out) hb); have n1_ := Aside0.mk (below_step (belowA) hb); clear HO_3; clear HB; have HO_3 := n0_; have HB := n1_; clear n0_ n1_; (try clear hb); (try clear hb2); (try clear hk); (try clear hi)) | ((with_reducible refine gate_builtin (b := .append) (xs := #[.tmp 25, .tmp 34]) rfl ?_); at_builtin; refine Kd.R_append k121 (w0 := w) w.heap.size rfl (.tmp 25) (.tmp 34) 94 121 (.agg #[(.int .i64 0), (.int .i64 0), (.int .i64 0), (.bool false)]) 32 rfl Tryd.underlying94 info121 rfl (by decide) (by omega) u3 x3_1 (⟨wrap64 (t122), x4_1, wrap64 (x4_1 + t123), (t123 == 1)⟩ : S121) [.int .i64 (wrap64 (t122)), .int .i64 x4_1, .int .i64 (wrap64 (x4_1 + t123)), .bool (t123 == 1)] (fun _ => True) (fun _ => False) rfl rfl ?aP (fun _ hk => hk.elim) ?aF ?aO ?aB ?aS ?aL ?_; (case aP => exact k121_mkM _ _ _ (⟨wrap64 (t122), x4_1, wrap64 (x4_1 + t123), (t123 == 1)⟩ : S121)); (case aB => exact (belowA)); (case aF => exact (fun _ _ => trivial)); (case aO => exact (by (with_reducible repeat (first | apply Kd.R_alloc | apply Kd.R_drewN | apply Kd.R_drew)); exact HO_3.out)); (case aS => exact (below_size (belowA))); (case aL => have := LMc7.out; omega); intro v125 w9 ho hb hg hat; rw [← Ny124.out] at ho; have n0_ := Aside0.mk (hb); have n1_ := Aside0.mk (ho); clear HB; clear HO_3; have HB := n0_; have HO126 := n1_; clear n0_ n1_; clear ho hb hg hat))
        go_roundg k1
        case measure => have := HK1.out; omega
        case rel => exact ⟨(y124), (wrap64 (x4_1 + t123)), (by first | rfl | (simp; done) | (simp [*]; done)), H', ⟨by have := HK1.out; omega⟩, ⟨by (with_reducible repeat (first | apply Kd.R_alloc | apply Kd.R_drewN | apply Kd.R_drew)); exact HO126.out⟩, ⟨belowA⟩⟩
       rw [if_neg c7] at H
       exact absurd H (by simp)
      rw [if_neg c6] at H; have c6b0 : (t122 == 65533) = false := beq_eq_false_iff_ne.mpr c6; have c6b1 : (t122 != 65533) = true := bne_iff_ne.mpr c6
      by_cases c10 : x3_1.length < 4398046511104
      ·rw [if_pos c10] at H
       have LMc10 := Aside0.mk c10; clear c10; obtain ⟨y127, hy127⟩ : ∃ y_ : List (S121), y_ = (x3_1 ++ [(⟨wrap64 (t122), x4_1, wrap64 (x4_1 + t123),false⟩ : S121)]) := ⟨_, rfl⟩
       replace H : (impl_read.l0 k1 a0 y127 (wrap64 (x4_1 + t123))) = some r := by first | (rw [hy127]; with_reducible exact H) | (have H2_ := (Option.bind_some _ _).symm.trans H; rw [hy127]; with_reducible exact H2_) | (have H2_ := (Option.bind_some _ _).symm.trans H; with_reducible exact H2_) | with_reducible exact H | (rw [hy127]; exact H) | exact H
       have Ny127 := Aside0.mk hy127; clear hy127; have H' := Aside0.mk H; clear H
       go_wp2_with (first | ((with_reducible refine gate_callee (f := 189) rfl ?_); refine goesL_ (some 16) rfl rfl Tryd.func189 (by kernel_rfl) rfl #[.string (a0.extract (x4_1 : Int).toNat a0.size)] rfl (by (try simp only [List.map_toArray, List.map_cons, List.map_nil]); first | done | rfl) ?_; (with_reducible refine (utf8_DecodeRuneInString.calls (a0.extract (x4_1 : Int).toNat a0.size) t122 t123 _ A5.out (by first | exact HG.out | exact GT.below HG.out (by first | exact HB.out | (repeat (first | (with_reducible first | exact HB.out | apply below_alloc | apply pw_below_drewN | apply below_drew1 | refine below_set ?_ (Aside0.out (by assumption))) | exact HB.out))) | exact GT.below HG.out (HB.out))).mono ?_); rintro e w11 ⟨rfl, hb⟩; refine ⟨_, rfl, ?_⟩; have n0_ := Aside0.mk (Kd.R_below (by (with_reducible repeat (first | apply Kd.R_alloc | apply Kd.R_drewN | apply Kd.R_drew)); exact HO_3.out) hb); have n1_ := Aside0.mk (below_step (belowA) hb); clear HO_3; clear HB; have HO_3 := n0_; have HB := n1_; clear n0_ n1_; (try clear hb); (try clear hb2); (try clear hk); (try clear hi)) | ((with_reducible refine gate_builtin (b := .append) (xs := #[.tmp 25, .tmp 34]) rfl ?_); at_builtin; refine Kd.R_append k121 (w0 := w) w.heap.size rfl (.tmp 25) (.tmp 34) 94 121 (.agg #[(.int .i64 0), (.int .i64 0), (.int .i64 0), (.bool false)]) 32 rfl Tryd.underlying94 info121 rfl (by decide) (by omega) u3 x3_1 (⟨wrap64 (t122), x4_1, wrap64 (x4_1 + t123),false⟩ : S121) [.int .i64 (wrap64 (t122)), .int .i64 x4_1, .int .i64 (wrap64 (x4_1 + t123)), .bool false] (fun _ => True) (fun _ => False) rfl rfl ?aP (fun _ hk => hk.elim) ?aF ?aO ?aB ?aS ?aL ?_; (case aP => exact k121_mkM _ _ _ (⟨wrap64 (t122), x4_1, wrap64 (x4_1 + t123),false⟩ : S121)); (case aB => exact (belowA)); (case aF => exact (fun _ _ => trivial)); (case aO => exact (by (with_reducible repeat (first | apply Kd.R_alloc | apply Kd.R_drewN | apply Kd.R_drew)); exact HO_3.out)); (case aS => exact (below_size (belowA))); (case aL => have := LMc10.out; omega); intro v128 w12 ho hb hg hat; rw [← Ny127.out] at ho; have n0_ := Aside0.mk (hb); have n1_ := Aside0.mk (ho); clear HB; clear HO_3; have HB := n0_; have HO129 := n1_; clear n0_ n1_; clear ho hb hg hat))
       go_roundg k1
       case measure => have := HK1.out; omega
       case rel => exact ⟨(y127), (wrap64 (x4_1 + t123)), (by first | rfl | (simp; done) | (simp [*]; done)), H', ⟨by have := HK1.out; omega⟩, ⟨by (with_reducible repeat (first | apply Kd.R_alloc | apply Kd.R_drewN | apply Kd.R_drew)); exact HO129.out⟩, ⟨belowA⟩⟩
      rw [if_neg c10] at H
      exact absurd H (by simp)
     rw [if_neg c4] at H
     exact absurd H (by simp)
    rw [if_neg c3] at H
    exact absurd H (by simp)
   rw [if_neg c2] at H; have c2b0 : decide (x4_1 < (a0.size : Int)) = false := decide_eq_false c2; clear c2; obtain rfl := Option.some.inj H
   go_wp2
   go_ret
   exact ⟨_, by first | rfl | (simp [errW_none, errW_some] <;> rfl) | (simp [*, errW_none, errW_some] <;> rfl), by (with_reducible repeat (first | apply Kd.R_alloc | apply Kd.R_drewN | apply Kd.R_drew)); exact HO_3.out, belowA⟩

def impl_read.mk (x : Int × Int × Int × Bool) : S121 := ⟨x.1, x.2.1, x.2.2.1, x.2.2.2⟩
def W_impl_read.f (a0 : ByteArray) : Option (List (S121)) := if a0.size ≤ 1099511627776 then some ((YtiabgmddnddeiaaDoorDec.reads (bytesOf a0)).map impl_read.mk) else none
theorem impl_read.decodeGo (s : ByteArray) (i : Nat) (h : i < s.size) : (((Lib.decodeGo (s.extract i s.size)).1 : Int), (Lib.decodeGo (s.extract i s.size)).2) = YtiabgmddnddeiaaDoorPts.dec ((bytesOf s).drop i) := by
  have hz : (s.extract i s.size).size = s.size - i := by simp
  unfold Lib.decodeGo
  rw [if_neg (by omega), YtiabgmddnddeiaaDoorPts.decode_dec, List.drop_zero]
  have e : bytesOf (s.extract i s.size) = (bytesOf s).drop i := by
    unfold bytesOf
    rw [← List.map_drop]
    congr 1
    simp only [ByteArray.data_extract, Array.toList_extract, List.extract_eq_take_drop]
    exact List.take_of_length_le (by rw [List.length_drop, data_length]; omega)
  rw [e]
theorem impl_read.run (s : ByteArray) (hs : s.size ≤ 1099511627776) (d : Nat) : ∀ (k i : Nat) (acc : List (S121)), i ≤ s.size → s.size - i ≤ d → d < k → acc.length + (s.size - i) ≤ 1099511627776 →
    impl_read.l0 k s acc (i : Int) = some (acc ++ (YtiabgmddnddeiaaDoorDec.readsAt ((bytesOf s).drop i) (i : Int)).map impl_read.mk) := by
  induction d with
  | zero =>
    intro k i acc h1 h2 h3 h4
    obtain ⟨k, rfl⟩ : ∃ m, k = m + 1 := ⟨k - 1, by omega⟩
    simp only [impl_read.l0]
    rw [if_neg (by omega), List.drop_eq_nil_of_le (by rw [bytesOf_length]; omega)]
    simp [YtiabgmddnddeiaaDoorDec.readsAt, YtiabgmddnddeiaaDoorDec.readsF]
  | succ d ih =>
    intro k i acc h1 h2 h3 h4
    obtain ⟨k, rfl⟩ : ∃ m, k = m + 1 := ⟨k - 1, by omega⟩
    simp only [impl_read.l0]
    by_cases hlt : i < s.size
    · rw [if_pos (by omega), if_pos (by omega), if_pos (by omega)]
      unfold utf8_DecodeRuneInString.f
      simp only [Option.bind_some, Int.toNat_natCast]
      have hne : (bytesOf s).drop i ≠ [] := by intro h; have := congrArg List.length h; rw [List.length_drop, bytesOf_length] at this; simp at this; omega
      have hb := YtiabgmddnddeiaaDoorPts.dec_bound hne
      rw [List.length_drop, bytesOf_length] at hb
      have hg := impl_read.decodeGo s i hlt
      have e1 := congrArg Prod.fst hg
      have e2 := congrArg Prod.snd hg
      simp only [] at e1 e2
      have hcons := YtiabgmddnddeiaaDoorDec.readsAt_cons hne (i : Int)
      obtain ⟨q, hq⟩ : ∃ q, YtiabgmddnddeiaaDoorPts.dec ((bytesOf s).drop i) = q := ⟨_, rfl⟩
      rw [hq] at e1 e2 hb hcons
      rw [e1, e2, hcons]
      have hp := hb.2.2.2
      have hw0 : wrap64 q.1 = q.1 := by unfold YtiabgmddnddeiaaDoorPts.isP at hp; unfold wrap64; omega
      have hw1 : wrap64 ((i : Int) + (q.2 : Int)) = ((i + q.2 : Nat) : Int) := by unfold wrap64; omega
      have hw2 : (i : Int) + (q.2 : Int) = ((i + q.2 : Nat) : Int) := by omega
      rw [hw0, hw1, hw2, List.drop_drop]
      clear hw0 hw1 hw2 hg e1 e2 hcons hq
      have go : ∀ b : Bool, b = decide (q.1 = 65533 ∧ q.2 = 1) → impl_read.l0 k s (acc ++ [(⟨q.1, (i : Int), ((i + q.2 : Nat) : Int), b⟩ : S121)]) ((i + q.2 : Nat) : Int) = some (acc ++ ((q.1, (i : Int), ((i + q.2 : Nat) : Int), decide (q.1 = 65533 ∧ q.2 = 1)) :: YtiabgmddnddeiaaDoorDec.readsAt ((bytesOf s).drop (i + q.2)) ((i + q.2 : Nat) : Int)).map impl_read.mk) := by
        intro b hbq
        rw [ih k (i + q.2) _ (by omega) (by omega) (by omega) (by rw [List.length_append]; simp only [List.length_cons, List.length_nil]; omega), hbq, List.map_cons, List.append_assoc]
        rfl
      by_cases c : q.1 = 65533
      · rw [if_pos c, if_pos (by omega)]
        refine go _ ?_
        by_cases c2 : q.2 = 1
        · rw [decide_eq_true ⟨c, c2⟩, beq_iff_eq]; omega
        · rw [decide_eq_false (fun z => c2 z.2), beq_eq_false_iff_ne]; omega
      · rw [if_neg c, if_pos (by omega)]
        exact go _ (by rw [decide_eq_false (fun z => c z.1)])
    · rw [if_neg (by omega), List.drop_eq_nil_of_le (by rw [bytesOf_length]; omega)]
      simp [YtiabgmddnddeiaaDoorDec.readsAt, YtiabgmddnddeiaaDoorDec.readsF]
theorem W_impl_read.to {a0 : ByteArray} {r : List (S121)} (h : W_impl_read.f a0 = some r) : ∃ k, impl_read.f k a0 = some r := by
  unfold W_impl_read.f at h
  split at h
  · rename_i hs
    refine ⟨a0.size + 1, ?_⟩
    rw [← h]
    unfold impl_read.f
    have := impl_read.run a0 hs a0.size (a0.size + 1) 0 [] (by omega) (by omega) (by omega) (by simp; omega)
    rw [List.drop_zero, List.nil_append] at this
    exact this
  · cases h
theorem W_impl_read.calls (a0 : ByteArray) (r : List (S121)) (w : World) (h : W_impl_read.f a0 = some r) (hG : GT w) :
    Calls Tryd.prog 113 #[.string a0] w fun e w' => ∃ v0_ : Value, e = .returned (v0_) ∧ Kd.R k121 121 w' w.heap.size (fun _ => True) v0_ r ∧ Below w.heap.size w w' := by
  obtain ⟨k, hk⟩ := W_impl_read.to h
  exact impl_read.calls k a0 r w hk hG

/-! ### impl_onlyPoints: function 114 -/
def impl_onlyPoints.l0 : Nat → List Int → List (S121) → Int → Int → Option (List Int)
 | 0, _, _, _, _ => none
 | k + 1, x3, x9, x10, x11 => if x11 < x10 then (if 0 ≤ x11 then (if x11 < (x9.length : Int) then (if x11 < (x3.length : Int) then (impl_onlyPoints.l0 k (x3.set (x11 : Int).toNat ((rd_T121 x9 x11).f0)) x9 x10 (wrap64 (x11 + 1))) else (none)) else (none)) else (none)) else (some x3)
def impl_onlyPoints.f (k : Nat) (l0 : List (S121)) : Option (List Int) := if 0 ≤ (l0.length : Int) then (if ((l0.length : Int) : Int).toNat ≤ 35184372088832 then (impl_onlyPoints.l0 k (List.replicate ((l0.length : Int) : Int).toNat 0) l0 (l0.length : Int) 0) else (none)) else (none)
theorem impl_onlyPoints.mono_l : ∀ k, (∀ y0 y1 y2 y3, LeO (impl_onlyPoints.l0 k y0 y1 y2 y3) (impl_onlyPoints.l0 (k + 1) y0 y1 y2 y3))
 | 0 => fun _ _ _ _ r h => by simp [impl_onlyPoints.l0] at h
 | k + 1 => by
  have ih0 := impl_onlyPoints.mono_l k; intro y0 y1 y2 y3
  unfold impl_onlyPoints.l0
  repeat' first
  | (with_reducible exact ih0 _ _ _ _)
  | (with_reducible exact LeO.refl _)
  | (with_reducible exact LeO.none _)
  | (with_reducible refine LeO.ite ?_ ?_)
  | (with_reducible refine LeO.bind ?_ (fun _ => ?_))
  | exact ih0 _ _ _ _
  | exact LeO.none _
  | refine LeO.ite ?_ ?_
  | refine LeO.bind ?_ (fun _ => ?_)
theorem impl_onlyPoints.mono : ∀ a0 k, LeO (impl_onlyPoints.f k a0) (impl_onlyPoints.f (k + 1) a0) := by
 intro a0 k
 have ih0 := impl_onlyPoints.mono_l k
 unfold impl_onlyPoints.f
 repeat' first
   | (with_reducible exact ih0 _ _ _ _)
   | (with_reducible exact LeO.refl _)
   | (with_reducible exact LeO.none _)
   | (with_reducible refine LeO.ite ?_ ?_)
   | (with_reducible refine LeO.bind ?_ (fun _ => ?_))
   | exact ih0 _ _ _ _
   | exact LeO.none _
   | refine LeO.ite ?_ ?_
   | refine LeO.bind ?_ (fun _ => ?_)
set_option maxHeartbeats 8000000 in
set_option maxRecDepth 100000 in
theorem impl_onlyPoints.calls (k : Nat) (A0 : Option Addr) (c0 : Nat) (l0 : List (S121)) (r : List Int) (w : World) (hr0 : Kd.C k121 w A0 l0.length l0) (hc0 : l0.length ≤ c0) (h : impl_onlyPoints.f k l0 = some r) :
  Calls Tryd.prog 114 #[.slice A0 l0.length c0] w fun e w' => ∃ v0_ : Value, e = .returned (v0_) ∧ Kd.R (Kd.int .i64) 2 w' w.heap.size (fun _ => True) v0_ r ∧ Below w.heap.size w w' := by
 have hu121 := Tryd.underlying121
 have HR0 := Aside0.mk hr0
 have HC0 := Aside0.mk hc0
 clear hr0 hc0
 have HB := Aside0.mk (Below.refl w.heap.size w)
 have H : (if 0 ≤ (l0.length : Int) then (if ((l0.length : Int) : Int).toNat ≤ 35184372088832 then (impl_onlyPoints.l0 k (List.replicate ((l0.length : Int) : Int).toNat 0) l0 (l0.length : Int) 0) else (none)) else (none)) = some r := h
 clear h
 by_cases c2 : 0 ≤ (l0.length : Int)
 ·rw [if_pos c2] at H
  have c2b0 := eq_true c2; have c2b1 : decide (0 ≤ (l0.length : Int)) = true := decide_eq_true c2; clear c2
  by_cases c3 : ((l0.length : Int) : Int).toNat ≤ 35184372088832
  ·rw [if_pos c3] at H
   have c3b0 := eq_true c3; have c3b1 : decide (((l0.length : Int) : Int).toNat ≤ 35184372088832) = true := decide_eq_true c3; clear c3; obtain ⟨y130, hy130⟩ : ∃ y_ : List Int, y_ = (List.replicate ((l0.length : Int) : Int).toNat 0) := ⟨_, rfl⟩
   replace H : (impl_onlyPoints.l0 k y130 l0 (l0.length : Int) 0) = some r := by first | (rw [hy130]; with_reducible exact H) | (have H2_ := (Option.bind_some _ _).symm.trans H; rw [hy130]; with_reducible exact H2_) | (have H2_ := (Option.bind_some _ _).symm.trans H; with_reducible exact H2_) | with_reducible exact H | (rw [hy130]; exact H) | exact H
   have Ny130 := Aside0.mk hy130; clear hy130; have H' := Aside0.mk H; clear H
   go_enter Tryd.func114, Tryd.ntmps114
   go_wp2_with (first | ((with_reducible refine gate_dst (N := 8) rfl ?_); refine Kd.R_make (Kd.int .i64) _ 2 rfl (N := 8) rfl 28 _ _ rfl (l0.length : Int) rfl rfl Tryd.underlying28 (.int .i64 0) 8 info2 rfl (by decide) (by omega) 0 (ok := fun _ => True) (okp := fun _ => True) rfl (fun _ hk => hk) trivial (of_decide_eq_true (by first | (with_reducible assumption) | assumption)) (Nat.le_trans (Nat.mul_le_mul_right _ (of_decide_eq_true (by first | (with_reducible assumption) | assumption) : (l0.length : Int).toNat ≤ 35184372088832)) (by omega)) (Below.refl _ _) (Nat.le_refl _) ?_; intro v131 w4 ho5 hb hg_ hnew_; clear hg_ hnew_; (first | rw [← Ny130.out] at ho5 | (simp only [Int.reduceToNat] at ho5; rw [← Ny130.out] at ho5)); have n0_ := Aside0.mk (Kd.R_lower ho5 (below_size (belowA))); have n1_ := Aside0.mk (below_step (belowA) hb); clear HB; have HO132 := n0_; have HB := n1_; clear n0_ n1_; clear hb ho5))
   go_loopg [11] k (fun kq v11 w' => ∃ (x3_1 : List Int) (x11_1 : Int), v11 = .int .i64 x11_1 ∧ Aside0 (impl_onlyPoints.l0 kq x3_1 l0 (l0.length : Int) x11_1 = some r) ∧ Aside0 (kq ≤ k) ∧ Aside0 (Kd.R (Kd.int .i64) 2 w' w.heap.size (fun _ => True) v131 x3_1) ∧ Aside0 (Below w.heap.size w w'))
   case atStart => exact ⟨(y130), (0), (by first | rfl | (simp; done) | (simp [*]; done)), H', ⟨Nat.le_refl _⟩, ⟨by (with_reducible repeat (first | apply Kd.R_alloc | apply Kd.R_drewN | apply Kd.R_drew)); exact HO132.out⟩, ⟨belowA⟩⟩
   case round =>
    clear H'
    try clear c1; try clear c2; try clear c2b0; try clear c2b1; try clear p2; try clear c3; try clear c3b0; try clear c3b1
    obtain ⟨x3_1, x11_1, rfl, HA, HK1, HO_3, HB⟩ := hrel
    cases gk with
    | zero => exact absurd HA.out (by simp [impl_onlyPoints.l0])
    | succ k1 =>
     have H := HA.out; clear HA; simp only [impl_onlyPoints.l0] at H
     by_cases c6 : x11_1 < (l0.length : Int)
     ·rw [if_pos c6] at H
      have c6b0 : decide (x11_1 < (l0.length : Int)) = true := decide_eq_true c6; clear c6
      by_cases c7 : 0 ≤ x11_1
      ·rw [if_pos c7] at H
       have c7b0 : decide (0 ≤ x11_1) = true := decide_eq_true c7; clear c7
       by_cases c8 : x11_1 < (l0.length : Int)
       ·rw [if_pos c8] at H
        have c8b0 : decide (x11_1 < (l0.length : Int)) = true := decide_eq_true c8; clear c8
        by_cases c9 : x11_1 < (x3_1.length : Int)
        ·rw [if_pos c9] at H
         have c9b0 : decide (x11_1 < (x3_1.length : Int)) = true := decide_eq_true c9; clear c9; obtain ⟨y135, hy135⟩ : ∃ y_ : List Int, y_ = (x3_1.set (x11_1 : Int).toNat ((rd_T121 l0 x11_1).f0)) := ⟨_, rfl⟩
         replace H : (impl_onlyPoints.l0 k1 y135 l0 (l0.length : Int) (wrap64 (x11_1 + 1))) = some r := by first | (rw [hy135]; with_reducible exact H) | (have H2_ := (Option.bind_some _ _).symm.trans H; rw [hy135]; with_reducible exact H2_) | (have H2_ := (Option.bind_some _ _).symm.trans H; with_reducible exact H2_) | with_reducible exact H | (rw [hy135]; exact H) | exact H
         have Ny135 := Aside0.mk hy135; clear hy135; have H' := Aside0.mk H; clear H
         have p133 : 0 ≤ (x11_1 : Int) := of_decide_eq_true (by first | (with_reducible assumption) | assumption)
         have q133 : x11_1 < (l0.length : Int) := of_decide_eq_true (by first | (with_reducible assumption) | assumption)
         obtain ⟨ad133, e133, hx133_0, hx133_1, hx133_2, hx133_3⟩ := at_T121 HR0.out x11_1 p133 q133; cases e133; replace hx133_0 := (HB.out.cell (World.block_lt_of_cell? w _ hx133_0)).trans hx133_0; replace hx133_1 := (HB.out.cell (World.block_lt_of_cell? w _ hx133_1)).trans hx133_1; replace hx133_2 := (HB.out.cell (World.block_lt_of_cell? w _ hx133_2)).trans hx133_2; replace hx133_3 := (HB.out.cell (World.block_lt_of_cell? w _ hx133_3)).trans hx133_3; replace p133 := eq_true p133; replace q133 := eq_true q133
         go_wp2_with (first | ((with_reducible refine gate_dst (N := 5) rfl ?_); refine box_event ?hg (N := 5) ?hd (cs := #[.int .i64 0, .int .i64 0, .int .i64 0, .bool false]) (t := 121) ?hr ?_; (case hd => rfl); (case hg => rfl); (case hr => first | (go_simp; done) | (go_simp; rfl)); intro gb134 hg w11 hbox hb; have n0_ := Aside0.mk (Kd.R_below (by (with_reducible repeat (first | apply Kd.R_alloc | apply Kd.R_drewN | apply Kd.R_drew)); exact HO_3.out) hb); have n1_ := Aside0.mk (below_step (belowA) hb); have n2_ := Aside0.mk (hbox); have n3_ := Aside0.mk ((by rw [hg]; exact (below_size (belowA)) : w.heap.size ≤ gb134)); have n4_ := Aside0.mk ((by rw [hg]; exact (below_size (belowA)) : w.heap.size ≤ gb134)); clear HO_3; clear HB; have HO_3 := n0_; have HB := n1_; have BK134 := n2_; have GW134 := n3_; have GE134 := n4_; clear n0_ n1_ n2_ n3_ n4_; clear hb hbox hg; have hcz12_0 : w11.cell? ⟨gb134, 0, none⟩ = some (.int .i64 0) := (blk_cell BK134.out 0).trans rfl; have hcz12_1 : w11.cell? ⟨gb134, 1, none⟩ = some (.int .i64 0) := (blk_cell BK134.out 1).trans rfl; have hcz12_2 : w11.cell? ⟨gb134, 2, none⟩ = some (.int .i64 0) := (blk_cell BK134.out 2).trans rfl; have hcz12_3 : w11.cell? ⟨gb134, 3, none⟩ = some (.bool false) := (blk_cell BK134.out 3).trans rfl; have hfz12_0 := blk_frozen BK134.out 0; have hfz12_1 := blk_frozen BK134.out 1; have hfz12_2 := blk_frozen BK134.out 2; have hfz12_3 := blk_frozen BK134.out 3) | ((with_reducible refine gate_store (t := 121) (p := 5) rfl ?_); refine store_event (t := 121) (p := 5) (v := ?vo_w13) (w1 := ((((w11.setCell ⟨gb134, 0, none⟩ (.int .i64 ((rd_T121 l0 x11_1).f0))).setCell ⟨gb134, 1, none⟩ (.int .i64 ((rd_T121 l0 x11_1).f1))).setCell ⟨gb134, 2, none⟩ (.int .i64 ((rd_T121 l0 x11_1).f2))).setCell ⟨gb134, 3, none⟩ (.bool ((rd_T121 l0 x11_1).f3)))) ?hg ?ho ?hn ?hr ?_; (case ho => rfl); (case hg => rfl); (case hn => rfl); (case hr => first | (go_simp; done) | (go_simp; rfl)); intro w13 hw; have n0_ : Aside0 (Kd.R (Kd.int .i64) 2 w13 w.heap.size (fun _ => True) v131 x3_1) := ⟨(by rw [hw]; exact (by (with_reducible repeat (first | apply Kd.R_alloc | apply Kd.R_drewN | apply Kd.R_drew)); exact Kd.R_mono (Kd.R_far (p := ⟨gb134, 3, none⟩) (Kd.R_far (p := ⟨gb134, 2, none⟩) (Kd.R_far (p := ⟨gb134, 1, none⟩) (Kd.R_far (p := ⟨gb134, 0, none⟩) (Kd.R_types HO_3.out BK134.out (by decide)) (fun _ hk => hk.2) (.int .i64 ((rd_T121 l0 x11_1).f0))) (fun _ hk => hk.2) (.int .i64 ((rd_T121 l0 x11_1).f1))) (fun _ hk => hk.2) (.int .i64 ((rd_T121 l0 x11_1).f2))) (fun _ hk => hk.2) (.bool ((rd_T121 l0 x11_1).f3))) (fun _ hk => trivial)))⟩; have n1_ : Aside0 (w13.heap[gb134]? = some (.cells #[.int .i64 ((rd_T121 l0 x11_1).f0), .int .i64 ((rd_T121 l0 x11_1).f1), .int .i64 ((rd_T121 l0 x11_1).f2), .bool ((rd_T121 l0 x11_1).f3)] 121 (0, 0))) := ⟨(by rw [hw]; exact (by (with_reducible repeat (first | refine blk_drewN ?_ _ | refine blk_drew ?_ | refine blk_alloc ?_ _)); refine blk_put (cs := #[.int .i64 ((rd_T121 l0 x11_1).f0), .int .i64 ((rd_T121 l0 x11_1).f1), .int .i64 ((rd_T121 l0 x11_1).f2), .bool false]) ?_ 3 _ rfl; (with_reducible repeat (first | refine blk_drewN ?_ _ | refine blk_drew ?_ | refine blk_alloc ?_ _)); refine blk_put (cs := #[.int .i64 ((rd_T121 l0 x11_1).f0), .int .i64 ((rd_T121 l0 x11_1).f1), .int .i64 0, .bool false]) ?_ 2 _ rfl; (with_reducible repeat (first | refine blk_drewN ?_ _ | refine blk_drew ?_ | refine blk_alloc ?_ _)); refine blk_put (cs := #[.int .i64 ((rd_T121 l0 x11_1).f0), .int .i64 0, .int .i64 0, .bool false]) ?_ 1 _ rfl; (with_reducible repeat (first | refine blk_drewN ?_ _ | refine blk_drew ?_ | refine blk_alloc ?_ _)); refine blk_put (cs := #[.int .i64 0, .int .i64 0, .int .i64 0, .bool false]) ?_ 0 _ rfl; (with_reducible repeat (first | refine blk_drewN ?_ _ | refine blk_drew ?_ | refine blk_alloc ?_ _)); exact BK134.out))⟩; have n2_ : Aside0 (Below w.heap.size w w13) := ⟨(by rw [hw]; exact (by repeat (first | (with_reducible first | exact HB.out | apply below_alloc | apply pw_below_drewN | apply below_drew1 | refine below_set ?_ GE134.out) | exact HB.out)))⟩; clear hw; clear HO_3; clear BK134; clear HB; have HO_3 := n0_; have BK134 := n1_; have HB := n2_; clear n0_ n1_ n2_; have hcz14_0 : w13.cell? ⟨gb134, 0, none⟩ = some (.int .i64 ((rd_T121 l0 x11_1).f0)) := (blk_cell BK134.out 0).trans rfl; have hcz14_1 : w13.cell? ⟨gb134, 1, none⟩ = some (.int .i64 ((rd_T121 l0 x11_1).f1)) := (blk_cell BK134.out 1).trans rfl; have hcz14_2 : w13.cell? ⟨gb134, 2, none⟩ = some (.int .i64 ((rd_T121 l0 x11_1).f2)) := (blk_cell BK134.out 2).trans rfl; have hcz14_3 : w13.cell? ⟨gb134, 3, none⟩ = some (.bool ((rd_T121 l0 x11_1).f3)) := (blk_cell BK134.out 3).trans rfl; have hfz14_0 := blk_frozen BK134.out 0; have hfz14_1 := blk_frozen BK134.out 1; have hfz14_2 := blk_frozen BK134.out 2; have hfz14_3 := blk_frozen BK134.out 3; have p10 : 0 ≤ (x11_1 : Int) := of_decide_eq_true (by first | (with_reducible assumption) | assumption); have q10 : (x11_1 : Int) < ((x3_1.length : Int) : Int) := of_decide_eq_true (by first | (with_reducible assumption) | assumption); obtain ⟨go10, co10, eo10, gb10, gl10, cl10, HG10⟩ := Kd.R_form HO_3.out (by omega); (first | cases eo10 | (injection eo10 with ea_ en_ ec_; (first | subst ea_ | (injection ea_ with ea_; subst ea_)); subst ec_; clear en_)); have GB10 := Aside0.mk gb10; have GG10 := Aside0.mk HG10; clear gb10 gl10 HG10; obtain ⟨hx10_0, hf10_0⟩ := Kd.R_celln 0 HO_3.out (x11_1 : Int) p10 q10; replace p10 := eq_true p10; replace q10 := eq_true q10; obtain ⟨hy15_, hz15_⟩ := Kd.R_celln 0 HO_3.out (x11_1 : Int) (of_decide_eq_true (by first | (with_reducible assumption) | assumption)) (of_decide_eq_true (by first | (with_reducible assumption) | assumption)); have HP15 := Kd.R_putg HO_3.out (x11_1 : Int) ((rd_T121 l0 x11_1).f0)) | ((with_reducible refine gate_store (t := 2) (p := 20) rfl ?_); refine store_event (t := 2) (p := 20) (v := ?vo_w16) (w1 := (w13.setCell ⟨go10, (x11_1 : Int).toNat, none⟩ (.int .i64 ((rd_T121 l0 x11_1).f0)))) ?hg ?ho ?hn ?hr ?_; (case ho => rfl); (case hg => rfl); (case hn => rfl); (case hr => first | (go_simp; done) | (go_simp; rfl)); intro w16 hw; have hg : w13.grownBy w16 (some go10) := (by rw [hw]; exact HP15.2); have hp_ : Kd.R (Kd.int .i64) 2 w16 w.heap.size (fun _ => True) (.slice (some ⟨go10, 0, none⟩) x3_1.length co10) y135 := (by rw [hw, Ny135.out]; exact HP15.1); clear HP15; have n0_ := Aside0.mk (hp_); have n1_ := Aside0.mk (blk_grown (g := gb134) (o := .cells #[.int .i64 ((rd_T121 l0 x11_1).f0), .int .i64 ((rd_T121 l0 x11_1).f1), .int .i64 ((rd_T121 l0 x11_1).f2), .bool ((rd_T121 l0 x11_1).f3)] 121 (0, 0)) (by (with_reducible repeat (first | refine blk_drewN ?_ _ | refine blk_drew ?_ | refine blk_alloc ?_ _)); exact BK134.out) hg (Kd.R_ne HO_3.out BK134.out (by decide))); have n2_ := Aside0.mk ((by rw [hw]; exact below_set (HB.out) GB10.out : Below w.heap.size w w16)); clear HO_3; clear BK134; clear HB; have HO_3 := n0_; have BK134 := n1_; have HB := n2_; clear n0_ n1_ n2_; clear hg hw hp_))
         go_roundg k1
         case measure => have := HK1.out; omega
         case rel => exact ⟨(y135), (wrap64 (x11_1 + 1)), (by first | rfl | (simp; done) | (simp [*]; done)), H', ⟨by have := HK1.out; omega⟩, ⟨by (with_reducible repeat (first | apply Kd.R_alloc | apply Kd.R_drewN | apply Kd.R_drew)); exact HO_3.out⟩, ⟨by repeat (first | (with_reducible first | exact HB.out | apply below_alloc | apply pw_below_drewN | apply below_drew1 | refine below_set ?_ GE134.out) | exact HB.out)⟩⟩
        rw [if_neg c9] at H
        exact absurd H (by simp)
       rw [if_neg c8] at H
       exact absurd H (by simp)
      rw [if_neg c7] at H
      exact absurd H (by simp)
     rw [if_neg c6] at H; have c6b0 : decide (x11_1 < (l0.length : Int)) = false := decide_eq_false c6; clear c6; obtain rfl := Option.some.inj H
     go_wp2
     go_ret
     exact ⟨_, by first | rfl | (simp [errW_none, errW_some] <;> rfl) | (simp [*, errW_none, errW_some] <;> rfl), by (with_reducible repeat (first | apply Kd.R_alloc | apply Kd.R_drewN | apply Kd.R_drew)); exact HO_3.out, belowA⟩
  rw [if_neg c3] at H
  exact absurd H (by simp)
 rw [if_neg c2] at H
 exact absurd H (by simp)

theorem impl_onlyPoints.run (l : List (S121)) (hl : l.length ≤ 1000000000) (d : Nat) : ∀ (k i : Nat) (x : List Int), x.length = l.length → i ≤ l.length → l.length - i = d → d < k → x.take i = (l.take i).map (fun x => x.f0) →
    impl_onlyPoints.l0 k x l (l.length : Int) (i : Int) = some (l.map fun x => x.f0) := by
  induction d with
  | zero =>
    intro k i x h0 h1 h2 h3 h4
    obtain ⟨k, rfl⟩ : ∃ m, k = m + 1 := ⟨k - 1, by omega⟩
    simp only [impl_onlyPoints.l0]
    rw [if_neg (by omega)]
    rw [List.take_of_length_le (by omega), List.take_of_length_le (by omega)] at h4
    rw [h4]
  | succ d ih =>
    intro k i x h0 h1 h2 h3 h4
    obtain ⟨k, rfl⟩ : ∃ m, k = m + 1 := ⟨k - 1, by omega⟩
    have hlt : i < l.length := by omega
    have hw : wrap64 ((i : Int) + 1) = ((i + 1 : Nat) : Int) := by unfold wrap64; omega
    have hr : rd_T121 l (i : Int) = l[i] := by simp [rd_T121, List.getD, hlt]
    simp only [impl_onlyPoints.l0]
    rw [if_pos (by omega), if_pos (by omega), if_pos (by omega), if_pos (by omega), hr, hw, Int.toNat_natCast]
    refine ih k (i + 1) _ (by rw [List.length_set]; exact h0) (by omega) (by omega) (by omega) ?_
    rw [List.take_succ_eq_append_getElem (by rw [List.length_set]; omega), List.take_succ_eq_append_getElem hlt, List.map_append, List.take_set_of_le (Nat.le_refl _), h4]
    simp

/-! ### impl_in: function 105 -/
def impl_in.f (a0 : Int) (a1 : Int) (a2 : Int) : Option (Bool) := if a0 ≥ a1 then (some (decide (a0 ≤ a2))) else (some false)
set_option maxHeartbeats 8000000 in
set_option maxRecDepth 100000 in
theorem impl_in.calls (a0 : Int) (a1 : Int) (a2 : Int) (r : Bool) (w : World) (h : impl_in.f a0 a1 a2 = some r) :
    Calls Tryd.prog 105 #[.int .i64 a0, .int .i64 a1, .int .i64 a2] w fun e w' => e = .returned (.bool r) ∧ Drawn0 w w' := by
  have H : (if a0 ≥ a1 then (some (decide (a0 ≤ a2))) else (some false)) = some r := h
  clear h
  by_cases c4 : a0 ≥ a1
  · rw [if_pos c4] at H
    have c4b0 : decide (a1 ≤ a0) = true := decide_eq_true c4
    clear c4
    obtain rfl := Option.some.inj H
    go_enter Tryd.func105, Tryd.ntmps105
    go_wp2
    go_ret
    exact ⟨by first | rfl | (simp; done) | (simp [*]; done), by repeat (first | exact Drawn0.refl _ | apply Drawn0.step)⟩
  · rw [if_neg c4] at H
    have c4b0 : decide (a1 ≤ a0) = false := decide_eq_false c4
    clear c4
    obtain rfl := Option.some.inj H
    go_enter Tryd.func105, Tryd.ntmps105
    go_wp2
    go_ret
    exact ⟨by first | rfl | (simp; done) | (simp [*]; done), by repeat (first | exact Drawn0.refl _ | apply Drawn0.step)⟩

end Go.Proofs.YtiabgmddnddeiaaDoor.QFnChars
