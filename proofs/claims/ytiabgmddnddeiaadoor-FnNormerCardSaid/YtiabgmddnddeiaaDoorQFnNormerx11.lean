/- The law FnNormer: at every input the call answers true (this text: contracts on its way, by a program of this session's; no condition of ours). -/
import Derived.Test.YtiabgmddnddeiaaDoorQFnNormerx0
import Derived.Test.YtiabgmddnddeiaaDoorQFnNormerx1
import Derived.Test.YtiabgmddnddeiaaDoorQFnNormerx8
import Derived.Test.YtiabgmddnddeiaaDoorQFnNormerx10
namespace Go.Proofs.YtiabgmddnddeiaaDoor.QFnNormer
open Go.RowKit Go.Proofs.YtiabgmddnddeiaaDoorW.PrintWords Go.Proofs.YtiabgmddnddeiaaDoorW.PrintLast Go.Proofs.YtiabgmddnddeiaaDoorW.PrintMore
attribute [local go_sem] max2_int min2_int max_two min_two max_three min_three max_four min_four   -- for this text's walks alone
set_option linter.unusedVariables false
set_option linter.unusedSimpArgs false

/-! ### impl_decompose: function 168 (by hand) -/
theorem impl_decompose.len (k : Bool) (p : Int) : (YtiabgmddnddeiaaDoorNrm.dec k p).length ≤ 3 := by
  unfold YtiabgmddnddeiaaDoorNrm.dec
  repeat' split
  all_goals simp
theorem impl_decompose.flen (k : Bool) (l : List Int) : (l.flatMap (YtiabgmddnddeiaaDoorNrm.dec k)).length ≤ 3 * l.length := by
  induction l with
  | nil => simp
  | cons x t ih => rw [List.flatMap_cons, List.length_append, List.length_cons]; have := impl_decompose.len k x; omega
theorem impl_decompose.plen (k : Bool) (p : Int) : (YtiabgmddnddeiaaDoorNrm.prt k p).length ≤ 2 := by
  unfold YtiabgmddnddeiaaDoorNrm.prt
  repeat' split
  all_goals simp
theorem impl_decompose.prange {k : Bool} {p : Int} (h0 : 0 ≤ p) (h1 : p ≤ 1114111) : ∀ q ∈ YtiabgmddnddeiaaDoorNrm.prt k p, 0 ≤ q ∧ q ≤ 1114111 := by
  have := @YtiabgmddnddeiaaDoorNrm.letter_range (p % 512 / 8)
  intro q hq
  unfold YtiabgmddnddeiaaDoorNrm.prt at hq
  repeat' split at hq
  all_goals simp only [List.mem_cons, List.mem_nil_iff, or_false] at hq
  all_goals omega
set_option maxHeartbeats 4000000 in
set_option maxRecDepth 100000 in
theorem impl_decompose.deep (n : Nat) : ∀ (p : Int) (k : Bool) (w : World), YtiabgmddnddeiaaDoorNrm.rk p ≤ n → 0 ≤ p → p ≤ 1114111 →
    Calls Tryd.prog 168 #[.int .i64 p, .bool k] w fun e w' => ∃ v0_ : Value, e = .returned (v0_) ∧ Kd.R (Kd.int .i64) 2 w' w.heap.size (fun _ => True) v0_ (YtiabgmddnddeiaaDoorNrm.dec k p) ∧ Below w.heap.size w w' := by
  induction n using Nat.strongRecOn with
  | _ n ih =>
  intro p k w hrk h0 h1
  by_cases hp : YtiabgmddnddeiaaDoorNrm.prt k p = []
  · rw [YtiabgmddnddeiaaDoorNrm.prt_nil hp]
    have HP := Aside0.mk hp
    have H0 := Aside0.mk (And.intro h0 h1)
    clear hp hrk ih
    go_enter Tryd.func168, Tryd.ntmps168
    go_wp2_with (go_at_call 219; ((with_reducible refine (impl_parts.calls p k _ H0.out.1 H0.out.2).mono ?_); rintro e w1 ⟨v1, rfl, hr, hn, hb⟩; obtain rfl := hn HP.out; have qe : ∀ W, (Go.binOp .eql 28 (.slice none 0 0) (.slice none 0 0)).run Tryd.prog W = .ok (.bool true) W := fun W => Lib.run_eql_slice_nil W _ _ none 0 0 0 0 Tryd.underlying28; have HB := Aside0.mk hb; clear hr hn hb))
    go_ret
    exact ⟨_, rfl, Kd.R_lower (litR _ _ _ (Nat.le_refl _) trivial [p] (by simp)) HB.out.size, below_alloc HB.out _⟩
  · have hdec := YtiabgmddnddeiaaDoorNrm.prt_dec hp
    obtain ⟨L, hL⟩ : ∃ L, YtiabgmddnddeiaaDoorNrm.prt k p = L := ⟨_, rfl⟩
    have hl2 := impl_decompose.plen k p
    have hrng := @impl_decompose.prange k p h0 h1
    have hrks := @YtiabgmddnddeiaaDoorNrm.prt_rk k p
    rw [hL] at hp hdec hl2 hrng hrks
    rw [← hdec]
    have ihc : ∀ q ∈ L, ∀ W : World, Calls Tryd.prog 168 #[.int .i64 q, .bool k] W fun e w' => ∃ v0_ : Value, e = .returned (v0_) ∧ Kd.R (Kd.int .i64) 2 w' W.heap.size (fun _ => True) v0_ (YtiabgmddnddeiaaDoorNrm.dec k q) ∧ Below W.heap.size W w' := by
      intro q hq W
      have := hrks q hq
      exact ih (YtiabgmddnddeiaaDoorNrm.rk q) (by omega) q k W (Nat.le_refl _) (hrng q hq).1 (hrng q hq).2
    have HL := Aside0.mk hL
    have HP := Aside0.mk (List.length_pos_iff.2 hp)
    have H0 := Aside0.mk (And.intro h0 h1)
    have IH := Aside0.mk ihc
    clear hp hdec hrng hrks ih ihc hL hrk
    go_enter Tryd.func168, Tryd.ntmps168
    go_wp2_with (go_at_call 219; ((with_reducible refine (impl_parts.calls p k _ H0.out.1 H0.out.2).mono ?_); rintro e w1 ⟨v1, rfl, hr, hn, hb⟩; rw [HL.out] at hr; obtain ⟨ad, c1, rfl⟩ := Kd.R_slice1 hr HP.out; have qe : ∀ W, (Go.binOp .eql 28 (.slice (some ad) L.length c1) (.slice none 0 0)).run Tryd.prog W = .ok (.bool false) W := fun W => Lib.run_eql_slice_nil W _ _ (some ad) _ _ 0 0 Tryd.underlying28; have HR := Aside0.mk (Kd.R_reads' hr).2.2; have HB := Aside0.mk hb; clear hr hn hb))
    go_loopw [6, 18] (fun v6 v18 wr => ∃ i : Nat, i ≤ L.length ∧ v18 = .int .i64 i ∧ Aside0 (Kd.R (Kd.int .i64) 2 wr w1.heap.size (fun _ => True) v6 ((L.take i).flatMap (YtiabgmddnddeiaaDoorNrm.dec k))) ∧ Aside0 (Below w1.heap.size w1 wr)) (fun _ v18 _ => L.length - (intOf v18).toNat)
    case atStart => exact ⟨0, Nat.zero_le _, rfl, ⟨Kd.R_nil _ _ _ _ _⟩, ⟨Below.refl _ _⟩⟩
    case round =>
      obtain ⟨i, hi, rfl, HO, HW⟩ := hrel
      by_cases hlt : i < L.length
      · have i0 : (0 : Int) ≤ (i : Int) := by omega
        have i1 : (i : Int) < (L.length : Int) := by omega
        obtain ⟨ad2, e1, hx0⟩ := Kd.at_int HR.out (i : Int) i0 i1
        cases e1
        have hx := (HW.out.cell (World.block_lt_of_cell? w1 _ hx0)).trans hx0
        rw [Int.toNat_natCast] at hx
        have hrd : rd L (i : Int) = L[i] := by simp [rd, List.getD, hlt]
        obtain ⟨q, hq⟩ : ∃ q, L[i] = q := ⟨_, rfl⟩
        rw [hrd, hq] at hx
        have ht : (L.take (i + 1)).flatMap (YtiabgmddnddeiaaDoorNrm.dec k) = (L.take i).flatMap (YtiabgmddnddeiaaDoorNrm.dec k) ++ YtiabgmddnddeiaaDoorNrm.dec k q := by
          rw [List.take_succ_eq_append_getElem hlt, List.flatMap_append, hq]
          simp only [List.flatMap_cons, List.flatMap_nil, List.append_nil]
        have hfl := impl_decompose.flen k (L.take i)
        have hdl := impl_decompose.len k q
        rw [List.length_take] at hfl
        have HT := Aside0.mk ht
        have HFL := Aside0.mk (And.intro hfl hdl)
        have HC := Aside0.mk (IH.out q (by rw [← hq]; exact List.getElem_mem hlt))
        have q0 := eq_true i0
        have q1 := eq_true i1
        clear hx0 hrd hq ht hfl hdl
        go_wp2_with (first
          | (go_at_call 168; ((with_reducible refine (HC.out _).mono ?_); rintro e w3 ⟨v3, rfl, ho3, hb3⟩; obtain ⟨A3, c3, rfl⟩ := Kd.R_slice ho3; have H3 := Aside0.mk (Kd.R_reads' ho3).2.2; have HO3 := Aside0.mk (Kd.R_below HO.out hb3); have HW3 := Aside0.mk (below_step HW.out hb3); clear ho3 hb3))
          | ((with_reducible refine gate_builtin (b := .append) (xs := #[.tmp 22, .tmp 25]) rfl ?_); at_builtin; refine Kd.R_append_rows (Kd.int .i64) (w0 := w1) w1.heap.size rfl (.tmp 22) (.tmp 25) 28 2 (.int .i64 0) 8 rfl Tryd.underlying28 info2 rfl (by decide) (by omega) _ _ _ _ _ _ (fun _ => True) (fun _ => False) rfl rfl HO3.out H3.out (fun _ _ h => h) (fun _ h => h.elim) (fun _ _ => trivial) HW3.out HW3.out.size (by have := HFL.out; omega) ?_; intro v4 w4 ho4 hb4 hg4 hat4; rw [← HT.out] at ho4; have HO4 := Aside0.mk ho4; have HB4 := Aside0.mk hb4; clear ho4 hb4 hg4 hat4))
        go_roundw
        case rel => exact ⟨i + 1, by omega, by go_num, HO4, HB4⟩
        case measure => simp [intOf]; omega
      · obtain rfl : i = L.length := by omega
        have ho := HO.out
        rw [List.take_length] at ho
        have HO2 := Aside0.mk ho
        clear ho HO
        go_wp2
        go_ret
        exact ⟨_, rfl, Kd.R_lower HO2.out HB.out.size, below_step HB.out HW.out⟩
theorem impl_decompose.calls (p : Int) (k : Bool) (w : World) (h0 : 0 ≤ p) (h1 : p ≤ 1114111) :
    Calls Tryd.prog 168 #[.int .i64 p, .bool k] w fun e w' => ∃ v0_ : Value, e = .returned (v0_) ∧ Kd.R (Kd.int .i64) 2 w' w.heap.size (fun _ => True) v0_ (YtiabgmddnddeiaaDoorNrm.dec k p) ∧ Below w.heap.size w w' :=
  impl_decompose.deep _ p k w (Nat.le_refl _) h0 h1

/-! ### impl_isSyllable: function 229 -/
def impl_isSyllable.f (a0 : Int) : Option (Bool) := (impl_in.f a0 12288 23459).bind fun t301 => (some t301)
set_option maxHeartbeats 8000000 in
set_option maxRecDepth 100000 in
theorem impl_isSyllable.calls (a0 : Int) (r : Bool) (w : World) (h : impl_isSyllable.f a0 = some r) :
    Calls Tryd.prog 229 #[.int .i64 a0] w fun e w' => e = .returned (.bool r) ∧ Drawn0 w w' := by
  have H : ((impl_in.f a0 12288 23459).bind fun t301 => (some t301)) = some r := h
  clear h
  replace H := Option.bind_eq_some_iff.mp H
  obtain ⟨t301, A20, H⟩ := H
  replace H : (some t301) = some r := H
  have A2 := Aside0.mk A20
  clear A20
  obtain rfl := Option.some.inj H
  go_enter Tryd.func229, Tryd.ntmps229
  go_wp2_with (first | (go_at_call 105; (with_reducible refine (impl_in.calls a0 12288 23459 t301 _ A2.out).mono ?_); rintro e w' ⟨rfl, ⟨nd, rfl⟩⟩))
  go_ret
  exact ⟨by first | rfl | (simp; done) | (simp [*]; done), by repeat (first | exact Drawn0.refl _ | apply Drawn0.step)⟩

/-! ### impl_isOpen: function 222 -/
def impl_isOpen.f (a0 : Int) : Option (Bool) := (impl_isSyllable.f a0).bind fun t302 => (if t302 = true then (some ((Int.tmod (wrap64 (a0 - 12288)) 28) == 0)) else (some false))
set_option maxHeartbeats 8000000 in
set_option maxRecDepth 100000 in
theorem impl_isOpen.calls (a0 : Int) (r : Bool) (w : World) (h : impl_isOpen.f a0 = some r) :
    Calls Tryd.prog 222 #[.int .i64 a0] w fun e w' => e = .returned (.bool r) ∧ Drawn0 w w' := by
  have H : ((impl_isSyllable.f a0).bind fun t302 => (if t302 = true then (some ((Int.tmod (wrap64 (a0 - 12288)) 28) == 0)) else (some false))) = some r := h
  clear h
  replace H := Option.bind_eq_some_iff.mp H
  obtain ⟨t302, A20, H⟩ := H
  replace H : (if t302 = true then (some ((Int.tmod (wrap64 (a0 - 12288)) 28) == 0)) else (some false)) = some r := H
  have A2 := Aside0.mk A20
  clear A20
  by_cases c3 : t302 = true
  · subst c3
    have H1 : (some ((Int.tmod (wrap64 (a0 - 12288)) 28) == 0)) = some r := by rw [if_pos rfl] at H; exact H
    clear H
    have H := H1
    clear H1
    obtain rfl := Option.some.inj H
    go_enter Tryd.func222, Tryd.ntmps222
    go_wp2_with (first | (go_at_call 229; (with_reducible refine (impl_isSyllable.calls a0 true _ A2.out).mono ?_); rintro e w' ⟨rfl, ⟨nd, rfl⟩⟩))
    go_ret
    exact ⟨by first | rfl | (simp; done) | (simp [*]; done), by repeat (first | exact Drawn0.refl _ | apply Drawn0.step)⟩
  · replace c3 := Bool.eq_false_iff.mpr c3
    subst c3
    have H1 : (some false) = some r := by rw [if_neg (show ¬ (false = true) by decide)] at H; exact H
    clear H
    have H := H1
    clear H1
    obtain rfl := Option.some.inj H
    go_enter Tryd.func222, Tryd.ntmps222
    go_wp2_with (first | (go_at_call 229; (with_reducible refine (impl_isSyllable.calls a0 false _ A2.out).mono ?_); rintro e w' ⟨rfl, ⟨nd, rfl⟩⟩))
    go_ret
    exact ⟨by first | rfl | (simp; done) | (simp [*]; done), by repeat (first | exact Drawn0.refl _ | apply Drawn0.step)⟩

/-! ### impl_Compose: function 172 -/
mutual
def impl_Compose.j0 : Nat → Int → Int → Int → Option (Int)
 | 0, _, _, _ => none
 | k + 1, x0, x1, x5 => (impl_in.f x0 97 122).bind fun t304 => (if t304 = true then (impl_Compose.j1 k x0 x1 (wrap64 ((wrap64 (x0 - 97)) + 26))) else (impl_Compose.j1 k x0 x1 x5))
def impl_Compose.j1 : Nat → Int → Int → Int → Option (Int)
 | 0, _, _, _ => none
 | k + 1, x0, x1, x5 => if x5 ≥ 0 then ((impl_in.f x1 4096 4103).bind fun t305 => (impl_Compose.j2 k x0 x1 x5 t305)) else (impl_Compose.j2 k x0 x1 x5 false)
def impl_Compose.j2 : Nat → Int → Int → Int → Bool → Option (Int)
 | 0, _, _, _, _ => none
 | k + 1, x0, x1, x5, x15 => if x15 = true then (some (wrap64 ((wrap64 ((wrap64 (8192 + (wrap64 (8 * x5)))) + x1)) - 4096))) else (if x5 ≥ 0 then ((impl_in.f x1 4112 4119).bind fun t306 => (impl_Compose.j3 k x0 x1 x5 t306)) else (impl_Compose.j3 k x0 x1 x5 false))
def impl_Compose.j3 : Nat → Int → Int → Int → Bool → Option (Int)
 | 0, _, _, _, _ => none
 | k + 1, x0, x1, x5, x28 => if x28 = true then (some (wrap64 ((wrap64 ((wrap64 (8704 + (wrap64 (8 * x5)))) + x1)) - 4112))) else ((impl_in.f x0 8704 9119).bind fun t307 => (if t307 = true then (impl_Compose.j4 k x0 x1 (x1 == 4096)) else (impl_Compose.j4 k x0 x1 false)))
def impl_Compose.j4 : Nat → Int → Int → Bool → Option (Int)
 | 0, _, _, _ => none
 | k + 1, x0, x1, x41 => if x41 = true then (some (wrap64 (x0 + 512))) else ((impl_in.f x0 1792 1810).bind fun t308 => (if t308 = true then ((impl_in.f x1 1824 1844).bind fun t309 => (impl_Compose.j5 k x0 x1 t309)) else (impl_Compose.j5 k x0 x1 false)))
def impl_Compose.j5 : Nat → Int → Int → Bool → Option (Int)
 | 0, _, _, _ => none
 | k + 1, x0, x1, x50 => if x50 = true then (some (wrap64 (12288 + (wrap64 ((wrap64 ((wrap64 ((wrap64 (21 * (wrap64 (x0 - 1792)))) + x1)) - 1824)) * 28))))) else ((impl_isOpen.f x0).bind fun t310 => (if t310 = true then ((impl_in.f x1 1857 1883).bind fun t311 => (if t311 = true then (some (wrap64 ((wrap64 (x0 + x1)) - 1856))) else (some (-1)))) else (some (-1))))
end
def impl_Compose.f (k : Nat) (a0 : Int) (a1 : Int) : Option (Int) := (impl_in.f a0 65 90).bind fun t303 => (if t303 = true then (impl_Compose.j0 k a0 a1 (wrap64 (a0 - 65))) else (impl_Compose.j0 k a0 a1 (-1)))
theorem impl_Compose.mono_l : ∀ k, (∀ y0 y1 y2, LeO (impl_Compose.j0 k y0 y1 y2) (impl_Compose.j0 (k + 1) y0 y1 y2)) ∧ (∀ y0 y1 y2, LeO (impl_Compose.j1 k y0 y1 y2) (impl_Compose.j1 (k + 1) y0 y1 y2)) ∧ (∀ y0 y1 y2 y3, LeO (impl_Compose.j2 k y0 y1 y2 y3) (impl_Compose.j2 (k + 1) y0 y1 y2 y3)) ∧ (∀ y0 y1 y2 y3, LeO (impl_Compose.j3 k y0 y1 y2 y3) (impl_Compose.j3 (k + 1) y0 y1 y2 y3)) ∧ (∀ y0 y1 y2, LeO (impl_Compose.j4 k y0 y1 y2) (impl_Compose.j4 (k + 1) y0 y1 y2)) ∧ (∀ y0 y1 y2, LeO (impl_Compose.j5 k y0 y1 y2) (impl_Compose.j5 (k + 1) y0 y1 y2))
 | 0 => ⟨fun _ _ _ r h => by simp [impl_Compose.j0] at h, fun _ _ _ r h => by simp [impl_Compose.j1] at h, fun _ _ _ _ r h => by simp [impl_Compose.j2] at h, fun _ _ _ _ r h => by simp [impl_Compose.j3] at h, fun _ _ _ r h => by simp [impl_Compose.j4] at h, fun _ _ _ r h => by simp [impl_Compose.j5] at h⟩
 | k + 1 => by
  obtain ⟨ih0, ih1, ih2, ih3, ih4, ih5⟩ := impl_Compose.mono_l k; refine ⟨?_, ?_, ?_, ?_, ?_, ?_⟩
  ·intro y0 y1 y2
   unfold impl_Compose.j0
   repeat' first
   | (with_reducible exact ih0 _ _ _)
   | (with_reducible exact ih1 _ _ _)
   | (with_reducible exact ih2 _ _ _ _)
   | (with_reducible exact ih3 _ _ _ _)
   | (with_reducible exact ih4 _ _ _)
   | (with_reducible exact ih5 _ _ _)
   | (with_reducible exact LeO.refl _)
   | (with_reducible exact LeO.none _)
   | (with_reducible refine LeO.ite ?_ ?_)
   | (with_reducible refine LeO.bind ?_ (fun _ => ?_))
   | exact ih0 _ _ _
   | exact ih1 _ _ _
   | exact ih2 _ _ _ _
   | exact ih3 _ _ _ _
   | exact ih4 _ _ _
   | exact ih5 _ _ _
   | exact LeO.none _
   | refine LeO.ite ?_ ?_
   | refine LeO.bind ?_ (fun _ => ?_)
  ·intro y0 y1 y2
   unfold impl_Compose.j1
   repeat' first
   | (with_reducible exact ih0 _ _ _)
   | (with_reducible exact ih1 _ _ _)
   | (with_reducible exact ih2 _ _ _ _)
   | (with_reducible exact ih3 _ _ _ _)
   | (with_reducible exact ih4 _ _ _)
   | (with_reducible exact ih5 _ _ _)
   | (with_reducible exact LeO.refl _)
   | (with_reducible exact LeO.none _)
   | (with_reducible refine LeO.ite ?_ ?_)
   | (with_reducible refine LeO.bind ?_ (fun _ => ?_))
   | exact ih0 _ _ _
   | exact ih1 _ _ _
   | exact ih2 _ _ _ _
   | exact ih3 _ _ _ _
   | exact ih4 _ _ _
   | exact ih5 _ _ _
   | exact LeO.none _
   | refine LeO.ite ?_ ?_
   | refine LeO.bind ?_ (fun _ => ?_)
  ·intro y0 y1 y2 y3
   unfold impl_Compose.j2
   repeat' first
   | (with_reducible exact ih0 _ _ _)
   | (with_reducible exact ih1 _ _ _)
   | (with_reducible exact ih2 _ _ _ _)
   | (with_reducible exact ih3 _ _ _ _)
   | (with_reducible exact ih4 _ _ _)
   | (with_reducible exact ih5 _ _ _)
   | (with_reducible exact LeO.refl _)
   | (with_reducible exact LeO.none _)
   | (with_reducible refine LeO.ite ?_ ?_)
   | (with_reducible refine LeO.bind ?_ (fun _ => ?_))
   | exact ih0 _ _ _
   | exact ih1 _ _ _
   | exact ih2 _ _ _ _
   | exact ih3 _ _ _ _
   | exact ih4 _ _ _
   | exact ih5 _ _ _
   | exact LeO.none _
   | refine LeO.ite ?_ ?_
   | refine LeO.bind ?_ (fun _ => ?_)
  ·intro y0 y1 y2 y3
   unfold impl_Compose.j3
   repeat' first
   | (with_reducible exact ih0 _ _ _)
   | (with_reducible exact ih1 _ _ _)
   | (with_reducible exact ih2 _ _ _ _)
   | (with_reducible exact ih3 _ _ _ _)
   | (with_reducible exact ih4 _ _ _)
   | (with_reducible exact ih5 _ _ _)
   | (with_reducible exact LeO.refl _)
   | (with_reducible exact LeO.none _)
   | (with_reducible refine LeO.ite ?_ ?_)
   | (with_reducible refine LeO.bind ?_ (fun _ => ?_))
   | exact ih0 _ _ _
   | exact ih1 _ _ _
   | exact ih2 _ _ _ _
   | exact ih3 _ _ _ _
   | exact ih4 _ _ _
   | exact ih5 _ _ _
   | exact LeO.none _
   | refine LeO.ite ?_ ?_
   | refine LeO.bind ?_ (fun _ => ?_)
  ·intro y0 y1 y2
   unfold impl_Compose.j4
   repeat' first
   | (with_reducible exact ih0 _ _ _)
   | (with_reducible exact ih1 _ _ _)
   | (with_reducible exact ih2 _ _ _ _)
   | (with_reducible exact ih3 _ _ _ _)
   | (with_reducible exact ih4 _ _ _)
   | (with_reducible exact ih5 _ _ _)
   | (with_reducible exact LeO.refl _)
   | (with_reducible exact LeO.none _)
   | (with_reducible refine LeO.ite ?_ ?_)
   | (with_reducible refine LeO.bind ?_ (fun _ => ?_))
   | exact ih0 _ _ _
   | exact ih1 _ _ _
   | exact ih2 _ _ _ _
   | exact ih3 _ _ _ _
   | exact ih4 _ _ _
   | exact ih5 _ _ _
   | exact LeO.none _
   | refine LeO.ite ?_ ?_
   | refine LeO.bind ?_ (fun _ => ?_)
  intro y0 y1 y2
  unfold impl_Compose.j5
  repeat' first
  | (with_reducible exact ih0 _ _ _)
  | (with_reducible exact ih1 _ _ _)
  | (with_reducible exact ih2 _ _ _ _)
  | (with_reducible exact ih3 _ _ _ _)
  | (with_reducible exact ih4 _ _ _)
  | (with_reducible exact ih5 _ _ _)
  | (with_reducible exact LeO.refl _)
  | (with_reducible exact LeO.none _)
  | (with_reducible refine LeO.ite ?_ ?_)
  | (with_reducible refine LeO.bind ?_ (fun _ => ?_))
  | exact ih0 _ _ _
  | exact ih1 _ _ _
  | exact ih2 _ _ _ _
  | exact ih3 _ _ _ _
  | exact ih4 _ _ _
  | exact ih5 _ _ _
  | exact LeO.none _
  | refine LeO.ite ?_ ?_
  | refine LeO.bind ?_ (fun _ => ?_)
theorem impl_Compose.mono : ∀ a0 a1 k, LeO (impl_Compose.f k a0 a1) (impl_Compose.f (k + 1) a0 a1) := by
 intro a0 a1 k
 obtain ⟨ih0, ih1, ih2, ih3, ih4, ih5⟩ := impl_Compose.mono_l k
 unfold impl_Compose.f
 repeat' first
   | (with_reducible exact ih0 _ _ _)
   | (with_reducible exact ih1 _ _ _)
   | (with_reducible exact ih2 _ _ _ _)
   | (with_reducible exact ih3 _ _ _ _)
   | (with_reducible exact ih4 _ _ _)
   | (with_reducible exact ih5 _ _ _)
   | (with_reducible exact LeO.refl _)
   | (with_reducible exact LeO.none _)
   | (with_reducible refine LeO.ite ?_ ?_)
   | (with_reducible refine LeO.bind ?_ (fun _ => ?_))
   | exact ih0 _ _ _
   | exact ih1 _ _ _
   | exact ih2 _ _ _ _
   | exact ih3 _ _ _ _
   | exact ih4 _ _ _
   | exact ih5 _ _ _
   | exact LeO.none _
   | refine LeO.ite ?_ ?_
   | refine LeO.bind ?_ (fun _ => ?_)
set_option maxHeartbeats 8000000 in
set_option maxRecDepth 100000 in
theorem impl_Compose.calls (k : Nat) (a0 : Int) (a1 : Int) (r : Int) (w : World) (h : impl_Compose.f k a0 a1 = some r) :
  Calls Tryd.prog 172 #[.int .i64 a0, .int .i64 a1] w fun e w' => e = .returned (.int .i64 r) ∧ Drawn0 w w' := by
 have H : ((impl_in.f a0 65 90).bind fun t303 => (if t303 = true then (impl_Compose.j0 k a0 a1 (wrap64 (a0 - 65))) else (impl_Compose.j0 k a0 a1 (-1)))) = some r := h
 clear h
 replace H := Option.bind_eq_some_iff.mp H
 obtain ⟨t303, A30, H⟩ := H
 try dsimp only at H
 have A3 := Aside0.mk A30
 clear A30
 have HC4 := Aside0.mk H
 clear H
 go_enter Tryd.func172, Tryd.ntmps172
 go_upto_if 7 with (first | (go_at_call 105; (with_reducible refine (impl_in.calls a0 65 90 t303 _ A3.out).mono ?_); rintro e w' ⟨rfl, ⟨nd, rfl⟩⟩))
 (try simp only [Act.put, List.setIfInBounds_toArray, List.set_cons_zero, List.set_cons_succ])
 go_cut [5] (fun v5 wc => ∃ (kq : Nat) (x5_3 : Int), v5 = .int .i64 x5_3 ∧ Aside0 (impl_Compose.j0 kq a0 a1 x5_3 = some r) ∧ Aside0 (kq ≤ k) ∧ Drawn0 w wc)
 case first =>
  have H := HC4.out; clear HC4
  by_cases c5 : t303 = true
  ·subst c5
   have H1 : (impl_Compose.j0 k a0 a1 (wrap64 (a0 - 65))) = some r := by rw [if_pos rfl] at H; exact H
   clear H; have H := H1; clear H1; have H' := Aside0.mk H; clear H
   go_wp2
   go_meet
   case rel => exact ⟨_, (wrap64 (a0 - 65)), (by first | rfl | (simp; done) | (simp [*]; done)), H', ⟨by first | omega | exact Nat.le_refl _⟩, drw0⟩
  replace c5 := Bool.eq_false_iff.mpr c5; subst c5
  have H1 : (impl_Compose.j0 k a0 a1 (-1)) = some r := by rw [if_neg (show ¬ (false = true) by decide)] at H; exact H
  clear H; have H := H1; clear H1; have H' := Aside0.mk H; clear H
  go_wp2
  go_meet
  case rel => exact ⟨_, ((-1)), (by first | rfl | (simp; done) | (simp [*]; done)), H', ⟨by first | omega | exact Nat.le_refl _⟩, drw0⟩
 case rest =>
  clear HC4
  try clear c1; try clear p2; try clear c5
  obtain ⟨kq, x5_3, rfl, HA, HJ3, ⟨mc3, rfl⟩⟩ := hcut
  cases kq with
  | zero => exact absurd HA.out (by simp [impl_Compose.j0])
  | succ kj3 =>
   have H := HA.out; clear HA; simp only [impl_Compose.j0] at H; replace H := Option.bind_eq_some_iff.mp H; obtain ⟨t304, A60, H⟩ := H
   try dsimp only at H
   have A6 := Aside0.mk A60; clear A60; have HC7 := Aside0.mk H; clear H
   go_upto_if 11 with (first | (go_at_call 105; (with_reducible refine (impl_in.calls a0 97 122 t304 _ A6.out).mono ?_); rintro e w' ⟨rfl, ⟨nd, rfl⟩⟩))
   (try simp only [Act.put, List.setIfInBounds_toArray, List.set_cons_zero, List.set_cons_succ])
   go_cut [5] (fun v5 wc => ∃ (kq : Nat) (x5_6 : Int), v5 = .int .i64 x5_6 ∧ Aside0 (impl_Compose.j1 kq a0 a1 x5_6 = some r) ∧ Aside0 (kq ≤ kj3) ∧ Drawn0 w wc)
   case first =>
    have H := HC7.out; clear HC7
    by_cases c8 : t304 = true
    ·subst c8
     have H1 : (impl_Compose.j1 kj3 a0 a1 (wrap64 ((wrap64 (a0 - 97)) + 26))) = some r := by rw [if_pos rfl] at H; exact H
     clear H; have H := H1; clear H1; have H' := Aside0.mk H; clear H
     go_wp2
     go_meet
     case rel => exact ⟨_, (wrap64 ((wrap64 (a0 - 97)) + 26)), (by first | rfl | (simp; done) | (simp [*]; done)), H', ⟨by have := HJ3.out; first | omega | exact Nat.le_refl _⟩, drw0⟩
    replace c8 := Bool.eq_false_iff.mpr c8; subst c8
    have H1 : (impl_Compose.j1 kj3 a0 a1 x5_3) = some r := by rw [if_neg (show ¬ (false = true) by decide)] at H; exact H
    clear H; have H := H1; clear H1; have H' := Aside0.mk H; clear H
    go_wp2
    go_meet
    case rel => exact ⟨_, (x5_3), (by first | rfl | (simp; done) | (simp [*]; done)), H', ⟨by have := HJ3.out; first | omega | exact Nat.le_refl _⟩, drw0⟩
   case rest =>
    clear HC7
    try clear c1; try clear p2; try clear c3; try clear c5; try clear p6; try clear c8; try clear p2
    obtain ⟨kq, x5_6, rfl, HA, HJ6, ⟨mc6, rfl⟩⟩ := hcut
    cases kq with
    | zero => exact absurd HA.out (by simp [impl_Compose.j1])
    | succ kj6 =>
     have H := HA.out; clear HA; simp only [impl_Compose.j1] at H; have HC9 := Aside0.mk H; clear H
     go_upto_region 6 with (fail)
     go_cut [15] (fun v15 wc => ∃ (kq : Nat) (x15_8 : Bool), v15 = .bool x15_8 ∧ Aside0 (impl_Compose.j2 kq a0 a1 x5_6 x15_8 = some r) ∧ Aside0 (kq ≤ kj6) ∧ Drawn0 w wc)
     case first =>
      have H := HC9.out; clear HC9
      by_cases c10 : x5_6 ≥ 0
      ·rw [if_pos c10] at H
       have c10b0 : decide (0 ≤ x5_6) = true := decide_eq_true c10; clear c10
       (first | rw [c10b0] | (simp only [i64_w, i32_w]; rw [c10b0]) | skip)
       replace H := Option.bind_eq_some_iff.mp H; obtain ⟨t305, A110, H⟩ := H
       try dsimp only at H
       have A11 := Aside0.mk A110; clear A110; have H' := Aside0.mk H; clear H
       go_wp2_with (first | (go_at_call 105; (with_reducible refine (impl_in.calls a1 4096 4103 t305 _ A11.out).mono ?_); rintro e w' ⟨rfl, ⟨nd, rfl⟩⟩))
       go_meet
       case rel => exact ⟨_, (t305), (by first | rfl | (simp; done) | (simp [*]; done)), H', ⟨by have := HJ3.out; have := HJ6.out; first | omega | exact Nat.le_refl _⟩, drw0⟩
      rw [if_neg c10] at H; have c10b0 : decide (0 ≤ x5_6) = false := decide_eq_false c10; clear c10
      (first | rw [c10b0] | (simp only [i64_w, i32_w]; rw [c10b0]) | skip)
      have H' := Aside0.mk H; clear H
      go_wp2
      go_meet
      case rel => exact ⟨_, (false), (by first | rfl | (simp; done) | (simp [*]; done)), H', ⟨by have := HJ3.out; have := HJ6.out; first | omega | exact Nat.le_refl _⟩, drw0⟩
     case rest =>
      clear HC9
      try clear c1; try clear p2; try clear c3; try clear c5; try clear c6; try clear p6; try clear c8; try clear c10; try clear c10b0; try clear p2; try clear p6
      obtain ⟨kq, x15_8, rfl, HA, HJ8, ⟨mc8, rfl⟩⟩ := hcut
      cases kq with
      | zero => exact absurd HA.out (by simp [impl_Compose.j2])
      | succ kj8 =>
       have H := HA.out; clear HA; simp only [impl_Compose.j2] at H
       by_cases c12 : x15_8 = true
       ·subst c12
        have H1 : (some (wrap64 ((wrap64 ((wrap64 (8192 + (wrap64 (8 * x5_6)))) + a1)) - 4096))) = some r := by rw [if_pos rfl] at H; exact H
        clear H; have H := H1; clear H1; obtain rfl := Option.some.inj H
        go_wp2
        go_ret
        exact ⟨by first | rfl | (simp; done) | (simp [*]; done), drw0⟩
       replace c12 := Bool.eq_false_iff.mpr c12; subst c12
       have H1 : (if x5_6 ≥ 0 then ((impl_in.f a1 4112 4119).bind fun t306 => (impl_Compose.j3 kj8 a0 a1 x5_6 t306)) else (impl_Compose.j3 kj8 a0 a1 x5_6 false)) = some r := by rw [if_neg (show ¬ (false = true) by decide)] at H; exact H
       clear H; have H := H1; clear H1; have HC13 := Aside0.mk H; clear H
       go_upto_region 8 with (fail)
       go_cut [28] (fun v28 wc => ∃ (kq : Nat) (x28_12 : Bool), v28 = .bool x28_12 ∧ Aside0 (impl_Compose.j3 kq a0 a1 x5_6 x28_12 = some r) ∧ Aside0 (kq ≤ kj8) ∧ Drawn0 w wc)
       case first =>
        have H := HC13.out; clear HC13
        by_cases c14 : x5_6 ≥ 0
        ·rw [if_pos c14] at H
         have c14b0 : decide (0 ≤ x5_6) = true := decide_eq_true c14; clear c14
         (first | rw [c14b0] | (simp only [i64_w, i32_w]; rw [c14b0]) | skip)
         replace H := Option.bind_eq_some_iff.mp H; obtain ⟨t306, A150, H⟩ := H
         try dsimp only at H
         have A15 := Aside0.mk A150; clear A150; have H' := Aside0.mk H; clear H
         go_wp2_with (first | (go_at_call 105; (with_reducible refine (impl_in.calls a1 4112 4119 t306 _ A15.out).mono ?_); rintro e w' ⟨rfl, ⟨nd, rfl⟩⟩))
         go_meet
         case rel => exact ⟨_, (t306), (by first | rfl | (simp; done) | (simp [*]; done)), H', ⟨by have := HJ3.out; have := HJ6.out; have := HJ8.out; first | omega | exact Nat.le_refl _⟩, drw0⟩
        rw [if_neg c14] at H; have c14b0 : decide (0 ≤ x5_6) = false := decide_eq_false c14; clear c14
        (first | rw [c14b0] | (simp only [i64_w, i32_w]; rw [c14b0]) | skip)
        have H' := Aside0.mk H; clear H
        go_wp2
        go_meet
        case rel => exact ⟨_, (false), (by first | rfl | (simp; done) | (simp [*]; done)), H', ⟨by have := HJ3.out; have := HJ6.out; have := HJ8.out; first | omega | exact Nat.le_refl _⟩, drw0⟩
       case rest =>
        clear HC13
        try clear c1; try clear p2; try clear c3; try clear c5; try clear c6; try clear p6; try clear c8; try clear c10; try clear c10b0; try clear c12; try clear c14; try clear c14b0; try clear p2; try clear p6
        obtain ⟨kq, x28_12, rfl, HA, HJ12, ⟨mc12, rfl⟩⟩ := hcut
        cases kq with
        | zero => exact absurd HA.out (by simp [impl_Compose.j3])
        | succ kj12 =>
         have H := HA.out; clear HA; simp only [impl_Compose.j3] at H
         by_cases c16 : x28_12 = true
         ·subst c16
          have H1 : (some (wrap64 ((wrap64 ((wrap64 (8704 + (wrap64 (8 * x5_6)))) + a1)) - 4112))) = some r := by rw [if_pos rfl] at H; exact H
          clear H; have H := H1; clear H1; obtain rfl := Option.some.inj H
          go_wp2
          go_ret
          exact ⟨by first | rfl | (simp; done) | (simp [*]; done), drw0⟩
         replace c16 := Bool.eq_false_iff.mpr c16; subst c16
         have H1 : ((impl_in.f a0 8704 9119).bind fun t307 => (if t307 = true then (impl_Compose.j4 kj12 a0 a1 (a1 == 4096)) else (impl_Compose.j4 kj12 a0 a1 false))) = some r := by rw [if_neg (show ¬ (false = true) by decide)] at H; exact H
         clear H; have H := H1; clear H1; have HC17 := Aside0.mk H; clear H
         go_upto_region 10 with (fail)
         go_cut [41] (fun v41 wc => ∃ (kq : Nat) (x41_16 : Bool), v41 = .bool x41_16 ∧ Aside0 (impl_Compose.j4 kq a0 a1 x41_16 = some r) ∧ Aside0 (kq ≤ kj12) ∧ Drawn0 w wc)
         case first =>
          have H := HC17.out; clear HC17; replace H := Option.bind_eq_some_iff.mp H; obtain ⟨t307, A180, H⟩ := H
          try dsimp only at H
          have A18 := Aside0.mk A180; clear A180
          by_cases c19 : t307 = true
          ·subst c19
           have H1 : (impl_Compose.j4 kj12 a0 a1 (a1 == 4096)) = some r := by rw [if_pos rfl] at H; exact H
           clear H; have H := H1; clear H1; have H' := Aside0.mk H; clear H
           go_wp2_with (first | (go_at_call 105; (with_reducible refine (impl_in.calls a0 8704 9119 true _ A18.out).mono ?_); rintro e w' ⟨rfl, ⟨nd, rfl⟩⟩))
           go_meet
           case rel => exact ⟨_, ((a1 == 4096)), (by first | rfl | (simp; done) | (simp [*]; done)), H', ⟨by have := HJ3.out; have := HJ6.out; have := HJ8.out; have := HJ12.out; first | omega | exact Nat.le_refl _⟩, drw0⟩
          replace c19 := Bool.eq_false_iff.mpr c19; subst c19
          have H1 : (impl_Compose.j4 kj12 a0 a1 false) = some r := by rw [if_neg (show ¬ (false = true) by decide)] at H; exact H
          clear H; have H := H1; clear H1; have H' := Aside0.mk H; clear H
          go_wp2_with (first | (go_at_call 105; (with_reducible refine (impl_in.calls a0 8704 9119 false _ A18.out).mono ?_); rintro e w' ⟨rfl, ⟨nd, rfl⟩⟩))
          go_meet
          case rel => exact ⟨_, (false), (by first | rfl | (simp; done) | (simp [*]; done)), H', ⟨by have := HJ3.out; have := HJ6.out; have := HJ8.out; have := HJ12.out; first | omega | exact Nat.le_refl _⟩, drw0⟩
         case rest =>
          clear HC17
          try clear c1; try clear p2; try clear c3; try clear c5; try clear c6; try clear p6; try clear c8; try clear c10; try clear c10b0; try clear c12; try clear c14; try clear c14b0; try clear c16; try clear c17; try clear c19; try clear p2; try clear p6
          obtain ⟨kq, x41_16, rfl, HA, HJ16, ⟨mc16, rfl⟩⟩ := hcut
          cases kq with
          | zero => exact absurd HA.out (by simp [impl_Compose.j4])
          | succ kj16 =>
           have H := HA.out; clear HA; simp only [impl_Compose.j4] at H
           by_cases c20 : x41_16 = true
           ·subst c20
            have H1 : (some (wrap64 (a0 + 512))) = some r := by rw [if_pos rfl] at H; exact H
            clear H; have H := H1; clear H1; obtain rfl := Option.some.inj H
            go_wp2
            go_ret
            exact ⟨by first | rfl | (simp; done) | (simp [*]; done), drw0⟩
           replace c20 := Bool.eq_false_iff.mpr c20; subst c20
           have H1 : ((impl_in.f a0 1792 1810).bind fun t308 => (if t308 = true then ((impl_in.f a1 1824 1844).bind fun t309 => (impl_Compose.j5 kj16 a0 a1 t309)) else (impl_Compose.j5 kj16 a0 a1 false))) = some r := by rw [if_neg (show ¬ (false = true) by decide)] at H; exact H
           clear H; have H := H1; clear H1; have HC21 := Aside0.mk H; clear H
           go_upto_region 12 with (fail)
           go_cut [50] (fun v50 wc => ∃ (kq : Nat) (x50_20 : Bool), v50 = .bool x50_20 ∧ Aside0 (impl_Compose.j5 kq a0 a1 x50_20 = some r) ∧ Aside0 (kq ≤ kj16) ∧ Drawn0 w wc)
           case first =>
            have H := HC21.out; clear HC21; replace H := Option.bind_eq_some_iff.mp H; obtain ⟨t308, A220, H⟩ := H
            try dsimp only at H
            have A22 := Aside0.mk A220; clear A220
            by_cases c23 : t308 = true
            ·subst c23
             have H1 : ((impl_in.f a1 1824 1844).bind fun t309 => (impl_Compose.j5 kj16 a0 a1 t309)) = some r := by rw [if_pos rfl] at H; exact H
             clear H; have H := H1; clear H1; replace H := Option.bind_eq_some_iff.mp H; obtain ⟨t309, A240, H⟩ := H
             try dsimp only at H
             have A24 := Aside0.mk A240; clear A240; have H' := Aside0.mk H; clear H
             go_wp2_with (first | (go_at_call 105; (with_reducible refine (impl_in.calls a0 1792 1810 true _ A22.out).mono ?_); rintro e w' ⟨rfl, ⟨nd, rfl⟩⟩) | (go_at_call 105; (with_reducible refine (impl_in.calls a1 1824 1844 t309 _ A24.out).mono ?_); rintro e w' ⟨rfl, ⟨nd, rfl⟩⟩))
             go_meet
             case rel => exact ⟨_, (t309), (by first | rfl | (simp; done) | (simp [*]; done)), H', ⟨by have := HJ3.out; have := HJ6.out; have := HJ8.out; have := HJ12.out; have := HJ16.out; first | omega | exact Nat.le_refl _⟩, drw0⟩
            replace c23 := Bool.eq_false_iff.mpr c23; subst c23
            have H1 : (impl_Compose.j5 kj16 a0 a1 false) = some r := by rw [if_neg (show ¬ (false = true) by decide)] at H; exact H
            clear H; have H := H1; clear H1; have H' := Aside0.mk H; clear H
            go_wp2_with (first | (go_at_call 105; (with_reducible refine (impl_in.calls a0 1792 1810 false _ A22.out).mono ?_); rintro e w' ⟨rfl, ⟨nd, rfl⟩⟩))
            go_meet
            case rel => exact ⟨_, (false), (by first | rfl | (simp; done) | (simp [*]; done)), H', ⟨by have := HJ3.out; have := HJ6.out; have := HJ8.out; have := HJ12.out; have := HJ16.out; first | omega | exact Nat.le_refl _⟩, drw0⟩
           case rest =>
            clear HC21
            try clear c1; try clear c2; try clear p2; try clear c3; try clear c5; try clear c6; try clear p6; try clear c8; try clear c10; try clear c10b0; try clear c12; try clear c14; try clear c14b0; try clear c16; try clear c17; try clear c19; try clear c20; try clear c23; try clear p2; try clear p6
            obtain ⟨kq, x50_20, rfl, HA, HJ20, ⟨mc20, rfl⟩⟩ := hcut
            cases kq with
            | zero => exact absurd HA.out (by simp [impl_Compose.j5])
            | succ kj20 =>
             have H := HA.out; clear HA; simp only [impl_Compose.j5] at H
             by_cases c25 : x50_20 = true
             ·subst c25
              have H1 : (some (wrap64 (12288 + (wrap64 ((wrap64 ((wrap64 ((wrap64 (21 * (wrap64 (a0 - 1792)))) + a1)) - 1824)) * 28))))) = some r := by rw [if_pos rfl] at H; exact H
              clear H; have H := H1; clear H1; obtain rfl := Option.some.inj H
              go_wp2
              go_ret
              exact ⟨by first | rfl | (simp; done) | (simp [*]; done), drw0⟩
             replace c25 := Bool.eq_false_iff.mpr c25; subst c25
             have H1 : ((impl_isOpen.f a0).bind fun t310 => (if t310 = true then ((impl_in.f a1 1857 1883).bind fun t311 => (if t311 = true then (some (wrap64 ((wrap64 (a0 + a1)) - 1856))) else (some (-1)))) else (some (-1)))) = some r := by rw [if_neg (show ¬ (false = true) by decide)] at H; exact H
             clear H; have H := H1; clear H1; replace H := Option.bind_eq_some_iff.mp H; obtain ⟨t310, A260, H⟩ := H
             try dsimp only at H
             have A26 := Aside0.mk A260; clear A260
             by_cases c27 : t310 = true
             ·subst c27
              have H1 : ((impl_in.f a1 1857 1883).bind fun t311 => (if t311 = true then (some (wrap64 ((wrap64 (a0 + a1)) - 1856))) else (some (-1)))) = some r := by rw [if_pos rfl] at H; exact H
              clear H; have H := H1; clear H1; replace H := Option.bind_eq_some_iff.mp H; obtain ⟨t311, A280, H⟩ := H
              try dsimp only at H
              have A28 := Aside0.mk A280; clear A280
              by_cases c29 : t311 = true
              ·subst c29
               have H1 : (some (wrap64 ((wrap64 (a0 + a1)) - 1856))) = some r := by rw [if_pos rfl] at H; exact H
               clear H; have H := H1; clear H1; obtain rfl := Option.some.inj H
               go_wp2_with (first | (go_at_call 222; (with_reducible refine (impl_isOpen.calls a0 true _ A26.out).mono ?_); rintro e w' ⟨rfl, ⟨nd, rfl⟩⟩) | (go_at_call 105; (with_reducible refine (impl_in.calls a1 1857 1883 true _ A28.out).mono ?_); rintro e w' ⟨rfl, ⟨nd, rfl⟩⟩))
               go_ret
               exact ⟨by first | rfl | (simp; done) | (simp [*]; done), drw0⟩
              replace c29 := Bool.eq_false_iff.mpr c29; subst c29
              have H1 : (some (-1)) = some r := by rw [if_neg (show ¬ (false = true) by decide)] at H; exact H
              clear H; have H := H1; clear H1; obtain rfl := Option.some.inj H
              go_wp2_with (first | (go_at_call 222; (with_reducible refine (impl_isOpen.calls a0 true _ A26.out).mono ?_); rintro e w' ⟨rfl, ⟨nd, rfl⟩⟩) | (go_at_call 105; (with_reducible refine (impl_in.calls a1 1857 1883 false _ A28.out).mono ?_); rintro e w' ⟨rfl, ⟨nd, rfl⟩⟩))
              go_ret
              exact ⟨by first | rfl | (simp; done) | (simp [*]; done), drw0⟩
             replace c27 := Bool.eq_false_iff.mpr c27; subst c27
             have H1 : (some (-1)) = some r := by rw [if_neg (show ¬ (false = true) by decide)] at H; exact H
             clear H; have H := H1; clear H1; obtain rfl := Option.some.inj H
             go_wp2_with (first | (go_at_call 222; (with_reducible refine (impl_isOpen.calls a0 false _ A26.out).mono ?_); rintro e w' ⟨rfl, ⟨nd, rfl⟩⟩))
             go_ret
             exact ⟨by first | rfl | (simp; done) | (simp [*]; done), drw0⟩

end Go.Proofs.YtiabgmddnddeiaaDoor.QFnNormer
