/- The law FnNormer: at every input the call answers true (this text: contracts on its way, by a program of this session's; no condition of ours). -/
import Derived.Test.YtiabgmddnddeiaaDoorQFnNormerx0
import Derived.Test.YtiabgmddnddeiaaDoorQFnNormerx8
import Derived.Test.YtiabgmddnddeiaaDoorQFnNormerx10
import Derived.Test.YtiabgmddnddeiaaDoorQFnNormerx11
namespace Go.Proofs.YtiabgmddnddeiaaDoor.QFnNormer
open Go.RowKit Go.Proofs.YtiabgmddnddeiaaDoorW.PrintWords Go.Proofs.YtiabgmddnddeiaaDoorW.PrintLast Go.Proofs.YtiabgmddnddeiaaDoorW.PrintMore
attribute [local go_sem] max2_int min2_int max_two min_two max_three min_three max_four min_four   -- for this text's walks alone
set_option linter.unusedVariables false
set_option linter.unusedSimpArgs false

/-! ### impl_normal: function 94 (by hand) -/
theorem impl_normal.in_ (x a b : Int) : impl_in.f x a b = some (decide (a ≤ x) && decide (x ≤ b)) := by
  unfold impl_in.f
  by_cases c : x ≥ a
  · rw [if_pos c, decide_eq_true (show a ≤ x from c), Bool.true_and]
  · rw [if_neg c, decide_eq_false (show ¬ a ≤ x from c), Bool.false_and]
theorem impl_normal.in_t {x a b : Int} (h1 : a ≤ x) (h2 : x ≤ b) : impl_in.f x a b = some true := by rw [impl_normal.in_, decide_eq_true h1, decide_eq_true h2]; rfl
theorem impl_normal.in_f {x a b : Int} (h : x < a ∨ b < x) : impl_in.f x a b = some false := by
  rw [impl_normal.in_]
  rcases h with h | h
  · rw [decide_eq_false (by omega)]; rfl
  · rw [decide_eq_false (show ¬ x ≤ b by omega), Bool.and_false]
theorem impl_normal.open_ (p : Int) (h0 : 0 ≤ p) (h1 : p ≤ 1114111) : impl_isOpen.f p = some (decide (12288 ≤ p ∧ p ≤ 23459 ∧ (p - 12288) % 28 = 0)) := by
  unfold impl_isOpen.f impl_isSyllable.f
  by_cases c : 12288 ≤ p ∧ p ≤ 23459
  · rw [impl_normal.in_t c.1 c.2]
    simp only [Option.bind_some, if_true]
    have e : wrap64 (p - 12288) = p - 12288 := by unfold wrap64; omega
    rw [e, Int.tmod_eq_emod_of_nonneg (by omega)]
    by_cases d : (p - 12288) % 28 = 0
    · rw [decide_eq_true ⟨c.1, c.2, d⟩, d]; rfl
    · rw [decide_eq_false (fun z => d z.2.2), beq_eq_false_iff_ne.mpr d]
  · rw [impl_normal.in_f (by omega)]
    simp only [Option.bind_some]
    rw [if_neg (by decide), decide_eq_false (fun z => c ⟨z.1, z.2.1⟩)]
set_option maxHeartbeats 1000000 in
theorem impl_normal.compose_ (k : Nat) (a b : Int) (h0 : 0 ≤ a) (h1 : a ≤ 1114111) (h2 : 0 ≤ b) (h3 : b ≤ 1114111) : impl_Compose.f (k + 8) a b = some (YtiabgmddnddeiaaDoorNrm.pair a b) := by
  have last : ∀ k : Nat, YtiabgmddnddeiaaDoorNrm.lno a = -1 → impl_Compose.j3 (k + 4) a b (-1) false = some (YtiabgmddnddeiaaDoorNrm.pair a b) := by
    intro k hl
    unfold YtiabgmddnddeiaaDoorNrm.pair
    rw [hl, if_neg (by omega), if_neg (by omega)]
    simp only [impl_Compose.j3]
    rw [if_neg (by decide)]
    have j5 : ∀ k : Nat, ¬ (1792 ≤ a ∧ a ≤ 1810 ∧ 1824 ≤ b ∧ b ≤ 1844) → impl_Compose.j5 (k + 1) a b false = some (if 12288 ≤ a ∧ a ≤ 23459 ∧ (a - 12288) % 28 = 0 ∧ 1857 ≤ b ∧ b ≤ 1883 then a + (b - 1856) else -1) := by
      intro k _
      simp only [impl_Compose.j5]
      rw [if_neg (by decide), impl_normal.open_ a h0 h1]
      simp only [Option.bind_some]
      by_cases c : 12288 ≤ a ∧ a ≤ 23459 ∧ (a - 12288) % 28 = 0
      · rw [decide_eq_true c, if_pos rfl]
        by_cases d : 1857 ≤ b ∧ b ≤ 1883
        · rw [impl_normal.in_t d.1 d.2]
          simp only [Option.bind_some, if_true]
          rw [if_pos ⟨c.1, c.2.1, c.2.2, d⟩]
          congr 1
          unfold wrap64; omega
        · rw [impl_normal.in_f (by omega)]
          simp only [Option.bind_some]
          rw [if_neg (by decide), if_neg (fun z => d z.2.2.2)]
      · rw [decide_eq_false c, if_neg (by decide), if_neg (fun z => c ⟨z.1, z.2.1, z.2.2.1⟩)]
    have j4 : ∀ k : Nat, ¬ (8704 ≤ a ∧ a ≤ 9119 ∧ b = 4096) → impl_Compose.j4 (k + 2) a b false = some (if 1792 ≤ a ∧ a ≤ 1810 ∧ 1824 ≤ b ∧ b ≤ 1844 then 12288 + (21 * (a - 1792) + (b - 1824)) * 28 else if 12288 ≤ a ∧ a ≤ 23459 ∧ (a - 12288) % 28 = 0 ∧ 1857 ≤ b ∧ b ≤ 1883 then a + (b - 1856) else -1) := by
      intro k _
      simp only [impl_Compose.j4]
      rw [if_neg (by decide)]
      by_cases c : 1792 ≤ a ∧ a ≤ 1810
      · rw [impl_normal.in_t c.1 c.2]
        simp only [Option.bind_some, if_true]
        by_cases d : 1824 ≤ b ∧ b ≤ 1844
        · rw [impl_normal.in_t d.1 d.2]
          simp only [Option.bind_some]
          simp only [impl_Compose.j5]
          rw [if_pos trivial, if_pos ⟨c.1, c.2, d⟩]
          congr 1
          unfold wrap64; omega
        · rw [impl_normal.in_f (by omega)]
          simp only [Option.bind_some]
          rw [if_neg (show ¬ (1792 ≤ a ∧ a ≤ 1810 ∧ 1824 ≤ b ∧ b ≤ 1844) from fun z => d z.2.2), j5 k (fun z => d z.2.2)]
      · rw [impl_normal.in_f (by omega)]
        simp only [Option.bind_some]
        rw [if_neg (by decide), if_neg (show ¬ (1792 ≤ a ∧ a ≤ 1810 ∧ 1824 ≤ b ∧ b ≤ 1844) from fun z => c ⟨z.1, z.2.1⟩), j5 k (fun z => c ⟨z.1, z.2.1⟩)]
    by_cases c : 8704 ≤ a ∧ a ≤ 9119
    · rw [impl_normal.in_t c.1 c.2]
      simp only [Option.bind_some, if_true]
      by_cases d : b = 4096
      · rw [show (b == 4096) = true from beq_iff_eq.mpr d, if_pos ⟨c.1, c.2, d⟩]
        simp only [impl_Compose.j4]
        rw [if_pos trivial]
        congr 1
        unfold wrap64; omega
      · rw [show (b == 4096) = false from beq_eq_false_iff_ne.mpr d, if_neg (show ¬ (8704 ≤ a ∧ a ≤ 9119 ∧ b = 4096) from fun z => d z.2.2), j4 (k + 1) (fun z => d z.2.2)]
    · rw [impl_normal.in_f (by omega)]
      simp only [Option.bind_some]
      rw [if_neg (by decide), if_neg (show ¬ (8704 ≤ a ∧ a ≤ 9119 ∧ b = 4096) from fun z => c ⟨z.1, z.2.1⟩), j4 (k + 1) (fun z => c ⟨z.1, z.2.1⟩)]
  have mid : ∀ i : Int, YtiabgmddnddeiaaDoorNrm.lno a = i → (i = -1 ∨ (0 ≤ i ∧ i < 52 ∧ a ≤ 122)) → impl_Compose.j1 (k + 6) a b i = some (YtiabgmddnddeiaaDoorNrm.pair a b) := by
    intro i hl hi
    simp only [impl_Compose.j1]
    rcases hi with rfl | ⟨i0, i1, i2⟩
    · rw [if_neg (by omega)]
      simp only [impl_Compose.j2]
      rw [if_neg (by decide), if_neg (by omega)]
      exact last k hl
    · rw [if_pos (by omega)]
      by_cases c : 4096 ≤ b ∧ b ≤ 4103
      · rw [impl_normal.in_t c.1 c.2]
        simp only [Option.bind_some]
        simp only [impl_Compose.j2]
        unfold YtiabgmddnddeiaaDoorNrm.pair
        rw [if_pos trivial, hl, if_pos ⟨i0, c⟩]
        congr 1
        unfold wrap64; omega
      · rw [impl_normal.in_f (by omega)]
        simp only [Option.bind_some]
        simp only [impl_Compose.j2]
        rw [if_neg (by decide), if_pos (by omega)]
        by_cases d : 4112 ≤ b ∧ b ≤ 4119
        · rw [impl_normal.in_t d.1 d.2]
          simp only [Option.bind_some]
          simp only [impl_Compose.j3]
          unfold YtiabgmddnddeiaaDoorNrm.pair
          rw [if_pos trivial, hl, if_neg (fun z => c z.2), if_pos ⟨i0, d⟩]
          congr 1
          unfold wrap64; omega
        · rw [impl_normal.in_f (by omega)]
          simp only [Option.bind_some]
          unfold YtiabgmddnddeiaaDoorNrm.pair
          rw [hl, if_neg (fun z => c z.2), if_neg (fun z => d z.2), if_neg (by omega), if_neg (by omega), if_neg (by omega)]
          simp only [impl_Compose.j3]
          rw [if_neg (by decide), impl_normal.in_f (x := a) (by omega)]
          simp only [Option.bind_some]
          rw [if_neg (by decide)]
          simp only [impl_Compose.j4]
          rw [if_neg (by decide), impl_normal.in_f (x := a) (by omega)]
          simp only [Option.bind_some]
          rw [if_neg (by decide)]
          simp only [impl_Compose.j5]
          rw [if_neg (by decide), impl_normal.open_ a h0 h1, decide_eq_false (by omega)]
          simp only [Option.bind_some]
          rw [if_neg (by decide)]
  unfold impl_Compose.f
  by_cases c : 65 ≤ a ∧ a ≤ 90
  · rw [impl_normal.in_t c.1 c.2]
    simp only [Option.bind_some, if_true]
    simp only [impl_Compose.j0]
    rw [impl_normal.in_f (x := a) (by omega)]
    simp only [Option.bind_some]
    rw [if_neg (by decide), show wrap64 (a - 65) = a - 65 by unfold wrap64; omega]
    exact mid _ (by unfold YtiabgmddnddeiaaDoorNrm.lno; rw [if_pos c]) (.inr ⟨by omega, by omega, by omega⟩)
  · rw [impl_normal.in_f (by omega)]
    simp only [Option.bind_some]
    rw [if_neg (by decide)]
    simp only [impl_Compose.j0]
    by_cases d : 97 ≤ a ∧ a ≤ 122
    · rw [impl_normal.in_t d.1 d.2]
      simp only [Option.bind_some, if_true]
      rw [show wrap64 (wrap64 (a - 97) + 26) = a - 71 by unfold wrap64; omega]
      exact mid _ (by unfold YtiabgmddnddeiaaDoorNrm.lno; rw [if_neg c, if_pos d]) (.inr ⟨by omega, by omega, by omega⟩)
    · rw [impl_normal.in_f (by omega)]
      simp only [Option.bind_some]
      rw [if_neg (by decide)]
      exact mid _ (by unfold YtiabgmddnddeiaaDoorNrm.lno; rw [if_neg c, if_neg d]) (.inl rfl)
theorem impl_normal.pair_ (a b : Int) (W : World) (h0 : 0 ≤ a) (h1 : a ≤ 1114111) (h2 : 0 ≤ b) (h3 : b ≤ 1114111) : Calls Tryd.prog 172 #[.int .i64 a, .int .i64 b] W fun e w' => e = .returned (.int .i64 (YtiabgmddnddeiaaDoorNrm.pair a b)) ∧ Drawn0 W w' := impl_Compose.calls 8 a b _ W (impl_normal.compose_ 0 a b h0 h1 h2 h3)
theorem impl_normal.drange {k : Bool} {p : Int} (h0 : 0 ≤ p) (h1 : p ≤ 1114111) : ∀ q ∈ YtiabgmddnddeiaaDoorNrm.dec k p, 0 ≤ q ∧ q ≤ 1114111 := by
  have := @YtiabgmddnddeiaaDoorNrm.letter_range (p % 512 / 8)
  intro q hq
  unfold YtiabgmddnddeiaaDoorNrm.dec at hq
  repeat' split at hq
  all_goals simp only [List.mem_cons, List.mem_nil_iff, or_false] at hq
  all_goals omega
theorem impl_normal.class_ (p : Int) : impl_MarkClass.f p = some (YtiabgmddnddeiaaDoorNrm.cls p) := by
  unfold impl_MarkClass.f impl_in.f YtiabgmddnddeiaaDoorNrm.cls
  by_cases c1 : p = 1584
  · rw [if_pos c1, if_pos c1]
  rw [if_neg c1, if_neg c1]
  by_cases c2 : p = 1585
  · rw [if_pos c2, if_pos c2]
  rw [if_neg c2, if_neg c2]
  by_cases c3 : p ≥ 4096
  · rw [if_pos c3]
    by_cases c4 : p ≤ 4159
    · rw [decide_eq_true c4]
      simp only [Option.bind_some, if_true]
      rw [if_neg (show ¬ (p < 4096 ∨ 4159 < p) by omega)]
      repeat' split
      all_goals rfl
    · rw [decide_eq_false c4, if_pos (show p < 4096 ∨ 4159 < p by omega)]
      rfl
  · rw [if_neg c3, if_pos (show p < 4096 ∨ 4159 < p by omega)]
    rfl
theorem impl_normal.mark (p : Int) (W : World) : Calls Tryd.prog 141 #[.int .i64 p] W fun e w' => e = .returned (.int .i64 (YtiabgmddnddeiaaDoorNrm.cls p)) ∧ Drawn0 W w' := impl_MarkClass.calls p _ W (impl_normal.class_ p)
set_option maxHeartbeats 8000000 in
set_option maxRecDepth 100000 in
theorem impl_normal.cmp : Sor.Cmp YtiabgmddnddeiaaDoorNrm.cls := by
  refine ⟨fun x => by have := YtiabgmddnddeiaaDoorNrm.cls_range x; omega, fun x y W => ?_⟩
  have hx := YtiabgmddnddeiaaDoorNrm.cls_range x
  have hy := YtiabgmddnddeiaaDoorNrm.cls_range y
  obtain ⟨a, ha⟩ : ∃ a, YtiabgmddnddeiaaDoorNrm.cls x = a := ⟨_, rfl⟩
  obtain ⟨b, hb⟩ : ∃ b, YtiabgmddnddeiaaDoorNrm.cls y = b := ⟨_, rfl⟩
  have HX := fun W => impl_normal.mark x W
  have HY := fun W => impl_normal.mark y W
  rw [ha] at hx HX
  rw [hb] at hy HY
  rw [ha, hb]
  clear ha hb
  go_enter Tryd.func171, Tryd.ntmps171
  go_wp2_with (first
    | (go_at_call_of 141 (Value.int .i64 x); ((with_reducible refine (HX _).mono ?_); rintro e w1 ⟨rfl, ⟨nd, rfl⟩⟩))
    | (go_at_call_of 141 (Value.int .i64 y); ((with_reducible refine (HY _).mono ?_); rintro e w1 ⟨rfl, ⟨nd, rfl⟩⟩)))
  go_ret
  exact ⟨rfl, ⟨_, by first | rfl | (rw [World.drewN_drewN])⟩⟩
/-- where the composing stands: no starter so far, or one at place st, and what has been put behind it -/
def impl_normal.St (O R : List Int) (i : Nat) (C : List Int) (st last : Int) : Prop :=
  (st = -1 ∧ (∀ q ∈ C, YtiabgmddnddeiaaDoorNrm.cls q ≠ 0) ∧ R = C ++ YtiabgmddnddeiaaDoorNrm.cmp0 (O.drop i)) ∨
  ∃ pre s tail, st = (pre.length : Int) ∧ C = pre ++ s :: tail ∧ R = pre ++ YtiabgmddnddeiaaDoorNrm.cmp1 s tail (O.drop i) ∧ (∀ q ∈ tail, YtiabgmddnddeiaaDoorNrm.cls q ≠ 0) ∧ YtiabgmddnddeiaaDoorNrm.inord (tail ++ O.drop i) ∧ 0 ≤ s ∧ s ≤ 1114111 ∧ ∀ z, tail.getLast? = some z → last = YtiabgmddnddeiaaDoorNrm.cls z
set_option maxHeartbeats 8000000 in
set_option maxRecDepth 100000 in
theorem impl_normal.run (form : Int) (kk : Bool) (hk : decide (3 ≤ form) = kk) (A1 : Option Addr) (c1 : Nat) (l : List Int) (w : World) (hf0 : 1 ≤ form) (hf1 : form ≤ 4) (hr1 : Kd.C (Kd.int .i64) w A1 l.length l) (hc1 : l.length ≤ c1) (hl : l.length ≤ 1000000000) (hp : ∀ p ∈ l, 0 ≤ p ∧ p ≤ 1114111) (R : List Int) (hR : YtiabgmddnddeiaaDoorNrm.nf form l = R) :
    Calls Tryd.prog 94 #[.int .i64 form, .slice A1 l.length c1] w fun e w' => ∃ v0_ : Value, e = .returned (v0_) ∧ Kd.R (Kd.int .i64) 2 w' w.heap.size (fun _ => True) v0_ R ∧ Below w.heap.size w w' := by
  have HR := Aside0.mk hr1
  have HP := Aside0.mk hp
  have HRR := Aside0.mk hR
  clear hr1 hp hR
  go_enter Tryd.func94, Tryd.ntmps94
  go_upto_block 0 with (fail)
  go_cut [5] (fun v5 wr => Aside0 (Kd.R (Kd.int .i64) 2 wr w.heap.size (fun _ => True) v5 (l.flatMap (YtiabgmddnddeiaaDoorNrm.dec kk))) ∧ Aside0 (Below w.heap.size w wr))
  case first =>
    go_wp2_with fail
    go_loopw [5, 20] (fun v5 v20 wr => ∃ i : Nat, i ≤ l.length ∧ v20 = .int .i64 i ∧ Aside0 (Kd.R (Kd.int .i64) 2 wr w.heap.size (fun _ => True) v5 ((l.take i).flatMap (YtiabgmddnddeiaaDoorNrm.dec kk))) ∧ Aside0 (Below w.heap.size w wr)) (fun _ v20 _ => l.length - (intOf v20).toNat)
    case atStart => exact ⟨0, Nat.zero_le _, rfl, ⟨Kd.R_nil _ _ _ _ _⟩, ⟨Below.refl _ _⟩⟩
    case round =>
      obtain ⟨i, hi, rfl, HO, HW⟩ := hrel
      by_cases hlt : i < l.length
      · have i0 : (0 : Int) ≤ (i : Int) := by omega
        have i1 : (i : Int) < (l.length : Int) := by omega
        obtain ⟨ad2, e1, hx0⟩ := Kd.at_int HR.out (i : Int) i0 i1
        subst e1
        have hx := (HW.out.cell (World.block_lt_of_cell? w _ hx0)).trans hx0
        rw [Int.toNat_natCast] at hx
        have hrd : rd l (i : Int) = l[i] := by simp [rd, List.getD, hlt]
        obtain ⟨q, hq⟩ : ∃ q, l[i] = q := ⟨_, rfl⟩
        rw [hrd, hq] at hx
        have ht : (l.take (i + 1)).flatMap (YtiabgmddnddeiaaDoorNrm.dec kk) = (l.take i).flatMap (YtiabgmddnddeiaaDoorNrm.dec kk) ++ YtiabgmddnddeiaaDoorNrm.dec kk q := by
          rw [List.take_succ_eq_append_getElem hlt, List.flatMap_append, hq]
          simp only [List.flatMap_cons, List.flatMap_nil, List.append_nil]
        have hfl := impl_decompose.flen kk (l.take i)
        have hdl := impl_decompose.len kk q
        rw [List.length_take] at hfl
        have HT := Aside0.mk ht
        have HFL := Aside0.mk (And.intro hfl hdl)
        have hq2 := HP.out q (by rw [← hq]; exact List.getElem_mem hlt)
        have HC := Aside0.mk (fun W => impl_decompose.calls q kk W hq2.1 hq2.2)
        have q0 := eq_true i0
        have q1 := eq_true i1
        clear hx0 hrd hq ht hfl hdl hq2
        go_wp2_with (first
          | (go_at_call 168; ((with_reducible refine (HC.out _).mono ?_); rintro e w3 ⟨v3, rfl, ho3, hb3⟩; obtain ⟨A3, c3, rfl⟩ := Kd.R_slice ho3; have H3 := Aside0.mk (Kd.R_reads' ho3).2.2; have HO3 := Aside0.mk (Kd.R_below HO.out hb3); have HW3 := Aside0.mk (below_step HW.out hb3); clear ho3 hb3))
          | ((with_reducible refine gate_builtin (b := .append) (xs := #[.tmp 24, .tmp 28]) rfl ?_); at_builtin; refine Kd.R_append_rows (Kd.int .i64) (w0 := w) w.heap.size rfl (.tmp 24) (.tmp 28) 28 2 (.int .i64 0) 8 rfl Tryd.underlying28 info2 rfl (by decide) (by omega) _ _ _ _ _ _ (fun _ => True) (fun _ => False) rfl rfl HO3.out H3.out (fun _ _ h => h) (fun _ h => h.elim) (fun _ _ => trivial) HW3.out HW3.out.size (by have := HFL.out; omega) ?_; intro v4 w4 ho4 hb4 hg4 hat4; rw [← HT.out] at ho4; have HO4 := Aside0.mk ho4; have HB4 := Aside0.mk hb4; clear ho4 hb4 hg4 hat4))
        go_roundw
        case rel => exact ⟨i + 1, by omega, by go_num, HO4, HB4⟩
        case measure => simp [intOf]; omega
      · obtain rfl : i = l.length := by omega
        have ho := HO.out
        rw [List.take_length] at ho
        have HO2 := Aside0.mk ho
        clear ho HO
        go_wp2_with fail
        go_meet
        exact ⟨HO2, HW⟩
  case rest =>
    obtain ⟨HO, HW⟩ := hcut
    have hfl := impl_decompose.flen kk l
    have HNF : Aside0 (R = if form = 1 ∨ form = 3 then YtiabgmddnddeiaaDoorNrm.ord (l.flatMap (YtiabgmddnddeiaaDoorNrm.dec kk)) else YtiabgmddnddeiaaDoorNrm.cmp0 (YtiabgmddnddeiaaDoorNrm.ord (l.flatMap (YtiabgmddnddeiaaDoorNrm.dec kk)))) := ⟨by rw [← HRR.out]; unfold YtiabgmddnddeiaaDoorNrm.nf YtiabgmddnddeiaaDoorNrm.C YtiabgmddnddeiaaDoorNrm.D; rw [hk]⟩
    have hin : ∀ q ∈ l.flatMap (YtiabgmddnddeiaaDoorNrm.dec kk), 0 ≤ q ∧ q ≤ 1114111 := fun q hq => by
      obtain ⟨p, hp, hq⟩ := List.mem_flatMap.1 hq
      exact impl_normal.drange (HP.out p hp).1 (HP.out p hp).2 q hq
    obtain ⟨M, hM⟩ : ∃ M, l.flatMap (YtiabgmddnddeiaaDoorNrm.dec kk) = M := ⟨_, rfl⟩
    rw [hM] at hfl HO HNF hin
    have HIN := Aside0.mk hin
    have hML : M.length ≤ 3000000000 := by omega
    obtain ⟨A5, c5, rfl⟩ := Kd.R_slice HO.out
    have hc5 := (Kd.R_reads' HO.out).2.1
    rename World => w2
    clear hfl hM HR HP hl hk hin hc1 HRR
    go_upto_block 2 with (fail)
    go_cut [8, 9] (fun v8 v9 wr => Aside0 (Kd.R (Kd.int .i64) 2 wr w.heap.size (fun _ => True) (.slice A5 M.length c5) (YtiabgmddnddeiaaDoorNrm.ord M)) ∧ Aside0 (Below w.heap.size w wr))
    case first =>
      go_wp2_with fail
      go_loopw [8] (fun v8 wr => ∃ A B : List Int, v8 = .int .i64 A.length ∧ A.length ≤ M.length ∧ Aside0 (A.length + B.length = M.length) ∧ Aside0 (YtiabgmddnddeiaaDoorNrm.inord A) ∧ Aside0 (YtiabgmddnddeiaaDoorNrm.bnd A B) ∧ Aside0 (YtiabgmddnddeiaaDoorNrm.ord (A ++ B) = YtiabgmddnddeiaaDoorNrm.ord M) ∧ Aside0 (Kd.R (Kd.int .i64) 2 wr w.heap.size (fun _ => True) (.slice A5 M.length c5) (A ++ B)) ∧ Aside0 (Below w.heap.size w wr)) (fun v8 _ => M.length - (intOf v8).toNat)
      case atStart => exact ⟨[], M, rfl, Nat.zero_le _, ⟨by simp⟩, ⟨trivial⟩, ⟨YtiabgmddnddeiaaDoorNrm.bnd_nil _⟩, ⟨rfl⟩, HO, HW⟩
      case round =>
        clear HO HW
        obtain ⟨A, B, rfl, hA, HL, HI, HB, HE, HO, HW⟩ := hrel
        by_cases hlt : A.length < M.length
        · obtain ⟨g, c, hv, -⟩ := Kd.R_form HO.out (by have := HL.out; rw [List.length_append]; omega)
          have hg : w.heap.size ≤ g := Kd.R_base HO.out g (by rw [hv]; simp [Value.ownBlock])
          injection hv with hv1 hv2 hv3
          subst hv1
          subst hv3
          obtain ⟨X, Y, rfl, hX, hY⟩ := YtiabgmddnddeiaaDoorNrm.run_split B
          have hLL : (A ++ (X ++ Y)).length = M.length := by have := HL.out; rw [List.length_append]; exact this
          have HRW : Aside0 (Sor.Rw wr w.heap.size (fun _ => True) g c5 (A ++ (X ++ Y))) := ⟨by unfold Sor.Rw; rw [hLL]; exact HO.out⟩
          have HLL := Aside0.mk hLL
          have HXX := Aside0.mk hX
          have HYY := Aside0.mk hY
          have hxl : A.length + X.length ≤ M.length := by have := HL.out; rw [List.length_append] at this; omega
          obtain ⟨a, ha⟩ : ∃ a, A.length = a := ⟨_, rfl⟩
          obtain ⟨x, hx⟩ : ∃ x, X.length = x := ⟨_, rfl⟩
          have HA := Aside0.mk ha
          have HX := Aside0.mk hx
          rw [ha] at hA hlt hxl ⊢
          rw [hx] at hxl
          clear hv2 hLL hX hY HO ha hx
          go_upto_block 4 with (fail)
          go_cut [9] (fun v9 w3 => v9 = .int .i64 ((a + x : Nat) : Int) ∧ ∃ nd : Nat, w3 = wr.drewN nd)
          case first =>
            go_wp2_with fail
            go_loopw [9] (fun v9 w3 => ∃ (j m nd : Nat), v9 = .int .i64 m ∧ j ≤ x ∧ Aside0 (a + j = m) ∧ m ≤ M.length ∧ w3 = wr.drewN nd) (fun v9 _ => M.length - (intOf v9).toNat)
            case atStart => exact ⟨0, a, 0, rfl, Nat.zero_le _, ⟨rfl⟩, hA, by rw [World.drewN_zero]⟩
            case round =>
              obtain ⟨j, m, nd, rfl, hj, HJ, hm, rfl⟩ := hrel
              by_cases hjx : j < x
              · have hml : m < M.length := by have := HJ.out; omega
                have hrow := (HRW.out.drewN nd).at_ m (by have := HLL.out; omega)
                obtain ⟨q, hq⟩ : ∃ q, X[j]'(by have := HX.out; omega) = q := ⟨_, rfl⟩
                have hgd : (A ++ (X ++ Y)).getD m 0 = q := by
                  have h1 := HA.out
                  have h2 := HX.out
                  have h3 := HJ.out
                  rw [List.getD_eq_getElem?_getD, List.getElem?_append_right (by omega), List.getElem?_append_left (by omega), show m - A.length = j by omega, List.getElem?_eq_getElem (by omega), hq]; rfl
                rw [hgd] at hrow
                obtain ⟨k1, k2⟩ := hrow
                have hne : (YtiabgmddnddeiaaDoorNrm.cls q != 0) = true := bne_iff_ne.mpr (HXX.out q (by rw [← hq]; exact List.getElem_mem _))
                have HQ := Aside0.mk (fun W => impl_normal.mark q W)
                obtain ⟨cq, hcq⟩ : ∃ c, YtiabgmddnddeiaaDoorNrm.cls q = c := ⟨_, rfl⟩
                rw [hcq] at hne HQ
                clear hq hgd hcq
                go_wp2_with (go_at_call 141; ((with_reducible refine (HQ.out _).mono ?_); rintro e w4 ⟨rfl, ⟨nd4, rfl⟩⟩))
                go_roundw
                case rel => exact ⟨j + 1, m + 1, nd + nd4, by go_num, by omega, ⟨by have := HJ.out; omega⟩, by omega, by first | rfl | rw [World.drewN_drewN]⟩
                case measure => simp [intOf]; omega
              · obtain rfl : j = x := by omega
                have hjm := HJ.out
                rcases HYY.out with hY | ⟨h, t, hY, hh⟩
                · have hml : M.length ≤ m := by
                    have h1 := HA.out
                    have h2 := HX.out
                    have h4 := HLL.out
                    rw [hY] at h4
                    simp only [List.length_append, List.length_nil] at h4
                    omega
                  clear hjm hY
                  go_wp2_with fail
                  go_meet
                  exact ⟨by rw [HJ.out], nd, rfl⟩
                · have hml : m < M.length := by
                    have h1 := HA.out
                    have h2 := HX.out
                    have h4 := HLL.out
                    rw [hY] at h4
                    simp only [List.length_append, List.length_cons] at h4
                    omega
                  have hrow := (HRW.out.drewN nd).at_ m (by have := HLL.out; omega)
                  have hgd : (A ++ (X ++ Y)).getD m 0 = h := by
                    have h1 := HA.out
                    have h2 := HX.out
                    rw [hY, List.getD_eq_getElem?_getD, List.getElem?_append_right (by omega), List.getElem?_append_right (by omega), show m - A.length - X.length = 0 by omega]; rfl
                  rw [hgd] at hrow
                  obtain ⟨k1, k2⟩ := hrow
                  have HQ := Aside0.mk (fun W => impl_normal.mark h W)
                  rw [hh] at HQ
                  clear hjm hY hgd hh
                  go_wp2_with (go_at_call 141; ((with_reducible refine (HQ.out _).mono ?_); rintro e w4 ⟨rfl, ⟨nd4, rfl⟩⟩))
                  go_meet
                  exact ⟨by rw [HJ.out], nd + nd4, by first | rfl | rw [World.drewN_drewN]⟩
          case rest =>
            obtain ⟨rfl, nd, hw⟩ := hcut
            subst hw
            have s0 : a < c5 := by omega
            have s1 : a + x ≤ c5 := by omega
            have HLT := Aside0.mk hlt
            clear hlt
            by_cases hx0 : x = 0
            · obtain rfl : X = [] := List.eq_nil_of_length_eq_zero (by rw [HX.out]; exact hx0)
              subst hx0
              have hY2 : ∃ h t, Y = h :: t ∧ YtiabgmddnddeiaaDoorNrm.cls h = 0 := by
                rcases HYY.out with hY | hY
                · exfalso
                  have h1 := HA.out
                  have h0 := HLT.out
                  have h4 := HLL.out
                  rw [hY] at h4
                  simp only [List.length_append, List.length_nil] at h4
                  omega
                · exact hY
              obtain ⟨h, t, rfl, hh⟩ := hY2
              obtain ⟨n1, n2, n3⟩ := YtiabgmddnddeiaaDoorNrm.skip_step HI.out hh HE.out
              have N1 := Aside0.mk n1
              have N2 := Aside0.mk n2
              have N3 := Aside0.mk n3
              have n4 : (A ++ [h]).length = a + 1 := by rw [List.length_append, HA.out]; rfl
              have N4 := Aside0.mk n4
              clear n1 n2 n3 n4 hh
              go_wp2_with (go_at_call 170; ((with_reducible refine (Sor.sortR YtiabgmddnddeiaaDoorNrm.cls impl_normal.cmp g a _ _ c5 A [] ([] ++ h :: t) _ w.heap.size (fun _ => True) (HRW.out.drewN nd) (by simp) HA.out (by omega)).mono ?_); rintro e w5 ⟨rfl, Z, sz, mz, hr5, hg5⟩; have hz := mz.perm_len; obtain rfl : Z = [] := List.eq_nil_of_length_eq_zero hz.symm; have HR5 := Aside0.mk hr5; have HG5 := Aside0.mk (pw_below_grown (pw_below_drewN HW.out nd) (some g) (pw_below_drewN HW.out nd).size hg5 (fun k hk => by injection hk with hk; omega)); clear sz mz hr5 hg5 hz))
              go_roundw
              case rel =>
                refine ⟨A ++ [h], t, by rw [N4.out]; go_num, by rw [N4.out]; have := HLT.out; omega, ⟨?_⟩, N1, N2, N3, ⟨?_⟩, HG5⟩
                · have h4 := HLL.out
                  simp only [List.length_append, List.length_cons, List.length_nil] at h4 ⊢
                  omega
                · have h5 := HR5.out
                  unfold Sor.Rw at h5
                  have e5 : A ++ ([] ++ ([] ++ h :: t)) = A ++ [h] ++ t := by simp
                  rw [e5] at h5
                  have e6 : (A ++ [h] ++ t).length = M.length := by have h4 := HLL.out; simp only [List.length_append, List.length_cons, List.length_nil] at h4 ⊢; omega
                  rw [e6] at h5
                  exact h5
              case measure => have := HA.out; have := HLT.out; simp [intOf]; omega
            · have n9 : (a : Int) + 1 ≤ a + x := by omega
              have hmx : max ((a + x : Nat) : Int) ((a : Int) + 1) = ((a + x : Nat) : Int) := by omega
              have HX0 := Aside0.mk hx0
              clear hx0
              go_wp2_with (go_at_call 170; ((with_reducible refine (Sor.sortR YtiabgmddnddeiaaDoorNrm.cls impl_normal.cmp g a _ _ c5 A X Y _ w.heap.size (fun _ => True) (HRW.out.drewN nd) HX.out HA.out (by omega)).mono ?_); rintro e w5 ⟨rfl, Z, sz, mz, hr5, hg5⟩; have SZ := Aside0.mk sz; have MZ := Aside0.mk mz; have HR5 := Aside0.mk hr5; have HG5 := Aside0.mk (pw_below_grown (pw_below_drewN HW.out nd) (some g) (pw_below_drewN HW.out nd).size hg5 (fun k hk => by injection hk with hk; omega)); clear sz mz hr5 hg5))
              have hz : Z.length = x := by rw [← MZ.out.perm_len, HX.out]
              have n4 : (A ++ Z).length = a + x := by rw [List.length_append, HA.out, hz]
              obtain ⟨n1, n2, n3⟩ := YtiabgmddnddeiaaDoorNrm.sort_step HI.out HB.out HXX.out (by intro e; apply HX0.out; rw [← HX.out, e]; rfl) HYY.out SZ.out MZ.out HE.out
              go_roundw
              case rel =>
                refine ⟨A ++ Z, Y, by rw [n4]; go_num, by rw [n4]; omega, ⟨?_⟩, ⟨n1⟩, ⟨n2⟩, ⟨n3⟩, ⟨?_⟩, HG5⟩
                · have h4 := HLL.out
                  have h5 := HX.out
                  simp only [List.length_append] at h4 ⊢
                  omega
                · have h5 := HR5.out
                  unfold Sor.Rw at h5
                  have e5 : A ++ (Z ++ Y) = A ++ Z ++ Y := by simp
                  rw [e5] at h5
                  have e6 : (A ++ Z ++ Y).length = M.length := by have h4 := HLL.out; have h5 := HX.out; simp only [List.length_append] at h4 ⊢; omega
                  rw [e6] at h5
                  exact h5
              case measure => have := HA.out; have := HX0.out; have := HLT.out; simp [intOf]; omega
        · obtain rfl : B = [] := List.eq_nil_of_length_eq_zero (by have := HL.out; omega)
          have ho := HO.out
          rw [List.append_nil] at ho
          rw [YtiabgmddnddeiaaDoorNrm.sorted_all HI.out HE.out] at ho
          have HO2 := Aside0.mk ho
          clear ho HO
          go_wp2_with fail
          go_meet
          exact ⟨HO2, HW⟩
    case rest =>
      obtain ⟨HO3, HW3⟩ := hcut
      clear HO HW
      have hpl := YtiabgmddnddeiaaDoorNrm.ord_perm M
      obtain ⟨O, hO⟩ : ∃ O, YtiabgmddnddeiaaDoorNrm.ord M = O := ⟨_, rfl⟩
      have hoin : YtiabgmddnddeiaaDoorNrm.inord O := by rw [← hO]; exact YtiabgmddnddeiaaDoorNrm.ord_inord M
      rw [hO] at hpl HO3 HNF
      have hol : O.length = M.length := hpl.length_eq
      have horange : ∀ q ∈ O, 0 ≤ q ∧ q ≤ 1114111 := fun q hq => HIN.out q (hpl.mem_iff.1 hq)
      rw [← hol] at HO3 hML hc5
      rw [← hol]
      have HOI := Aside0.mk hoin
      have HOR := Aside0.mk horange
      rename World => w3
      clear hO hpl hoin horange hol HIN
      by_cases hf : form = 1 ∨ form = 3
      · have hnf := HNF.out
        rw [if_pos hf] at hnf
        have HN4 := Aside0.mk hnf
        clear HNF hnf
        rcases hf with rfl | rfl
        · go_wp2_with fail
          go_ret
          exact ⟨_, rfl, by rw [HN4.out]; exact HO3.out, HW3.out⟩
        · go_wp2_with fail
          go_ret
          exact ⟨_, rfl, by rw [HN4.out]; exact HO3.out, HW3.out⟩
      · have hnf := HNF.out
        rw [if_neg hf] at hnf
        have HN := Aside0.mk hnf
        have f1 : (form == 1) = false := beq_eq_false_iff_ne.mpr (by omega)
        have f3 : (form == 3) = false := beq_eq_false_iff_ne.mpr (by omega)
        have HRD := Aside0.mk (Kd.R_reads' HO3.out).2.2
        clear HNF hnf hf
        go_wp2_with fail
        go_loopw [10, 11, 12, 68] (fun v10 v11 v12 v68 wr => ∃ (i : Nat) (C : List Int) (st last : Int), v11 = .int .i64 st ∧ v12 = .int .i64 last ∧ v68 = .int .i64 i ∧ i ≤ O.length ∧ C.length ≤ i ∧ Aside0 (impl_normal.St O R i C st last) ∧ Aside0 (Kd.R (Kd.int .i64) 2 wr w3.heap.size (fun _ => True) v10 C) ∧ Aside0 (Below w3.heap.size w3 wr)) (fun _ _ _ v68 _ => O.length - (intOf v68).toNat)
        case atStart => exact ⟨0, [], -1, 0, rfl, rfl, rfl, Nat.zero_le _, Nat.zero_le _, ⟨.inl ⟨rfl, fun q hq => (by cases hq), HN.out⟩⟩, ⟨Kd.R_nil _ _ _ _ _⟩, ⟨Below.refl _ _⟩⟩
        case round =>
          obtain ⟨i, C, st, last, rfl, rfl, rfl, hi, hci, HS, HO, HW⟩ := hrel
          by_cases hlt : i < O.length
          · have i0 : (0 : Int) ≤ (i : Int) := by omega
            have i1 : (i : Int) < (O.length : Int) := by omega
            obtain ⟨ad2, e1, hx0⟩ := Kd.at_int HRD.out (i : Int) i0 i1
            subst e1
            have hx := (HW.out.cell (World.block_lt_of_cell? w3 _ hx0)).trans hx0
            rw [Int.toNat_natCast] at hx
            have hrd : rd O (i : Int) = O[i] := by simp [rd, List.getD, hlt]
            have hdrop : O.drop i = O[i] :: O.drop (i + 1) := List.drop_eq_getElem_cons hlt
            obtain ⟨q, hq⟩ : ∃ q, O[i] = q := ⟨_, rfl⟩
            rw [hrd, hq] at hx
            rw [hq] at hdrop
            have hqr := HOR.out q (by rw [← hq]; exact List.getElem_mem hlt)
            have HQ := Aside0.mk (fun W => impl_normal.mark q W)
            obtain ⟨kq, hkq⟩ : ∃ k, YtiabgmddnddeiaaDoorNrm.cls q = k := ⟨_, rfl⟩
            rw [hkq] at HQ
            have HDR := Aside0.mk hdrop
            have HKQ := Aside0.mk hkq
            have HQR := Aside0.mk hqr
            have q0 := eq_true i0
            have q1 := eq_true i1
            clear hx0 hrd hq hdrop hkq hqr
            rcases HS.out with ⟨hst, hC, hR⟩ | ⟨pre, s, tail, hst, hC, hR, ht0, hti, hs0, hs1, hlast⟩
            · subst hst
              have HC := Aside0.mk hC
              have HRR := Aside0.mk hR
              clear hC hR HS
              by_cases hk0 : kq = 0
              · have e6 : (kq == 0) = true := beq_iff_eq.mpr hk0
                have HK0 := Aside0.mk hk0
                clear hk0
                go_wp2_with (first | (go_at_call 141; ((with_reducible refine (HQ.out _).mono ?_); rintro e w4 ⟨rfl, ⟨nd4, rfl⟩⟩)) | ((with_reducible refine gate_builtin (b := .append) (xs := #[.tmp 103, .tmp 105]) rfl ?_); at_builtin; refine Kd.R_append (Kd.int .i64) (w0 := w3) w3.heap.size rfl (.tmp 103) (.tmp 105) 28 2 (.int .i64 0) 8 rfl Tryd.underlying28 info2 rfl (by decide) (by omega) _ C q [.int .i64 q] (fun _ => True) (fun _ => False) rfl (by first | (go_simp; done) | (go_simp; rfl)) rfl (fun _ hk => hk.elim) (fun _ _ => trivial) (by (with_reducible repeat (first | apply Kd.R_alloc | apply Kd.R_drewN | apply Kd.R_drew)); exact HO.out) (by repeat (first | exact HW.out | apply below_alloc | apply pw_below_drewN | apply below_drew1)) (below_size (by repeat (first | exact HW.out | apply below_alloc | apply pw_below_drewN | apply below_drew1))) (by omega) ?_; intro v5 w5 ho5 hb5 hg5 hat5; obtain ⟨A6, c6, rfl⟩ := Kd.R_slice ho5; have HO5 := Aside0.mk ho5; have HB5 := Aside0.mk hb5; clear ho5 hb5 hg5 hat5))
                go_roundw
                case rel =>
                  refine ⟨i + 1, C ++ [q], (C.length : Int), kq, rfl, rfl, by go_num, by omega, by simp; omega, ⟨.inr ⟨C, q, [], rfl, rfl, ?_, fun z hz => (by cases hz), ?_, HQR.out.1, HQR.out.2, fun z hz => (by cases hz)⟩⟩, ⟨by have h := HO5.out; rw [List.length_append, List.length_singleton] at h; exact h⟩, HB5⟩
                  · rw [HRR.out, HDR.out, YtiabgmddnddeiaaDoorNrm.cmp0, if_pos (by rw [HKQ.out]; exact HK0.out)]
                  · have h := HOI.out
                    rw [← List.take_append_drop (i + 1) O] at h
                    exact YtiabgmddnddeiaaDoorNrm.inord_right h
                case measure => simp [intOf]; omega
              · have e6 : (kq == 0) = false := beq_eq_false_iff_ne.mpr hk0
                have HK0 := Aside0.mk hk0
                clear hk0
                go_wp2_with (first | (go_at_call 141; ((with_reducible refine (HQ.out _).mono ?_); rintro e w4 ⟨rfl, ⟨nd4, rfl⟩⟩)) | ((with_reducible refine gate_builtin (b := .append) (xs := #[.tmp 103, .tmp 105]) rfl ?_); at_builtin; refine Kd.R_append (Kd.int .i64) (w0 := w3) w3.heap.size rfl (.tmp 103) (.tmp 105) 28 2 (.int .i64 0) 8 rfl Tryd.underlying28 info2 rfl (by decide) (by omega) _ C q [.int .i64 q] (fun _ => True) (fun _ => False) rfl (by first | (go_simp; done) | (go_simp; rfl)) rfl (fun _ hk => hk.elim) (fun _ _ => trivial) (by (with_reducible repeat (first | apply Kd.R_alloc | apply Kd.R_drewN | apply Kd.R_drew)); exact HO.out) (by repeat (first | exact HW.out | apply below_alloc | apply pw_below_drewN | apply below_drew1)) (below_size (by repeat (first | exact HW.out | apply below_alloc | apply pw_below_drewN | apply below_drew1))) (by omega) ?_; intro v5 w5 ho5 hb5 hg5 hat5; obtain ⟨A6, c6, rfl⟩ := Kd.R_slice ho5; have HO5 := Aside0.mk ho5; have HB5 := Aside0.mk hb5; clear ho5 hb5 hg5 hat5))
                go_roundw
                case rel =>
                  refine ⟨i + 1, C ++ [q], -1, kq, rfl, rfl, by go_num, by omega, by simp; omega, ⟨.inl ⟨rfl, ?_, ?_⟩⟩, ⟨by have h := HO5.out; rw [List.length_append, List.length_singleton] at h; exact h⟩, HB5⟩
                  · intro z hz
                    rcases List.mem_append.1 hz with hz | hz
                    · exact HC.out z hz
                    · rw [List.mem_singleton.1 hz, HKQ.out]; exact HK0.out
                  · rw [HRR.out, HDR.out, YtiabgmddnddeiaaDoorNrm.cmp0, if_neg (by rw [HKQ.out]; exact HK0.out), List.append_assoc]; rfl
                case measure => simp [intOf]; omega
            · subst hst
              have hcl : C.length = pre.length + 1 + tail.length := by rw [hC]; simp only [List.length_append, List.length_cons]; omega
              obtain ⟨gc, cc, hv, -⟩ := Kd.R_form HO.out (by omega)
              have hgc : w3.heap.size ≤ gc := Kd.R_base HO.out gc (by rw [hv]; simp [Value.ownBlock])
              subst hv
              have HRW : Aside0 (Sor.Rw wr w3.heap.size (fun _ => True) gc cc C) := ⟨HO.out⟩
              have hccap := (Kd.R_reads' HO.out).2.1
              obtain ⟨k1, k2⟩ := HRW.out.at_ pre.length (by omega)
              have hgd : C.getD pre.length 0 = s := by rw [hC, List.getD_eq_getElem?_getD, List.getElem?_append_right (Nat.le_refl _), Nat.sub_self]; rfl
              rw [hgd] at k1
              have HPR := Aside0.mk (fun W => impl_normal.pair_ s q W hs0 hs1 HQR.out.1 HQR.out.2)
              obtain ⟨x, hx⟩ : ∃ x, YtiabgmddnddeiaaDoorNrm.pair s q = x := ⟨_, rfl⟩
              rw [hx] at HPR
              rw [HDR.out] at hR hti
              have hfl := YtiabgmddnddeiaaDoorNrm.free_last ht0 hti
              have HC := Aside0.mk hC
              have HRR := Aside0.mk hR
              have HT0 := Aside0.mk ht0
              have HTI := Aside0.mk hti
              have HLA := Aside0.mk hlast
              have HXX := Aside0.mk hx
              have HFL := Aside0.mk hfl
              have HSS := Aside0.mk (And.intro hs0 hs1)
              have hd : ∀ z u, tail = z :: u → ∃ z, tail.getLast? = some z ∧ z ∈ tail := fun z u h => by
                cases hg : tail.getLast? with
                | none => rw [List.getLast?_eq_none_iff] at hg; rw [hg] at h; cases h
                | some y => exact ⟨y, rfl, List.mem_of_getLast? hg⟩
              have HD := Aside0.mk hd
              have p0 : pre.length < C.length := by omega
              obtain ⟨pl, hpl⟩ : ∃ n, pre.length = n := ⟨_, rfl⟩
              have HPL := Aside0.mk hpl
              rw [hpl] at p0 k1 k2 hcl ⊢
              clear hC hR ht0 hti hlast hx hfl hs0 hs1 HS hgd hd hpl
              by_cases htl : tail = []
              · have e1 : ((C.length : Int) - 1 == (pl : Int)) = true := by rw [beq_iff_eq]; rw [htl] at hcl; simp only [List.length_nil] at hcl; omega
                have HTL := Aside0.mk htl
                clear htl hcl
                by_cases hx0 : 0 ≤ x
                · have e5 : decide (0 ≤ x) = true := decide_eq_true hx0
                  have HX0 := Aside0.mk hx0
                  clear hx0
                  go_wp2_with (first | (go_at_call 141; ((with_reducible refine (HQ.out _).mono ?_); rintro e w4 ⟨rfl, ⟨nd4, rfl⟩⟩)) | (go_at_call 172; ((with_reducible refine (HPR.out _).mono ?_); rintro e w6 ⟨rfl, ⟨nd6, rfl⟩⟩)))
                  go_roundw
                  case rel =>
                    have hpr : 0 ≤ YtiabgmddnddeiaaDoorNrm.pair s q := by rw [HXX.out]; exact HX0.out
                    have hrr := YtiabgmddnddeiaaDoorNrm.pair_range hpr
                    rw [HXX.out] at hpr hrr
                    have hput := (HRW.out.drewN (nd4 + nd6)).put pl x
                    refine ⟨i + 1, C.set pl x, (pl : Int), last, rfl, rfl, by go_num, by omega, by rw [List.length_set]; omega, ⟨.inr ⟨pre, x, tail, by rw [HPL.out], ?_, ?_, HT0.out, ?_, by omega, by omega, HLA.out⟩⟩, ⟨?_⟩, ⟨below_set (pw_below_drewN HW.out _) hgc⟩⟩
                    · rw [HC.out, ← HPL.out, List.set_append_right _ _ (Nat.le_refl _), Nat.sub_self]; rfl
                    · rw [HRR.out, YtiabgmddnddeiaaDoorNrm.cmp1, if_pos ⟨HFL.out.2 (.inl HTL.out), by rw [HXX.out]; exact hpr⟩, HXX.out]
                    · exact YtiabgmddnddeiaaDoorNrm.inord_drop HTI.out (HFL.out.2 (.inl HTL.out))
                    · unfold Sor.Rw at hput
                      rw [List.length_set] at hput
                      exact hput
                  case measure => simp [intOf]; omega
                · have e5 : decide (0 ≤ x) = false := decide_eq_false hx0
                  have HX0 := Aside0.mk hx0
                  clear hx0
                  by_cases hk0 : kq = 0
                  · have e6 : (kq == 0) = true := beq_iff_eq.mpr hk0
                    have HK0 := Aside0.mk hk0
                    clear hk0
                    go_wp2_with (first | (go_at_call 141; ((with_reducible refine (HQ.out _).mono ?_); rintro e w4 ⟨rfl, ⟨nd4, rfl⟩⟩)) | (go_at_call 172; ((with_reducible refine (HPR.out _).mono ?_); rintro e w6 ⟨rfl, ⟨nd6, rfl⟩⟩)) | ((with_reducible refine gate_builtin (b := .append) (xs := #[.tmp 103, .tmp 105]) rfl ?_); at_builtin; refine Kd.R_append (Kd.int .i64) (w0 := w3) w3.heap.size rfl (.tmp 103) (.tmp 105) 28 2 (.int .i64 0) 8 rfl Tryd.underlying28 info2 rfl (by decide) (by omega) _ C q [.int .i64 q] (fun _ => True) (fun _ => False) rfl (by first | (go_simp; done) | (go_simp; rfl)) rfl (fun _ hk => hk.elim) (fun _ _ => trivial) (by (with_reducible repeat (first | apply Kd.R_alloc | apply Kd.R_drewN | apply Kd.R_drew)); exact HO.out) (by repeat (first | exact HW.out | apply below_alloc | apply pw_below_drewN | apply below_drew1)) (below_size (by repeat (first | exact HW.out | apply below_alloc | apply pw_below_drewN | apply below_drew1))) (by omega) ?_; intro v5 w5 ho5 hb5 hg5 hat5; obtain ⟨A6, c6, rfl⟩ := Kd.R_slice ho5; have HO5 := Aside0.mk ho5; have HB5 := Aside0.mk hb5; clear ho5 hb5 hg5 hat5))
                    go_roundw
                    case rel =>
                      refine ⟨i + 1, C ++ [q], (C.length : Int), kq, rfl, rfl, by go_num, by omega, by simp; omega, ⟨.inr ⟨C, q, [], rfl, rfl, ?_, fun z hz => (by cases hz), ?_, HQR.out.1, HQR.out.2, fun z hz => (by cases hz)⟩⟩, ⟨by have h := HO5.out; rw [List.length_append, List.length_singleton] at h; exact h⟩, HB5⟩
                      · rw [HRR.out, YtiabgmddnddeiaaDoorNrm.cmp1, if_neg (fun z => by have z2 := z.2; rw [HXX.out] at z2; have := HX0.out; omega), if_pos (by rw [HKQ.out]; exact HK0.out), HC.out]; simp
                      · have h := HTI.out
                        exact YtiabgmddnddeiaaDoorNrm.inord_tail (YtiabgmddnddeiaaDoorNrm.inord_right h)
                    case measure => simp [intOf]; omega
                  · have e6 : (kq == 0) = false := beq_eq_false_iff_ne.mpr hk0
                    have HK0 := Aside0.mk hk0
                    clear hk0
                    go_wp2_with (first | (go_at_call 141; ((with_reducible refine (HQ.out _).mono ?_); rintro e w4 ⟨rfl, ⟨nd4, rfl⟩⟩)) | (go_at_call 172; ((with_reducible refine (HPR.out _).mono ?_); rintro e w6 ⟨rfl, ⟨nd6, rfl⟩⟩)) | ((with_reducible refine gate_builtin (b := .append) (xs := #[.tmp 103, .tmp 105]) rfl ?_); at_builtin; refine Kd.R_append (Kd.int .i64) (w0 := w3) w3.heap.size rfl (.tmp 103) (.tmp 105) 28 2 (.int .i64 0) 8 rfl Tryd.underlying28 info2 rfl (by decide) (by omega) _ C q [.int .i64 q] (fun _ => True) (fun _ => False) rfl (by first | (go_simp; done) | (go_simp; rfl)) rfl (fun _ hk => hk.elim) (fun _ _ => trivial) (by (with_reducible repeat (first | apply Kd.R_alloc | apply Kd.R_drewN | apply Kd.R_drew)); exact HO.out) (by repeat (first | exact HW.out | apply below_alloc | apply pw_below_drewN | apply below_drew1)) (below_size (by repeat (first | exact HW.out | apply below_alloc | apply pw_below_drewN | apply below_drew1))) (by omega) ?_; intro v5 w5 ho5 hb5 hg5 hat5; obtain ⟨A6, c6, rfl⟩ := Kd.R_slice ho5; have HO5 := Aside0.mk ho5; have HB5 := Aside0.mk hb5; clear ho5 hb5 hg5 hat5))
                    go_roundw
                    case rel =>
                      refine ⟨i + 1, C ++ [q], (pl : Int), kq, rfl, rfl, by go_num, by omega, by simp; omega, ⟨.inr ⟨pre, s, tail ++ [q], by rw [HPL.out], ?_, ?_, ?_, ?_, HSS.out.1, HSS.out.2, ?_⟩⟩, ⟨by have h := HO5.out; rw [List.length_append, List.length_singleton] at h; exact h⟩, HB5⟩
                      · rw [HC.out]; simp
                      · rw [HRR.out, YtiabgmddnddeiaaDoorNrm.cmp1, if_neg (fun z => by have z2 := z.2; rw [HXX.out] at z2; have := HX0.out; omega), if_neg (by rw [HKQ.out]; exact HK0.out)]
                      · intro z hz
                        rcases List.mem_append.1 hz with hz | hz
                        · exact HT0.out z hz
                        · rw [List.mem_singleton.1 hz, HKQ.out]; exact HK0.out
                      · have h := HTI.out
                        simpa using h
                      · intro z hz
                        rw [List.getLast?_append] at hz
                        injection hz with hz
                        have hz2 : q = z := hz
                        rw [← hz2, HKQ.out]
                    case measure => simp [intOf]; omega
              · obtain ⟨z, hz, hzt⟩ : ∃ z, tail.getLast? = some z ∧ z ∈ tail := by
                  cases htt : tail with
                  | nil => exact absurd htt htl
                  | cons z u => rw [← htt]; exact HD.out z u htt
                have e1 : ((C.length : Int) - 1 == (pl : Int)) = false := by
                  rw [beq_eq_false_iff_ne]
                  have := List.length_pos_iff.2 htl
                  omega
                have hl := HLA.out z hz
                have e2 : (last != 0) = true := bne_iff_ne.mpr (by rw [hl]; exact HT0.out z hzt)
                have HZ := Aside0.mk hz
                have HLZ := Aside0.mk hl
                have HTL := Aside0.mk htl
                clear htl hcl hz hl hzt
                by_cases hlk : last < kq
                · have e3 : decide (last < kq) = true := decide_eq_true hlk
                  have HLK := Aside0.mk hlk
                  clear hlk
                  by_cases hx0 : 0 ≤ x
                  · have e5 : decide (0 ≤ x) = true := decide_eq_true hx0
                    have HX0 := Aside0.mk hx0
                    clear hx0
                    go_wp2_with (first | (go_at_call 141; ((with_reducible refine (HQ.out _).mono ?_); rintro e w4 ⟨rfl, ⟨nd4, rfl⟩⟩)) | (go_at_call 172; ((with_reducible refine (HPR.out _).mono ?_); rintro e w6 ⟨rfl, ⟨nd6, rfl⟩⟩)))
                    go_roundw
                    case rel =>
                      have hpr : 0 ≤ YtiabgmddnddeiaaDoorNrm.pair s q := by rw [HXX.out]; exact HX0.out
                      have hrr := YtiabgmddnddeiaaDoorNrm.pair_range hpr
                      rw [HXX.out] at hpr hrr
                      have hput := (HRW.out.drewN (nd4 + nd6)).put pl x
                      refine ⟨i + 1, C.set pl x, (pl : Int), last, rfl, rfl, by go_num, by omega, by rw [List.length_set]; omega, ⟨.inr ⟨pre, x, tail, by rw [HPL.out], ?_, ?_, HT0.out, ?_, by omega, by omega, HLA.out⟩⟩, ⟨?_⟩, ⟨below_set (pw_below_drewN HW.out _) hgc⟩⟩
                      · rw [HC.out, ← HPL.out, List.set_append_right _ _ (Nat.le_refl _), Nat.sub_self]; rfl
                      · rw [HRR.out, YtiabgmddnddeiaaDoorNrm.cmp1, if_pos ⟨HFL.out.2 (.inr ⟨z, HZ.out, by rw [← HLZ.out, HKQ.out]; exact HLK.out⟩), by rw [HXX.out]; exact hpr⟩, HXX.out]
                      · exact YtiabgmddnddeiaaDoorNrm.inord_drop HTI.out (HFL.out.2 (.inr ⟨z, HZ.out, by rw [← HLZ.out, HKQ.out]; exact HLK.out⟩))
                      · unfold Sor.Rw at hput
                        rw [List.length_set] at hput
                        exact hput
                    case measure => simp [intOf]; omega
                  · have e5 : decide (0 ≤ x) = false := decide_eq_false hx0
                    have HX0 := Aside0.mk hx0
                    clear hx0
                    by_cases hk0 : kq = 0
                    · have e6 : (kq == 0) = true := beq_iff_eq.mpr hk0
                      have HK0 := Aside0.mk hk0
                      clear hk0
                      go_wp2_with (first | (go_at_call 141; ((with_reducible refine (HQ.out _).mono ?_); rintro e w4 ⟨rfl, ⟨nd4, rfl⟩⟩)) | (go_at_call 172; ((with_reducible refine (HPR.out _).mono ?_); rintro e w6 ⟨rfl, ⟨nd6, rfl⟩⟩)) | ((with_reducible refine gate_builtin (b := .append) (xs := #[.tmp 103, .tmp 105]) rfl ?_); at_builtin; refine Kd.R_append (Kd.int .i64) (w0 := w3) w3.heap.size rfl (.tmp 103) (.tmp 105) 28 2 (.int .i64 0) 8 rfl Tryd.underlying28 info2 rfl (by decide) (by omega) _ C q [.int .i64 q] (fun _ => True) (fun _ => False) rfl (by first | (go_simp; done) | (go_simp; rfl)) rfl (fun _ hk => hk.elim) (fun _ _ => trivial) (by (with_reducible repeat (first | apply Kd.R_alloc | apply Kd.R_drewN | apply Kd.R_drew)); exact HO.out) (by repeat (first | exact HW.out | apply below_alloc | apply pw_below_drewN | apply below_drew1)) (below_size (by repeat (first | exact HW.out | apply below_alloc | apply pw_below_drewN | apply below_drew1))) (by omega) ?_; intro v5 w5 ho5 hb5 hg5 hat5; obtain ⟨A6, c6, rfl⟩ := Kd.R_slice ho5; have HO5 := Aside0.mk ho5; have HB5 := Aside0.mk hb5; clear ho5 hb5 hg5 hat5))
                      go_roundw
                      case rel =>
                        refine ⟨i + 1, C ++ [q], (C.length : Int), kq, rfl, rfl, by go_num, by omega, by simp; omega, ⟨.inr ⟨C, q, [], rfl, rfl, ?_, fun z hz => (by cases hz), ?_, HQR.out.1, HQR.out.2, fun z hz => (by cases hz)⟩⟩, ⟨by have h := HO5.out; rw [List.length_append, List.length_singleton] at h; exact h⟩, HB5⟩
                        · rw [HRR.out, YtiabgmddnddeiaaDoorNrm.cmp1, if_neg (fun z => by have z2 := z.2; rw [HXX.out] at z2; have := HX0.out; omega), if_pos (by rw [HKQ.out]; exact HK0.out), HC.out]; simp
                        · have h := HTI.out
                          exact YtiabgmddnddeiaaDoorNrm.inord_tail (YtiabgmddnddeiaaDoorNrm.inord_right h)
                      case measure => simp [intOf]; omega
                    · have e6 : (kq == 0) = false := beq_eq_false_iff_ne.mpr hk0
                      have HK0 := Aside0.mk hk0
                      clear hk0
                      go_wp2_with (first | (go_at_call 141; ((with_reducible refine (HQ.out _).mono ?_); rintro e w4 ⟨rfl, ⟨nd4, rfl⟩⟩)) | (go_at_call 172; ((with_reducible refine (HPR.out _).mono ?_); rintro e w6 ⟨rfl, ⟨nd6, rfl⟩⟩)) | ((with_reducible refine gate_builtin (b := .append) (xs := #[.tmp 103, .tmp 105]) rfl ?_); at_builtin; refine Kd.R_append (Kd.int .i64) (w0 := w3) w3.heap.size rfl (.tmp 103) (.tmp 105) 28 2 (.int .i64 0) 8 rfl Tryd.underlying28 info2 rfl (by decide) (by omega) _ C q [.int .i64 q] (fun _ => True) (fun _ => False) rfl (by first | (go_simp; done) | (go_simp; rfl)) rfl (fun _ hk => hk.elim) (fun _ _ => trivial) (by (with_reducible repeat (first | apply Kd.R_alloc | apply Kd.R_drewN | apply Kd.R_drew)); exact HO.out) (by repeat (first | exact HW.out | apply below_alloc | apply pw_below_drewN | apply below_drew1)) (below_size (by repeat (first | exact HW.out | apply below_alloc | apply pw_below_drewN | apply below_drew1))) (by omega) ?_; intro v5 w5 ho5 hb5 hg5 hat5; obtain ⟨A6, c6, rfl⟩ := Kd.R_slice ho5; have HO5 := Aside0.mk ho5; have HB5 := Aside0.mk hb5; clear ho5 hb5 hg5 hat5))
                      go_roundw
                      case rel =>
                        refine ⟨i + 1, C ++ [q], (pl : Int), kq, rfl, rfl, by go_num, by omega, by simp; omega, ⟨.inr ⟨pre, s, tail ++ [q], by rw [HPL.out], ?_, ?_, ?_, ?_, HSS.out.1, HSS.out.2, ?_⟩⟩, ⟨by have h := HO5.out; rw [List.length_append, List.length_singleton] at h; exact h⟩, HB5⟩
                        · rw [HC.out]; simp
                        · rw [HRR.out, YtiabgmddnddeiaaDoorNrm.cmp1, if_neg (fun z => by have z2 := z.2; rw [HXX.out] at z2; have := HX0.out; omega), if_neg (by rw [HKQ.out]; exact HK0.out)]
                        · intro z hz
                          rcases List.mem_append.1 hz with hz | hz
                          · exact HT0.out z hz
                          · rw [List.mem_singleton.1 hz, HKQ.out]; exact HK0.out
                        · have h := HTI.out
                          simpa using h
                        · intro z hz
                          rw [List.getLast?_append] at hz
                          injection hz with hz
                          have hz2 : q = z := hz
                          rw [← hz2, HKQ.out]
                      case measure => simp [intOf]; omega
                · have e3 : decide (last < kq) = false := decide_eq_false hlk
                  have HLK := Aside0.mk hlk
                  clear hlk
                  by_cases hk0 : kq = 0
                  · have e6 : (kq == 0) = true := beq_iff_eq.mpr hk0
                    have HK0 := Aside0.mk hk0
                    clear hk0
                    go_wp2_with (first | (go_at_call 141; ((with_reducible refine (HQ.out _).mono ?_); rintro e w4 ⟨rfl, ⟨nd4, rfl⟩⟩)) | ((with_reducible refine gate_builtin (b := .append) (xs := #[.tmp 103, .tmp 105]) rfl ?_); at_builtin; refine Kd.R_append (Kd.int .i64) (w0 := w3) w3.heap.size rfl (.tmp 103) (.tmp 105) 28 2 (.int .i64 0) 8 rfl Tryd.underlying28 info2 rfl (by decide) (by omega) _ C q [.int .i64 q] (fun _ => True) (fun _ => False) rfl (by first | (go_simp; done) | (go_simp; rfl)) rfl (fun _ hk => hk.elim) (fun _ _ => trivial) (by (with_reducible repeat (first | apply Kd.R_alloc | apply Kd.R_drewN | apply Kd.R_drew)); exact HO.out) (by repeat (first | exact HW.out | apply below_alloc | apply pw_below_drewN | apply below_drew1)) (below_size (by repeat (first | exact HW.out | apply below_alloc | apply pw_below_drewN | apply below_drew1))) (by omega) ?_; intro v5 w5 ho5 hb5 hg5 hat5; obtain ⟨A6, c6, rfl⟩ := Kd.R_slice ho5; have HO5 := Aside0.mk ho5; have HB5 := Aside0.mk hb5; clear ho5 hb5 hg5 hat5))
                    go_roundw
                    case rel =>
                      refine ⟨i + 1, C ++ [q], (C.length : Int), kq, rfl, rfl, by go_num, by omega, by simp; omega, ⟨.inr ⟨C, q, [], rfl, rfl, ?_, fun z hz => (by cases hz), ?_, HQR.out.1, HQR.out.2, fun z hz => (by cases hz)⟩⟩, ⟨by have h := HO5.out; rw [List.length_append, List.length_singleton] at h; exact h⟩, HB5⟩
                      · rw [HRR.out, YtiabgmddnddeiaaDoorNrm.cmp1, if_neg (fun y => by rcases HFL.out.1 y.1 with h | ⟨u, hu, hlt2⟩; exact HTL.out h; rw [HZ.out] at hu; injection hu with hu; rw [← hu, ← HLZ.out, HKQ.out] at hlt2; have := HLK.out; omega), if_pos (by rw [HKQ.out]; exact HK0.out), HC.out]; simp
                      · have h := HTI.out
                        exact YtiabgmddnddeiaaDoorNrm.inord_tail (YtiabgmddnddeiaaDoorNrm.inord_right h)
                    case measure => simp [intOf]; omega
                  · have e6 : (kq == 0) = false := beq_eq_false_iff_ne.mpr hk0
                    have HK0 := Aside0.mk hk0
                    clear hk0
                    go_wp2_with (first | (go_at_call 141; ((with_reducible refine (HQ.out _).mono ?_); rintro e w4 ⟨rfl, ⟨nd4, rfl⟩⟩)) | ((with_reducible refine gate_builtin (b := .append) (xs := #[.tmp 103, .tmp 105]) rfl ?_); at_builtin; refine Kd.R_append (Kd.int .i64) (w0 := w3) w3.heap.size rfl (.tmp 103) (.tmp 105) 28 2 (.int .i64 0) 8 rfl Tryd.underlying28 info2 rfl (by decide) (by omega) _ C q [.int .i64 q] (fun _ => True) (fun _ => False) rfl (by first | (go_simp; done) | (go_simp; rfl)) rfl (fun _ hk => hk.elim) (fun _ _ => trivial) (by (with_reducible repeat (first | apply Kd.R_alloc | apply Kd.R_drewN | apply Kd.R_drew)); exact HO.out) (by repeat (first | exact HW.out | apply below_alloc | apply pw_below_drewN | apply below_drew1)) (below_size (by repeat (first | exact HW.out | apply below_alloc | apply pw_below_drewN | apply below_drew1))) (by omega) ?_; intro v5 w5 ho5 hb5 hg5 hat5; obtain ⟨A6, c6, rfl⟩ := Kd.R_slice ho5; have HO5 := Aside0.mk ho5; have HB5 := Aside0.mk hb5; clear ho5 hb5 hg5 hat5))
                    go_roundw
                    case rel =>
                      refine ⟨i + 1, C ++ [q], (pl : Int), kq, rfl, rfl, by go_num, by omega, by simp; omega, ⟨.inr ⟨pre, s, tail ++ [q], by rw [HPL.out], ?_, ?_, ?_, ?_, HSS.out.1, HSS.out.2, ?_⟩⟩, ⟨by have h := HO5.out; rw [List.length_append, List.length_singleton] at h; exact h⟩, HB5⟩
                      · rw [HC.out]; simp
                      · rw [HRR.out, YtiabgmddnddeiaaDoorNrm.cmp1, if_neg (fun y => by rcases HFL.out.1 y.1 with h | ⟨u, hu, hlt2⟩; exact HTL.out h; rw [HZ.out] at hu; injection hu with hu; rw [← hu, ← HLZ.out, HKQ.out] at hlt2; have := HLK.out; omega), if_neg (by rw [HKQ.out]; exact HK0.out)]
                      · intro z hz
                        rcases List.mem_append.1 hz with hz | hz
                        · exact HT0.out z hz
                        · rw [List.mem_singleton.1 hz, HKQ.out]; exact HK0.out
                      · have h := HTI.out
                        simpa using h
                      · intro z hz
                        rw [List.getLast?_append] at hz
                        injection hz with hz
                        have hz2 : q = z := hz
                        rw [← hz2, HKQ.out]
                    case measure => simp [intOf]; omega
          · obtain rfl : i = O.length := by omega
            have hres : R = C := by
              rcases HS.out with ⟨hst, hC, hR⟩ | ⟨pre, s, tail, hst, hC, hR, ht0, hti, hs0, hs1, hlast⟩
              · rw [hR, List.drop_length]; exact List.append_nil _
              · rw [hR, List.drop_length, YtiabgmddnddeiaaDoorNrm.cmp1, hC]
            have HRES := Aside0.mk hres
            clear hres hlt
            go_wp2_with fail
            go_ret
            exact ⟨_, rfl, by rw [HRES.out]; exact Kd.R_lower HO.out HW3.out.size, below_step HW3.out HW.out⟩
def impl_normal.f (form : Int) (l : List Int) : Option (List Int) := if 1 ≤ form ∧ form ≤ 4 ∧ l.length ≤ 1000000000 ∧ (∀ p ∈ l, 0 ≤ p ∧ p ≤ 1114111) then some (YtiabgmddnddeiaaDoorNrm.nf form l) else none
theorem impl_normal.calls (form : Int) (A1 : Option Addr) (c1 : Nat) (l1 : List Int) (r : List Int) (w : World) (hr1 : Kd.C (Kd.int .i64) w A1 l1.length l1) (hc1 : l1.length ≤ c1) (h : impl_normal.f form l1 = some r) :
    Calls Tryd.prog 94 #[.int .i64 form, .slice A1 l1.length c1] w fun e w' => ∃ v0_ : Value, e = .returned (v0_) ∧ Kd.R (Kd.int .i64) 2 w' w.heap.size (fun _ => True) v0_ r ∧ Below w.heap.size w w' := by
  unfold impl_normal.f at h
  split at h
  · rename_i c
    obtain rfl := Option.some.inj h
    exact impl_normal.run form _ rfl A1 c1 l1 w c.1 c.2.1 hr1 hc1 c.2.2.1 c.2.2.2 _ rfl
  · cases h

end Go.Proofs.YtiabgmddnddeiaaDoor.QFnNormer
