/- The law FnExactCaselessSame: at every input the call answers true (this text: contracts on its way, by a program of this session's; no condition of ours). -/
import Derived.Test.YtdkoofdfkhogoaaDoorQFnExactCaselessSamex0
import Derived.Test.YtdkoofdfkhogoaaDoorQFnExactCaselessSamex12
namespace Go.Proofs.YtdkoofdfkhogoaaDoor.QFnExactCaselessSame
open Go.RowKit Go.Proofs.YtdkoofdfkhogoaaDoorW.PrintWords Go.Proofs.YtdkoofdfkhogoaaDoorW.PrintLast Go.Proofs.YtdkoofdfkhogoaaDoorW.PrintMore
attribute [local go_sem] max2_int min2_int max_two min_two max_three min_three max_four min_four   -- for this text's walks alone
set_option linter.unusedVariables false
set_option linter.unusedSimpArgs false

/-! ### impl_decompose: function 188 (by hand) -/
theorem impl_decompose.len (k : Bool) (p : Int) : (YtdkoofdfkhogoaaDoorNrm.dec k p).length ≤ 3 := by
  unfold YtdkoofdfkhogoaaDoorNrm.dec
  repeat' split
  all_goals simp
theorem impl_decompose.flen (k : Bool) (l : List Int) : (l.flatMap (YtdkoofdfkhogoaaDoorNrm.dec k)).length ≤ 3 * l.length := by
  induction l with
  | nil => simp
  | cons x t ih => rw [List.flatMap_cons, List.length_append, List.length_cons]; have := impl_decompose.len k x; omega
theorem impl_decompose.plen (k : Bool) (p : Int) : (YtdkoofdfkhogoaaDoorNrm.prt k p).length ≤ 2 := by
  unfold YtdkoofdfkhogoaaDoorNrm.prt
  repeat' split
  all_goals simp
theorem impl_decompose.prange {k : Bool} {p : Int} (h0 : 0 ≤ p) (h1 : p ≤ 1114111) : ∀ q ∈ YtdkoofdfkhogoaaDoorNrm.prt k p, 0 ≤ q ∧ q ≤ 1114111 := by
  have := @YtdkoofdfkhogoaaDoorNrm.letter_range (p % 512 / 8)
  intro q hq
  unfold YtdkoofdfkhogoaaDoorNrm.prt at hq
  repeat' split at hq
  all_goals simp only [List.mem_cons, List.mem_nil_iff, or_false] at hq
  all_goals omega
set_option maxHeartbeats 4000000 in
set_option maxRecDepth 100000 in
theorem impl_decompose.deep (n : Nat) : ∀ (p : Int) (k : Bool) (w : World), YtdkoofdfkhogoaaDoorNrm.rk p ≤ n → 0 ≤ p → p ≤ 1114111 →
    Calls Tryd.prog 188 #[.int .i64 p, .bool k] w fun e w' => ∃ v0_ : Value, e = .returned (v0_) ∧ Kd.R (Kd.int .i64) 2 w' w.heap.size (fun _ => True) v0_ (YtdkoofdfkhogoaaDoorNrm.dec k p) ∧ Below w.heap.size w w' := by
  induction n using Nat.strongRecOn with
  | _ n ih =>
  intro p k w hrk h0 h1
  by_cases hp : YtdkoofdfkhogoaaDoorNrm.prt k p = []
  · rw [YtdkoofdfkhogoaaDoorNrm.prt_nil hp]
    have HP := Aside0.mk hp
    have H0 := Aside0.mk (And.intro h0 h1)
    clear hp hrk ih
    go_enter Tryd.func188, Tryd.ntmps188
    go_wp2_with (go_at_call 226; ((with_reducible refine (impl_parts.calls p k _ H0.out.1 H0.out.2).mono ?_); rintro e w1 ⟨v1, rfl, hr, hn, hb⟩; obtain rfl := hn HP.out; have qe : ∀ W, (Go.binOp .eql 29 (.slice none 0 0) (.slice none 0 0)).run Tryd.prog W = .ok (.bool true) W := fun W => Lib.run_eql_slice_nil W _ _ none 0 0 0 0 Tryd.underlying29; have HB := Aside0.mk hb; clear hr hn hb))
    go_ret
    exact ⟨_, rfl, Kd.R_lower (litR _ _ _ (Nat.le_refl _) trivial [p] (by simp)) HB.out.size, below_alloc HB.out _⟩
  · have hdec := YtdkoofdfkhogoaaDoorNrm.prt_dec hp
    obtain ⟨L, hL⟩ : ∃ L, YtdkoofdfkhogoaaDoorNrm.prt k p = L := ⟨_, rfl⟩
    have hl2 := impl_decompose.plen k p
    have hrng := @impl_decompose.prange k p h0 h1
    have hrks := @YtdkoofdfkhogoaaDoorNrm.prt_rk k p
    rw [hL] at hp hdec hl2 hrng hrks
    rw [← hdec]
    have ihc : ∀ q ∈ L, ∀ W : World, Calls Tryd.prog 188 #[.int .i64 q, .bool k] W fun e w' => ∃ v0_ : Value, e = .returned (v0_) ∧ Kd.R (Kd.int .i64) 2 w' W.heap.size (fun _ => True) v0_ (YtdkoofdfkhogoaaDoorNrm.dec k q) ∧ Below W.heap.size W w' := by
      intro q hq W
      have := hrks q hq
      exact ih (YtdkoofdfkhogoaaDoorNrm.rk q) (by omega) q k W (Nat.le_refl _) (hrng q hq).1 (hrng q hq).2
    have HL := Aside0.mk hL
    have HP := Aside0.mk (List.length_pos_iff.2 hp)
    have H0 := Aside0.mk (And.intro h0 h1)
    have IH := Aside0.mk ihc
    clear hp hdec hrng hrks ih ihc hL hrk
    go_enter Tryd.func188, Tryd.ntmps188
    go_wp2_with (go_at_call 226; ((with_reducible refine (impl_parts.calls p k _ H0.out.1 H0.out.2).mono ?_); rintro e w1 ⟨v1, rfl, hr, hn, hb⟩; rw [HL.out] at hr; obtain ⟨ad, c1, rfl⟩ := Kd.R_slice1 hr HP.out; have qe : ∀ W, (Go.binOp .eql 29 (.slice (some ad) L.length c1) (.slice none 0 0)).run Tryd.prog W = .ok (.bool false) W := fun W => Lib.run_eql_slice_nil W _ _ (some ad) _ _ 0 0 Tryd.underlying29; have HR := Aside0.mk (Kd.R_reads' hr).2.2; have HB := Aside0.mk hb; clear hr hn hb))
    go_loopw [6, 18] (fun v6 v18 wr => ∃ i : Nat, i ≤ L.length ∧ v18 = .int .i64 i ∧ Aside0 (Kd.R (Kd.int .i64) 2 wr w1.heap.size (fun _ => True) v6 ((L.take i).flatMap (YtdkoofdfkhogoaaDoorNrm.dec k))) ∧ Aside0 (Below w1.heap.size w1 wr)) (fun _ v18 _ => L.length - (intOf v18).toNat)
    case atStart => exact ⟨0, Nat.zero_le _, rfl, ⟨Kd.R_nil _ _ _ _ _⟩, ⟨Below.refl _ _⟩⟩
    case round =>
      obtain ⟨i, hi, rfl, HO, HW⟩ := hrel
      by_cases hlt : i < L.length
      · have i0 : (0 : Int) ≤ (i : Int) := by omega
        have i1 : (i : Int) < (L.length : Int) := by omega
        obtain ⟨ad2, e1, hx0⟩ := Kd.at_int HR.out (i : Int) i0 i1
        cases e1
        have hx := (HW.out.cell (World.block_lt_of_cell? w1 _ hx0)).trans hx0
        rw [Int.toNat_natCast] at hx
        have hrd : rd L (i : Int) = L[i] := by simp [rd, List.getD, hlt]
        obtain ⟨q, hq⟩ : ∃ q, L[i] = q := ⟨_, rfl⟩
        rw [hrd, hq] at hx
        have ht : (L.take (i + 1)).flatMap (YtdkoofdfkhogoaaDoorNrm.dec k) = (L.take i).flatMap (YtdkoofdfkhogoaaDoorNrm.dec k) ++ YtdkoofdfkhogoaaDoorNrm.dec k q := by
          rw [List.take_succ_eq_append_getElem hlt, List.flatMap_append, hq]
          simp only [List.flatMap_cons, List.flatMap_nil, List.append_nil]
        have hfl := impl_decompose.flen k (L.take i)
        have hdl := impl_decompose.len k q
        rw [List.length_take] at hfl
        have HT := Aside0.mk ht
        have HFL := Aside0.mk (And.intro hfl hdl)
        have HC := Aside0.mk (IH.out q (by rw [← hq]; exact List.getElem_mem hlt))
        have q0 := eq_true i0
        have q1 := eq_true i1
        clear hx0 hrd hq ht hfl hdl
        go_wp2_with (first
          | (go_at_call 188; ((with_reducible refine (HC.out _).mono ?_); rintro e w3 ⟨v3, rfl, ho3, hb3⟩; obtain ⟨A3, c3, rfl⟩ := Kd.R_slice ho3; have H3 := Aside0.mk (Kd.R_reads' ho3).2.2; have HO3 := Aside0.mk (Kd.R_below HO.out hb3); have HW3 := Aside0.mk (below_step HW.out hb3); clear ho3 hb3))
          | ((with_reducible refine gate_builtin (b := .append) (xs := #[.tmp 22, .tmp 25]) rfl ?_); at_builtin; refine Kd.R_append_rows (Kd.int .i64) (w0 := w1) w1.heap.size rfl (.tmp 22) (.tmp 25) 29 2 (.int .i64 0) 8 rfl Tryd.underlying29 info2 rfl (by decide) (by omega) _ _ _ _ _ _ (fun _ => True) (fun _ => False) rfl rfl HO3.out H3.out (fun _ _ h => h) (fun _ h => h.elim) (fun _ _ => trivial) HW3.out HW3.out.size (by have := HFL.out; omega) ?_; intro v4 w4 ho4 hb4 hg4 hat4; rw [← HT.out] at ho4; have HO4 := Aside0.mk ho4; have HB4 := Aside0.mk hb4; clear ho4 hb4 hg4 hat4))
        go_roundw
        case rel => exact ⟨i + 1, by omega, by go_num, HO4, HB4⟩
        case measure => simp [intOf]; omega
      · obtain rfl : i = L.length := by omega
        have ho := HO.out
        rw [List.take_length] at ho
        have HO2 := Aside0.mk ho
        clear ho HO
        go_wp2
        go_ret
        exact ⟨_, rfl, Kd.R_lower HO2.out HB.out.size, below_step HB.out HW.out⟩
theorem impl_decompose.calls (p : Int) (k : Bool) (w : World) (h0 : 0 ≤ p) (h1 : p ≤ 1114111) :
    Calls Tryd.prog 188 #[.int .i64 p, .bool k] w fun e w' => ∃ v0_ : Value, e = .returned (v0_) ∧ Kd.R (Kd.int .i64) 2 w' w.heap.size (fun _ => True) v0_ (YtdkoofdfkhogoaaDoorNrm.dec k p) ∧ Below w.heap.size w w' :=
  impl_decompose.deep _ p k w (Nat.le_refl _) h0 h1

/-! ### impl_MarkClass: function 189 -/
def impl_MarkClass.f (a0 : Int) : Option (Int) := if a0 = 1584 then (some 9) else (if a0 = 1585 then (some 7) else ((impl_in.f a0 4096 4159).bind fun t327 => (if t327 = true then (if a0 < 4112 then (some 230) else (if a0 < 4128 then (some 220) else (if a0 < 4136 then (some 202) else (if a0 < 4144 then (some 1) else (if a0 < 4152 then (some 232) else (some 0)))))) else (some 0))))
set_option maxHeartbeats 8000000 in
set_option maxRecDepth 100000 in
theorem impl_MarkClass.calls (a0 : Int) (r : Int) (w : World) (h : impl_MarkClass.f a0 = some r) :
    Calls Tryd.prog 189 #[.int .i64 a0] w fun e w' => e = .returned (.int .i64 r) ∧ Drawn0 w w' := by
  have H : (if a0 = 1584 then (some 9) else (if a0 = 1585 then (some 7) else ((impl_in.f a0 4096 4159).bind fun t327 => (if t327 = true then (if a0 < 4112 then (some 230) else (if a0 < 4128 then (some 220) else (if a0 < 4136 then (some 202) else (if a0 < 4144 then (some 1) else (if a0 < 4152 then (some 232) else (some 0)))))) else (some 0))))) = some r := h
  clear h
  by_cases c2 : a0 = 1584
  · rw [if_pos c2] at H
    have c2b0 : (a0 == 1584) = true := beq_iff_eq.mpr c2
    have c2b1 : (a0 != 1584) = false := bne_eq_false_iff_eq.mpr c2
    clear c2
    obtain rfl := Option.some.inj H
    go_enter Tryd.func189, Tryd.ntmps189
    go_wp2
    go_ret
    exact ⟨by first | rfl | (simp; done) | (simp [*]; done), by repeat (first | exact Drawn0.refl _ | apply Drawn0.step)⟩
  · rw [if_neg c2] at H
    have c2b0 : (a0 == 1584) = false := beq_eq_false_iff_ne.mpr c2
    have c2b1 : (a0 != 1584) = true := bne_iff_ne.mpr c2
    by_cases c3 : a0 = 1585
    · rw [if_pos c3] at H
      have c3b0 : (a0 == 1585) = true := beq_iff_eq.mpr c3
      have c3b1 : (a0 != 1585) = false := bne_eq_false_iff_eq.mpr c3
      clear c3
      obtain rfl := Option.some.inj H
      go_enter Tryd.func189, Tryd.ntmps189
      go_wp2
      go_ret
      exact ⟨by first | rfl | (simp; done) | (simp [*]; done), by repeat (first | exact Drawn0.refl _ | apply Drawn0.step)⟩
    · rw [if_neg c3] at H
      have c3b0 : (a0 == 1585) = false := beq_eq_false_iff_ne.mpr c3
      have c3b1 : (a0 != 1585) = true := bne_iff_ne.mpr c3
      replace H := Option.bind_eq_some_iff.mp H
      obtain ⟨t327, A40, H⟩ := H
      replace H : (if t327 = true then (if a0 < 4112 then (some 230) else (if a0 < 4128 then (some 220) else (if a0 < 4136 then (some 202) else (if a0 < 4144 then (some 1) else (if a0 < 4152 then (some 232) else (some 0)))))) else (some 0)) = some r := H
      have A4 := Aside0.mk A40
      clear A40
      by_cases c5 : t327 = true
      · subst c5
        have H1 : (if a0 < 4112 then (some 230) else (if a0 < 4128 then (some 220) else (if a0 < 4136 then (some 202) else (if a0 < 4144 then (some 1) else (if a0 < 4152 then (some 232) else (some 0)))))) = some r := by rw [if_pos rfl] at H; exact H
        clear H
        have H := H1
        clear H1
        by_cases c6 : a0 < 4112
        · rw [if_pos c6] at H
          have c6b0 : decide (a0 < 4112) = true := decide_eq_true c6
          clear c6
          obtain rfl := Option.some.inj H
          go_enter Tryd.func189, Tryd.ntmps189
          go_wp2_with (first | ((with_reducible refine gate_callee (f := 73) rfl ?_); refine goesL_ (some 11) rfl rfl Tryd.func73 (by kernel_rfl) rfl #[.int .i64 a0, .int .i64 4096, .int .i64 4159] rfl (by (try simp only [List.map_toArray, List.map_cons, List.map_nil]); first | done | rfl | (simp only [List.length_drop, List.length_take]; rfl)) ?_; (with_reducible refine (impl_in.calls a0 4096 4159 true _ A4.out).mono ?_); rintro e w' ⟨rfl, ⟨nd, rfl⟩⟩; refine ⟨_, rfl, ?_⟩))
          go_ret
          exact ⟨by first | rfl | (simp; done) | (simp [*]; done), by repeat (first | exact Drawn0.refl _ | apply Drawn0.step)⟩
        · rw [if_neg c6] at H
          have c6b0 : decide (a0 < 4112) = false := decide_eq_false c6
          clear c6
          by_cases c7 : a0 < 4128
          · rw [if_pos c7] at H
            have c7b0 : decide (a0 < 4128) = true := decide_eq_true c7
            clear c7
            obtain rfl := Option.some.inj H
            go_enter Tryd.func189, Tryd.ntmps189
            go_wp2_with (first | ((with_reducible refine gate_callee (f := 73) rfl ?_); refine goesL_ (some 11) rfl rfl Tryd.func73 (by kernel_rfl) rfl #[.int .i64 a0, .int .i64 4096, .int .i64 4159] rfl (by (try simp only [List.map_toArray, List.map_cons, List.map_nil]); first | done | rfl | (simp only [List.length_drop, List.length_take]; rfl)) ?_; (with_reducible refine (impl_in.calls a0 4096 4159 true _ A4.out).mono ?_); rintro e w' ⟨rfl, ⟨nd, rfl⟩⟩; refine ⟨_, rfl, ?_⟩))
            go_ret
            exact ⟨by first | rfl | (simp; done) | (simp [*]; done), by repeat (first | exact Drawn0.refl _ | apply Drawn0.step)⟩
          · rw [if_neg c7] at H
            have c7b0 : decide (a0 < 4128) = false := decide_eq_false c7
            clear c7
            by_cases c8 : a0 < 4136
            · rw [if_pos c8] at H
              have c8b0 : decide (a0 < 4136) = true := decide_eq_true c8
              clear c8
              obtain rfl := Option.some.inj H
              go_enter Tryd.func189, Tryd.ntmps189
              go_wp2_with (first | ((with_reducible refine gate_callee (f := 73) rfl ?_); refine goesL_ (some 11) rfl rfl Tryd.func73 (by kernel_rfl) rfl #[.int .i64 a0, .int .i64 4096, .int .i64 4159] rfl (by (try simp only [List.map_toArray, List.map_cons, List.map_nil]); first | done | rfl | (simp only [List.length_drop, List.length_take]; rfl)) ?_; (with_reducible refine (impl_in.calls a0 4096 4159 true _ A4.out).mono ?_); rintro e w' ⟨rfl, ⟨nd, rfl⟩⟩; refine ⟨_, rfl, ?_⟩))
              go_ret
              exact ⟨by first | rfl | (simp; done) | (simp [*]; done), by repeat (first | exact Drawn0.refl _ | apply Drawn0.step)⟩
            · rw [if_neg c8] at H
              have c8b0 : decide (a0 < 4136) = false := decide_eq_false c8
              clear c8
              by_cases c9 : a0 < 4144
              · rw [if_pos c9] at H
                have c9b0 : decide (a0 < 4144) = true := decide_eq_true c9
                clear c9
                obtain rfl := Option.some.inj H
                go_enter Tryd.func189, Tryd.ntmps189
                go_wp2_with (first | ((with_reducible refine gate_callee (f := 73) rfl ?_); refine goesL_ (some 11) rfl rfl Tryd.func73 (by kernel_rfl) rfl #[.int .i64 a0, .int .i64 4096, .int .i64 4159] rfl (by (try simp only [List.map_toArray, List.map_cons, List.map_nil]); first | done | rfl | (simp only [List.length_drop, List.length_take]; rfl)) ?_; (with_reducible refine (impl_in.calls a0 4096 4159 true _ A4.out).mono ?_); rintro e w' ⟨rfl, ⟨nd, rfl⟩⟩; refine ⟨_, rfl, ?_⟩))
                go_ret
                exact ⟨by first | rfl | (simp; done) | (simp [*]; done), by repeat (first | exact Drawn0.refl _ | apply Drawn0.step)⟩
              · rw [if_neg c9] at H
                have c9b0 : decide (a0 < 4144) = false := decide_eq_false c9
                clear c9
                by_cases c10 : a0 < 4152
                · rw [if_pos c10] at H
                  have c10b0 : decide (a0 < 4152) = true := decide_eq_true c10
                  clear c10
                  obtain rfl := Option.some.inj H
                  go_enter Tryd.func189, Tryd.ntmps189
                  go_wp2_with (first | ((with_reducible refine gate_callee (f := 73) rfl ?_); refine goesL_ (some 11) rfl rfl Tryd.func73 (by kernel_rfl) rfl #[.int .i64 a0, .int .i64 4096, .int .i64 4159] rfl (by (try simp only [List.map_toArray, List.map_cons, List.map_nil]); first | done | rfl | (simp only [List.length_drop, List.length_take]; rfl)) ?_; (with_reducible refine (impl_in.calls a0 4096 4159 true _ A4.out).mono ?_); rintro e w' ⟨rfl, ⟨nd, rfl⟩⟩; refine ⟨_, rfl, ?_⟩))
                  go_ret
                  exact ⟨by first | rfl | (simp; done) | (simp [*]; done), by repeat (first | exact Drawn0.refl _ | apply Drawn0.step)⟩
                · rw [if_neg c10] at H
                  have c10b0 : decide (a0 < 4152) = false := decide_eq_false c10
                  clear c10
                  obtain rfl := Option.some.inj H
                  go_enter Tryd.func189, Tryd.ntmps189
                  go_wp2_with (first | ((with_reducible refine gate_callee (f := 73) rfl ?_); refine goesL_ (some 11) rfl rfl Tryd.func73 (by kernel_rfl) rfl #[.int .i64 a0, .int .i64 4096, .int .i64 4159] rfl (by (try simp only [List.map_toArray, List.map_cons, List.map_nil]); first | done | rfl | (simp only [List.length_drop, List.length_take]; rfl)) ?_; (with_reducible refine (impl_in.calls a0 4096 4159 true _ A4.out).mono ?_); rintro e w' ⟨rfl, ⟨nd, rfl⟩⟩; refine ⟨_, rfl, ?_⟩))
                  go_ret
                  exact ⟨by first | rfl | (simp; done) | (simp [*]; done), by repeat (first | exact Drawn0.refl _ | apply Drawn0.step)⟩
      · replace c5 := Bool.eq_false_iff.mpr c5
        subst c5
        have H1 : (some 0) = some r := by rw [if_neg (show ¬ (false = true) by decide)] at H; exact H
        clear H
        have H := H1
        clear H1
        obtain rfl := Option.some.inj H
        go_enter Tryd.func189, Tryd.ntmps189
        go_wp2_with (first | ((with_reducible refine gate_callee (f := 73) rfl ?_); refine goesL_ (some 11) rfl rfl Tryd.func73 (by kernel_rfl) rfl #[.int .i64 a0, .int .i64 4096, .int .i64 4159] rfl (by (try simp only [List.map_toArray, List.map_cons, List.map_nil]); first | done | rfl | (simp only [List.length_drop, List.length_take]; rfl)) ?_; (with_reducible refine (impl_in.calls a0 4096 4159 false _ A4.out).mono ?_); rintro e w' ⟨rfl, ⟨nd, rfl⟩⟩; refine ⟨_, rfl, ?_⟩))
        go_ret
        exact ⟨by first | rfl | (simp; done) | (simp [*]; done), by repeat (first | exact Drawn0.refl _ | apply Drawn0.step)⟩

/-! ### impl_isSyllable: function 200 -/
def impl_isSyllable.f (a0 : Int) : Option (Bool) := (impl_in.f a0 12288 23459).bind fun t328 => (some t328)
set_option maxHeartbeats 8000000 in
set_option maxRecDepth 100000 in
theorem impl_isSyllable.calls (a0 : Int) (r : Bool) (w : World) (h : impl_isSyllable.f a0 = some r) :
    Calls Tryd.prog 200 #[.int .i64 a0] w fun e w' => e = .returned (.bool r) ∧ Drawn0 w w' := by
  have H : ((impl_in.f a0 12288 23459).bind fun t328 => (some t328)) = some r := h
  clear h
  replace H := Option.bind_eq_some_iff.mp H
  obtain ⟨t328, A20, H⟩ := H
  replace H : (some t328) = some r := H
  have A2 := Aside0.mk A20
  clear A20
  obtain rfl := Option.some.inj H
  go_enter Tryd.func200, Tryd.ntmps200
  go_wp2_with (first | ((with_reducible refine gate_callee (f := 73) rfl ?_); refine goesL_ (some 4) rfl rfl Tryd.func73 (by kernel_rfl) rfl #[.int .i64 a0, .int .i64 12288, .int .i64 23459] rfl (by (try simp only [List.map_toArray, List.map_cons, List.map_nil]); first | done | rfl | (simp only [List.length_drop, List.length_take]; rfl)) ?_; (with_reducible refine (impl_in.calls a0 12288 23459 t328 _ A2.out).mono ?_); rintro e w' ⟨rfl, ⟨nd, rfl⟩⟩; refine ⟨_, rfl, ?_⟩))
  go_ret
  exact ⟨by first | rfl | (simp; done) | (simp [*]; done), by repeat (first | exact Drawn0.refl _ | apply Drawn0.step)⟩

/-! ### impl_isOpen: function 199 -/
def impl_isOpen.f (a0 : Int) : Option (Bool) := (impl_isSyllable.f a0).bind fun t329 => (if t329 = true then (some ((Int.tmod (wrap64 (a0 - 12288)) 28) == 0)) else (some false))
set_option maxHeartbeats 8000000 in
set_option maxRecDepth 100000 in
theorem impl_isOpen.calls (a0 : Int) (r : Bool) (w : World) (h : impl_isOpen.f a0 = some r) :
    Calls Tryd.prog 199 #[.int .i64 a0] w fun e w' => e = .returned (.bool r) ∧ Drawn0 w w' := by
  have H : ((impl_isSyllable.f a0).bind fun t329 => (if t329 = true then (some ((Int.tmod (wrap64 (a0 - 12288)) 28) == 0)) else (some false))) = some r := h
  clear h
  replace H := Option.bind_eq_some_iff.mp H
  obtain ⟨t329, A20, H⟩ := H
  replace H : (if t329 = true then (some ((Int.tmod (wrap64 (a0 - 12288)) 28) == 0)) else (some false)) = some r := H
  have A2 := Aside0.mk A20
  clear A20
  by_cases c3 : t329 = true
  · subst c3
    have H1 : (some ((Int.tmod (wrap64 (a0 - 12288)) 28) == 0)) = some r := by rw [if_pos rfl] at H; exact H
    clear H
    have H := H1
    clear H1
    obtain rfl := Option.some.inj H
    go_enter Tryd.func199, Tryd.ntmps199
    go_wp2_with (first | ((with_reducible refine gate_callee (f := 200) rfl ?_); refine goesL_ (some 4) rfl rfl Tryd.func200 (by kernel_rfl) rfl #[.int .i64 a0] rfl (by (try simp only [List.map_toArray, List.map_cons, List.map_nil]); first | done | rfl | (simp only [List.length_drop, List.length_take]; rfl)) ?_; (with_reducible refine (impl_isSyllable.calls a0 true _ A2.out).mono ?_); rintro e w' ⟨rfl, ⟨nd, rfl⟩⟩; refine ⟨_, rfl, ?_⟩))
    go_ret
    exact ⟨by first | rfl | (simp; done) | (simp [*]; done), by repeat (first | exact Drawn0.refl _ | apply Drawn0.step)⟩
  · replace c3 := Bool.eq_false_iff.mpr c3
    subst c3
    have H1 : (some false) = some r := by rw [if_neg (show ¬ (false = true) by decide)] at H; exact H
    clear H
    have H := H1
    clear H1
    obtain rfl := Option.some.inj H
    go_enter Tryd.func199, Tryd.ntmps199
    go_wp2_with (first | ((with_reducible refine gate_callee (f := 200) rfl ?_); refine goesL_ (some 4) rfl rfl Tryd.func200 (by kernel_rfl) rfl #[.int .i64 a0] rfl (by (try simp only [List.map_toArray, List.map_cons, List.map_nil]); first | done | rfl | (simp only [List.length_drop, List.length_take]; rfl)) ?_; (with_reducible refine (impl_isSyllable.calls a0 false _ A2.out).mono ?_); rintro e w' ⟨rfl, ⟨nd, rfl⟩⟩; refine ⟨_, rfl, ?_⟩))
    go_ret
    exact ⟨by first | rfl | (simp; done) | (simp [*]; done), by repeat (first | exact Drawn0.refl _ | apply Drawn0.step)⟩

end Go.Proofs.YtdkoofdfkhogoaaDoor.QFnExactCaselessSame
