/- The law FnCodes: at every input the call answers true (this text: contracts on its way, by a program of this session's; no condition of ours). -/
import Derived.Test.YtnonijganceneaaDoorQFnCodesx0
import Derived.Test.YtnonijganceneaaDoorQFnCodesx1
import Derived.Test.YtnonijganceneaaDoorQFnCodesx2
import Derived.Test.YtnonijganceneaaDoorQFnCodesx3
namespace Go.Proofs.YtnonijganceneaaDoor.QFnCodes
open Go.RowKit Go.Proofs.YtnonijganceneaaDoorW.PrintWords Go.Proofs.YtnonijganceneaaDoorW.PrintLast Go.Proofs.YtnonijganceneaaDoorW.PrintMore
attribute [local go_sem] max2_int min2_int max_two min_two max_three min_three max_four min_four   -- for this text's walks alone
set_option linter.unusedVariables false
set_option linter.unusedSimpArgs false

/-! ### impl_unit: function 222 (by hand) -/
def impl_unit.f (a0 : Int) (a1 : ByteArray) : Option Int := if a1.size = 2 then some (YtnonijganceneaaDoorDec.unit2 (!(a0 == 2)) (bytesOf a1)) else if a1.size = 4 then some (YtnonijganceneaaDoorDec.unit4 (!(a0 == 4)) (bytesOf a1)) else none
theorem impl_unit.list2 {l : List Int} (h : l.length = 2) : l.take 2 = [l.getD 0 0, l.getD 1 0] := by
  obtain ⟨a, b, rfl⟩ : ∃ a b, l = [a, b] := by
    match l, h with
    | [a, b], _ => exact ⟨a, b, rfl⟩
  rfl
theorem impl_unit.list4 {l : List Int} (h : l.length = 4) : l.take 4 = [l.getD 0 0, l.getD 1 0, l.getD 2 0, l.getD 3 0] := by
  obtain ⟨a, b, c, d, rfl⟩ : ∃ a b c d, l = [a, b, c, d] := by
    match l, h with
    | [a, b, c, d], _ => exact ⟨a, b, c, d, rfl⟩
  rfl
theorem impl_unit.cells (a1 : ByteArray) (W : World) (hs : a1.size ≤ 9223372036854775807) : ∀ i, i < (bytesOf a1).length → (Lib.bytesWorld W 5 a1).cell? ((⟨W.heap.size, 0, none⟩ : Addr).add i) = some (.int .u8 ((bytesOf a1).getD i 0)) := by
  intro i hi
  rw [bytesOf_length] at hi
  obtain ⟨ad, e, hc⟩ := (bytes_reads W 5 a1 hs).2.2 (by omega)
  cases e
  exact hc i hi
theorem impl_unit.wf (a1 : ByteArray) : ∀ z ∈ bytesOf a1, (Lit.int .u8 z).wf = true := by
  intro z hz
  have := YtnonijganceneaaDoorPts.bytes_range a1 z hz
  simp [Lit.wf, IntKind.min, IntKind.max, IntKind.bits, IntKind.signed]; omega
set_option maxHeartbeats 4000000 in
set_option maxRecDepth 100000 in
theorem impl_unit.walkA (a0 : Int) (a1 : ByteArray) (w : World) (c2 : a1.size = 2) (f2 : a0 = 2) :
    Calls Tryd.prog 222 #[.int .i64 a0, .string a1] w fun e w' => e = .returned (.int .i64 (wrap64 (Lib.beZ ((bytesOf a1).take 2)))) ∧ Below w.heap.size w w' := by
  have hbl := bytesOf_length a1
  have HC := Aside0.mk (impl_unit.cells a1)
  have HW := Aside0.mk (impl_unit.wf a1)
  have HB := Aside0.mk (bytes_below (Below.refl w.heap.size w) (Nat.le_refl _) 5 a1)
  have b2 : ((a1.size : Int) == 2) = true := by rw [c2]; rfl
  have f2' : (a0 == 2) = true := by simpa using f2
  have C2 := Aside0.mk c2
  have BL := Aside0.mk hbl
  clear c2 hbl f2
  have kb := fun W => print_bytes (P := Tryd.prog) 9 22 5 Tryd.underlying9 Tryd.underlying22 Tryd.underlying5 a1 W
  go_enter Tryd.func222, Tryd.ntmps222
  go_wp2_with (first | (go_at_call 239; refine (Tryd.binary_BE_Uint16_z ⟨w.heap.size, 0, none⟩ a1.size _ (bytesOf a1) _ (by have := C2.out; omega) (by have := C2.out; have := BL.out; omega) (HC.out w (by have := C2.out; omega)) HW.out).mono ?_; rintro e w2 ⟨rfl, hb2⟩; have HB2 := Aside0.mk hb2; clear hb2))
  go_ret
  exact ⟨rfl, below_step HB.out HB2.out⟩
set_option maxHeartbeats 4000000 in
set_option maxRecDepth 100000 in
theorem impl_unit.walkB (a0 : Int) (a1 : ByteArray) (w : World) (c2 : a1.size = 2) (f2 : a0 ≠ 2) :
    Calls Tryd.prog 222 #[.int .i64 a0, .string a1] w fun e w' => e = .returned (.int .i64 (wrap64 (Lib.leZ ((bytesOf a1).take 2)))) ∧ Below w.heap.size w w' := by
  have hbl := bytesOf_length a1
  have HC := Aside0.mk (impl_unit.cells a1)
  have HW := Aside0.mk (impl_unit.wf a1)
  have HB := Aside0.mk (bytes_below (Below.refl w.heap.size w) (Nat.le_refl _) 5 a1)
  have b2 : ((a1.size : Int) == 2) = true := by rw [c2]; rfl
  have f2' : (a0 == 2) = false := by simpa using f2
  have C2 := Aside0.mk c2
  have BL := Aside0.mk hbl
  clear c2 hbl f2
  have kb := fun W => print_bytes (P := Tryd.prog) 9 22 5 Tryd.underlying9 Tryd.underlying22 Tryd.underlying5 a1 W
  go_enter Tryd.func222, Tryd.ntmps222
  go_wp2_with (first | (go_at_call 240; refine (Tryd.binary_LE_Uint16_z ⟨w.heap.size, 0, none⟩ a1.size _ (bytesOf a1) _ (by have := C2.out; omega) (by have := C2.out; have := BL.out; omega) (HC.out w (by have := C2.out; omega)) HW.out).mono ?_; rintro e w2 ⟨rfl, hb2⟩; have HB2 := Aside0.mk hb2; clear hb2))
  go_ret
  exact ⟨rfl, below_step HB.out HB2.out⟩
set_option maxHeartbeats 4000000 in
set_option maxRecDepth 100000 in
theorem impl_unit.walkC (a0 : Int) (a1 : ByteArray) (w : World) (c2 : a1.size = 4) (f2 : a0 = 4) :
    Calls Tryd.prog 222 #[.int .i64 a0, .string a1] w fun e w' => e = .returned (.int .i64 (wrap64 (Lib.beZ ((bytesOf a1).take 4)))) ∧ Below w.heap.size w w' := by
  have hbl := bytesOf_length a1
  have HC := Aside0.mk (impl_unit.cells a1)
  have HW := Aside0.mk (impl_unit.wf a1)
  have HB := Aside0.mk (bytes_below (Below.refl w.heap.size w) (Nat.le_refl _) 5 a1)
  have b2 : ((a1.size : Int) == 2) = false := by rw [c2]; rfl
  have f2' : (a0 == 4) = true := by simpa using f2
  have C2 := Aside0.mk c2
  have BL := Aside0.mk hbl
  clear c2 hbl f2
  have kb := fun W => print_bytes (P := Tryd.prog) 9 22 5 Tryd.underlying9 Tryd.underlying22 Tryd.underlying5 a1 W
  go_enter Tryd.func222, Tryd.ntmps222
  go_wp2_with (first | (go_at_call 241; refine (Tryd.binary_BE_Uint32_z ⟨w.heap.size, 0, none⟩ a1.size _ (bytesOf a1) _ (by have := C2.out; omega) (by have := C2.out; have := BL.out; omega) (HC.out w (by have := C2.out; omega)) HW.out).mono ?_; rintro e w2 ⟨rfl, hb2⟩; have HB2 := Aside0.mk hb2; clear hb2))
  go_ret
  exact ⟨rfl, below_step HB.out HB2.out⟩
set_option maxHeartbeats 4000000 in
set_option maxRecDepth 100000 in
theorem impl_unit.walkD (a0 : Int) (a1 : ByteArray) (w : World) (c2 : a1.size = 4) (f2 : a0 ≠ 4) :
    Calls Tryd.prog 222 #[.int .i64 a0, .string a1] w fun e w' => e = .returned (.int .i64 (wrap64 (Lib.leZ ((bytesOf a1).take 4)))) ∧ Below w.heap.size w w' := by
  have hbl := bytesOf_length a1
  have HC := Aside0.mk (impl_unit.cells a1)
  have HW := Aside0.mk (impl_unit.wf a1)
  have HB := Aside0.mk (bytes_below (Below.refl w.heap.size w) (Nat.le_refl _) 5 a1)
  have b2 : ((a1.size : Int) == 2) = false := by rw [c2]; rfl
  have f2' : (a0 == 4) = false := by simpa using f2
  have C2 := Aside0.mk c2
  have BL := Aside0.mk hbl
  clear c2 hbl f2
  have kb := fun W => print_bytes (P := Tryd.prog) 9 22 5 Tryd.underlying9 Tryd.underlying22 Tryd.underlying5 a1 W
  go_enter Tryd.func222, Tryd.ntmps222
  go_wp2_with (first | (go_at_call 242; refine (Tryd.binary_LE_Uint32_z ⟨w.heap.size, 0, none⟩ a1.size _ (bytesOf a1) _ (by have := C2.out; omega) (by have := C2.out; have := BL.out; omega) (HC.out w (by have := C2.out; omega)) HW.out).mono ?_; rintro e w2 ⟨rfl, hb2⟩; have HB2 := Aside0.mk hb2; clear hb2))
  go_ret
  exact ⟨rfl, below_step HB.out HB2.out⟩
theorem impl_unit.calls (a0 : Int) (a1 : ByteArray) (r : Int) (w : World) (h : impl_unit.f a0 a1 = some r) :
    Calls Tryd.prog 222 #[.int .i64 a0, .string a1] w fun e w' => e = .returned (.int .i64 r) ∧ Below w.heap.size w w' := by
  unfold impl_unit.f at h
  have hbl := bytesOf_length a1
  have hrange := YtnonijganceneaaDoorPts.bytes_range a1
  obtain ⟨d0, e0, l0⟩ := YtnonijganceneaaDoorDec.getD_nat hrange 0
  obtain ⟨d1, e1, l1⟩ := YtnonijganceneaaDoorDec.getD_nat hrange 1
  obtain ⟨d2, e2, l2⟩ := YtnonijganceneaaDoorDec.getD_nat hrange 2
  obtain ⟨d3, e3, l3⟩ := YtnonijganceneaaDoorDec.getD_nat hrange 3
  by_cases c2 : a1.size = 2
  · rw [if_pos c2] at h
    have h := Option.some.inj h
    have hl := impl_unit.list2 (l := bytesOf a1) (by omega)
    by_cases f2 : a0 = 2
    · have e : wrap64 (Lib.beZ ((bytesOf a1).take 2)) = r := by
        rw [hl, ← h]
        unfold YtnonijganceneaaDoorDec.unit2
        rw [f2, e0, e1]
        simp only [Lib.beZ, Lib.beFromZ, beq_self_eq_true, Bool.not_true, Bool.false_eq_true, if_false]
        unfold wrap64; omega
      rw [← e]
      exact impl_unit.walkA a0 a1 w c2 f2
    · have e : wrap64 (Lib.leZ ((bytesOf a1).take 2)) = r := by
        rw [hl, ← h]
        unfold YtnonijganceneaaDoorDec.unit2
        rw [show (a0 == 2) = false by simpa using f2, e0, e1]
        simp only [Lib.leZ, Bool.not_false, if_true]
        unfold wrap64; omega
      rw [← e]
      exact impl_unit.walkB a0 a1 w c2 f2
  · rw [if_neg c2] at h
    by_cases c4 : a1.size = 4
    · rw [if_pos c4] at h
      have h := Option.some.inj h
      have hl := impl_unit.list4 (l := bytesOf a1) (by omega)
      by_cases f4 : a0 = 4
      · have e : wrap64 (Lib.beZ ((bytesOf a1).take 4)) = r := by
          rw [hl, ← h]
          unfold YtnonijganceneaaDoorDec.unit4
          rw [f4, e0, e1, e2, e3]
          simp only [Lib.beZ, Lib.beFromZ, beq_self_eq_true, Bool.not_true, Bool.false_eq_true, if_false]
          unfold wrap64; omega
        rw [← e]
        exact impl_unit.walkC a0 a1 w c4 f4
      · have e : wrap64 (Lib.leZ ((bytesOf a1).take 4)) = r := by
          rw [hl, ← h]
          unfold YtnonijganceneaaDoorDec.unit4
          rw [show (a0 == 4) = false by simpa using f4, e0, e1, e2, e3]
          simp only [Lib.leZ, Bool.not_false, if_true]
          unfold wrap64; omega
        rw [← e]
        exact impl_unit.walkD a0 a1 w c4 f4
    · rw [if_neg c4] at h; cases h

/-! ### impl_piece: function 185 -/
def impl_piece.f (a0 : Int) (a1 : ByteArray) : Option (Int × Int × Bool × Bool) := if a0 = 1 then ((W_impl_could.f a1).bind fun bt154 => (if bt154.1 = 0 then (some (65533, 1, true, false)) else (if bt154.2 = true then (if 0 ≤ bt154.1 then (if bt154.1 ≤ (a1.size : Int) then ((W_impl_read.f (a1.extract 0 (bt154.1 : Int).toNat)).bind fun t156 => (if 0 < (t156.length : Int) then (some ((rd_T159 t156 0).f0, bt154.1, false, false)) else (none))) else (none)) else (none)) else (some (65533, bt154.1, true, (bt154.1 == (a1.size : Int))))))) else (if a0 ≤ 3 then (if (a1.size : Int) < 2 then (some (65533, (a1.size : Int), true, true)) else (if 0 ≤ 2 then (if 2 ≤ (a1.size : Int) then ((impl_unit.f a0 (a1.extract 0 2)).bind fun t160 => ((impl_in.f t160 55296 57343).bind fun t161 => (if t161 = true then (if t160 ≥ 56320 then (some (65533, 2, true, false)) else (if (a1.size : Int) < 4 then (some (65533, 2, true, true)) else (if 2 ≤ 4 then (if 4 ≤ (a1.size : Int) then ((impl_unit.f a0 (a1.extract 2 4)).bind fun t162 => ((impl_in.f t162 56320 57343).bind fun t163 => (if t163 = true then (some (wrap64 ((wrap64 ((wrap64 (65536 + (wrap64 ((wrap64 (t160 - 55296)) * 1024)))) + t162)) - 56320), 4, false, false)) else (some (65533, 2, true, false))))) else (none)) else (none)))) else (some (t160, 2, false, false))))) else (none)) else (none))) else (if (a1.size : Int) < 4 then (some (65533, (a1.size : Int), true, true)) else (if 0 ≤ 4 then (if 4 ≤ (a1.size : Int) then ((impl_unit.f a0 (a1.extract 0 4)).bind fun t164 => ((impl_isPoint.f t164).bind fun t165 => (if t165 = true then (some (t164, 4, false, false)) else (some (65533, 4, true, false))))) else (none)) else (none))))
set_option maxHeartbeats 8000000 in
set_option maxRecDepth 100000 in
theorem impl_piece.calls (a0 : Int) (a1 : ByteArray) (r1 : Int) (r2 : Int) (r3 : Bool) (r4 : Bool) (w : World) (h : impl_piece.f a0 a1 = some (r1, r2, r3, r4)) (hG : GT w) :
    Calls Tryd.prog 185 #[.int .i64 a0, .string a1] w fun e w' => e = .returned (.tuple #[.int .i64 r1, .int .i64 r2, .bool r3, .bool r4]) ∧ Below w.heap.size w w' := by
  have HG := Aside0.mk hG
  clear hG
  have HB := Aside0.mk (Below.refl w.heap.size w)
  have H : (if a0 = 1 then ((W_impl_could.f a1).bind fun bt154 => (if bt154.1 = 0 then (some (65533, 1, true, false)) else (if bt154.2 = true then (if 0 ≤ bt154.1 then (if bt154.1 ≤ (a1.size : Int) then ((W_impl_read.f (a1.extract 0 (bt154.1 : Int).toNat)).bind fun t156 => (if 0 < (t156.length : Int) then (some ((rd_T159 t156 0).f0, bt154.1, false, false)) else (none))) else (none)) else (none)) else (some (65533, bt154.1, true, (bt154.1 == (a1.size : Int))))))) else (if a0 ≤ 3 then (if (a1.size : Int) < 2 then (some (65533, (a1.size : Int), true, true)) else (if 0 ≤ 2 then (if 2 ≤ (a1.size : Int) then ((impl_unit.f a0 (a1.extract 0 2)).bind fun t160 => ((impl_in.f t160 55296 57343).bind fun t161 => (if t161 = true then (if t160 ≥ 56320 then (some (65533, 2, true, false)) else (if (a1.size : Int) < 4 then (some (65533, 2, true, true)) else (if 2 ≤ 4 then (if 4 ≤ (a1.size : Int) then ((impl_unit.f a0 (a1.extract 2 4)).bind fun t162 => ((impl_in.f t162 56320 57343).bind fun t163 => (if t163 = true then (some (wrap64 ((wrap64 ((wrap64 (65536 + (wrap64 ((wrap64 (t160 - 55296)) * 1024)))) + t162)) - 56320), 4, false, false)) else (some (65533, 2, true, false))))) else (none)) else (none)))) else (some (t160, 2, false, false))))) else (none)) else (none))) else (if (a1.size : Int) < 4 then (some (65533, (a1.size : Int), true, true)) else (if 0 ≤ 4 then (if 4 ≤ (a1.size : Int) then ((impl_unit.f a0 (a1.extract 0 4)).bind fun t164 => ((impl_isPoint.f t164).bind fun t165 => (if t165 = true then (some (t164, 4, false, false)) else (some (65533, 4, true, false))))) else (none)) else (none))))) = some (r1, r2, r3, r4) := h
  clear h
  by_cases c3 : a0 = 1
  · rw [if_pos c3] at H
    have c3b0 : (a0 == 1) = true := beq_iff_eq.mpr c3
    have c3b1 : (a0 != 1) = false := bne_eq_false_iff_eq.mpr c3
    clear c3
    replace H := Option.bind_eq_some_iff.mp H
    obtain ⟨⟨t154, t155⟩, A40, H⟩ := H
    replace H : (if t154 = 0 then (some (65533, 1, true, false)) else (if t155 = true then (if 0 ≤ t154 then (if t154 ≤ (a1.size : Int) then ((W_impl_read.f (a1.extract 0 (t154 : Int).toNat)).bind fun t156 => (if 0 < (t156.length : Int) then (some ((rd_T159 t156 0).f0, t154, false, false)) else (none))) else (none)) else (none)) else (some (65533, t154, true, (t154 == (a1.size : Int)))))) = some (r1, r2, r3, r4) := H
    have A4 := Aside0.mk A40
    clear A40
    by_cases c5 : t154 = 0
    · rw [if_pos c5] at H
      have c5b0 : (t154 == 0) = true := beq_iff_eq.mpr c5
      have c5b1 : (t154 != 0) = false := bne_eq_false_iff_eq.mpr c5
      clear c5
      simp only [Option.some.injEq, Prod.mk.injEq] at H
      obtain ⟨rfl, rfl, rfl, rfl⟩ := H
      go_enter Tryd.func185, Tryd.ntmps185
      go_wp2_with (first | ((with_reducible refine gate_callee (f := 221) rfl ?_); refine goesL_ (some 18) rfl rfl Tryd.func221 (by kernel_rfl) rfl #[.string a1] rfl (by (try simp only [List.map_toArray, List.map_cons, List.map_nil]); first | done | rfl | (simp only [List.length_drop, List.length_take]; rfl)) ?_; (with_reducible refine (W_impl_could.calls a1 t154 t155 _ A4.out).mono ?_); rintro e w' ⟨rfl, ⟨nd, rfl⟩⟩; refine ⟨_, rfl, ?_⟩))
      refine bodyPost_ret (results_list (rs := [.tmp 4, .tmp 5, .tmp 6, .tmp 7]) rfl (by simp) (.tmp (.tmp (.tmp (.tmp .nil))))) rfl ?_
      exact ⟨by first | rfl | (simp [errW_none, errW_some] <;> rfl) | (simp [*, errW_none, errW_some] <;> rfl), by repeat (first | (with_reducible first | exact HB.out | apply below_alloc | apply pw_below_drewN | apply below_drew1) | exact HB.out)⟩
    · rw [if_neg c5] at H
      have c5b0 : (t154 == 0) = false := beq_eq_false_iff_ne.mpr c5
      have c5b1 : (t154 != 0) = true := bne_iff_ne.mpr c5
      by_cases c6 : t155 = true
      · subst c6
        have H1 : (if 0 ≤ t154 then (if t154 ≤ (a1.size : Int) then ((W_impl_read.f (a1.extract 0 (t154 : Int).toNat)).bind fun t156 => (if 0 < (t156.length : Int) then (some ((rd_T159 t156 0).f0, t154, false, false)) else (none))) else (none)) else (none)) = some (r1, r2, r3, r4) := by rw [if_pos rfl] at H; exact H
        clear H
        have H := H1
        clear H1
        by_cases c7 : 0 ≤ t154
        · rw [if_pos c7] at H
          have c7b0 := eq_true c7
          have c7b1 : decide (0 ≤ t154) = true := decide_eq_true c7
          clear c7
          by_cases c8 : t154 ≤ (a1.size : Int)
          · rw [if_pos c8] at H
            have c8b0 := eq_true c8
            have c8b1 : decide (t154 ≤ (a1.size : Int)) = true := decide_eq_true c8
            clear c8
            replace H := Option.bind_eq_some_iff.mp H
            obtain ⟨t156, A90, H⟩ := H
            replace H : (if 0 < (t156.length : Int) then (some ((rd_T159 t156 0).f0, t154, false, false)) else (none)) = some (r1, r2, r3, r4) := H
            have A9 := Aside0.mk A90
            clear A90
            by_cases c10 : 0 < (t156.length : Int)
            · rw [if_pos c10] at H
              have c10b0 : decide (0 < (t156.length : Int)) = true := decide_eq_true c10
              have c10b1 : decide (0 < t156.length) = true := decide_eq_true (by omega)
              clear c10
              simp only [Option.some.injEq, Prod.mk.injEq] at H
              obtain ⟨rfl, rfl, rfl, rfl⟩ := H
              go_enter Tryd.func185, Tryd.ntmps185
              go_wp2_with (first | ((with_reducible refine gate_callee (f := 221) rfl ?_); refine goesL_ (some 18) rfl rfl Tryd.func221 (by kernel_rfl) rfl #[.string a1] rfl (by (try simp only [List.map_toArray, List.map_cons, List.map_nil]); first | done | rfl | (simp only [List.length_drop, List.length_take]; rfl)) ?_; (with_reducible refine (W_impl_could.calls a1 t154 true _ A4.out).mono ?_); rintro e w' ⟨rfl, ⟨nd, rfl⟩⟩; refine ⟨_, rfl, ?_⟩) | ((with_reducible refine gate_callee (f := 164) rfl ?_); refine goesL_ (some 29) rfl rfl Tryd.func164 (by kernel_rfl) rfl #[.string (a1.extract 0 (t154 : Int).toNat)] rfl (by (try simp only [List.map_toArray, List.map_cons, List.map_nil]); first | done | rfl | (simp only [List.length_drop, List.length_take]; rfl)) ?_; (with_reducible refine (W_impl_read.calls (a1.extract 0 (t154 : Int).toNat) t156 _ A9.out (by first | exact HG.out | exact GT.below HG.out (by first | exact HB.out | (repeat (first | (with_reducible first | exact HB.out | apply below_alloc | apply pw_below_drewN | apply below_drew1 | refine below_set ?_ (Aside0.out (by assumption))) | exact HB.out))) | exact GT.below HG.out (HB.out))).mono ?_); rintro e w11 ⟨v157, rfl, ho0, hb⟩; refine ⟨_, rfl, ?_⟩; have n0_ := Aside0.mk (Kd.R_lower ho0 (below_size (by repeat (first | (with_reducible first | exact HB.out | apply below_alloc | apply pw_below_drewN | apply below_drew1) | exact HB.out)))); have n1_ := Aside0.mk (below_step (by repeat (first | (with_reducible first | exact HB.out | apply below_alloc | apply pw_below_drewN | apply below_drew1) | exact HB.out)) hb); clear HB; have HO158 := n0_; have HB := n1_; clear n0_ n1_; (try clear hb); (try clear hb2); (try clear hk); (try clear hi); (try clear ho0); obtain ⟨Ao12, co12, eo12⟩ := Kd.R_slice HO158.out; subst eo12; have p159 : 0 ≤ (0 : Int) := (by omega); have q159 : 0 < (t156.length : Int) := of_decide_eq_true (by first | (with_reducible assumption) | assumption); obtain ⟨ad159, e159, hx159_0, hx159_1, hx159_2, hx159_3⟩ := at_T159 (Kd.R_reads' HO158.out).2.2 0 p159 q159; cases e159; have qi159 : (0 < t156.length) = True := eq_true (by omega); (try rw [show ((0 : Int)).toNat = 0 from rfl] at hx159_0); (try rw [show 0 * 4 = 0 from rfl] at hx159_0); (try rw [Addr.add_zero'] at hx159_0); (try rw [show ((0 : Int)).toNat = 0 from rfl] at hx159_1); (try rw [show 0 * 4 = 0 from rfl] at hx159_1); (try rw [Addr.add_zero'] at hx159_1); (try rw [show ((0 : Int)).toNat = 0 from rfl] at hx159_2); (try rw [show 0 * 4 = 0 from rfl] at hx159_2); (try rw [Addr.add_zero'] at hx159_2); (try rw [show ((0 : Int)).toNat = 0 from rfl] at hx159_3); (try rw [show 0 * 4 = 0 from rfl] at hx159_3); (try rw [Addr.add_zero'] at hx159_3); replace p159 := eq_true p159; replace q159 := eq_true q159))
              refine bodyPost_ret (results_list (rs := [.tmp 4, .tmp 5, .tmp 6, .tmp 7]) rfl (by simp) (.tmp (.tmp (.tmp (.tmp .nil))))) rfl ?_
              exact ⟨by first | rfl | (simp [errW_none, errW_some] <;> rfl) | (simp [*, errW_none, errW_some] <;> rfl), by repeat (first | (with_reducible first | exact HB.out | apply below_alloc | apply pw_below_drewN | apply below_drew1) | exact HB.out)⟩
            · rw [if_neg c10] at H
              exact absurd H (by simp)
          · rw [if_neg c8] at H
            exact absurd H (by simp)
        · rw [if_neg c7] at H
          exact absurd H (by simp)
      · replace c6 := Bool.eq_false_iff.mpr c6
        subst c6
        have H1 : (some (65533, t154, true, (t154 == (a1.size : Int)))) = some (r1, r2, r3, r4) := by rw [if_neg (show ¬ (false = true) by decide)] at H; exact H
        clear H
        have H := H1
        clear H1
        simp only [Option.some.injEq, Prod.mk.injEq] at H
        obtain ⟨rfl, rfl, rfl, rfl⟩ := H
        go_enter Tryd.func185, Tryd.ntmps185
        go_wp2_with (first | ((with_reducible refine gate_callee (f := 221) rfl ?_); refine goesL_ (some 18) rfl rfl Tryd.func221 (by kernel_rfl) rfl #[.string a1] rfl (by (try simp only [List.map_toArray, List.map_cons, List.map_nil]); first | done | rfl | (simp only [List.length_drop, List.length_take]; rfl)) ?_; (with_reducible refine (W_impl_could.calls a1 t154 false _ A4.out).mono ?_); rintro e w' ⟨rfl, ⟨nd, rfl⟩⟩; refine ⟨_, rfl, ?_⟩))
        refine bodyPost_ret (results_list (rs := [.tmp 4, .tmp 5, .tmp 6, .tmp 7]) rfl (by simp) (.tmp (.tmp (.tmp (.tmp .nil))))) rfl ?_
        exact ⟨by first | rfl | (simp [errW_none, errW_some] <;> rfl) | (simp [*, errW_none, errW_some] <;> rfl), by repeat (first | (with_reducible first | exact HB.out | apply below_alloc | apply pw_below_drewN | apply below_drew1) | exact HB.out)⟩
  · rw [if_neg c3] at H
    have c3b0 : (a0 == 1) = false := beq_eq_false_iff_ne.mpr c3
    have c3b1 : (a0 != 1) = true := bne_iff_ne.mpr c3
    by_cases c13 : a0 ≤ 3
    · rw [if_pos c13] at H
      have c13b0 : decide (a0 ≤ 3) = true := decide_eq_true c13
      clear c13
      by_cases c14 : (a1.size : Int) < 2
      · rw [if_pos c14] at H
        have c14b0 : decide ((a1.size : Int) < 2) = true := decide_eq_true c14
        have c14b1 : decide (a1.size < 2) = true := decide_eq_true (by omega)
        clear c14
        simp only [Option.some.injEq, Prod.mk.injEq] at H
        obtain ⟨rfl, rfl, rfl, rfl⟩ := H
        go_enter Tryd.func185, Tryd.ntmps185
        go_wp2
        refine bodyPost_ret (results_list (rs := [.tmp 4, .tmp 5, .tmp 6, .tmp 7]) rfl (by simp) (.tmp (.tmp (.tmp (.tmp .nil))))) rfl ?_
        exact ⟨by first | rfl | (simp [errW_none, errW_some] <;> rfl) | (simp [*, errW_none, errW_some] <;> rfl), by repeat (first | (with_reducible first | exact HB.out | apply below_alloc | apply pw_below_drewN | apply below_drew1) | exact HB.out)⟩
      · rw [if_neg c14] at H
        have c14b0 : decide ((a1.size : Int) < 2) = false := decide_eq_false c14
        have c14b1 : decide (a1.size < 2) = false := decide_eq_false (by omega)
        clear c14
        by_cases c15 : 0 ≤ 2
        · rw [if_pos c15] at H
          have c15b0 := eq_true c15
          have c15b1 : decide (0 ≤ 2) = true := decide_eq_true c15
          clear c15
          by_cases c16 : 2 ≤ (a1.size : Int)
          · rw [if_pos c16] at H
            have c16b0 := eq_true c16
            have c16b1 : decide (2 ≤ (a1.size : Int)) = true := decide_eq_true c16
            clear c16
            replace H := Option.bind_eq_some_iff.mp H
            obtain ⟨t160, A170, H⟩ := H
            replace H : ((impl_in.f t160 55296 57343).bind fun t161 => (if t161 = true then (if t160 ≥ 56320 then (some (65533, 2, true, false)) else (if (a1.size : Int) < 4 then (some (65533, 2, true, true)) else (if 2 ≤ 4 then (if 4 ≤ (a1.size : Int) then ((impl_unit.f a0 (a1.extract 2 4)).bind fun t162 => ((impl_in.f t162 56320 57343).bind fun t163 => (if t163 = true then (some (wrap64 ((wrap64 ((wrap64 (65536 + (wrap64 ((wrap64 (t160 - 55296)) * 1024)))) + t162)) - 56320), 4, false, false)) else (some (65533, 2, true, false))))) else (none)) else (none)))) else (some (t160, 2, false, false)))) = some (r1, r2, r3, r4) := H
            have A17 := Aside0.mk A170
            clear A170
            replace H := Option.bind_eq_some_iff.mp H
            obtain ⟨t161, A180, H⟩ := H
            replace H : (if t161 = true then (if t160 ≥ 56320 then (some (65533, 2, true, false)) else (if (a1.size : Int) < 4 then (some (65533, 2, true, true)) else (if 2 ≤ 4 then (if 4 ≤ (a1.size : Int) then ((impl_unit.f a0 (a1.extract 2 4)).bind fun t162 => ((impl_in.f t162 56320 57343).bind fun t163 => (if t163 = true then (some (wrap64 ((wrap64 ((wrap64 (65536 + (wrap64 ((wrap64 (t160 - 55296)) * 1024)))) + t162)) - 56320), 4, false, false)) else (some (65533, 2, true, false))))) else (none)) else (none)))) else (some (t160, 2, false, false))) = some (r1, r2, r3, r4) := H
            have A18 := Aside0.mk A180
            clear A180
            by_cases c19 : t161 = true
            · subst c19
              have H1 : (if t160 ≥ 56320 then (some (65533, 2, true, false)) else (if (a1.size : Int) < 4 then (some (65533, 2, true, true)) else (if 2 ≤ 4 then (if 4 ≤ (a1.size : Int) then ((impl_unit.f a0 (a1.extract 2 4)).bind fun t162 => ((impl_in.f t162 56320 57343).bind fun t163 => (if t163 = true then (some (wrap64 ((wrap64 ((wrap64 (65536 + (wrap64 ((wrap64 (t160 - 55296)) * 1024)))) + t162)) - 56320), 4, false, false)) else (some (65533, 2, true, false))))) else (none)) else (none)))) = some (r1, r2, r3, r4) := by rw [if_pos rfl] at H; exact H
              clear H
              have H := H1
              clear H1
              by_cases c20 : t160 ≥ 56320
              · rw [if_pos c20] at H
                have c20b0 : decide (56320 ≤ t160) = true := decide_eq_true c20
                clear c20
                simp only [Option.some.injEq, Prod.mk.injEq] at H
                obtain ⟨rfl, rfl, rfl, rfl⟩ := H
                go_enter Tryd.func185, Tryd.ntmps185
                go_wp2_with (first | ((with_reducible refine gate_callee (f := 222) rfl ?_); refine goesL_ (some 50) rfl rfl Tryd.func222 (by kernel_rfl) rfl #[.int .i64 a0, .string (a1.extract 0 2)] rfl (by (try simp only [List.map_toArray, List.map_cons, List.map_nil]); first | done | rfl | (simp only [List.length_drop, List.length_take]; rfl)) ?_; (with_reducible refine (impl_unit.calls a0 (a1.extract 0 2) t160 _ A17.out).mono ?_); rintro e w21 ⟨rfl, hb⟩; refine ⟨_, rfl, ?_⟩; have n0_ := Aside0.mk (below_step (by repeat (first | (with_reducible first | exact HB.out | apply below_alloc | apply pw_below_drewN | apply below_drew1) | exact HB.out)) hb); clear HB; have HB := n0_; clear n0_; (try clear hb); (try clear hb2); (try clear hk); (try clear hi)) | ((with_reducible refine gate_callee (f := 76) rfl ?_); refine goesL_ (some 52) rfl rfl Tryd.func76 (by kernel_rfl) rfl #[.int .i64 t160, .int .i64 55296, .int .i64 57343] rfl (by (try simp only [List.map_toArray, List.map_cons, List.map_nil]); first | done | rfl | (simp only [List.length_drop, List.length_take]; rfl)) ?_; (with_reducible refine (impl_in.calls t160 55296 57343 true _ A18.out).mono ?_); rintro e w' ⟨rfl, ⟨nd, rfl⟩⟩; refine ⟨_, rfl, ?_⟩))
                refine bodyPost_ret (results_list (rs := [.tmp 4, .tmp 5, .tmp 6, .tmp 7]) rfl (by simp) (.tmp (.tmp (.tmp (.tmp .nil))))) rfl ?_
                exact ⟨by first | rfl | (simp [errW_none, errW_some] <;> rfl) | (simp [*, errW_none, errW_some] <;> rfl), by repeat (first | (with_reducible first | exact HB.out | apply below_alloc | apply pw_below_drewN | apply below_drew1) | exact HB.out)⟩
              · rw [if_neg c20] at H
                have c20b0 : decide (56320 ≤ t160) = false := decide_eq_false c20
                clear c20
                by_cases c22 : (a1.size : Int) < 4
                · rw [if_pos c22] at H
                  have c22b0 : decide ((a1.size : Int) < 4) = true := decide_eq_true c22
                  have c22b1 : decide (a1.size < 4) = true := decide_eq_true (by omega)
                  clear c22
                  simp only [Option.some.injEq, Prod.mk.injEq] at H
                  obtain ⟨rfl, rfl, rfl, rfl⟩ := H
                  go_enter Tryd.func185, Tryd.ntmps185
                  go_wp2_with (first | ((with_reducible refine gate_callee (f := 222) rfl ?_); refine goesL_ (some 50) rfl rfl Tryd.func222 (by kernel_rfl) rfl #[.int .i64 a0, .string (a1.extract 0 2)] rfl (by (try simp only [List.map_toArray, List.map_cons, List.map_nil]); first | done | rfl | (simp only [List.length_drop, List.length_take]; rfl)) ?_; (with_reducible refine (impl_unit.calls a0 (a1.extract 0 2) t160 _ A17.out).mono ?_); rintro e w23 ⟨rfl, hb⟩; refine ⟨_, rfl, ?_⟩; have n0_ := Aside0.mk (below_step (by repeat (first | (with_reducible first | exact HB.out | apply below_alloc | apply pw_below_drewN | apply below_drew1) | exact HB.out)) hb); clear HB; have HB := n0_; clear n0_; (try clear hb); (try clear hb2); (try clear hk); (try clear hi)) | ((with_reducible refine gate_callee (f := 76) rfl ?_); refine goesL_ (some 52) rfl rfl Tryd.func76 (by kernel_rfl) rfl #[.int .i64 t160, .int .i64 55296, .int .i64 57343] rfl (by (try simp only [List.map_toArray, List.map_cons, List.map_nil]); first | done | rfl | (simp only [List.length_drop, List.length_take]; rfl)) ?_; (with_reducible refine (impl_in.calls t160 55296 57343 true _ A18.out).mono ?_); rintro e w' ⟨rfl, ⟨nd, rfl⟩⟩; refine ⟨_, rfl, ?_⟩))
                  refine bodyPost_ret (results_list (rs := [.tmp 4, .tmp 5, .tmp 6, .tmp 7]) rfl (by simp) (.tmp (.tmp (.tmp (.tmp .nil))))) rfl ?_
                  exact ⟨by first | rfl | (simp [errW_none, errW_some] <;> rfl) | (simp [*, errW_none, errW_some] <;> rfl), by repeat (first | (with_reducible first | exact HB.out | apply below_alloc | apply pw_below_drewN | apply below_drew1) | exact HB.out)⟩
                · rw [if_neg c22] at H
                  have c22b0 : decide ((a1.size : Int) < 4) = false := decide_eq_false c22
                  have c22b1 : decide (a1.size < 4) = false := decide_eq_false (by omega)
                  clear c22
                  by_cases c24 : 2 ≤ 4
                  · rw [if_pos c24] at H
                    have c24b0 := eq_true c24
                    have c24b1 : decide (2 ≤ 4) = true := decide_eq_true c24
                    clear c24
                    by_cases c25 : 4 ≤ (a1.size : Int)
                    · rw [if_pos c25] at H
                      have c25b0 := eq_true c25
                      have c25b1 : decide (4 ≤ (a1.size : Int)) = true := decide_eq_true c25
                      clear c25
                      replace H := Option.bind_eq_some_iff.mp H
                      obtain ⟨t162, A260, H⟩ := H
                      replace H : ((impl_in.f t162 56320 57343).bind fun t163 => (if t163 = true then (some (wrap64 ((wrap64 ((wrap64 (65536 + (wrap64 ((wrap64 (t160 - 55296)) * 1024)))) + t162)) - 56320), 4, false, false)) else (some (65533, 2, true, false)))) = some (r1, r2, r3, r4) := H
                      have A26 := Aside0.mk A260
                      clear A260
                      replace H := Option.bind_eq_some_iff.mp H
                      obtain ⟨t163, A270, H⟩ := H
                      replace H : (if t163 = true then (some (wrap64 ((wrap64 ((wrap64 (65536 + (wrap64 ((wrap64 (t160 - 55296)) * 1024)))) + t162)) - 56320), 4, false, false)) else (some (65533, 2, true, false))) = some (r1, r2, r3, r4) := H
                      have A27 := Aside0.mk A270
                      clear A270
                      by_cases c28 : t163 = true
                      · subst c28
                        have H1 : (some (wrap64 ((wrap64 ((wrap64 (65536 + (wrap64 ((wrap64 (t160 - 55296)) * 1024)))) + t162)) - 56320), 4, false, false)) = some (r1, r2, r3, r4) := by rw [if_pos rfl] at H; exact H
                        clear H
                        have H := H1
                        clear H1
                        simp only [Option.some.injEq, Prod.mk.injEq] at H
                        obtain ⟨rfl, rfl, rfl, rfl⟩ := H
                        go_enter Tryd.func185, Tryd.ntmps185
                        go_wp2_with (first | ((with_reducible refine gate_callee (f := 222) rfl ?_); refine goesL_ (some 50) rfl rfl Tryd.func222 (by kernel_rfl) rfl #[.int .i64 a0, .string (a1.extract 0 2)] rfl (by (try simp only [List.map_toArray, List.map_cons, List.map_nil]); first | done | rfl | (simp only [List.length_drop, List.length_take]; rfl)) ?_; (with_reducible refine (impl_unit.calls a0 (a1.extract 0 2) t160 _ A17.out).mono ?_); rintro e w29 ⟨rfl, hb⟩; refine ⟨_, rfl, ?_⟩; have n0_ := Aside0.mk (below_step (by repeat (first | (with_reducible first | exact HB.out | apply below_alloc | apply pw_below_drewN | apply below_drew1) | exact HB.out)) hb); clear HB; have HB := n0_; clear n0_; (try clear hb); (try clear hb2); (try clear hk); (try clear hi)) | ((with_reducible refine gate_callee (f := 76) rfl ?_); refine goesL_ (some 52) rfl rfl Tryd.func76 (by kernel_rfl) rfl #[.int .i64 t160, .int .i64 55296, .int .i64 57343] rfl (by (try simp only [List.map_toArray, List.map_cons, List.map_nil]); first | done | rfl | (simp only [List.length_drop, List.length_take]; rfl)) ?_; (with_reducible refine (impl_in.calls t160 55296 57343 true _ A18.out).mono ?_); rintro e w' ⟨rfl, ⟨nd, rfl⟩⟩; refine ⟨_, rfl, ?_⟩) | ((with_reducible refine gate_callee (f := 222) rfl ?_); refine goesL_ (some 63) rfl rfl Tryd.func222 (by kernel_rfl) rfl #[.int .i64 a0, .string (a1.extract 2 4)] rfl (by (try simp only [List.map_toArray, List.map_cons, List.map_nil]); first | done | rfl | (simp only [List.length_drop, List.length_take]; rfl)) ?_; (with_reducible refine (impl_unit.calls a0 (a1.extract 2 4) t162 _ A26.out).mono ?_); rintro e w30 ⟨rfl, hb⟩; refine ⟨_, rfl, ?_⟩; have n0_ := Aside0.mk (below_step (by repeat (first | (with_reducible first | exact HB.out | apply below_alloc | apply pw_below_drewN | apply below_drew1) | exact HB.out)) hb); clear HB; have HB := n0_; clear n0_; (try clear hb); (try clear hb2); (try clear hk); (try clear hi)) | ((with_reducible refine gate_callee (f := 76) rfl ?_); refine goesL_ (some 65) rfl rfl Tryd.func76 (by kernel_rfl) rfl #[.int .i64 t162, .int .i64 56320, .int .i64 57343] rfl (by (try simp only [List.map_toArray, List.map_cons, List.map_nil]); first | done | rfl | (simp only [List.length_drop, List.length_take]; rfl)) ?_; (with_reducible refine (impl_in.calls t162 56320 57343 true _ A27.out).mono ?_); rintro e w' ⟨rfl, ⟨nd, rfl⟩⟩; refine ⟨_, rfl, ?_⟩))
                        refine bodyPost_ret (results_list (rs := [.tmp 4, .tmp 5, .tmp 6, .tmp 7]) rfl (by simp) (.tmp (.tmp (.tmp (.tmp .nil))))) rfl ?_
                        exact ⟨by first | rfl | (simp [errW_none, errW_some] <;> rfl) | (simp [*, errW_none, errW_some] <;> rfl), by repeat (first | (with_reducible first | exact HB.out | apply below_alloc | apply pw_below_drewN | apply below_drew1) | exact HB.out)⟩
                      · replace c28 := Bool.eq_false_iff.mpr c28
                        subst c28
                        have H1 : (some (65533, 2, true, false)) = some (r1, r2, r3, r4) := by rw [if_neg (show ¬ (false = true) by decide)] at H; exact H
                        clear H
                        have H := H1
                        clear H1
                        simp only [Option.some.injEq, Prod.mk.injEq] at H
                        obtain ⟨rfl, rfl, rfl, rfl⟩ := H
                        go_enter Tryd.func185, Tryd.ntmps185
                        go_wp2_with (first | ((with_reducible refine gate_callee (f := 222) rfl ?_); refine goesL_ (some 50) rfl rfl Tryd.func222 (by kernel_rfl) rfl #[.int .i64 a0, .string (a1.extract 0 2)] rfl (by (try simp only [List.map_toArray, List.map_cons, List.map_nil]); first | done | rfl | (simp only [List.length_drop, List.length_take]; rfl)) ?_; (with_reducible refine (impl_unit.calls a0 (a1.extract 0 2) t160 _ A17.out).mono ?_); rintro e w31 ⟨rfl, hb⟩; refine ⟨_, rfl, ?_⟩; have n0_ := Aside0.mk (below_step (by repeat (first | (with_reducible first | exact HB.out | apply below_alloc | apply pw_below_drewN | apply below_drew1) | exact HB.out)) hb); clear HB; have HB := n0_; clear n0_; (try clear hb); (try clear hb2); (try clear hk); (try clear hi)) | ((with_reducible refine gate_callee (f := 76) rfl ?_); refine goesL_ (some 52) rfl rfl Tryd.func76 (by kernel_rfl) rfl #[.int .i64 t160, .int .i64 55296, .int .i64 57343] rfl (by (try simp only [List.map_toArray, List.map_cons, List.map_nil]); first | done | rfl | (simp only [List.length_drop, List.length_take]; rfl)) ?_; (with_reducible refine (impl_in.calls t160 55296 57343 true _ A18.out).mono ?_); rintro e w' ⟨rfl, ⟨nd, rfl⟩⟩; refine ⟨_, rfl, ?_⟩) | ((with_reducible refine gate_callee (f := 222) rfl ?_); refine goesL_ (some 63) rfl rfl Tryd.func222 (by kernel_rfl) rfl #[.int .i64 a0, .string (a1.extract 2 4)] rfl (by (try simp only [List.map_toArray, List.map_cons, List.map_nil]); first | done | rfl | (simp only [List.length_drop, List.length_take]; rfl)) ?_; (with_reducible refine (impl_unit.calls a0 (a1.extract 2 4) t162 _ A26.out).mono ?_); rintro e w32 ⟨rfl, hb⟩; refine ⟨_, rfl, ?_⟩; have n0_ := Aside0.mk (below_step (by repeat (first | (with_reducible first | exact HB.out | apply below_alloc | apply pw_below_drewN | apply below_drew1) | exact HB.out)) hb); clear HB; have HB := n0_; clear n0_; (try clear hb); (try clear hb2); (try clear hk); (try clear hi)) | ((with_reducible refine gate_callee (f := 76) rfl ?_); refine goesL_ (some 65) rfl rfl Tryd.func76 (by kernel_rfl) rfl #[.int .i64 t162, .int .i64 56320, .int .i64 57343] rfl (by (try simp only [List.map_toArray, List.map_cons, List.map_nil]); first | done | rfl | (simp only [List.length_drop, List.length_take]; rfl)) ?_; (with_reducible refine (impl_in.calls t162 56320 57343 false _ A27.out).mono ?_); rintro e w' ⟨rfl, ⟨nd, rfl⟩⟩; refine ⟨_, rfl, ?_⟩))
                        refine bodyPost_ret (results_list (rs := [.tmp 4, .tmp 5, .tmp 6, .tmp 7]) rfl (by simp) (.tmp (.tmp (.tmp (.tmp .nil))))) rfl ?_
                        exact ⟨by first | rfl | (simp [errW_none, errW_some] <;> rfl) | (simp [*, errW_none, errW_some] <;> rfl), by repeat (first | (with_reducible first | exact HB.out | apply below_alloc | apply pw_below_drewN | apply below_drew1) | exact HB.out)⟩
                    · rw [if_neg c25] at H
                      exact absurd H (by simp)
                  · rw [if_neg c24] at H
                    exact absurd H (by simp)
            · replace c19 := Bool.eq_false_iff.mpr c19
              subst c19
              have H1 : (some (t160, 2, false, false)) = some (r1, r2, r3, r4) := by rw [if_neg (show ¬ (false = true) by decide)] at H; exact H
              clear H
              have H := H1
              clear H1
              simp only [Option.some.injEq, Prod.mk.injEq] at H
              obtain ⟨rfl, rfl, rfl, rfl⟩ := H
              go_enter Tryd.func185, Tryd.ntmps185
              go_wp2_with (first | ((with_reducible refine gate_callee (f := 222) rfl ?_); refine goesL_ (some 50) rfl rfl Tryd.func222 (by kernel_rfl) rfl #[.int .i64 a0, .string (a1.extract 0 2)] rfl (by (try simp only [List.map_toArray, List.map_cons, List.map_nil]); first | done | rfl | (simp only [List.length_drop, List.length_take]; rfl)) ?_; (with_reducible refine (impl_unit.calls a0 (a1.extract 0 2) t160 _ A17.out).mono ?_); rintro e w33 ⟨rfl, hb⟩; refine ⟨_, rfl, ?_⟩; have n0_ := Aside0.mk (below_step (by repeat (first | (with_reducible first | exact HB.out | apply below_alloc | apply pw_below_drewN | apply below_drew1) | exact HB.out)) hb); clear HB; have HB := n0_; clear n0_; (try clear hb); (try clear hb2); (try clear hk); (try clear hi)) | ((with_reducible refine gate_callee (f := 76) rfl ?_); refine goesL_ (some 52) rfl rfl Tryd.func76 (by kernel_rfl) rfl #[.int .i64 t160, .int .i64 55296, .int .i64 57343] rfl (by (try simp only [List.map_toArray, List.map_cons, List.map_nil]); first | done | rfl | (simp only [List.length_drop, List.length_take]; rfl)) ?_; (with_reducible refine (impl_in.calls t160 55296 57343 false _ A18.out).mono ?_); rintro e w' ⟨rfl, ⟨nd, rfl⟩⟩; refine ⟨_, rfl, ?_⟩))
              refine bodyPost_ret (results_list (rs := [.tmp 4, .tmp 5, .tmp 6, .tmp 7]) rfl (by simp) (.tmp (.tmp (.tmp (.tmp .nil))))) rfl ?_
              exact ⟨by first | rfl | (simp [errW_none, errW_some] <;> rfl) | (simp [*, errW_none, errW_some] <;> rfl), by repeat (first | (with_reducible first | exact HB.out | apply below_alloc | apply pw_below_drewN | apply below_drew1) | exact HB.out)⟩
          · rw [if_neg c16] at H
            exact absurd H (by simp)
        · rw [if_neg c15] at H
          exact absurd H (by simp)
    · rw [if_neg c13] at H
      have c13b0 : decide (a0 ≤ 3) = false := decide_eq_false c13
      clear c13
      by_cases c34 : (a1.size : Int) < 4
      · rw [if_pos c34] at H
        have c34b0 : decide ((a1.size : Int) < 4) = true := decide_eq_true c34
        have c34b1 : decide (a1.size < 4) = true := decide_eq_true (by omega)
        clear c34
        simp only [Option.some.injEq, Prod.mk.injEq] at H
        obtain ⟨rfl, rfl, rfl, rfl⟩ := H
        go_enter Tryd.func185, Tryd.ntmps185
        go_wp2
        refine bodyPost_ret (results_list (rs := [.tmp 4, .tmp 5, .tmp 6, .tmp 7]) rfl (by simp) (.tmp (.tmp (.tmp (.tmp .nil))))) rfl ?_
        exact ⟨by first | rfl | (simp [errW_none, errW_some] <;> rfl) | (simp [*, errW_none, errW_some] <;> rfl), by repeat (first | (with_reducible first | exact HB.out | apply below_alloc | apply pw_below_drewN | apply below_drew1) | exact HB.out)⟩
      · rw [if_neg c34] at H
        have c34b0 : decide ((a1.size : Int) < 4) = false := decide_eq_false c34
        have c34b1 : decide (a1.size < 4) = false := decide_eq_false (by omega)
        clear c34
        by_cases c35 : 0 ≤ 4
        · rw [if_pos c35] at H
          have c35b0 := eq_true c35
          have c35b1 : decide (0 ≤ 4) = true := decide_eq_true c35
          clear c35
          by_cases c36 : 4 ≤ (a1.size : Int)
          · rw [if_pos c36] at H
            have c36b0 := eq_true c36
            have c36b1 : decide (4 ≤ (a1.size : Int)) = true := decide_eq_true c36
            clear c36
            replace H := Option.bind_eq_some_iff.mp H
            obtain ⟨t164, A370, H⟩ := H
            replace H : ((impl_isPoint.f t164).bind fun t165 => (if t165 = true then (some (t164, 4, false, false)) else (some (65533, 4, true, false)))) = some (r1, r2, r3, r4) := H
            have A37 := Aside0.mk A370
            clear A370
            replace H := Option.bind_eq_some_iff.mp H
            obtain ⟨t165, A380, H⟩ := H
            replace H : (if t165 = true then (some (t164, 4, false, false)) else (some (65533, 4, true, false))) = some (r1, r2, r3, r4) := H
            have A38 := Aside0.mk A380
            clear A380
            by_cases c39 : t165 = true
            · subst c39
              have H1 : (some (t164, 4, false, false)) = some (r1, r2, r3, r4) := by rw [if_pos rfl] at H; exact H
              clear H
              have H := H1
              clear H1
              simp only [Option.some.injEq, Prod.mk.injEq] at H
              obtain ⟨rfl, rfl, rfl, rfl⟩ := H
              go_enter Tryd.func185, Tryd.ntmps185
              go_wp2_with (first | ((with_reducible refine gate_callee (f := 222) rfl ?_); refine goesL_ (some 81) rfl rfl Tryd.func222 (by kernel_rfl) rfl #[.int .i64 a0, .string (a1.extract 0 4)] rfl (by (try simp only [List.map_toArray, List.map_cons, List.map_nil]); first | done | rfl | (simp only [List.length_drop, List.length_take]; rfl)) ?_; (with_reducible refine (impl_unit.calls a0 (a1.extract 0 4) t164 _ A37.out).mono ?_); rintro e w40 ⟨rfl, hb⟩; refine ⟨_, rfl, ?_⟩; have n0_ := Aside0.mk (below_step (by repeat (first | (with_reducible first | exact HB.out | apply below_alloc | apply pw_below_drewN | apply below_drew1) | exact HB.out)) hb); clear HB; have HB := n0_; clear n0_; (try clear hb); (try clear hb2); (try clear hk); (try clear hi)) | ((with_reducible refine gate_callee (f := 87) rfl ?_); refine goesL_ (some 83) rfl rfl Tryd.func87 (by kernel_rfl) rfl #[.int .i64 t164] rfl (by (try simp only [List.map_toArray, List.map_cons, List.map_nil]); first | done | rfl | (simp only [List.length_drop, List.length_take]; rfl)) ?_; (with_reducible refine (impl_isPoint.calls t164 true _ A38.out).mono ?_); rintro e w' ⟨rfl, ⟨nd, rfl⟩⟩; refine ⟨_, rfl, ?_⟩))
              refine bodyPost_ret (results_list (rs := [.tmp 4, .tmp 5, .tmp 6, .tmp 7]) rfl (by simp) (.tmp (.tmp (.tmp (.tmp .nil))))) rfl ?_
              exact ⟨by first | rfl | (simp [errW_none, errW_some] <;> rfl) | (simp [*, errW_none, errW_some] <;> rfl), by repeat (first | (with_reducible first | exact HB.out | apply below_alloc | apply pw_below_drewN | apply below_drew1) | exact HB.out)⟩
            · replace c39 := Bool.eq_false_iff.mpr c39
              subst c39
              have H1 : (some (65533, 4, true, false)) = some (r1, r2, r3, r4) := by rw [if_neg (show ¬ (false = true) by decide)] at H; exact H
              clear H
              have H := H1
              clear H1
              simp only [Option.some.injEq, Prod.mk.injEq] at H
              obtain ⟨rfl, rfl, rfl, rfl⟩ := H
              go_enter Tryd.func185, Tryd.ntmps185
              go_wp2_with (first | ((with_reducible refine gate_callee (f := 222) rfl ?_); refine goesL_ (some 81) rfl rfl Tryd.func222 (by kernel_rfl) rfl #[.int .i64 a0, .string (a1.extract 0 4)] rfl (by (try simp only [List.map_toArray, List.map_cons, List.map_nil]); first | done | rfl | (simp only [List.length_drop, List.length_take]; rfl)) ?_; (with_reducible refine (impl_unit.calls a0 (a1.extract 0 4) t164 _ A37.out).mono ?_); rintro e w41 ⟨rfl, hb⟩; refine ⟨_, rfl, ?_⟩; have n0_ := Aside0.mk (below_step (by repeat (first | (with_reducible first | exact HB.out | apply below_alloc | apply pw_below_drewN | apply below_drew1) | exact HB.out)) hb); clear HB; have HB := n0_; clear n0_; (try clear hb); (try clear hb2); (try clear hk); (try clear hi)) | ((with_reducible refine gate_callee (f := 87) rfl ?_); refine goesL_ (some 83) rfl rfl Tryd.func87 (by kernel_rfl) rfl #[.int .i64 t164] rfl (by (try simp only [List.map_toArray, List.map_cons, List.map_nil]); first | done | rfl | (simp only [List.length_drop, List.length_take]; rfl)) ?_; (with_reducible refine (impl_isPoint.calls t164 false _ A38.out).mono ?_); rintro e w' ⟨rfl, ⟨nd, rfl⟩⟩; refine ⟨_, rfl, ?_⟩))
              refine bodyPost_ret (results_list (rs := [.tmp 4, .tmp 5, .tmp 6, .tmp 7]) rfl (by simp) (.tmp (.tmp (.tmp (.tmp .nil))))) rfl ?_
              exact ⟨by first | rfl | (simp [errW_none, errW_some] <;> rfl) | (simp [*, errW_none, errW_some] <;> rfl), by repeat (first | (with_reducible first | exact HB.out | apply below_alloc | apply pw_below_drewN | apply below_drew1) | exact HB.out)⟩
          · rw [if_neg c36] at H
            exact absurd H (by simp)
        · rw [if_neg c35] at H
          exact absurd H (by simp)

def W_impl_piece.f (a0 : Int) (a1 : ByteArray) : Option (Int × Int × Bool × Bool) := if (1 ≤ a0 ∧ a0 ≤ 5) ∧ 0 < a1.size ∧ a1.size ≤ 1099511627776 then some ((YtnonijganceneaaDoorDec.pieceP a0 (bytesOf a1)).1, (((YtnonijganceneaaDoorDec.pieceP a0 (bytesOf a1)).2.1 : Nat) : Int), (YtnonijganceneaaDoorDec.pieceP a0 (bytesOf a1)).2.2.1, (YtnonijganceneaaDoorDec.pieceP a0 (bytesOf a1)).2.2.2) else none
theorem impl_piece.take2 (b : Bool) (L : List Int) (n : Nat) (h : 2 ≤ n) : YtnonijganceneaaDoorDec.unit2 b (L.take n) = YtnonijganceneaaDoorDec.unit2 b L := by
  have g : ∀ i, i < n → (L.take n).getD i 0 = L.getD i 0 := fun i hi => by simp [List.getD, List.getElem?_take, hi]
  unfold YtnonijganceneaaDoorDec.unit2; rw [g 0 (by omega), g 1 (by omega)]
theorem impl_piece.take4 (b : Bool) (L : List Int) (n : Nat) (h : 4 ≤ n) : YtnonijganceneaaDoorDec.unit4 b (L.take n) = YtnonijganceneaaDoorDec.unit4 b L := by
  have g : ∀ i, i < n → (L.take n).getD i 0 = L.getD i 0 := fun i hi => by simp [List.getD, List.getElem?_take, hi]
  unfold YtnonijganceneaaDoorDec.unit4; rw [g 0 (by omega), g 1 (by omega), g 2 (by omega), g 3 (by omega)]
theorem impl_piece.point (p : Int) : impl_isPoint.f p = some (decide (YtnonijganceneaaDoorPts.isP p)) := by
  unfold impl_isPoint.f YtnonijganceneaaDoorPts.isP
  by_cases a : 0 ≤ p
  · by_cases b : p ≤ 1114111
    · by_cases c : p < 55296
      · rw [if_pos a, if_pos b, if_pos c]; simp [a, b, c]
      · rw [if_pos a, if_pos b, if_neg c]; simp [a, b, c]
    · rw [if_pos a, if_neg b]; simp [b]
  · rw [if_neg a]; simp [a]
theorem impl_piece.in_ (p a b : Int) : impl_in.f p a b = some (decide (a ≤ p ∧ p ≤ b)) := by
  unfold impl_in.f
  by_cases h : p ≥ a
  · rw [if_pos h]; congr 1; apply decide_eq_decide.2; omega
  · rw [if_neg h, decide_eq_false (fun z => h z.1)]
theorem impl_piece.extract (s : ByteArray) (i j : Nat) : bytesOf (s.extract i j) = ((bytesOf s).drop i).take (j - i) := by
  unfold bytesOf
  rw [← List.map_drop, ← List.map_take]
  congr 1
  simp only [ByteArray.data_extract, Array.toList_extract, List.extract_eq_take_drop]
theorem impl_piece.range2 (b : Bool) {L : List Int} (hb : ∀ x ∈ L, 0 ≤ x ∧ x < 256) : 0 ≤ YtnonijganceneaaDoorDec.unit2 b L ∧ YtnonijganceneaaDoorDec.unit2 b L ≤ 65535 := by
  obtain ⟨c0, e0, l0⟩ := YtnonijganceneaaDoorDec.getD_nat hb 0
  obtain ⟨c1, e1, l1⟩ := YtnonijganceneaaDoorDec.getD_nat hb 1
  unfold YtnonijganceneaaDoorDec.unit2
  rw [e0, e1]
  split <;> omega
theorem impl_piece.unit2 (f : Int) (hf : 2 ≤ f ∧ f ≤ 3) (s : ByteArray) (j : Nat) (hj : j + 2 ≤ s.size) : impl_unit.f f (s.extract j (j + 2)) = some (YtnonijganceneaaDoorDec.unit2 (decide (f = 3)) ((bytesOf s).drop j)) := by
  have hz : (s.extract j (j + 2)).size = 2 := by simp; omega
  unfold impl_unit.f
  rw [if_pos hz, impl_piece.extract, show j + 2 - j = 2 by omega, impl_piece.take2 _ _ 2 (by omega)]
  have : (!(f == 2)) = decide (f = 3) := by
    by_cases e : f = 2
    · subst e; rfl
    · rw [show (f == 2) = false by simpa using e, decide_eq_true (by omega)]; rfl
  rw [this]
theorem impl_piece.unit4 (f : Int) (hf : 4 ≤ f ∧ f ≤ 5) (s : ByteArray) (hj : 4 ≤ s.size) : impl_unit.f f (s.extract 0 4) = some (YtnonijganceneaaDoorDec.unit4 (decide (f = 5)) (bytesOf s)) := by
  have hz : (s.extract 0 4).size = 4 := by simp; omega
  unfold impl_unit.f
  rw [if_neg (by omega), if_pos hz, impl_piece.extract, impl_piece.take4 _ _ _ (by omega), List.drop_zero]
  have : (!(f == 4)) = decide (f = 5) := by
    by_cases e : f = 4
    · subst e; rfl
    · rw [show (f == 4) = false by simpa using e, decide_eq_true (by omega)]; rfl
  rw [this]
theorem impl_piece.eq (f : Int) (hf : 1 ≤ f ∧ f ≤ 5) (s : ByteArray) (h0 : 0 < s.size) (hs : s.size ≤ 1099511627776) : impl_piece.f f s = some ((YtnonijganceneaaDoorDec.pieceP f (bytesOf s)).1, (((YtnonijganceneaaDoorDec.pieceP f (bytesOf s)).2.1 : Nat) : Int), (YtnonijganceneaaDoorDec.pieceP f (bytesOf s)).2.2.1, (YtnonijganceneaaDoorDec.pieceP f (bytesOf s)).2.2.2) := by
  have hlen := bytesOf_length s
  have hby := YtnonijganceneaaDoorPts.bytes_range s
  have hne : bytesOf s ≠ [] := by intro e; rw [e] at hlen; simp at hlen; omega
  unfold impl_piece.f YtnonijganceneaaDoorDec.pieceP
  by_cases f1 : f = 1
  · have hc := YtnonijganceneaaDoorDec.could_dec hne hby
    have hpos := @YtnonijganceneaaDoorDec.could_pos (bytesOf s)
    have hcut := @YtnonijganceneaaDoorDec.dec_cut (bytesOf s) hne hby
    rw [if_pos f1, if_pos f1]
    unfold W_impl_could.f YtnonijganceneaaDoorDec.piece8
    rw [if_pos ⟨h0, hs⟩]
    simp only [Option.bind_some]
    obtain ⟨C, hC⟩ : ∃ C, YtnonijganceneaaDoorDec.could (bytesOf s) = C := ⟨_, rfl⟩
    rw [hC] at hc hpos hcut ⊢
    by_cases z : C.1 = 0
    · rw [if_pos (show ((C.1 : Nat) : Int) = 0 by omega), if_pos z]; rfl
    · rw [if_neg (show ¬ ((C.1 : Nat) : Int) = 0 by omega), if_neg z]
      by_cases c : C.2 = true
      · rw [if_pos c, if_pos c, if_pos (show (0 : Int) ≤ ((C.1 : Nat) : Int) by omega), if_pos (show ((C.1 : Nat) : Int) ≤ (s.size : Int) by omega)]
        unfold W_impl_read.f
        have hz : (s.extract 0 C.1).size = C.1 := by simp; omega
        simp only [Int.toNat_natCast]
        rw [if_pos (by omega), impl_piece.extract, List.drop_zero, Nat.sub_zero]
        simp only [Option.bind_some]
        have hne2 : (bytesOf s).take C.1 ≠ [] := by
          intro e; have := congrArg List.length e; rw [List.length_take] at this; simp only [List.length_nil] at this; omega
        have hrd : YtnonijganceneaaDoorDec.reads ((bytesOf s).take C.1) = _ := YtnonijganceneaaDoorDec.readsAt_cons hne2 0
        rw [hrd, List.map_cons, if_pos (by simp)]
        have e0 : ∀ (x : S159) l, (rd_T159 (x :: l) 0).f0 = x.f0 := fun x l => rfl
        rw [e0]
        show some ((YtnonijganceneaaDoorPts.dec ((bytesOf s).take C.1)).1, _, _, _) = _
        rw [hcut c]
      · rw [if_neg c, if_neg c, hlen]
        show some ((65533 : Int), ((C.1 : Nat) : Int), true, (((C.1 : Nat) : Int) == ((s.size : Nat) : Int))) = some ((65533 : Int), ((C.1 : Nat) : Int), true, decide (C.1 = s.size))
        congr 4
        rw [Bool.eq_iff_iff, beq_iff_eq, decide_eq_true_eq]; omega
  · rw [if_neg f1, if_neg f1]
    by_cases f3 : f ≤ 3
    · have hu := impl_piece.range2 (decide (f = 3)) hby
      have hu2 := impl_piece.range2 (decide (f = 3)) (L := (bytesOf s).drop 2) (fun x hx => hby x (List.mem_of_mem_drop hx))
      rw [if_pos f3, if_neg (show ¬ 4 ≤ f by omega)]
      unfold YtnonijganceneaaDoorDec.piece16
      rw [hlen]
      by_cases c : s.size < 2
      · rw [if_pos (show (s.size : Int) < 2 by omega), if_pos c]
      · have h1 := impl_piece.unit2 f (by omega) s 0 (by omega)
        rw [List.drop_zero] at h1
        rw [if_neg (show ¬ (s.size : Int) < 2 by omega), if_neg c, if_pos (show (0 : Nat) ≤ 2 by decide), if_pos (show (2 : Int) ≤ (s.size : Int) by omega), h1]
        simp only [Option.bind_some]
        obtain ⟨v, hv⟩ : ∃ v, YtnonijganceneaaDoorDec.unit2 (decide (f = 3)) (bytesOf s) = v := ⟨_, rfl⟩
        rw [hv] at hu ⊢
        rw [impl_piece.in_]
        simp only [Option.bind_some]
        by_cases q : v < 55296 ∨ 57343 < v
        · rw [if_neg (show ¬ decide (55296 ≤ v ∧ v ≤ 57343) = true by rw [decide_eq_true_eq]; omega), if_pos q]; rfl
        · rw [if_pos (show decide (55296 ≤ v ∧ v ≤ 57343) = true by rw [decide_eq_true_eq]; omega), if_neg q]
          by_cases q2 : 56320 ≤ v
          · rw [if_pos (show v ≥ 56320 from q2), if_pos q2]; rfl
          · rw [if_neg (show ¬ v ≥ 56320 from q2), if_neg q2]
            by_cases q3 : s.size < 4
            · rw [if_pos (show (s.size : Int) < 4 by omega), if_pos q3]; rfl
            · rw [if_neg (show ¬ (s.size : Int) < 4 by omega), if_neg q3, if_pos (show (2 : Nat) ≤ 4 by decide), if_pos (show (4 : Int) ≤ (s.size : Int) by omega), impl_piece.unit2 f (by omega) s 2 (by omega)]
              simp only [Option.bind_some]
              obtain ⟨y, hy⟩ : ∃ y, YtnonijganceneaaDoorDec.unit2 (decide (f = 3)) ((bytesOf s).drop 2) = y := ⟨_, rfl⟩
              rw [hy] at hu2 ⊢
              rw [impl_piece.in_]
              simp only [Option.bind_some]
              by_cases q4 : 56320 ≤ y ∧ y ≤ 57343
              · have a1 : wrap64 (v - 55296) = v - 55296 := by unfold wrap64; omega
                have a2 : wrap64 ((v - 55296) * 1024) = (v - 55296) * 1024 := by unfold wrap64; omega
                have a3 : wrap64 (65536 + (v - 55296) * 1024) = 65536 + (v - 55296) * 1024 := by unfold wrap64; omega
                have a4 : wrap64 (65536 + (v - 55296) * 1024 + y) = 65536 + (v - 55296) * 1024 + y := by unfold wrap64; omega
                have a5 : wrap64 (65536 + (v - 55296) * 1024 + y - 56320) = 65536 + (v - 55296) * 1024 + y - 56320 := by unfold wrap64; omega
                rw [if_pos (decide_eq_true q4), if_pos q4, a1, a2, a3, a4, a5]; rfl
              · rw [if_neg (by simpa using q4), if_neg q4]; rfl
    · rw [if_neg f3, if_pos (show 4 ≤ f by omega)]
      unfold YtnonijganceneaaDoorDec.piece32
      rw [hlen]
      by_cases c : s.size < 4
      · rw [if_pos (show (s.size : Int) < 4 by omega), if_pos c]
      · rw [if_neg (show ¬ (s.size : Int) < 4 by omega), if_neg c, if_pos (show (0 : Nat) ≤ 4 by decide), if_pos (show (4 : Int) ≤ (s.size : Int) by omega), impl_piece.unit4 f (by omega) s (by omega)]
        simp only [Option.bind_some]
        obtain ⟨v, hv⟩ : ∃ v, YtnonijganceneaaDoorDec.unit4 (decide (f = 5)) (bytesOf s) = v := ⟨_, rfl⟩
        rw [hv, impl_piece.point]
        simp only [Option.bind_some]
        by_cases d : YtnonijganceneaaDoorPts.isP v
        · rw [if_pos (decide_eq_true d), if_pos d]; rfl
        · rw [if_neg (by simpa using d), if_neg d]; rfl
theorem W_impl_piece.to {a0 : Int} {a1 : ByteArray} {r : Int × Int × Bool × Bool} (h : W_impl_piece.f a0 a1 = some r) : ∃ _ : Nat, impl_piece.f a0 a1 = some r := by
  unfold W_impl_piece.f at h
  split at h
  · rename_i hc
    exact ⟨0, by rw [← h]; exact impl_piece.eq a0 hc.1 a1 hc.2.1 hc.2.2⟩
  · cases h
theorem W_impl_piece.calls (a0 : Int) (a1 : ByteArray) (r1 : Int) (r2 : Int) (r3 : Bool) (r4 : Bool) (w : World) (h : W_impl_piece.f a0 a1 = some (r1, r2, r3, r4)) (hG : GT w) :
    Calls Tryd.prog 185 #[.int .i64 a0, .string a1] w fun e w' => e = .returned (.tuple #[.int .i64 r1, .int .i64 r2, .bool r3, .bool r4]) ∧ Below w.heap.size w w' := by
  obtain ⟨k, hk⟩ := W_impl_piece.to h
  exact impl_piece.calls a0 a1 r1 r2 r3 r4 w hk hG

end Go.Proofs.YtnonijganceneaaDoor.QFnCodes
